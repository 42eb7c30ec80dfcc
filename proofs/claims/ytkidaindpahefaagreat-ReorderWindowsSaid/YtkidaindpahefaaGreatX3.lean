/- Several texts in one file: contracts of the program's functions and what follows from them. -/
import Derived.Test.YtkidaindpahefaaGreatX2
import Derived.Deep.CutBlock
import Derived.Recover
import Derived.Defers
set_option linter.unusedSimpArgs false
set_option linter.unusedVariables false
set_option linter.unusedSectionVars false
set_option linter.unnecessarySimpa false
set_option maxRecDepth 100000
set_option maxHeartbeats 8000000
namespace Go.Proofs.YtkidaindpahefaaGreat
open Go.Proofs.Tryz
open Go.RowKit
variable {C D M:Nat->Prop}{F:BF}{N:Nat->Option BN}{Od:List Nat->Prop}{P:Program}{Q:Exit->Act->Wd->Prop}{R:Role->Prop}{S:Wd->Prop}{T:TypeId}{V V':Nat->BF}{W W' W0 W1 w w' w'' w0:Wd}{a:Act}{args lop:Array Value}{b cap e f f0 g g0 h h0 hi i k lo mb n n₀ pb room sb x xb:Nat}{bs:List Bool}{d d':Ae}{fs:List (Int×BF)}{least nx:Int}{nt:Bool}{o' o'' oG:Own}{ops:Array Oper}{p:Ad}{pre:List Nat}{u v v':Value}
structure Ev where
 after:Int
 kind:Int
 level:Int
variable {ev:Ev}{ws:List Ev}
def evL (e:Ev):List Value:=[Iv e.after,Iv e.kind,Iv e.level]
def evA (e:Ev):Value:=.agg #[Iv e.after,Iv e.kind,Iv e.level]
structure Bf (o:Own)(w:Wd)(v:Value)(ws:List Ev):Prop where
 ex:(v=.slice none 0 0/\ws=[])\/∃ g off cap cur,v=.slice (some (Aw g off)) ws.length cap/\o g=some .waits/\w.heap[g]?=some (.cells cur 77 (0,0))/\ws.length<=cap/\cap<=maxLen /\
  off+cap*3<=cur.size/\(cur.toList.drop off).take (ws.length*3)=ws.flatMap evL
theorem Bf.keep {o:Own}(h:Bf o w v ws)(hk:∀ g,o g=some .waits->w'.heap[g]?=w.heap[g]?)(ho:∀ g,o g=some .waits->o' g=some .waits):Bf o' w' v ws:=by
 refine⟨h.ex.imp id ?_⟩;rintro⟨g,off,cap,cur,h1,h2,h3,rest⟩;exact⟨g,off,cap,cur,h1,ho g h2,(hk g h2).trans h3,rest⟩
theorem Bf.chg {o:Own}(h:Bf o w v ws)(hc:Chg R o o' w w')(hlt:Ac o w)(hr:¬ R .waits):Bf o' w' v ws :=
 h.keep (fun g hg=>hc.same hlt hg hr) (fun g hg=>hc.ext g _ hg)
theorem Bf.nil (o:Own)(w:Wd):Bf o w (.slice none 0 0) []:=⟨.inl ⟨rfl,rfl⟩⟩
theorem Bf.slice {o:Own}{w:Wd}{v:Value}{ws:List Ev}(h:Bf o w v ws):∃ a cap,v=.slice a ws.length cap/\(a=none->cap=0):=by
 rcases h.ex with ⟨h1,h0⟩|⟨g,off,cap,cur,h1,_⟩
 . exact⟨none,0,by rw[h1,h0];rfl,fun _=>rfl⟩
 . exact⟨_,cap,h1,by simp⟩
theorem DU (ws:List Ev):(ws.flatMap evL).length=ws.length*3:=BV evL 3 (fun _=>rfl) ws
abbrev Wf:=@List.getElem?_eq_some_iff
theorem Bf.first {o:Own}(h:Bf o w v (ev::ws)):∃ g off cap,v=.slice (some (Aw g off)) (ws.length+1) cap/\o g=some .waits/\ws.length+1<=cap/\cap<=maxLen /\
 w.cell? (Aw g off)=some (Iv ev.after)/\w.cell? (Aw g (off+1))=some (Iv ev.kind)/\w.cell? (Aw g (off+2))=some (Iv ev.level)/\Bf o w (.slice (if cap=1 then some (Aw g off) else some (Aw g (off+3))) ws.length (cap-1)) ws:=by
 rcases h.ex with ⟨h1,h0⟩|⟨g,off,cap,cur,h1,h2,h3,h4,h5,h6,h7⟩
 . cases h0
 ·simp only[VO] at h1 h4 h7;have hc:∀ j u,(evL ev++ws.flatMap evL)[j]?=some u->w.cell? (Aw g (off+j))=some u:=by
   intro j u hj;have hl:=(Wf.1 hj).1;have g0:j<(ws.length+1)*3:=by
    have e1:(evL ev++ws.flatMap evL).length=3+ws.length*3:=by rw[Vx,DU];rfl
    omega
   rw[Vt w g (off+j) cur _ (0,0) h3];have e2:(evL ev++ws.flatMap evL)[j]?=((cur.toList.drop off).take ((ws.length+1)*3))[j]?:=by rw[h7];rfl
   rw[e2,Ya,Vw g0,XK] at hj;simpa using hj
  refine⟨g,off,cap,h1,h2,h4,h5,hc 0 _ rfl,hc 1 _ rfl,hc 2 _ rfl,⟨.inr ?_⟩⟩
  by_cases e1:cap=1
  . have e2:ws=[]:=Xl (by omega);subst e2;exact⟨g,off,cap-1,cur,by rw[Vw e1],h2,h3,by simp,by omega,by omega,by simp⟩
  ·refine⟨g,off+3,cap-1,cur,by rw[Vs e1],h2,h3,by omega,by omega,by omega,?_⟩;have e3:(cur.toList.drop (off+3)).take (ws.length*3)=((cur.toList.drop off).take ((ws.length+1)*3)).drop 3:=by
    rw[List.drop_take,List.drop_drop];congr 1;omega
   rw[e3,h7];rfl
structure ManD where
 d:Ae
 hs:List (Int×Nat)
 next:Int
 waits:List Ev
 calls:Int
variable {m m':ManD}
structure ManW where
 sb:Nat
 me:Nat
 hb:Nat
 vw:Value
def encH (hs:List (Int×Nat)):List (Int×Value):=hs.map fun p=>(p.1,Iv (p.2:Nat))
structure A8 (F:Phi)(o:Own)(w:Wd)(mb:Nat)(m:ManD)(s:ManW):Prop where
 own:o mb=some .man
 blk:w.heap[mb]?=some (.cells #[Pt s.sb,Pt s.me,.map (some s.hb),Iv m.next,s.vw,Iv m.calls] 100 (0,0))
 store:Az o w s.sb m.d
 memo:Bb o w s.me F
 ownh:o s.hb=some .handles
 map:A3 w s.hb (Value.int .i64) (encH m.hs)
 waits:Bf o w s.vw m.waits
def AY (F:Phi)(o:Own)(w:Wd)(mb:Nat)(m:ManD):Prop:=∃ s,A8 F o w mb m s
theorem cells6 {a b c d e f:Value}(h:w.heap[g]?=some (.cells #[a,b,c,d,e,f] T (0,0))):w.cell? (Av g)=some a/\w.cell? (Aw g 1)=some b/\w.cell? (Aw g 2)=some c/\w.cell? (Aw g 3)=some d/\w.cell? (Aw g 4)=some e/\w.cell? (Aw g 5)=some f /\
 (∀ k,w.frozen? (Aw g k)=false) :=
 ⟨by rw[Vt w g 0 _ _ _ h];rfl,by rw[Vt w g 1 _ _ _ h];rfl,by rw[Vt w g 2 _ _ _ h];rfl,by rw[Vt w g 3 _ _ _ h];rfl,by rw[Vt w g 4 _ _ _ h];rfl,by rw[Vt w g 5 _ _ _ h];rfl,fun k=>by simp[World.frozen?,h]⟩
section
variable {F:Phi}{o:Own}{s:ManW}
theorem A3.keepB {enc:Int->Value}{l:List (Int×Value)}(h:A3 w b enc l)(hk:w'.heap[b]?=w.heap[b]?):A3 w' b enc l:=by
 obtain⟨es,c,hb,rest⟩:=h.ex;exact⟨⟨es,c,hk.trans hb,rest⟩,h.nodup⟩
theorem Az.keepR (h:Az o w sb d)(hk:∀ g r,o g=some r->Al r->w'.heap[g]?=w.heap[g]?)(ho:∀ g r,o g=some r->o' g=some r):Az o' w' sb d:=by
 obtain⟨s,h⟩:=h;have row:∀ {r e k v n xs},Al r->RowR o w r e k v n xs->RowR o' w' r e k v n xs:=fun hr h=>h.keep (fun g hg=>hk g _ hg hr) (fun g hg=>ho g _ hg)
 refine⟨s,ho _ _ h.own,ho _ _ h.ownl,(hk _ _ h.own (by simp[Al])).trans h.blk,(hk _ _ h.ownl (by simp[Al])).trans h.lev,row (by simp[Al]) h.vars,row (by simp[Al]) h.level,
  h.pool.keep (fun g r hg hr=>hk g r hg (by rcases hr with rfl|rfl|rfl|rfl<;>simp[Al,Br])) ho,row (by simp[Al]) h.tabs,
  fun v hv=>(h.tab v hv).keep (fun g r hg hr=>hk g r hg (by rcases hr with rfl|rfl<;>simp[Al])) ho,row (by simp[Al]) h.counts,h.len,h.tlen⟩
theorem Bb.mono {G:Phi}{me:Nat}(h:Bb o w me F)(hF:∀ op a b c r,F op a b c r->G op a b c r):Bb o w me G:=by
 obtain⟨ve,a,f,h1,h2⟩:=h.ex;refine⟨h.own,ve,a,f,h1,h2.imp id ?_⟩;rintro⟨ge,cap,l,e1,e2,e3,e4⟩;exact⟨ge,cap,l,e1,e2,e3,fun i hi=>hF _ _ _ _ _ (e4 i hi)⟩
theorem A8.keep (h:A8 F o w mb m s)(hk:∀ g r,o g=some r->w'.heap[g]?=w.heap[g]?)(ho:∀ g r,o g=some r->o' g=some r):A8 F o' w' mb m s :=
 ⟨ho _ _ h.own,(hk _ _ h.own).trans h.blk,h.store.keepR (fun g r hg _=>hk g r hg) ho,h.memo.keep (fun g r hg _=>hk g r hg) ho,ho _ _ h.ownh,h.map.keepB (hk _ _ h.ownh),h.waits.keep (fun g hg=>hk g _ hg) (fun g hg=>ho g _ hg)⟩
theorem A8.below (h:A8 F o w mb m s)(hlt:Ac o w)(hb:Bw w w'):A8 F o w' mb m s:=h.keep (fun g r hg=>hb.block g (hlt g r hg)) (fun _ _ h=>h)
theorem A8.setStore (h:A8 F o w mb m s)(hlt:Ac o w)(hs:Az o' w' s.sb d')(hc:Chg Al o o' w w'):A8 F o' w' mb { m with d:=d' } s :=
 ⟨hc.ext _ _ h.own,(hc.same hlt h.own (by simp[Al,Br])).trans h.blk,hs,h.memo.chg hc hlt (by simp[Al,Br]) (by simp[Al,Br]),hc.ext _ _ h.ownh,h.map.keepB (hc.same hlt h.ownh (by simp[Al,Br])),h.waits.chg hc hlt (by simp[Al,Br])⟩
theorem A8.setMemo {G:Phi}(h:A8 F o w mb m s)(hlt:Ac o w)(hm:Bb o' w' s.me G)(hc:Chg (fun r=>r=.memo\/r=.entries) o o' w w'):A8 G o' w' mb m s :=
 ⟨hc.ext _ _ h.own,(hc.same hlt h.own (by simp)).trans h.blk,h.store.keepR (fun g r hg hr=>hc.same hlt hg (by rintro(rfl|rfl)<;>simp[Al,Br] at hr)) hc.ext,hm,hc.ext _ _ h.ownh,h.map.keepB (hc.same hlt h.ownh (by simp)),h.waits.chg hc hlt (by simp)⟩
theorem A8.mono {G:Phi}(h:A8 F o w mb m s)(hF:∀ op a b c r,F op a b c r->G op a b c r):A8 G o w mb m s:=⟨h.own,h.blk,h.store,h.memo.mono hF,h.ownh,h.map,h.waits⟩
theorem A8.field (h:A8 F o w mb m s){s':ManW}(hd:m'.d=m.d)(hh:m'.hs=m.hs)(h1:s'.sb=s.sb)(h2:s'.me=s.me)(h3:s'.hb=s.hb)(hw:Bf o w s'.vw m'.waits)
 (hb:(#[Pt s.sb,Pt s.me,.map (some s.hb),Iv m.next,s.vw,Iv m.calls]:Array Value).setIfInBounds k u=#[Pt s.sb,Pt s.me,.map (some s.hb),Iv m'.next,s'.vw,Iv m'.calls]) :
 A8 F o (w.setCell (Aw mb k) u) mb m' s':=by
 have ne:∀ {g r},o g=some r->r ≠ .man->g≠mb:=fun hg hr e=>by subst e;have:=h.own;rw[hg] at this;cases this;exact hr rfl
 refine⟨h.own,?_,?_,?_,by rw[h3];exact h.ownh,?_,hw.keep (fun g hg=>Ay (ne hg (by simp)) _) (fun _ h=>h)⟩
 . rw[h1,h2,h3,<- hb];exact A2 h.blk _
 . rw[h1,hd];exact h.store.keepR (fun g r hg hr=>Ay (ne hg (by rintro rfl;simp[Al,Br] at hr)) _) (fun _ _ h=>h)
 . rw[h2];exact h.memo.keep (fun g r hg hr=>Ay (ne hg (by rintro rfl;rcases hr with e|e<;>cases e)) _) (fun _ _ h=>h)
 . rw[h3,hh];exact h.map.keepB (Ay (ne h.ownh (by simp)) _)
end
abbrev Law:=Ae->(Nat->BF)->Phi
variable {K:Law}
def minL (d:Ae)(a b c:Nat):Nat:=min (lvE d.vars.length (levN d) (Aa d) a) (min (lvE d.vars.length (levN d) (Aa d) b) (lvE d.vars.length (levN d) (Aa d) c))
structure IteP (d:Ae)(V:Nat->BF)(a b c r:Nat):Prop where
 okA:okE (Aa d) a
 okB:okE (Aa d) b
 okC:okE (Aa d) c
 okR:okE (Aa d) r
 val:∀ ρ,ef V r ρ=if ef V a ρ then ef V b ρ else ef V c ρ
 lev:minL d a b c<=lvE d.vars.length (levN d) (Aa d) r
structure AO (K:Law):Prop where
 ite:∀ d V a b c r,K d V 1 a b c r↔IteP d V a b c r
 ext:∀ d V d' V' op a b c r,Ak d V->Ak d' V'->Ext d V d' V'->K d V op a b c r->K d' V' op a b c r
 same:∀ d d' V op a b c r,d'.vars=d.vars->d'.level=d.level->Aa d'=Aa d->K d V op a b c r->K d' V op a b c r
def AQ (hs:List (Int×Nat))(i:Nat):Nat:=(hs.filter fun p=>decide (1<p.1)&&p.2/2 == i).length
structure Cc (m:ManD):Prop where
 nodup:(m.hs.map Prod.fst).Nodup
 zero:(0,1)∈m.hs
 one:(1,0)∈m.hs
 lt:∀ p∈m.hs,0<=p.1/\p.1<m.next
 next:2<=m.next
 ok:∀ p∈m.hs,okE (Aa m.d) p.2
 len:(m.hs.length:Int)<=m.next
 refs:∀ i b,Aa m.d i=some b->Aj m.d i=AQ m.hs i
structure DV (m:ManD)(V:Nat->BF):Prop where
 store:Ak m.d V
 handles:Cc m
structure Step (K:Law)(o:Own)(w:Wd)(mb:Nat)(m:ManD)(V:Nat->BF)(o':Own)(w':Wd)(m':ManD)(V':Nat->BF):Prop where
 is:AY (K m'.d V') o' w' mb m'
 lt:Ac o' w'
 chg:Chg (fun _=>True) o o' w w'
 ok:Ak m'.d V'
 ext:Ext m.d V m'.d V'
 hs:m'.hs=m.hs
 next:m'.next=m.next
theorem Step.trans {K:Law}{o o' o'':Own}{w w' w'':Wd}{mb:Nat}{m m' m'':ManD}{V V' V'':Nat->BF}(h:Step K o w mb m V o' w' m' V')(h':Step K o' w' mb m' V' o'' w'' m'' V''):Step K o w mb m V o'' w'' m'' V'' :=
 ⟨h'.is,h'.lt,h.chg.trans h'.chg,h'.ok,h.ext.trans h'.ext,h'.hs.trans h.hs,h'.next.trans h.next⟩
structure BK (o:Own)(w:Wd)(xb mb:Nat):Prop where
 cell:w.cell? (Av xb)=some (Pt mb)
 own:o xb=none
theorem BK.chg {o:Own}(h:BK o w xb mb)(hc:Chg R o o' w w'):BK o' w' xb mb:=⟨hc.cell h.cell h.own,hc.alien' (XF w _ h.cell) h.own⟩
def sw1 (f g:Nat):Nat:=if g=f then 0 else if g=enot f then 1 else g
def sw2 (f h:Nat):Nat:=if h=f then 1 else if h=enot f then 0 else h
theorem PC (h:g<eMax):sw1 f g<eMax:=by unfold sw1;unfold eMax at *;split<;>(try split)<;>omega
theorem PD (h:g<eMax):sw2 f g<eMax:=by unfold sw2;unfold eMax at *;split<;>(try split)<;>omega
theorem eqE2 (w:Wd)(a b c d:Nat):(Op.equalIn 10000 280 (.agg #[Iv a,Iv b]) (.agg #[Iv c,Iv d])).run prog w=.ok (decide (a=c/\b=d)) w:=by
 have h:=eqE w (a,b) (c,d);unfold encE Op.equal at h;simp only[Xg] at h;exact h
structure IteR where
 a:Nat
 b:Nat
 c:Nat
 n:Bool
 r:Nat
 dn:Bool
def iteV (x:IteR):Value:=.tuple #[Iv x.a,Iv x.b,Iv x.c,.bool x.n,Iv x.r,.bool x.dn]
def iteM (f g h:Nat):IteR:=if eneg f then ⟨enot f,eflip h (eneg h),eflip g (eneg h),eneg h,0,false⟩ else ⟨f,eflip g (eneg g),eflip h (eneg g),eneg g,0,false⟩
def iteK (f g h:Nat):IteR :=
 if f=0\/g=h then ⟨0,0,0,false,g,true⟩ else if f=1 then ⟨0,0,0,false,h,true⟩ else if g=0/\h=1 then ⟨0,0,0,false,f,true⟩ else if g=1/\h=0 then ⟨0,0,0,false,enot f,true⟩ else iteM f g h
def iteR (f g h:Nat):IteR:=iteK f (sw1 f g) (sw2 f h)
theorem D8 {fn:Func}{t u v x y z:Tmp}(h:fn.results=#[.tmp t,.tmp u,.tmp v,.tmp x,.tmp y,.tmp z])(tmps:Array Value)(P:Program)(w:Wd) :
 (results fn tmps).run P w=.ok (.tuple #[tmps.getD t undef,tmps.getD u undef,tmps.getD v undef,tmps.getD x undef,tmps.getD y undef,tmps.getD z undef]) w:=by
 simp[results,h]
theorem PE (f g h:Nat)(w:Wd)(hf:f<eMax)(hg:g<eMax)(hh:h<eMax) :
 Cl 200 #[Iv f,Iv g,Iv h] w (Sm (iteV (iteR f g h)) w):=by
 have HN:=Hd (fun W:Wd=>G6 f W hf);have g3:=Hd (PC (f:=f) hg);have HH:=Hd hh;have g2:=Hd (PD (f:=f) hh);have g9:=Hd hf;clear hf hg hh
 go_enter func200,ntmps200
 go_upto_block 0 with fail
 go_cut [1] from 13 (fun s1 wx=>s1=Iv (sw1 f g:Nat)/\wx=w)
 case first =>
  by_cases h1:g=f
  ·have HX:Hq ((sw1 f g:Nat)=0):=by show _=_;simp[sw1,h1]
   subst h1;go_wp2_with fail;go_meet;exact⟨by rw[HX.o];rfl,rfl⟩
  ·have H1:(g == f)=false:=by simp[h1]
   by_cases h2:g=enot f
   ·have HX:Hq ((sw1 f g:Nat)=1):=by show _=_;unfold sw1;rw[Vs h1,Vw h2]
    subst h2;clear h1;go_wp2_with (go_at_call 162;refine(HN.o _).mono ?_;rintro x w' ⟨rfl,rfl⟩);go_meet;exact⟨by rw[HX.o];rfl,rfl⟩
   ·have HX:Hq ((sw1 f g:Nat)=g):=by show _=_;unfold sw1;rw[Vs h1,Vs h2]
    have H2:(g == enot f)=false:=by simp[h2]
    clear h1 h2;go_wp2_with (go_at_call 162;refine(HN.o _).mono ?_;rintro x w' ⟨rfl,rfl⟩);go_meet;exact⟨by rw[HX.o],rfl⟩
 case rest =>
  obtain⟨rfl,rfl⟩:=hcut;have g0:Hq (iteR f g h=iteK f (sw1 f g) (sw2 f h)):=by show _=_;rfl
  obtain⟨g',g4⟩:=Ex (sw1 f g);rw[<- g4] at g0;rw[<- g4] at g3 ⊢;clear g4
  go_upto_block 1 with fail
  go_cut [2] from 13 (fun s2 wx=>s2=Iv (sw2 f h:Nat)/\wx=wc)
  case first =>
   by_cases h1:h=f
   ·have HX:Hq ((sw2 f h:Nat)=1):=by show _=_;simp[sw2,h1]
    subst h1;go_wp2_with fail;go_meet;exact⟨by rw[HX.o];rfl,rfl⟩
   ·have H1:(h == f)=false:=by simp[h1]
    by_cases h2:h=enot f
    ·have HX:Hq ((sw2 f h:Nat)=0):=by show _=_;unfold sw2;rw[Vs h1,Vw h2]
     subst h2;clear h1;go_wp2_with (go_at_call 162;refine(HN.o _).mono ?_;rintro x w' ⟨rfl,rfl⟩);go_meet;exact⟨by rw[HX.o];rfl,rfl⟩
    ·have HX:Hq ((sw2 f h:Nat)=h):=by show _=_;unfold sw2;rw[Vs h1,Vs h2]
     have H2:(h == enot f)=false:=by simp[h2]
     clear h1 h2;go_wp2_with (go_at_call 162;refine(HN.o _).mono ?_;rintro x w' ⟨rfl,rfl⟩);go_meet;exact⟨by rw[HX.o],rfl⟩
  case rest =>
   obtain⟨rfl,rfl⟩:=hcut;obtain⟨h',g5⟩:=Ex (sw2 f h);rw[<- g5] at g0 g2 ⊢;clear g5
   rename Wd=>w
   have hq:=fun(a b c d:Nat)=>eqE2 w a b c d
   by_cases f0:f=0
   ·have HR:Hq (iteR f g h=⟨0,0,0,false,g',true⟩):=by show _=_;rw[g0.o,iteK,Vw (.inl f0)]
    subst f0;go_wp2_with fail;refine VR (D8 rfl _ _ _) rfl ?_;exact⟨by rw[HR.o];rfl,rfl⟩
   ·have H0:((f:Int) == 0)=false:=by simp[f0]
    by_cases e1:g'=h'
    ·have HR:Hq (iteR f g h=⟨0,0,0,false,g',true⟩):=by show _=_;rw[g0.o,iteK,Vw (.inr e1)]
     subst e1;go_wp2_with fail;refine VR (D8 rfl _ _ _) rfl ?_;exact⟨by rw[HR.o];rfl,rfl⟩
    ·have H1:(g' == h')=false:=by simp[e1]
     by_cases f1:f=1
     ·have HR:Hq (iteR f g h=⟨0,0,0,false,h',true⟩):=by show _=_;rw[g0.o,iteK,Vs (by simp[f0,e1]),Vw f1]
      have HR:=HR;subst f1;clear f0 e1;go_wp2_with fail;refine VR (D8 rfl _ _ _) rfl ?_;exact⟨by rw[HR.o];rfl,rfl⟩
     ·have H2:((f:Int) == 1)=false:=by simp;omega
      by_cases q1:g'=0/\h'=1
      ·have HR:Hq (iteR f g h=⟨0,0,0,false,f,true⟩):=by show _=_;rw[g0.o,iteK,Vs (by simp[f0,e1]),Vs f1,Vw q1]
       have g8:(Op.equalIn 10000 280 (.agg #[Iv g',Iv h']) (.agg #[Iv 0,Iv 1])).run prog w=.ok true w:=(hq g' h' 0 1).trans (by simp[q1]);clear f0 e1 f1 q1 hq;go_wp2_with fail;refine VR (D8 rfl _ _ _) rfl ?_;exact⟨by rw[HR.o];rfl,rfl⟩
      ·have g8:(Op.equalIn 10000 280 (.agg #[Iv g',Iv h']) (.agg #[Iv 0,Iv 1])).run prog w=.ok false w:=(hq g' h' 0 1).trans (by simp[q1])
       by_cases q2:g'=1/\h'=0
       ·have HR:Hq (iteR f g h=⟨0,0,0,false,enot f,true⟩):=by show _=_;rw[g0.o,iteK,Vs (by simp[f0,e1]),Vs f1,Vs q1,Vw q2]
        have g7:(Op.equalIn 10000 280 (.agg #[Iv g',Iv h']) (.agg #[Iv 1,Iv 0])).run prog w=.ok true w:=(hq g' h' 1 0).trans (by simp[q2]);clear f0 e1 f1 q1 hq q2;go_wp2_with (go_at_call 162;refine(HN.o _).mono ?_;rintro x w' ⟨rfl,rfl⟩);refine VR (D8 rfl _ _ _) rfl ?_;exact⟨by rw[HR.o];rfl,rfl⟩
       ·have g7:(Op.equalIn 10000 280 (.agg #[Iv g',Iv h']) (.agg #[Iv 1,Iv 0])).run prog w=.ok false w:=(hq g' h' 1 0).trans (by simp[q2]);have g6:Hq (iteR f g h=iteM f g' h'):=by show _=_;rw[g0.o,iteK,Vs (by simp[f0,e1]),Vs f1,Vs q1,Vs q2]
        clear f0 e1 f1 q1 hq q2;have g1:=Hd (fun W:Wd=>E5 f W g9.o);cases hb:eneg f with
        | true =>
          have HR:Hq (iteR f g h=⟨enot f,eflip h' (eneg h'),eflip g' (eneg h'),eneg h',0,false⟩):=by show _=_;rw[g6.o,iteM,Vw hb]
          rw[hb] at g1;clear hb;go_wp2_with fail;refine(g1.o _).mono ?_;rintro x w' ⟨rfl,rfl⟩;go_wp2_with fail;refine(HN.o _).mono ?_;rintro x w' ⟨rfl,rfl⟩;go_wp2_with fail;refine(E5 h' _ g2.o).mono ?_;rintro x w' ⟨rfl,rfl⟩;go_wp2_with fail;refine(Cw h' _ _ g2.o).mono ?_;rintro x w' ⟨rfl,rfl⟩;go_wp2_with fail;refine(Cw g' _ _ g3.o).mono ?_;rintro x w' ⟨rfl,rfl⟩;go_wp2_with fail;refine VR (D8 rfl _ _ _) rfl ?_;exact⟨by rw[HR.o];rfl,rfl⟩
        | false =>
          have HR:Hq (iteR f g h=⟨f,eflip g' (eneg g'),eflip h' (eneg g'),eneg g',0,false⟩):=by show _=_;rw[g6.o,iteM,Vs (by simp[hb])]
          rw[hb] at g1;clear hb;go_wp2_with fail;refine(g1.o _).mono ?_;rintro x w' ⟨rfl,rfl⟩;go_wp2_with fail;refine(E5 g' _ g3.o).mono ?_;rintro x w' ⟨rfl,rfl⟩;go_wp2_with fail;refine(Cw g' _ _ g3.o).mono ?_;rintro x w' ⟨rfl,rfl⟩;go_wp2_with fail;refine(Cw h' _ _ g2.o).mono ?_;rintro x w' ⟨rfl,rfl⟩;go_wp2_with fail;refine VR (D8 rfl _ _ _) rfl ?_;exact⟨by rw[HR.o];rfl,rfl⟩
def BR (e f g h:Nat):Prop:=e/2=0\/e/2=f/2\/e/2=g/2\/e/2=h/2
def iteB (a b c:Bool):Bool:=if a then b else c
section
variable (hV:∀ ρ,V 0 ρ=true)
theorem DW (hV:∀ ρ,V 0 ρ=true)(ρ:Nat->Bool):ef V 0 ρ=true:=by simp[ef,hV]
theorem DX (hV:∀ ρ,V 0 ρ=true)(ρ:Nat->Bool):ef V 1 ρ=false:=by simp[ef,hV]
theorem K5 (hV:∀ ρ,V 0 ρ=true)(f g:Nat)(h:Bool)(ρ:Nat->Bool):iteB (ef V f ρ) (ef V (sw1 f g) ρ) h=iteB (ef V f ρ) (ef V g ρ) h:=by
 unfold sw1
 by_cases e1:g=f
 . subst e1;rw[Vw rfl,DW hV];unfold iteB;cases ef V g ρ<;>rfl
 ·by_cases e2:g=enot f
  . subst e2;rw[Vs e1,Vw rfl,D3,DX hV];unfold iteB;cases ef V f ρ<;>rfl
  . rw[Vs e1,Vs e2]
end
theorem K6 (hV:∀ ρ,V 0 ρ=true)(f h:Nat)(g:Bool)(ρ:Nat->Bool):iteB (ef V f ρ) g (ef V (sw2 f h) ρ)=iteB (ef V f ρ) g (ef V h ρ):=by
 unfold sw2
 by_cases e1:h=f
 . subst e1;rw[Vw rfl,DX hV];unfold iteB;cases ef V h ρ<;>rfl
 ·by_cases e2:h=enot f
  . subst e2;rw[Vs e1,Vw rfl,D3,DW hV];unfold iteB;cases ef V f ρ<;>rfl
  . rw[Vs e1,Vs e2]
theorem K7 (f g:Nat):sw1 f g/2=0\/sw1 f g/2=g/2:=by unfold sw1;split<;>(try split)<;>simp
theorem K8 (f g:Nat):sw2 f g/2=0\/sw2 f g/2=g/2:=by unfold sw2;split<;>(try split)<;>simp
theorem K9 (hd:(iteR f g h).dn=true):BR (iteR f g h).r f g h/\∀ {V:Nat->BF},(∀ ρ,V 0 ρ=true)->∀ ρ,ef V (iteR f g h).r ρ=iteB (ef V f ρ) (ef V g ρ) (ef V h ρ):=by
 have q1:=K7 f g;have q2:=K8 f h;have key:∀ {V:Nat->BF},(∀ ρ,V 0 ρ=true)->∀ ρ,iteB (ef V f ρ) (ef V g ρ) (ef V h ρ)=iteB (ef V f ρ) (ef V (sw1 f g) ρ) (ef V (sw2 f h) ρ):=fun hV ρ=>by rw[K5 hV,K6 hV]
 unfold iteR at hd ⊢
 generalize sw1 f g=g' at *
 generalize sw2 f h=h' at *
 unfold iteK at hd ⊢
 by_cases e1:f=0\/g'=h'
 ·simp only[Vw e1];refine⟨by unfold BR;omega,fun hV ρ=>?_⟩;rw[key hV];rcases e1 with e|e
  . subst e;rw[DW hV];rfl
  . subst e;unfold iteB;split<;>rfl
 ·simp only[Vs e1] at hd ⊢
  by_cases e2:f=1
  . simp only[Vw e2];refine⟨by unfold BR;omega,fun hV ρ=>?_⟩;rw[key hV];subst e2;rw[DX hV];rfl
  ·simp only[Vs e2] at hd ⊢
   by_cases e3:g'=0/\h'=1
   . simp only[Vw e3];refine⟨by unfold BR;omega,fun hV ρ=>?_⟩;rw[key hV,e3.1,e3.2,DX hV,DW hV];unfold iteB;cases ef _ f ρ<;>rfl
   ·simp only[Vs e3] at hd ⊢
    by_cases e4:g'=1/\h'=0
    . simp only[Vw e4];have:=D2 f;refine⟨by unfold BR;omega,fun hV ρ=>?_⟩;rw[key hV,e4.1,e4.2,DX hV,DW hV,D3];unfold iteB;cases ef _ f ρ<;>rfl
    . simp only[Vs e4] at hd;unfold iteM at hd;split at hd<;>cases hd
theorem PF (hd:(iteR f g h).dn=false):BR (iteR f g h).a f g h/\BR (iteR f g h).b f g h/\BR (iteR f g h).c f g h/\(iteR f g h).a/2≠0 /\
 ∀ {V:Nat->BF},(∀ ρ,V 0 ρ=true)->∀ ρ,iteB (ef V f ρ) (ef V g ρ) (ef V h ρ)=((iteR f g h).n != iteB (ef V (iteR f g h).a ρ) (ef V (iteR f g h).b ρ) (ef V (iteR f g h).c ρ)):=by
 have q1:=K7 f g;have q2:=K8 f h;have key:∀ {V:Nat->BF},(∀ ρ,V 0 ρ=true)->∀ ρ,iteB (ef V f ρ) (ef V g ρ) (ef V h ρ)=iteB (ef V f ρ) (ef V (sw1 f g) ρ) (ef V (sw2 f h) ρ):=fun hV ρ=>by rw[K5 hV,K6 hV]
 unfold iteR at hd ⊢
 generalize sw1 f g=g' at *
 generalize sw2 f h=h' at *
 unfold iteK at hd ⊢
 by_cases e1:f=0\/g'=h'
 . simp[Vw e1] at hd
 ·by_cases e2:f=1
  . simp[Vs e1,Vw e2] at hd
  ·by_cases e3:g'=0/\h'=1
   . simp[Vs e1,Vs e2,Vw e3] at hd
   ·by_cases e4:g'=1/\h'=0
    . simp[Vs e1,Vs e2,Vs e3,Vw e4] at hd
    ·simp only[Vs e1,Vs e2,Vs e3,Vs e4];unfold iteM
     by_cases e5:eneg f=true
     . simp only[Vw e5];have a1:=D2 f;have a2:=CP h' (eneg h');have a3:=CP g' (eneg h');refine⟨by unfold BR;omega,by unfold BR;omega,by unfold BR;omega,by omega,fun hV ρ=>?_⟩;rw[key hV,D3,Cv,Cv];unfold iteB;cases ef _ f ρ<;>cases eneg h'<;>simp
     . simp only[Vs e5];have a2:=CP h' (eneg g');have a3:=CP g' (eneg g');refine⟨by unfold BR;omega,by unfold BR;omega,by unfold BR;omega,by omega,fun hV ρ=>?_⟩;rw[key hV,Cv,Cv];unfold iteB;cases ef _ f ρ<;>cases eneg g'<;>simp
def atV (d:Ae)(f:Nat):Value :=
 match Aa d (f/2) with
 | some b=>.tuple #[.int .i64 b.v,.int .i64 (eflip b.lo (eneg f):Nat),.int .i64 (eflip b.hi (eneg f):Nat),.bool true]
 | none=>.tuple #[.int .i64 (-1),.int .i64 0,.int .i64 0,.bool false]
theorem FD {o:Own}(h:Az o w sb d)(hlt:Ac o w)(hk:Ak d V)(f:Nat)(hf:okE (Aa d) f) :
 Cl 175 #[Pt sb,Iv f] w (Bl (atV d f) w):=by
 obtain⟨s,h⟩:=h;have lt:∀ e,okE (Aa d) e->e<eMax:=fun e he=>by have:=h.edge_lt he;unfold eMax;omega
 cases hb:Aa d (f/2) with
 | none =>
   have ht:d.pool.tk (enode f)=false:=GV hb;have hz:d.pool.has (enode f)=rn0:=by unfold Ad.has;rw[ht];rfl
   refine(Kv h hlt f (lt f hf) (by rw[hz];decide) (by rw[hz];decide)).mono ?_;rintro x w' ⟨rfl,g1⟩;exact⟨by simp[ht,atV,hb],g1⟩
 | some b =>
   have hn:=BJ hb;have ht:d.pool.tk (enode f)=true:=hn.1;have g0:bnOf (d.pool.has (enode f))=b:=hn.2.2;have e1:(d.pool.has (enode f)).v=b.v:=by rw[<- g0];rfl
   have e2:(d.pool.has (enode f)).lo=b.lo:=by rw[<- g0];rfl
   have e3:(d.pool.has (enode f)).hi=b.hi:=by rw[<- g0];rfl
   refine(Kv h hlt f (lt f hf) (by rw[e2];exact lt _ (hk.dag.okLo _ _ hb)) (by rw[e3];exact lt _ (hk.dag.okHi _ _ hb))).mono ?_;rintro x w' ⟨rfl,g1⟩;exact⟨by simp[ht,atV,hb,e1,e2,e3],g1⟩
theorem Az.below {o:Own}{w w':Wd}{sb:Nat}{d:Ae}(h:Az o w sb d)(hlt:Ac o w)(hb:Bw w w'):Az o w' sb d:=by
 obtain⟨s,h⟩:=h;exact⟨s,h.below hlt hb⟩
theorem PG {F:Phi}{o:Own}(h:AY F o w mb m)(hx:BK o w xb mb)(hk:Ak m.d V)(v:Int) :
 Cl 229 #[Pt xb,Iv v] w (Sm (Iv (Cy m.d v)) w):=by
 obtain⟨s,h⟩:=h;obtain⟨st,g0⟩:=h.store;obtain⟨c0,c1,c2,c3,c4,c5,f0⟩:=cells6 h.blk;have HL:=Hd (Ib g0 v (by rw[g0.len];have:=hk.small;omega));have cx:=hx.cell;clear h g0 hx hk
 go_enter func229,ntmps229
 go_wp2_with fail;refine HL.o.mono ?_;rintro x w' ⟨rfl,rfl⟩;go_wp2_with fail;go_ret;exact⟨rfl,rfl⟩
def cofs (d:Ae)(f:Nat)(v:Int):Nat×Nat :=
 match Aa d (f/2) with
 | some b=>if (b.v:Int)=v then (eflip b.lo (eneg f),eflip b.hi (eneg f)) else (f,f)
 | none=>(f,f)
theorem KA {F:Phi}{o:Own}(h:AY F o w mb m)(hlt:Ac o w)(hx:BK o w xb mb)(hk:Ak m.d V)(f:Nat)(hf:okE (Aa m.d) f)(v:Int) :
 Cl 170 #[Pt xb,Iv f,Iv v] w (Bl (.tuple #[Iv (cofs m.d f v).1,Iv (cofs m.d f v).2]) w):=by
 obtain⟨s,h⟩:=h;obtain⟨c0,c1,c2,c3,c4,c5,f0⟩:=cells6 h.blk;have HA:=Hd (FD h.store hlt hk f hf);have cx:=hx.cell;clear h hx hk hlt hf;unfold atV at HA;unfold cofs;cases hb:Aa m.d (f/2) with
 | none =>
   rw[hb] at HA;clear hb
   go_enter func170,ntmps170
   go_wp2_with fail;refine HA.o.mono ?_;rintro x w' ⟨rfl,hb⟩;have HB:=Hd hb;clear hb;go_wp2_with fail
   go_ret2
   exact⟨rfl,HB.o⟩
 | some b =>
   rw[hb] at HA;clear hb
   by_cases e:(b.v:Int)=v
   ·subst e;have HE:Hq ((if (b.v:Int)=b.v then (eflip b.lo (eneg f),eflip b.hi (eneg f)) else (f,f))=(eflip b.lo (eneg f),eflip b.hi (eneg f))):=by show _=_;rw[Vw rfl]
    go_enter func170,ntmps170
    go_wp2_with fail;refine HA.o.mono ?_;rintro x w' ⟨rfl,hb⟩;have HB:=Hd hb;clear hb;go_wp2_with fail
    go_ret2
    exact⟨by first|rfl|(rw[HE.o];rfl),HB.o⟩
   ·have HE:Hq ((if (b.v:Int)=v then (eflip b.lo (eneg f),eflip b.hi (eneg f)) else (f,f))=(f,f)):=by show _=_;rw[Vs e]
    have H1:((b.v:Int) == v)=false:=by simpa using e
    go_enter func170,ntmps170
    go_wp2_with fail;refine HA.o.mono ?_;rintro x w' ⟨rfl,hb⟩;have HB:=Hd hb;clear hb;go_wp2_with fail
    go_ret2
    exact⟨by first|rfl|(rw[HE.o];rfl),HB.o⟩
def TopS (d:Ae)(zs:List Nat)(top least:Int):Prop :=
 (top = -1/\least=0/\∀ e∈zs,Aa d (e/2)=none) \/
 ∃ v:Nat,top=v/\least=(levN d v:Nat)/\v<d.vars.length/\(∃ e∈zs,∃ b,Aa d (e/2)=some b/\b.v=v)/\∀ e∈zs,levN d v<=lvE d.vars.length (levN d) (Aa d) e
theorem TopS.none {d:Ae}{zs:List Nat}{top least:Int}{e:Nat}(h:TopS d zs top least)(hl:∀ v,v<d.vars.length->levN d v<d.vars.length)(he:Aa d (e/2)=none):TopS d (zs++[e]) top least:=by
 rcases h with ⟨h1,h2,h3⟩|⟨v,h1,h2,h3,⟨e0,g0,hb⟩,h5⟩
 ·refine .inl ⟨h1,h2,fun x hx=>?_⟩;rcases VF.1 hx with hx|hx
  . exact h3 x hx
  . simp at hx;subst hx;exact he
 ·refine .inr ⟨v,h1,h2,h3,⟨e0,by simp[g0],hb⟩,fun x hx=>?_⟩;rcases VF.1 hx with hx|hx
  . exact h5 x hx
  . simp at hx;subst hx;unfold lvE;rw[he];exact Nat.le_of_lt (hl v h3)
theorem TopS.keep {zs:List Nat}{v:Nat}{b:BN}(h:TopS d zs v least)(he:Aa d (e/2)=some b)(hle:¬ ((levN d b.v:Nat):Int)<least):TopS d (zs++[e]) v least:=by
 rcases h with ⟨h1,h2,h3⟩|⟨u,h1,h2,h3,⟨e0,g0,hb⟩,h5⟩
 . omega
 ·obtain rfl:v=u:=by omega
  refine .inr ⟨v,rfl,h2,h3,⟨e0,by simp[g0],hb⟩,fun x hx=>?_⟩;rcases VF.1 hx with hx|hx
  . exact h5 x hx
  . simp at hx;subst hx;unfold lvE;rw[he];dsimp only;omega
theorem TopS.take {zs:List Nat}{top:Int}{b:BN}(h:TopS d zs top least)(hv:b.v<d.vars.length)(hl:∀ v,v<d.vars.length->levN d v<d.vars.length)(he:Aa d (e/2)=some b)(hle:top<0\/((levN d b.v:Nat):Int)<least):TopS d (zs++[e]) b.v (levN d b.v:Nat):=by
 refine .inr ⟨b.v,rfl,rfl,hv,⟨e,by simp,b,he,rfl⟩,fun x hx=>?_⟩;rcases VF.1 hx with hx|hx
 ·rcases h with ⟨h1,h2,h3⟩|⟨u,h1,h2,h3,⟨e0,g0,hb⟩,h5⟩
  . unfold lvE;rw[h3 x hx];exact Nat.le_of_lt (hl _ hv)
  . have:=h5 x hx;omega
 . simp at hx;subst hx;unfold lvE;rw[he];exact Vu _
theorem KB {v:Nat}(h:v<d.level.length):Cy d v=(levN d v:Nat):=by unfold Cy;rw[Vw ⟨by omega,by omega⟩];rfl
abbrev Wb:=@List.take_length
theorem KC {F:Phi}{o:Own}(h:AY F o w mb m)(hlt:Ac o w)(hx:BK o w xb mb)(hk:Ak m.d V)(zs:List Nat)(hz:∀ e∈zs,okE (Aa m.d) e)(a:Option Addr)(c:Nat)(hzs:Ar w a (zs.map Int.ofNat)) :
 Cl 169 #[Pt xb,.slice a zs.length c] w fun x w'=>∃ top least,x=.returned (Iv top)/\TopS m.d zs top least/\Bw w w':=by
 obtain⟨s,h⟩:=h;obtain⟨st,gd⟩:=h.store;have gi:m.d.level.length=m.d.vars.length:=gd.len;have HM:=Hd h;have HX:=Hd hx;have g5:=Hd hlt;have HK:=Hd hk;have HZ:=Hd hz;have gl:=Hd hzs;have gj:=hzs.len;simp only[VP] at gj;clear h gd hx hlt hk hz hzs
 go_enter func169,ntmps169
 go_wp2_with fail
 go_loopw [5,6,15] (fun s5 s6 i wr=>∃ (k:Nat) (top least:Int),k<=zs.length/\i=Iv k/\s5=Iv top/\s6=Iv least/\TopS m.d (zs.take k) top least/\Bw w wr) (fun _ _ i _=>zs.length-(intOf i).toNat)
 case atStart=>exact⟨0,-1,0,by omega,rfl,rfl,rfl,.inl ⟨rfl,rfl,by simp⟩,VI _ _⟩
 case round =>
  obtain⟨k,top,least,hk,rfl,rfl,rfl,hT,hB⟩:=hrel
  by_cases g2:k<zs.length
  ·obtain⟨b0,off,ha,g3⟩:=(gl.o.below hB).cells k (by simpa using g2);subst ha;have he:at0 (zs.map Int.ofNat) k=(zs[k]:Int):=by rw[As (by simpa using g2)];simp
   rw[he] at g3;have g8:zs[k]∈zs:=VG g2;have g6:zs.take (k+1)=zs.take k++[zs[k]]:=by rw[List.take_add_one,VA g2];rfl
   have g7:=HZ.o _ g8;obtain⟨f,hf⟩:=Ex (zs[k]);rw[<- hf] at g3 g7 g6;obtain⟨c0,c1,c2,c3,c4,c5,f0⟩:=cells6 ((HM.o.below g5.o hB).blk);have cx:wr.cell? (Av xb)=_:=(hB.cell (p:=Av xb) (Af HX.o.cell)).trans HX.o.cell;have HA:=Hd (FD ((HM.o.below g5.o hB).store) (g5.o.mono hB.size) HK.o f g7);have g4:=Hd g6;have HT:=Hd hT;have HB:=Hd hB;have gn:(k:Int)<zs.length:=by omega
   clear hf g8 he hT hB g7 g6;unfold atV at HA;have ga:Hq (∀ v,v<m.d.vars.length->levN m.d v<m.d.vars.length):=Hd HK.o.dag.lt;have gg:=Hd (fun W hb v=>PG ⟨s,HM.o.below g5.o hb⟩ (o:=o) (w:=W) (xb:=xb) (mb:=mb) ⟨(hb.cell (p:=Av xb) (Af HX.o.cell)).trans HX.o.cell,HX.o.own⟩ HK.o v);cases hb:Aa m.d (f/2) with
   | none =>
     rw[hb] at HA;have HN:=Hd hb;clear hb;go_wp2_with fail;refine HA.o.mono ?_;rintro x w' ⟨rfl,g0⟩;have HB2:=Hd (HB.o.trans (g0.mono HB.o.size));clear g0;go_wp2_with fail;go_roundw
     case rel=>exact⟨k+1,top,least,by omega,by simp,rfl,rfl,by rw[g4.o];exact HT.o.none ga.o HN.o,HB2.o⟩
     case measure=>simp[intOf];omega
   | some b =>
     rw[hb] at HA;have HN:=Hd hb;have g9:=HK.o.dag.var _ _ hb;have ge:Cy m.d b.v=(levN m.d b.v:Nat):=KB (by rw[gi];exact g9);have gh:=Hd g9;have g1:=Hd (fun W hb=>gg.o W hb b.v);rw[ge] at g1;clear hb g9 ge gg
     by_cases ht:top<0
     ·have gm:=Hd ht;go_wp2_with fail;refine HA.o.mono ?_;rintro x w' ⟨rfl,g0⟩;have HB2:=Hd (HB.o.trans (g0.mono HB.o.size));clear g0;go_wp2_with fail;refine(g1.o _ HB2.o).mono ?_;rintro x w'' ⟨rfl,rfl⟩;go_wp2_with fail;go_roundw
      case rel=>exact⟨k+1,_,_,by omega,by simp,rfl,rfl,by rw[g4.o];exact HT.o.take gh.o ga.o HN.o (.inl gm.o),HB2.o⟩
      case measure=>simp[intOf];omega
     ·by_cases gf:((levN m.d b.v:Nat):Int)<least
      ·have gc:=Hd gf;go_wp2_with fail;refine HA.o.mono ?_;rintro x w' ⟨rfl,g0⟩;have HB2:=Hd (HB.o.trans (g0.mono HB.o.size));clear g0;go_wp2_with fail;refine(g1.o _ HB2.o).mono ?_;rintro x w'' ⟨rfl,rfl⟩;go_wp2_with fail;refine(g1.o _ HB2.o).mono ?_;rintro x w'' ⟨rfl,rfl⟩;go_wp2_with fail;go_roundw
       case rel=>exact⟨k+1,_,_,by omega,by simp,rfl,rfl,by rw[g4.o];exact HT.o.take gh.o ga.o HN.o (.inr gc.o),HB2.o⟩
       case measure=>simp[intOf];omega
      ·obtain⟨tn,gk⟩:∃ tn:Nat,top=tn:=⟨top.toNat,by omega⟩;subst gk;have gc:=Hd gf;go_wp2_with fail;refine HA.o.mono ?_;rintro x w' ⟨rfl,g0⟩;have HB2:=Hd (HB.o.trans (g0.mono HB.o.size));clear g0;go_wp2_with fail;refine(g1.o _ HB2.o).mono ?_;rintro x w'' ⟨rfl,rfl⟩;go_wp2_with fail;go_roundw
       case rel=>exact⟨k+1,_,_,by omega,by simp,rfl,rfl,by rw[g4.o];exact HT.o.keep HN.o (by have:=gc.o;omega),HB2.o⟩
       case measure=>simp[intOf];omega
  ·obtain rfl:k=zs.length:=by omega
   have HT:=Hd hT;have HB:=Hd hB;clear hT hB;go_wp2_with fail;go_ret;exact⟨top,least,rfl,by have:=HT.o;rwa [Wb] at this,HB.o⟩
def AV (er:Int)(event:Bool)(ev:Ev):Ending:=.panicked [{ v:=.iface 235 (.agg #[Iv er,.bool event,Iv ev.after,Iv ev.kind,Iv ev.level]),recovered:=false }]
def ev0:Ev:=⟨0,0,0⟩
def BL (c:Int):Int:=wrap64 (c+1)
def Ds (d:Ae)(v:Int)(lo hi:Nat)(er:Int):Prop :=
 (er=9/\¬ (0<=v/\v<d.vars.length)) \/
 (er=10/\0<=v/\v<d.vars.length/\(lvE d.vars.length (levN d) (Aa d) lo<=levN d v.toNat\/lvE d.vars.length (levN d) (Aa d) hi<=levN d v.toNat)) \/
 (er=7/\d.pool.many=d.pool.room)
def FE (K:Law)(o:Own)(w:Wd)(mb:Nat)(m:ManD)(V:Nat->BF)(v:Int)(lo hi:Nat)(e:Ending)(w':Wd):Prop :=
 ∃ o' m' V',Step K o w mb m V o' w' m' V' /\
  ((∃ ev,m.waits=ev::m'.waits/\ev.after<=BL m.calls/\m'.calls=0/\m'.d=m.d/\V'=V/\e=AV 0 true ev) \/
   (m'.waits=m.waits/\m'.calls=BL m.calls/\(∀ ev ws,m.waits=ev::ws->BL m.calls<ev.after) /\
    ((∃ er,Ds m.d v lo hi er/\m'.d=m.d/\V'=V/\e=AV er false ev0) \/
     (0<=v/\v<m.d.vars.length/\∃ r:Nat,e=.returned (Iv r)/\okE (Aa m'.d) r/\ef V' r=iteF v.toNat (ef V hi) (ef V lo) /\
      levN m.d v.toNat<=lvE m.d.vars.length (levN m'.d) (Aa m'.d) r/\m'.d.pool.many<=m.d.pool.many+1))))
theorem Chg.ofDrewN {o:Own}(h:Chg R o o' (w.drewN n) w'):Chg R o o' w w':=⟨h.os,h.tape,h.output,h.size,h.block,h.ext,h.new⟩
theorem D9 (h:Below (w.drewN n).heap.size (w.drewN n) w'):Bw w w':=⟨h.os,h.tape,h.output,h.size,h.block⟩
theorem Chg.any {o:Own}(h:Chg R o o' w w'):Chg (fun _=>True) o o' w w':=h.mono fun _ _=>trivial
theorem PH {o:Own}(hK:AO K)(h:AY (K m.d V) o w mb m)(hlt:Ac o w)(hx:BK o w xb mb)(hk:Ak m.d V)(v:Int)(lo hi:Nat)(hlo:okE (Aa m.d) lo)(hhi:okE (Aa m.d) hi)
 (hdue:∀ ev ws,m.waits=ev::ws->BL m.calls<ev.after) :
 Cl 145 #[Pt xb,Iv v,Iv lo,Iv hi] w (FE K o w mb m V v lo hi):=by
 obtain⟨s,h⟩:=h;obtain⟨c0,c1,c2,c3,c4,c5,f0⟩:=cells6 h.blk;have cx:=hx.cell;obtain⟨W,hW⟩:=Ex (w.setCell (Aw mb 5) (Iv (BL m.calls)));have g2:A8 (K m.d V) o W mb { m with calls:=BL m.calls } s:=by rw[hW];exact h.field rfl rfl rfl rfl rfl h.waits rfl
 have g5:Chg (fun _=>True) o o w W:=by rw[hW];exact(Chg.refl _ o w).setCell (p:=Aw mb 5) h.own trivial _
 have g4:Ac o W:=hlt.mono g5.size;have gg:=hx.chg g5;obtain⟨d0,d1,d2,d3,d4,d5,g0⟩:=cells6 g2.blk;have dx:=gg.cell;obtain⟨aw,cw,g9,ga⟩:=g2.waits.slice;have gj:(m.waits=[]/\True)\/∃ ev ws,m.waits=ev::ws:=by cases m.waits with
  | nil=>exact .inl ⟨rfl,trivial⟩
  | cons ev ws=>exact .inr ⟨ev,ws,rfl⟩
 have HK:=Hd hK;have ge:=Hd g5;have g7:=Hd g4;have g6:=Hd g2;have gd:=Hd hk;have gh:Hq (∀ n,Cl 199 #[Pt s.sb,Iv v,Iv lo,Iv hi] (W.drewN n) (Ic o (W.drewN n) s.sb m.d V v lo hi)) :=
  Hd fun n=>P8 (g2.store.below g4 (Am W n)) (g4.mono (Am W n).size) hk v lo hi hlo hhi
 have g1:=Hd hdue;have HW:Hq (w.setCell (Aw mb 5) (Iv (wrap64 (m.calls+1)))=W):=Hd hW.symm;have gi:5≠4:=by decide
 clear h hlt hx hk hlo hhi g2 g5 g4 gg hW hdue
 go_enter func145,ntmps145
 go_upto_region 3 with fail;rw[HW.o];obtain⟨cu,g3⟩:=Ex (wrap64 (m.calls+1));have d5':W.cell? (Aw mb 5)=some (Iv cu):=by rw[g3];exact d5
 have gl:Hq (BL m.calls=cu):=Hd g3.symm;rw[<- g3];clear c0 c1 c2 c3 c4 c5 f0 cx gi d5 g3;have STE:Hq (∀ w',Bw W w'->Step K o w mb m V o w' { m with calls:=BL m.calls } V) :=
  Hd fun w' hb=>⟨⟨s,g6.o.below g7.o hb⟩,g7.o.mono hb.size,ge.o.trans (Chg.of_below hb _ _),gd.o,Ext.refl _ _,rfl,rfl⟩
 rcases gj with ⟨hw0,_⟩|⟨ev,ws,g8⟩
 ·rw[g9] at d4;dsimp only at d4;rw[hw0] at d4;have d4':W.cell? (Aw mb 4)=some (.slice aw 0 cw):=d4;clear d4 hw0 g9 ga
  go_quiet (fail)
  go_wp2_with fail;refine(gh.o nq).mono ?_;rintro x w' (⟨q1,rfl,q2⟩|⟨q1,q2,q3,rfl,q4⟩|⟨q1,rfl,q2⟩|⟨q1,q2,r,d',V',o',rfl,q4,q5,q6,q7,q8,q9,q10,q11,q12⟩)
  . have H1:=Hd (STE.o w' (D9 q2));have H2:Hq (Ds m.d v lo hi 9):=Hd (.inl ⟨rfl,q1⟩);clear q1 q2;go_wp2_with fail;refine⟨rfl,o,_,V,H1.o,.inr ⟨rfl,rfl,g1.o,.inl ⟨9,H2.o,rfl,rfl,rfl⟩⟩⟩
  . have H1:=Hd (STE.o w' (D9 q4));have H2:Hq (Ds m.d v lo hi 10):=Hd (.inr (.inl ⟨rfl,q1,q2,q3⟩));clear q1 q2 q3 q4;go_wp2_with fail;refine⟨rfl,o,_,V,H1.o,.inr ⟨rfl,rfl,g1.o,.inl ⟨10,H2.o,rfl,rfl,rfl⟩⟩⟩
  . have H1:=Hd (STE.o w' (D9 q2));have H2:Hq (Ds m.d v lo hi 7):=Hd (.inr (.inr ⟨rfl,q1⟩));clear q1 q2;go_wp2_with fail;refine⟨rfl,o,_,V,H1.o,.inr ⟨rfl,rfl,g1.o,.inl ⟨7,H2.o,rfl,rfl,rfl⟩⟩⟩
  . have H1:Hq (Step K o w mb m V o' w' { m with calls:=BL m.calls,d:=d' } V'):=Hd ⟨⟨s,(g6.o.setStore g7.o q4 q12.ofDrewN).mono fun op a b c r h=>HK.o.ext _ _ _ _ _ _ _ _ _ gd.o q6 q7 h⟩,q5,ge.o.trans q12.ofDrewN.any,q6,q7,rfl,rfl⟩;have H2:Hq (_/\_/\_/\_/\_/\_):=Hd ⟨q1,q2,q8,q9,q10,q11⟩;clear q1 q2 q4 q5 q6 q7 q8 q9 q10 q11 q12;go_wp2_with fail;go_ret;obtain⟨a1,a2,a3,a4,a5,a6⟩:=H2.o;exact⟨o',_,V',H1.o,.inr ⟨rfl,rfl,g1.o,.inr ⟨a1,a2,r,rfl,a3,a4,a5,a6⟩⟩⟩
 ·have gc:=g6.o.waits;have e0:({ m with calls:=BL m.calls }:ManD).waits=ev::ws:=g8;rw[e0] at gc;obtain⟨g,off,cap,gf,gk,gm,gn,k0,k1,k2,_⟩:=gc.first
  have hlt:¬ ev.after<=cu:=by have:=g1.o ev ws g8;rw[gl.o] at this;omega
  rw[gf] at d4;have hp:(0:Int)<((ws.length+1:Nat):Int):=by omega
  clear g9 gf ga gc e0 g8 gk
  go_quiet (fail)
  go_wp2_with fail;refine(gh.o nq).mono ?_;rintro x w' (⟨q1,rfl,q2⟩|⟨q1,q2,q3,rfl,q4⟩|⟨q1,rfl,q2⟩|⟨q1,q2,r,d',V',o',rfl,q4,q5,q6,q7,q8,q9,q10,q11,q12⟩)
  . have H1:=Hd (STE.o w' (D9 q2));have H2:Hq (Ds m.d v lo hi 9):=Hd (.inl ⟨rfl,q1⟩);clear q1 q2;go_wp2_with fail;refine⟨rfl,o,_,V,H1.o,.inr ⟨rfl,rfl,g1.o,.inl ⟨9,H2.o,rfl,rfl,rfl⟩⟩⟩
  . have H1:=Hd (STE.o w' (D9 q4));have H2:Hq (Ds m.d v lo hi 10):=Hd (.inr (.inl ⟨rfl,q1,q2,q3⟩));clear q1 q2 q3 q4;go_wp2_with fail;refine⟨rfl,o,_,V,H1.o,.inr ⟨rfl,rfl,g1.o,.inl ⟨10,H2.o,rfl,rfl,rfl⟩⟩⟩
  . have H1:=Hd (STE.o w' (D9 q2));have H2:Hq (Ds m.d v lo hi 7):=Hd (.inr (.inr ⟨rfl,q1⟩));clear q1 q2;go_wp2_with fail;refine⟨rfl,o,_,V,H1.o,.inr ⟨rfl,rfl,g1.o,.inl ⟨7,H2.o,rfl,rfl,rfl⟩⟩⟩
  . have H1:Hq (Step K o w mb m V o' w' { m with calls:=BL m.calls,d:=d' } V'):=Hd ⟨⟨s,(g6.o.setStore g7.o q4 q12.ofDrewN).mono fun op a b c r h=>HK.o.ext _ _ _ _ _ _ _ _ _ gd.o q6 q7 h⟩,q5,ge.o.trans q12.ofDrewN.any,q6,q7,rfl,rfl⟩;have H2:Hq (_/\_/\_/\_/\_/\_):=Hd ⟨q1,q2,q8,q9,q10,q11⟩;clear q1 q2 q4 q5 q6 q7 q8 q9 q10 q11 q12;go_wp2_with fail;go_ret;obtain⟨a1,a2,a3,a4,a5,a6⟩:=H2.o;exact⟨o',_,V',H1.o,.inr ⟨rfl,rfl,g1.o,.inr ⟨a1,a2,r,rfl,a3,a4,a5,a6⟩⟩⟩
theorem PI {o:Own}(h:AY (K m.d V) o w mb m)(hlt:Ac o w)(hx:BK o w xb mb)(hk:Ak m.d V)(v:Int)(lo hi:Nat)
 (hw1:m.waits=ev::ws) (hdue:ev.after<=BL m.calls) :
 Cl 145 #[Pt xb,Iv v,Iv lo,Iv hi] w (FE K o w mb m V v lo hi):=by
 obtain⟨s,h⟩:=h;obtain⟨c0,c1,c2,c3,c4,c5,f0⟩:=cells6 h.blk;have cx:=hx.cell;obtain⟨W,hW⟩:=Ex (w.setCell (Aw mb 5) (Iv (BL m.calls)));have ge:A8 (K m.d V) o W mb { m with calls:=BL m.calls } s:=by rw[hW];exact h.field rfl rfl rfl rfl rfl h.waits rfl
 have gj:Chg (fun _=>True) o o w W:=by rw[hW];exact(Chg.refl _ o w).setCell (p:=Aw mb 5) h.own trivial _
 have gv:Ac o W:=hlt.mono gj.size;obtain⟨d0,d1,d2,d3,d4,d5,g0⟩:=cells6 ge.blk;have gg:mb<W.heap.size:=Af d0;have gh:=ge.waits;have e0:({ m with calls:=BL m.calls }:ManD).waits=ev::ws:=hw1;rw[e0] at gh;obtain⟨g,off,cap,gp,gB,gE,gG,k0,k1,k2,g8⟩:=gh.first
 rw[gp] at d4;have hp:(0:Int)<((ws.length+1:Nat):Int):=by omega
 have gA:=Hd gj;have gf:=Hd gv;have gz:=Hd ge;have gD:=Hd hk;have gy:=Hd g8;have HW1:=Hd hw1;have HD:=Hd hdue;have HW:Hq (w.setCell (Aw mb 5) (Iv (wrap64 (m.calls+1)))=W):=Hd hW.symm;clear h hlt hx hk ge gj gv hW g8 gh e0 gp gB hw1
 go_enter func145,ntmps145
 go_upto_region 3 with fail;rw[HW.o];obtain⟨cu,ga⟩:=Ex (wrap64 (m.calls+1));have d5':W.cell? (Aw mb 5)=some (Iv cu):=by rw[ga];exact d5
 have gF:ev.after<=cu:=by rw[ga];exact hdue
 rw[<- ga];clear c0 c1 c2 c3 c4 c5 f0 cx d5 ga hdue
 go_quiet (fail)
 obtain⟨W2,gi⟩:=Ex (W.drewN nq);have g1:Bw W W2:=by rw[gi];exact Am W nq
 rw[<- gi];have g6:=Hd (gz.o.below gf.o g1);have g3:=Hd (gf.o.mono g1.size);have go:=Hd (gA.o.trans (Chg.of_below g1 _ _));have d4':W2.cell? (Aw mb 4)=_:=(g1.cell (p:=Aw mb 4) gg).trans d4;have g9:g<W.heap.size:=Af k0;have l0:W2.cell? (Aw g off)=_:=(g1.cell (p:=Aw g off) g9).trans k0;have l1:W2.cell? (Aw g (off+1))=_:=(g1.cell (p:=(Aw g (off+1))) g9).trans k1;have l2:W2.cell? (Aw g (off+2))=_:=(g1.cell (p:=(Aw g (off+2))) g9).trans k2;have gl:=Hd (gy.o.keep (w':=W2) (o':=o) (fun q hq=>g1.block q (gf.o q _ hq)) (fun _ h=>h));clear gi k0 k1 k2 d0 d1 d2 d3 d4 d5' g0 g1 gz gf gA gy HW;obtain⟨d0,d1,d2,d3,_,d5,g0⟩:=cells6 g6.o.blk;have gg:mb<W2.heap.size:=Af d0;have g9:g<W2.heap.size:=Af l0;go_upto_region 5 with fail;obtain⟨bx,gc⟩:=Ex W2.heap.size;obtain⟨W3,gd⟩:=Ex (W2.alloc (.cells #[Iv ev.after,Iv ev.kind,Iv ev.level] 77));have g4:Bw W2 W3:=by rw[gd];exact Ah W2 _
 have gt:o bx=none:=by rw[gc];exact g3.o.none (Vu _)
 have x3:W3.heap[bx]?=some (.cells #[Iv ev.after,Iv ev.kind,Iv ev.level] 77 (0,0)):=by rw[gd,gc];exact Vv W2 _
 rw[<- gd,<- gc];have g2:=Hd (g6.o.below g3.o g4);have gm:=Hd (g3.o.mono g4.size);have gn:=Hd (go.o.trans (Chg.of_below g4 _ _));have d4:W3.cell? (Aw mb 4)=_:=(g4.cell (p:=Aw mb 4) gg).trans d4';have gk:=Hd (gl.o.keep (w':=W3) (o':=o) (fun q hq=>g4.block q (g3.o q _ hq)) (fun _ h=>h));clear gd gc l0 l1 l2 d0 d1 d2 d3 d4' d5 g0 g4 g6 g3 go gl;obtain⟨d0,d1,d2,d3,_,d5,g0⟩:=cells6 g2.o.blk;have gr:bx≠mb:=by rintro rfl;rw[g2.o.own] at gt;cases gt
 obtain⟨W4,g5⟩:=Ex ((W3.setCell (Aw mb 4) (.slice (if cap=1 then some (Aw g off) else some (Aw g (off+3))) ws.length (cap-1))).setCell (Aw mb 5) (Iv 0));have gu:A8 (K m.d V) o W4 mb { m with calls:=0,waits:=ws } { s with vw:=.slice (if cap=1 then some (Aw g off) else some (Aw g (off+3))) ws.length (cap-1) }:=by
  have a1:=g2.o.field (k:=4) (u:=.slice (if cap=1 then some (Aw g off) else some (Aw g (off+3))) ws.length (cap-1)) (m':={ m with calls:=BL m.calls,waits:=ws }) (s':={ s with vw:=.slice (if cap=1 then some (Aw g off) else some (Aw g (off+3))) ws.length (cap-1) }) rfl rfl rfl rfl rfl gk.o rfl;have a2:=a1.field (k:=5) (u:=Iv 0) (m':={ m with calls:=0,waits:=ws }) (s':={ s with vw:=.slice (if cap=1 then some (Aw g off) else some (Aw g (off+3))) ws.length (cap-1) }) rfl rfl rfl rfl rfl a1.waits rfl;rw[g5];exact a2
 have gw:Chg (fun _=>True) o o w W4:=by rw[g5];exact(gn.o.setCell (p:=Aw mb 4) g2.o.own trivial _).setCell (p:=Aw mb 5) g2.o.own trivial _
 have g7:W4.heap[bx]?=some (.cells #[Iv ev.after,Iv ev.kind,Iv ev.level] 77 (0,0)):=by rw[g5];exact(Ay gr _).trans ((Ay gr _).trans x3)
 have gq:Step K o w mb m V o W4 { m with calls:=0,waits:=ws } V:=⟨⟨_,gu⟩,gm.o.mono (by rw[g5];simp[World.setCell]),gw,gD.o,Ext.refl _ _,rfl,rfl⟩;have gC:=Hd gq;have y0:W4.cell? (Av bx)=some (Iv ev.after):=by rw[Vt W4 bx 0 _ _ _ g7];rfl
 have y1:W4.cell? (Aw bx 1)=some (Iv ev.kind):=by rw[Vt W4 bx 1 _ _ _ g7];rfl
 have y2:W4.cell? (Aw bx 2)=some (Iv ev.level):=by rw[Vt W4 bx 2 _ _ _ g7];rfl
 have gx:=Hd g5;clear gu gw g7 gq g5;go_upto_region 6 with fail;rw[<- gx.o];clear gx d0 d1 d2 d3 d4 d5 g0 x3 g2 gm gn gk;go_wp2_with fail
 all_goals exact⟨rfl,o,_,V,gC.o,.inl ⟨ev,HW1.o,HD.o,rfl,rfl,rfl,rfl⟩⟩
theorem KD {o:Own}(hK:AO K)(h:AY (K m.d V) o w mb m)(hlt:Ac o w)(hx:BK o w xb mb)(hk:Ak m.d V)(v:Int)(lo hi:Nat)(hlo:okE (Aa m.d) lo)(hhi:okE (Aa m.d) hi) :
 Cl 145 #[Pt xb,Iv v,Iv lo,Iv hi] w (FE K o w mb m V v lo hi):=by
 by_cases hd:∀ ev ws,m.waits=ev::ws->BL m.calls<ev.after
 . exact PH hK h hlt hx hk v lo hi hlo hhi hd
 ·cases hw:m.waits with
  | nil=>exact absurd (fun ev ws e=>by rw[hw] at e;cases e) hd
  | cons ev ws=>exact PI h hlt hx hk v lo hi hw (Int.not_lt.1 fun hl=>hd fun ev' ws' e=>by rw[hw] at e;cases e;exact hl)
section
theorem Ie (hk:Ak d V)(h:e/2=0):lvE d.vars.length (levN d) (Aa d) e=d.vars.length:=by unfold lvE;rw[h,hk.dag.none0]
theorem FF (h:e/2=f/2):lvE d.vars.length (levN d) (Aa d) e=lvE d.vars.length (levN d) (Aa d) f:=by unfold lvE;rw[h]
theorem If (h:e/2=f/2)(hf:okE N f):okE N e:=by unfold okE;rw[h];exact hf
theorem BY (hk:Ak d V){v:Nat}(hf:okE (Aa d) f)(hv:v<d.vars.length)(hl:levN d v<=lvE d.vars.length (levN d) (Aa d) f) :
 okE (Aa d) (cofs d f v).1/\okE (Aa d) (cofs d f v).2/\levN d v<lvE d.vars.length (levN d) (Aa d) (cofs d f v).1/\levN d v<lvE d.vars.length (levN d) (Aa d) (cofs d f v).2 /\
  ∀ ρ,ef V f ρ=if ρ v then ef V (cofs d f v).2 ρ else ef V (cofs d f v).1 ρ:=by
 unfold cofs;cases hb:Aa d (f/2) with
 | none =>
   have g0:levN d v<lvE d.vars.length (levN d) (Aa d) f:=by unfold lvE;rw[hb];exact hk.dag.lt v hv
   exact⟨hf,hf,g0,g0,fun ρ=>by simp⟩
 | some b =>
   by_cases e:(b.v:Int)=v
   ·have e':b.v=v:=by omega
    simp only[Vw e];refine⟨Dg (hk.dag.okLo _ _ hb),Dg (hk.dag.okHi _ _ hb),?_,?_,fun ρ=>?_⟩
    . rw[Dr,<- e'];exact hk.dag.lvLo _ _ hb
    . rw[Dr,<- e'];exact hk.dag.lvHi _ _ hb
    . rw[Cv,Cv];have h1:=hk.dag.eqn _ _ hb;unfold eneg;have h2:ef V f ρ=((f%2 == 1) != V (f/2) ρ):=rfl;rw[h2,h1];simp only[iteF,e'];split<;>rfl
   ·simp only[Vs e];have g0:levN d v<lvE d.vars.length (levN d) (Aa d) f:=by
     rcases Nat.lt_or_eq_of_le hl with h|h
     . exact h
     . exfalso;unfold lvE at h;rw[hb] at h;have:=hk.dag.inj _ _ hv (hk.dag.var _ _ hb) h;exact e (by omega)
    exact⟨hf,hf,g0,g0,fun ρ=>by simp⟩
theorem PJ (hk:Ak d V)(f g h:Nat):minL d f g h<=d.vars.length:=by unfold minL;have:=hk.dag.lvE_le f;omega
theorem Ig (h1:k<=lvE d.vars.length (levN d) (Aa d) f)(h2:k<=lvE d.vars.length (levN d) (Aa d) g)(h3:k<=lvE d.vars.length (levN d) (Aa d) h):k<=minL d f g h:=by unfold minL;omega
theorem BR.ok (hk:Ak d V)(hi:BR e f g h)(hf:okE (Aa d) f)(hg:okE (Aa d) g)(hh:okE (Aa d) h) :
 okE (Aa d) e/\minL d f g h<=lvE d.vars.length (levN d) (Aa d) e:=by
 rcases hi with e0|e0|e0|e0
 . exact⟨.inl e0,by rw[Ie hk e0];exact PJ hk f g h⟩
 . exact⟨If e0 hf,by rw[FF e0];unfold minL;omega⟩
 . exact⟨If e0 hg,by rw[FF e0];unfold minL;omega⟩
 . exact⟨If e0 hh,by rw[FF e0];unfold minL;omega⟩
structure IteS (d:Ae)(V:Nat->BF)(f0 g0 h0:Nat)(f g h:Nat)(nt:Bool):Prop where
 okF:okE (Aa d) f
 okG:okE (Aa d) g
 okH:okE (Aa d) h
 lev:minL d f0 g0 h0<=minL d f g h
 val:∀ ρ,iteB (ef V f0 ρ) (ef V g0 ρ) (ef V h0 ρ)=(nt != iteB (ef V f ρ) (ef V g ρ) (ef V h ρ))
theorem IteS.start (hf:okE (Aa d) f)(hg:okE (Aa d) g)(hh:okE (Aa d) h):IteS d V f g h f g h false:=⟨hf,hg,hh,Vu _,fun ρ=>by simp⟩
theorem IteS.next (hk:Ak d V)(s:IteS d V f0 g0 h0 f g h nt)(hd:(iteR f g h).dn=false) :
 IteS d V f0 g0 h0 (iteR f g h).a (iteR f g h).b (iteR f g h).c (nt != (iteR f g h).n)/\(iteR f g h).a/2≠0:=by
 obtain⟨ha,hb,hc,hn,hv⟩:=PF hd;obtain⟨a1,a2⟩:=ha.ok hk s.okF s.okG s.okH;obtain⟨b1,b2⟩:=hb.ok hk s.okF s.okG s.okH;obtain⟨c1,c2⟩:=hc.ok hk s.okF s.okG s.okH;refine⟨⟨a1,b1,c1,Vy s.lev (Ig a2 b2 c2),fun ρ=>?_⟩,hn⟩;rw[s.val,hv hk.dag.one];cases nt<;>cases (iteR f g h).n<;>simp
theorem IteS.answer {r:Nat}(s:IteS d V f0 g0 h0 f g h nt)(h1:okE (Aa d) f0)(h2:okE (Aa d) g0)(h3:okE (Aa d) h0)(hr:okE (Aa d) r)(hl:minL d f g h<=lvE d.vars.length (levN d) (Aa d) r)
 (hv:∀ ρ,ef V r ρ=iteB (ef V f ρ) (ef V g ρ) (ef V h ρ)):IteP d V f0 g0 h0 (eflip r nt) :=
 ⟨h1,h2,h3,Dg hr,fun ρ=>by rw[Cv,hv,<- s.val];rfl,by rw[Dr];exact Vy s.lev hl⟩
theorem IteS.done (hk:Ak d V)(s:IteS d V f0 g0 h0 f g h nt)(h1:okE (Aa d) f0)(h2:okE (Aa d) g0)(h3:okE (Aa d) h0)(hd:(iteR f g h).dn=true):IteP d V f0 g0 h0 (eflip (iteR f g h).r nt):=by
 obtain⟨hh,hv⟩:=K9 hd;obtain⟨q1,q2⟩:=hh.ok hk s.okF s.okG s.okH;exact s.answer h1 h2 h3 q1 q2 (hv hk.dag.one)
theorem Ext.minL (x:Ext d V d' V')(hk:Ak d V)(hk':Ak d' V'){f g h:Nat}(hf:okE (Aa d) f)(hg:okE (Aa d) g)(hh:okE (Aa d) h):minL d' f g h=Go.Proofs.YtkidaindpahefaaGreat.minL d f g h:=by
 unfold Go.Proofs.YtkidaindpahefaaGreat.minL;rw[x.vars,x.lvE hf hk.dag.none0 hk'.dag.none0,x.lvE hg hk.dag.none0 hk'.dag.none0,x.lvE hh hk.dag.none0 hk'.dag.none0]
theorem IteS.ext (s:IteS d V f0 g0 h0 f g h nt)(x:Ext d V d' V')(hk:Ak d V)(hk':Ak d' V')(h1:okE (Aa d) f0)(h2:okE (Aa d) g0)(h3:okE (Aa d) h0):IteS d' V' f0 g0 h0 f g h nt :=
 ⟨x.ok s.okF,x.ok s.okG,x.ok s.okH,by rw[x.minL hk hk' h1 h2 h3,x.minL hk hk' s.okF s.okG s.okH];exact s.lev,fun ρ=>by rw[x.ef s.okF,x.ef s.okG,x.ef s.okH,x.ef h1,x.ef h2,x.ef h3];exact s.val ρ⟩
theorem IteP.ext {r:Nat}(s:IteP d V f g h r)(x:Ext d V d' V')(hk:Ak d V)(hk':Ak d' V'):IteP d' V' f g h r :=
 ⟨x.ok s.okA,x.ok s.okB,x.ok s.okC,x.ok s.okR,fun ρ=>by rw[x.ef s.okA,x.ef s.okB,x.ef s.okC,x.ef s.okR];exact s.val ρ,
  by rw[x.minL hk hk' s.okA s.okB s.okC,x.vars,x.lvE s.okR hk.dag.none0 hk'.dag.none0];exact s.lev⟩
theorem PK (hk:Ak d V){v r:Nat}(hf:okE (Aa d) f)(hg:okE (Aa d) g)(hh:okE (Aa d) h)(hv:v<d.vars.length)(hl:levN d v<=minL d f g h)
 (c1:∀ ρ,ef V lo ρ=iteB (ef V (cofs d f v).1 ρ) (ef V (cofs d g v).1 ρ) (ef V (cofs d h v).1 ρ)) (c2:∀ ρ,ef V hi ρ=iteB (ef V (cofs d f v).2 ρ) (ef V (cofs d g v).2 ρ) (ef V (cofs d h v).2 ρ))
 (hr:ef V r=iteF v (ef V hi) (ef V lo)) (ρ:Nat->Bool):ef V r ρ=iteB (ef V f ρ) (ef V g ρ) (ef V h ρ):=by
 have lf:=(BY hk hf hv (by unfold minL at hl;omega)).2.2.2.2 ρ;have lg:=(BY hk hg hv (by unfold minL at hl;omega)).2.2.2.2 ρ;have lh:=(BY hk hh hv (by unfold minL at hl;omega)).2.2.2.2 ρ;rw[hr,lf,lg,lh];simp only[iteF];cases ρ v
 . simpa using c1 ρ
 . simpa using c2 ρ
theorem DY (x:Ext d V d' V')(h0:Aa d 0=none)(h0':Aa d' 0=none)(hf:okE (Aa d) f)(v:Int):cofs d' f v=cofs d f v:=by
 unfold cofs;rcases hf with h|⟨b,hb⟩
 . rw[h,h0,h0']
 . rw[hb,x.nodes _ _ hb]
end
def KE (K:Law)(k:Nat)(o:Own)(w:Wd)(mb:Nat)(m:ManD)(V:Nat->BF)(f g h:Nat)(e:Ending)(w':Wd):Prop :=
 ∃ o' m' V',Step K o w mb m V o' w' m' V' /\
  ((∃ r:Nat,e=.returned (Iv r)/\IteP m'.d V' f g h r/\m'.waits=m.waits/\m'.d.pool.many+1<=m.d.pool.many+2^k) \/
   (e=AV 7 false ev0/\m'.waits=m.waits/\m'.d.pool.many=m'.d.pool.room/\m'.d.pool.many+2<=m.d.pool.many+2^k) \/
   (∃ ev,e=AV 0 true ev/\m.waits=ev::m'.waits))
def Ih (K:Law)(k:Nat):Prop:=∀ (o:Own) (w:Wd) (xb mb:Nat) (m:ManD) (V:Nat->BF) (f g h:Nat),AY (K m.d V) o w mb m->Ac o w->BK o w xb mb->Ak m.d V ->
 okE (Aa m.d) f->okE (Aa m.d) g->okE (Aa m.d) h->m.d.vars.length<=minL m.d f g h+k ->
 Cl 147 #[Pt xb,Iv f,Iv g,Iv h] w (KE K k o w mb m V f g h)
theorem PL {o:Own}(hm:AY (K m.d V) o w mb m)(hl:Ac o w)(hk:Ak m.d V)(hb:Bw w w'):Step K o w mb m V o w' m V:=by
 obtain⟨s,h⟩:=hm;exact⟨⟨s,h.below hl hb⟩,hl.mono hb.size,Chg.of_below hb _ _,hk,Ext.refl _ _,rfl,rfl⟩
theorem Step.below {o:Own}(h:Step K o w mb m V o' w' m' V')(hb:Bw w' w''):Step K o w mb m V o' w'' m' V':=h.trans (PL h.is h.lt h.ok hb)
theorem top3 (hk:Ak d V)(hf:okE (Aa d) f)(hn:f/2≠0){top:Int}(ht:TopS d [f,g,h] top least) :
 ∃ v:Nat,top=v/\v<d.vars.length/\levN d v=minL d f g h/\levN d v<d.vars.length:=by
 rcases ht with ⟨_,_,h3⟩|⟨v,h1,_,h3,⟨e,he,b,hb,g0⟩,h5⟩
 ·exfalso;rcases hf with h0|⟨b,hb⟩
  . exact hn h0
  . rw[h3 f (by simp)] at hb;cases hb
 ·refine⟨v,h1,h3,?_,hk.dag.lt v h3⟩;have e0:lvE d.vars.length (levN d) (Aa d) e=levN d v:=by unfold lvE;rw[hb,<- g0]
  have a1:=h5 f (by simp);have a2:=h5 g (by simp);have a3:=h5 h (by simp);simp only[Wj,Yk,or_false] at he;unfold minL;rcases he with rfl|rfl|rfl<;>omega
abbrev Yj:=@Classical.choose_spec
abbrev WZ:=@Nat.pow_succ
theorem KG (hK:AO K)(k:Nat)(IH:∀ k',k=k'+1->Ih K k'):Ih K k:=by
 intro o w xb mb m V f g h hm gT hx hk hf hg hh gF;obtain⟨st0,gO⟩:∃ s,Ao o w (Classical.choose hm).sb m.d s:=(Yj hm).store;have gq:Hq (∀ e,okE (Aa m.d) e->e<eMax):=Hd fun e he=>by have:=gO.edge_lt he;unfold eMax;omega
 have hq:=Hd hK;have HM:=Hd hm;have hb:=Hd gT;have HX:=Hd hx;have HK:=Hd hk;have HF:=Hd hf;have HG:=Hd hg;have HH:=Hd hh;have hY:=Hd gF;have h8:Hq (IteS m.d V f g h f g h false):=Hd (IteS.start hf hg hh);clear gO hm gT hx hk hf hg hh gF
 go_enter func147,ntmps147
 go_upto_block 0 with fail
 go_cut [1,2,3,9] from 27 (fun s1 s2 s3 s9 wx=>∃ (f' g' h':Nat) (nt:Bool),s1=Iv f'/\s2=Iv g'/\s3=Iv h'/\s9=.bool nt/\IteS m.d V f g h f' g' h' nt/\f'/2≠0/\wx=w)
 case first =>
  go_wp2_with fail
  go_loopw [1,2,3,9,27] (fun s1 s2 s3 s9 i wr=>∃ (f' g' h':Nat) (nt:Bool) (j:Nat),s1=Iv f'/\s2=Iv g'/\s3=Iv h'/\s9=.bool nt/\i=Iv j/\j<=3/\IteS m.d V f g h f' g' h' nt/\(0<j->f'/2≠0)/\wr=w) (fun _ _ _ _ i _=>3-(intOf i).toNat)
  case atStart=>exact⟨f,g,h,false,0,rfl,rfl,rfl,rfl,rfl,by omega,h8.o,by omega,rfl⟩
  case round =>
   obtain⟨f',g',h',nt,j,rfl,rfl,rfl,rfl,rfl,hj,hS,hn,rfl⟩:=hrel;clear h8
   by_cases gT:j<3
   ·have HI:=Hd (fun W:Wd=>PE f' g' h' W (gq.o _ hS.okF) (gq.o _ hS.okG) (gq.o _ hS.okH));have gm:(iteR f' g' h').dn=true->(iteR f' g' h').r<eMax:=fun e=>gq.o _ (((K9 e).1.ok HK.o hS.okF hS.okG hS.okH).1)
    have go:=fun e=>hS.next HK.o (f:=f') (g:=g') (h:=h') e
    have gp:=fun e=>hS.done HK.o HF.o HG.o HH.o e
    have kk:(j:Int)<3:=by omega
    unfold iteV at HI;obtain⟨R,hR⟩:=Ex (iteR f' g' h');rw[<- hR] at HI gm go gp;clear hR hS hn;obtain⟨a,b,c,n,r,dn⟩:=R;dsimp only at HI gm go gp;cases dn with
    | true =>
      have gt:=Hd (fun W:Wd=>Cw r nt W (gm rfl));have kj:=Hd (gp rfl);clear gm go gp;go_wp2_with fail;refine(HI.o _).mono ?_;rintro x w' ⟨rfl,rfl⟩;go_wp2_with fail;refine(gt.o _).mono ?_;rintro x w' ⟨rfl,rfl⟩;go_wp2_with fail;go_ret;exact⟨o,m,V,⟨HM.o,hb.o,Chg.refl _ _ _,HK.o,Ext.refl _ _,rfl,rfl⟩,.inl ⟨_,rfl,kj.o,rfl,by have:=Nat.one_le_two_pow (n:=k);omega⟩⟩
    | false =>
      have hM:(nt != n)=(!nt == n):=by cases nt<;>cases n<;>rfl
      have g8:=Hd (go rfl);rw[hM] at g8;clear gm go gp hM
      by_cases hE:a=f'
      ·subst hE
       by_cases hp2:b=g'
       ·subst hp2
        by_cases hD:c=h'
        . subst hD;go_wp2_with fail;refine(HI.o _).mono ?_;rintro x w' ⟨rfl,rfl⟩;go_wp2_with fail;go_meet;exact⟨_,_,_,_,rfl,rfl,rfl,rfl,g8.o.1,g8.o.2,by trivial⟩
        ·have H3:(c == h')=false:=by simp[hD]
         go_wp2_with fail;refine(HI.o _).mono ?_;rintro x w' ⟨rfl,rfl⟩;go_wp2_with fail;go_roundw
         case rel=>exact⟨_,_,_,_,j+1,rfl,rfl,rfl,rfl,by simp,by omega,g8.o.1,fun _=>g8.o.2,by trivial⟩
         case measure=>simp[intOf];omega
       ·have H2:(b == g')=false:=by simp[hp2]
        go_wp2_with fail;refine(HI.o _).mono ?_;rintro x w' ⟨rfl,rfl⟩;go_wp2_with fail;go_roundw
        case rel=>exact⟨_,_,_,_,j+1,rfl,rfl,rfl,rfl,by simp,by omega,g8.o.1,fun _=>g8.o.2,by trivial⟩
        case measure=>simp[intOf];omega
      ·have H1:(a == f')=false:=by simp[hE]
       go_wp2_with fail;refine(HI.o _).mono ?_;rintro x w' ⟨rfl,rfl⟩;go_wp2_with fail;go_roundw
       case rel=>exact⟨_,_,_,_,j+1,rfl,rfl,rfl,rfl,by simp,by omega,g8.o.1,fun _=>g8.o.2,by trivial⟩
       case measure=>simp[intOf];omega
   ·obtain rfl:j=3:=by omega
    have HS:=Hd hS;have HN:=Hd (hn (by omega));clear hS hn;go_wp2_with fail;go_meet;exact⟨f',g',h',nt,rfl,rfl,rfl,rfl,HS.o,HN.o,rfl⟩
 case rest =>
  obtain⟨f',g',h',nt,rfl,rfl,rfl,rfl,hS,hn,rfl⟩:=hcut
  rename Wd=>w
  clear h8;obtain⟨s,gC⟩:=HM.o;obtain⟨c0,c1,c2,c3,c4,c5,f0⟩:=cells6 gC.blk;have cx:=HX.o.cell;have k9:=Hd (OB o s.me (K m.d V) 1 f' g' h' w gC.memo hb.o);have kf:=Hd gC;have HS:=Hd hS;have HN:=Hd hn;clear gC hS hn;go_wp2_with fail;refine k9.o.mono ?_;rintro x w1 ⟨kd,gj,gn,gf⟩;have h4:A8 (K m.d V) o w1 mb m s:=kf.o.setMemo hb.o gj (gn.mono fun r e=>.inl e);have hQ:=HX.o.chg gn;have kr:=Hd gn.any;have kp:=Hd h4;have kn:=Hd hQ;have kq:=Hd gf;have gN:Step K o w mb m V o w1 m V:=⟨⟨s,h4⟩,gf,gn.any,HK.o,Ext.refl _ _,rfl,rfl⟩;have h7:=Hd gN;clear gj gn gf h4 hQ gN;rcases kd with rfl|⟨r,rfl,hH⟩
  ·clear c0 c1 c2 c3 c4 c5 f0 cx;go_upto_region 14 with fail;obtain⟨w2,gB⟩:=Ex (w1.alloc (.cells #[Iv f',Iv g',Iv h'] 101));have hO:Bw w1 w2:=by rw[gB];exact Ah w1 _
   have hz:w2.heap[w1.heap.size]?=some (.cells #[Iv f',Iv g',Iv h'] 101 (0,0)):=by rw[gB];exact Vv w1 _
   have gD:Ar w2 (some (Av w1.heap.size)) ([f',g',h'].map Int.ofNat):=⟨by simp,fun j hj=>⟨w1.heap.size,0,rfl,by
    rw[Vt w2 w1.heap.size (0+j) _ _ _ hz];simp at hj
    match j,hj with
    | 0,_=>rfl
    | 1,_=>rfl
    | 2,_=>rfl⟩⟩
   have gd:=h7.o.below hO;have hP:=HX.o.chg gd.chg;have h5:Hq (Cl 169 #[Pt xb,.slice (some (Av w1.heap.size)) 3 3] w2 fun x w'=>∃ top least,x=.returned (Iv top)/\TopS m.d [f',g',h'] top least/\Bw w2 w') :=
    Hd (KC gd.is gd.lt hP HK.o [f',g',h'] (by simp;exact⟨HS.o.okF,HS.o.okG,HS.o.okH⟩) (some (Av w1.heap.size)) 3 gD)
   have h6:=Hd gd;have hU:=Hd gB;clear hO hz gD gd hP gB;go_wp2_with fail;rw[<- hU.o];refine h5.o.mono ?_;rintro x w3 ⟨top,least,rfl,gJ,hN⟩;obtain⟨v,rfl,hv,gl,kb⟩:=top3 HK.o HS.o.okF HN.o gJ;have k6:=Hd (h6.o.below hN);have HV:=Hd hv;have hW:=Hd gl;obtain⟨k',gX⟩:∃ k',k=k'+1:=⟨k-1,by have h1:=hY.o;have h2:=HS.o.lev;omega⟩;have hX:=Hd (IH k' gX);have cf:=BY HK.o HS.o.okF hv (by rw[gl];unfold minL;omega);have cg:=BY HK.o HS.o.okG hv (by rw[gl];unfold minL;omega);have ch:=BY HK.o HS.o.okH hv (by rw[gl];unfold minL;omega);have gf:levN m.d v+1<=minL m.d (cofs m.d f' v).1 (cofs m.d g' v).1 (cofs m.d h' v).1:=Ig cf.2.2.1 cg.2.2.1 ch.2.2.1;have hG:levN m.d v+1<=minL m.d (cofs m.d f' v).2 (cofs m.d g' v).2 (cofs m.d h' v).2:=Ig cf.2.2.2.1 cg.2.2.2.1 ch.2.2.2.1;have hJ:m.d.vars.length<=levN m.d v+1+k':=by have h1:=hY.o;have h2:=HS.o.lev;omega
   have gw:=Hd cf;have gv:=Hd cg;have gu:=Hd ch;have ho:=Hd gf;have hd:=Hd hG;have ht:=Hd hJ;have HKK:=Hd gX;have h9:Hq (∀ (W:Wd) (e:Nat),okE (Aa m.d) e->Step K o w mb m V o W m V->Cl 170 #[Pt xb,Iv e,Iv v] W fun x w'=>x=.returned (.tuple #[Iv (cofs m.d e v).1,Iv (cofs m.d e v).2])/\Step K o w mb m V o w' m V) :=
    Hd fun W e he st=>(KA st.is st.lt (HX.o.chg st.chg) HK.o e he v).mono fun x w' ⟨h1,h2⟩=>⟨h1,st.below h2⟩
   clear gJ hN hv gl kb cf cg ch gf hG hJ gX h5 hU h6;go_wp2_with fail;refine(h9.o _ _ HS.o.okF k6.o).mono ?_;rintro x w4 ⟨rfl,gM⟩;have k5:=Hd gM;clear gM;go_wp2_with fail;refine(h9.o _ _ HS.o.okG k5.o).mono ?_;rintro x w5 ⟨rfl,gL⟩;have k4:=Hd gL;clear gL;go_wp2_with fail;refine(h9.o _ _ HS.o.okH k4.o).mono ?_;rintro x w6 ⟨rfl,gK⟩;have ga:=Hd gK;clear gK;go_wp2_with fail;refine(hX.o o w6 xb mb m V _ _ _ ga.o.is ga.o.lt (HX.o.chg ga.o.chg) HK.o gw.o.1 gv.o.1 gu.o.1 (by have h1:=ht.o;have h2:=ho.o;omega)).mono ?_;have gH:Hq (2^k=2^k'+2^k'):=by show _=_;rw[HKK.o,WZ];omega
   have ha:Hq (1<=2^k'):=Hd Nat.one_le_two_pow;rintro x w7 ⟨o7,m7,V7,st7,(⟨lo,rfl,hF,g5,gi⟩|⟨rfl,g5,gQ,gi⟩|⟨ev,rfl,g5⟩)⟩
   ·have g2:=Hd (ga.o.trans st7);have gI:=Hd st7.ok;have g7:=Hd st7.ext;have gr:=Hd hF;have ge:=Hd g5;have gA:=Hd gi;have hI:m7.d.vars.length<=minL m7.d (cofs m.d f' v).2 (cofs m.d g' v).2 (cofs m.d h' v).2+k':=by
     rw[st7.ext.minL HK.o st7.ok gw.o.2.1 gv.o.2.1 gu.o.2.1,st7.ext.vars];have h1:=ht.o;have h2:=hd.o;omega
    have ki:=Hd hI;clear st7 hF g5 gi hI;go_wp2_with fail;refine(hX.o o7 w7 xb mb m7 V7 _ _ _ g2.o.is g2.o.lt (HX.o.chg g2.o.chg) gI.o (g7.o.ok gw.o.2.1) (g7.o.ok gv.o.2.1) (g7.o.ok gu.o.2.1) ki.o).mono ?_;rintro x w8 ⟨o8,m8,V8,st8,(⟨hi,rfl,gZ,g4,gh⟩|⟨rfl,g4,gP,gh⟩|⟨ev,rfl,g4⟩)⟩
    ·have g1:=Hd (g2.o.trans st8);have hp:=Hd st8.ok;have g6:=Hd st8.ext;have hr:=Hd gZ;have gz:=Hd g4;have hc:=Hd gh;have hT:=KD hq.o g1.o.is g1.o.lt (HX.o.chg g1.o.chg) st8.ok v lo hi (st8.ext.ok gr.o.okR) gZ.okR;have kg:=Hd hT;clear st8 gZ g4 gh hT;go_wp2_with fail;refine kg.o.mono ?_;have gU:levN m8.d v<lvE m8.d.vars.length (levN m8.d) (Aa m8.d) lo:=by
      have e1:=g6.o.lvE (n:=m8.d.vars.length) gr.o.okR gI.o.dag.none0 hp.o.dag.none0;have e2:=gr.o.lev;have e3:=g7.o.minL HK.o gI.o gw.o.1 gv.o.1 gu.o.1;have e4:=ho.o;have e5:=g7.o.lev;have e6:=g6.o.lev;have e7:=g6.o.vars;rw[e1,e6,e5,e7];rw[e5] at e2;omega
     have gY:levN m8.d v<lvE m8.d.vars.length (levN m8.d) (Aa m8.d) hi:=by
      have e2:=hr.o.lev;have x78:=g7.o.trans g6.o;have e3:=x78.minL HK.o hp.o gw.o.2.1 gv.o.2.1 gu.o.2.1;have e4:=hd.o;have e5:=x78.lev;rw[e5] at e2 ⊢;omega
     have hA:v<m8.d.vars.length:=by rw[(g7.o.trans g6.o).vars];exact HV.o
     have h0:∀ er,Ds m8.d v lo hi er->er=7/\m8.d.pool.many=m8.d.pool.room:=by
      rintro er (⟨_,h1⟩|⟨_,_,_,h1⟩|h1)
      . exact absurd ⟨by omega,by omega⟩ h1
      . simp only[Int.toNat_natCast] at h1;omega
      . exact h1
     have kl:=Hd gU;have km:=Hd gY;have ko:=Hd hA;have ka:=Hd h0;clear gU gY hA h0;rintro x w9 ⟨o9,m9,V9,st9,(⟨ev,hy,_,_,gG,h3,rfl⟩|⟨gg,_,_,(⟨er,hL,gG,h3,rfl⟩|⟨_,_,r,rfl,hC,hB,gS,k0⟩)⟩)⟩
     . have g0:=Hd (g1.o.trans st9);have ke:=Hd hy;clear st9 hy gG h3;unfold AV;go_wp2_with fail;exact⟨rfl,o9,m9,V9,g0.o,.inr (.inr ⟨ev,rfl,by rw[<- ge.o,<- gz.o];exact ke.o⟩)⟩
     . have g0:=Hd (g1.o.trans st9);obtain⟨rfl,gE⟩:=ka.o er hL;have hw:=Hd gE;have hZ:=Hd gG;have gy:=Hd gg;clear st9 hL gG h3 gg gE;unfold AV;go_wp2_with fail;exact⟨rfl,o9,m9,V9,g0.o,.inr (.inl ⟨rfl,by rw[gy.o,gz.o,ge.o],by rw[hZ.o];exact hw.o,by rw[hZ.o];have a1:=gA.o;have a2:=hc.o;have a3:=gH.o;have a4:=ha.o;omega⟩)⟩
     ·have g9:=g1.o.trans st9;have x09:=g9.ext;have gc:=st9.ok;have x79:=g6.o.trans st9.ext;have a0:=HK.o.dag.none0;have a9:=gc.dag.none0;have g3:IteP m9.d V9 f' g' h' r:=by
       refine⟨x09.ok HS.o.okF,x09.ok HS.o.okG,x09.ok HS.o.okH,hC,fun ρ=>?_,?_⟩
       ·refine PK (lo:=lo) (hi:=hi) (v:=v) gc (x09.ok HS.o.okF) (x09.ok HS.o.okG) (x09.ok HS.o.okH) (by rw[x09.vars];exact HV.o) (by rw[x09.lev,x09.minL HK.o gc HS.o.okF HS.o.okG HS.o.okH,hW.o];exact Vu _) ?_ ?_ ?_ ρ
        . intro ρ;rw[DY x09 a0 a9 HS.o.okF,DY x09 a0 a9 HS.o.okG,DY x09 a0 a9 HS.o.okH];exact(gr.o.ext x79 gI.o gc).val ρ
        . intro ρ;rw[DY x09 a0 a9 HS.o.okF,DY x09 a0 a9 HS.o.okG,DY x09 a0 a9 HS.o.okH];exact(hr.o.ext st9.ext hp.o gc).val ρ
        . rw[hB,st9.ext.ef hr.o.okR,st9.ext.ef (g6.o.ok gr.o.okR)];rfl
       . rw[x09.minL HK.o gc HS.o.okF HS.o.okG HS.o.okH,<- hW.o];have e1:=(g7.o.trans g6.o).lev;have e2:=(g7.o.trans g6.o).vars;rw[e1,e2] at gS;rw[x09.vars];exact gS
      have hu:=Hd ((HS.o.ext x09 HK.o gc HF.o HG.o HH.o).answer (x09.ok HF.o) (x09.ok HG.o) (x09.ok HH.o) g3.okR g3.lev g3.val);obtain⟨s9,gk⟩:=g9.is;have k7:=Hd (OM o9 s9.me (K m9.d V9) 1 f' g' h' r w9 gk.memo g9.lt ((hq.o.ite _ _ _ _ _ _).2 g3));have gR:r<eMax:=by
       obtain⟨ss,kc⟩:=gk.store;have:=kc.edge_lt g3.okR;unfold eMax;omega
      have gt:=Hd (fun W:Wd=>Cw r nt W gR);obtain⟨c0,c1,c2,c3,c4,c5,f0⟩:=cells6 gk.blk;have cx:=(HX.o.chg g9.chg).cell;have kh:=Hd gk;have g0:=Hd g9;have gy:=Hd (gg.trans (gz.o.trans ge.o));have k8:Hq (m9.d.pool.many+1<=m.d.pool.many+2^k):=Hd (by have a1:=gA.o;have a2:=hc.o;have a3:=gH.o;omega);clear st9 g9 x09 gc x79 a0 a9 g3 gk gR gg hC hB gS k0;go_wp2_with fail;refine k7.o.mono ?_;rintro x w10 ⟨rfl,o10,gj,gx,gV⟩;have k3:Hq (Step K o w mb m V o10 w10 m9 V9):=Hd ⟨⟨s9,kh.o.setMemo g0.o.lt gj gx⟩,gV,g0.o.chg.trans gx.any,g0.o.ok,g0.o.ext,g0.o.hs,g0.o.next⟩;clear gj gx gV c0 c1 c2 c3 c4 c5 f0 cx;go_wp2_with fail;refine(gt.o _).mono ?_;rintro x w' ⟨rfl,rfl⟩;go_wp2_with fail;go_ret;exact⟨o10,m9,V9,k3.o,.inl ⟨_,rfl,hu.o,gy.o,k8.o⟩⟩
    . have g1:=Hd (g2.o.trans st8);have HQ:Hq (m8.waits=m.waits/\m8.d.pool.many=m8.d.pool.room/\m8.d.pool.many+2<=m.d.pool.many+2^k):=Hd ⟨g4.trans ge.o,gP,by have a1:=gA.o;have a3:=gH.o;have a4:=ha.o;omega⟩;clear st8 g4 gP gh;unfold AV;go_wp2_with fail;exact⟨rfl,o8,m8,V8,g1.o,.inr (.inl ⟨rfl,HQ.o.1,HQ.o.2.1,HQ.o.2.2⟩)⟩
    . have g1:=Hd (g2.o.trans st8);have HQ:=Hd g4;clear st8 g4;unfold AV;go_wp2_with fail;exact⟨rfl,o8,m8,V8,g1.o,.inr (.inr ⟨ev,rfl,by rw[<- ge.o];exact HQ.o⟩)⟩
   . have g2:=Hd (ga.o.trans st7);have HQ:Hq (m7.waits=m.waits/\m7.d.pool.many=m7.d.pool.room/\m7.d.pool.many+2<=m.d.pool.many+2^k):=Hd ⟨g5,gQ,by have a3:=gH.o;have a4:=ha.o;omega⟩;clear st7 g5 gQ gi;unfold AV;go_wp2_with fail;exact⟨rfl,o7,m7,V7,g2.o,.inr (.inl ⟨rfl,HQ.o.1,HQ.o.2.1,HQ.o.2.2⟩)⟩
   . have g2:=Hd (ga.o.trans st7);have HQ:=Hd g5;clear st7 g5;unfold AV;go_wp2_with fail;exact⟨rfl,o7,m7,V7,g2.o,.inr (.inr ⟨ev,rfl,HQ.o⟩)⟩
  . have g3:IteP m.d V f' g' h' r:=(hq.o.ite _ _ _ _ _ _).1 hH;have hu:=Hd (HS.o.answer HF.o HG.o HH.o g3.okR g3.lev g3.val);have gt:=Hd (fun W:Wd=>Cw r nt W (gq.o _ g3.okR));clear hH g3 c0 c1 c2 c3 c4 c5 f0 cx;go_wp2_with fail;refine(gt.o _).mono ?_;rintro x w' ⟨rfl,rfl⟩;go_wp2_with fail;go_ret;exact⟨o,m,V,h7.o,.inl ⟨_,rfl,hu.o,rfl,by have:=Nat.one_le_two_pow (n:=k);omega⟩⟩
theorem PM (hK:AO K):∀ k,Ih K k:=by
 intro k
 induction k with
 | zero=>exact KG hK 0 (fun k' e=>absurd e (by omega))
 | succ k ih =>
   refine KG hK (k+1) (fun k' e=>?_);have e2:k'=k:=by omega
   rw[e2];exact ih
structure Caught (sb:Nat)(er:Int)(evt:Bool)(ev:Ev)(w w':Wd):Prop where
 size:w.heap.size<=w'.heap.size
 os:w'.os=w.os
 tape:w'.tape=w.tape
 output:w'.output=w.output
 keep:∀ k,k<w.heap.size->k≠sb->w'.heap[k]?=w.heap[k]?
 blk:w'.heap[sb]?=some (.cells #[Iv er,.bool evt,Iv ev.after,Iv ev.kind,Iv ev.level] 235 (0,0))
theorem KH {er:Int}{evt:Bool}{a0 a1 a2 a3 a4:Value}(hs:w.heap[sb]?=some (.cells #[a0,a1,a2,a3,a4] 235 (0,0)))(ob:Obj) :
 Caught sb er evt ev w ((((((w.setCell (Av sb) (Iv er)).setCell (Aw sb 1) (.bool evt)).setCell (Aw sb 2) (Iv ev.after)).setCell (Aw sb 3) (Iv ev.kind)).setCell (Aw sb 4) (Iv ev.level)).alloc ob):=by
 have w1:=(Wr.refl (· = sb) w).setCell (p:=Av sb) (.inl rfl) (Iv er);have h1:(w.setCell (Av sb) (Iv er)).heap[sb]?=some (.cells #[Iv er,a1,a2,a3,a4] 235 (0,0)):=A2 hs _
 generalize w.setCell (Av sb) (Iv er)=W1 at *
 have w2:=w1.setCell (p:=Aw sb 1) (.inl rfl) (.bool evt);have h2:(W1.setCell (Aw sb 1) (.bool evt)).heap[sb]?=some (.cells #[Iv er,.bool evt,a2,a3,a4] 235 (0,0)):=A2 h1 _
 generalize W1.setCell (Aw sb 1) (.bool evt)=W2 at *
 have w3:=w2.setCell (p:=Aw sb 2) (.inl rfl) (Iv ev.after);have h3:(W2.setCell (Aw sb 2) (Iv ev.after)).heap[sb]?=some (.cells #[Iv er,.bool evt,Iv ev.after,a3,a4] 235 (0,0)):=A2 h2 _
 generalize W2.setCell (Aw sb 2) (Iv ev.after)=W3 at *
 have w4:=w3.setCell (p:=Aw sb 3) (.inl rfl) (Iv ev.kind);have h4:(W3.setCell (Aw sb 3) (Iv ev.kind)).heap[sb]?=some (.cells #[Iv er,.bool evt,Iv ev.after,Iv ev.kind,a4] 235 (0,0)):=A2 h3 _
 generalize W3.setCell (Aw sb 3) (Iv ev.kind)=W4 at *
 have w5:=w4.setCell (p:=Aw sb 4) (.inl rfl) (Iv ev.level);have h5:(W4.setCell (Aw sb 4) (Iv ev.level)).heap[sb]?=some (.cells #[Iv er,.bool evt,Iv ev.after,Iv ev.kind,Iv ev.level] 235 (0,0)):=A2 h4 _
 generalize W4.setCell (Aw sb 4) (Iv ev.level)=W5 at *
 have w6:=w5.alloc ob;exact⟨w6.size,w6.os,w6.tape,w6.output,fun k hk g0=>w6.keep k hk g0,(VL _ _ (Vr.1 h5).1).trans h5⟩
theorem PN (v:Value)(w:Wd):(Instr.typeAssert (.iface 235 v) 20 235 true).run prog w=.ok (.tuple #[v,.bool true]) w:=by
 simp[Instr.typeAssert,We underlying235,go_sem,Result.andThen]
theorem PO (dn st:Addr)(w:Wd)(hd:w.cell? dn=some (.bool true)) :
 CallsD prog 263 #[.pointer (some dn),.pointer (some st)] .returning w fun e u' w'=>e=.returned (.tuple #[])/\u'=.returning/\w'=w:=by
 refine callsD_of_wpS func263 rfl fun c₀ cs hu=>?_
 apply wpS_seq;apply wpS_seq;apply wpS_region;simp[wpOpsS,go_sem,hd,ntmps263,Exit.thenS];refine wpS_cond (t:=true) (by simp[Act.eval,Array.replicate]) ?_;simp only[Wy];refine wpS_of_wp (wp_ret ?_);cases c₀
 simp_all [Exit.thenS,bodyPostS,results,Tryz.results263]
abbrev Xc:=@Array.replicate_succ
abbrev Xd:=@Array.replicate_zero
abbrev Xu:=@List.push_toArray
abbrev Xk:=@List.append_toArray
abbrev Xr:=@List.cons_append
abbrev X7:=@Bool.false_eq_true
theorem PQ (dn sb:Nat)(er:Int)(evt:Bool)(ev:Ev)(older:List PanicEntry)(w:Wd)(a0 a1 a2 a3 a4:Value)(hd:w.cell? (Av dn)=some (.bool false))(hs:w.heap[sb]?=some (.cells #[a0,a1,a2,a3,a4] 235 (0,0))) :
 CallsD prog 263 #[Pt dn,Pt sb] (.panicking ({ v:=.iface 235 (.agg #[Iv er,.bool evt,Iv ev.after,Iv ev.kind,Iv ev.level]),recovered:=false }::older)) w fun e u' w' =>
  e=.returned (.tuple #[])/\u'=.panicking ({ v:=.iface 235 (.agg #[Iv er,.bool evt,Iv ev.after,Iv ev.kind,Iv ev.level]),recovered:=true }::older) /\
  Caught sb er evt ev w w':=by
 refine callsD_of_wpS func263 rfl fun c₀ cs hu=>?_
 simp only[ntmps263,WR,VO,WN,Nat.reduceAdd,Nat.reduceSub,Xc,Xd,Xu,Xk,Ws,Xr];apply wpS_seq;apply wpS_seq;apply wpS_region;simp[wpOpsS,go_sem,hd,Exit.thenS];refine wpS_cond (t:=false) (by simp[Act.eval]) ?_;simp only[X7,if_false];refine wpS_of_wp (wp_skip ?_);simp only[Exit.thenS];apply wpS_seq;apply wpS_region;simp[wpOpsS,go_sem,recoverD,hu,Exit.thenS];have lsb:sb<w.heap.size:=(Vr.1 hs).1;obtain⟨c0,c1,c2,c3,c4,f0⟩:=cells5 hs;refine wpS_of_wp (wp_mono (Q:=fun e a' w'=>e=.normal/\a'.defers=[]/\Caught sb er evt ev w w') ?_ ?_)
 ·have HS:=Hd hs;have g0:=fun v=>PN v w
  clear hs;go_wp2_with fail
  first|exact⟨rfl,rfl,KH HS.o _⟩|exact KH HS.o _
 . rintro e a' w' ⟨rfl,h1,h2⟩;refine⟨h1,_,rfl,_,WC rfl _ _ _,?_⟩;exact⟨rfl,rfl,h2⟩
abbrev Stop:=Int×Bool×Ev
def Ii (r:Option Stop):Value :=
 match r with
 | some (er,evt,ev)=>.agg #[.int .i64 er,.bool evt,.int .i64 ev.after,.int .i64 ev.kind,.int .i64 ev.level]
 | none=>.agg #[.int .i64 0,.bool false,.int .i64 0,.int .i64 0,.int .i64 0]
def tryW (mb:Nat)(w:Wd):Wd :=
 ((w.alloc (.cells #[Iv 0,.bool false,Iv 0,Iv 0,Iv 0] 235)).alloc (.cells #[.bool false] 4)).alloc (.cells #[Pt mb] 233)
def PR (w:Wd)(R:Option Stop->Wd->Prop)(x:Ending)(w':Wd):Prop :=
 ∃ r W',R r W'/\Wr (fun k=>k=w.heap.size\/k=w.heap.size+1) W' w'/\x=.returned (.tuple #[Ii r,.bool r.isNone])
def EJ (gf:Nat)(lb:Array Value)(mb:Nat)(w:Wd)(R:Option Stop->Wd->Prop):Prop :=
 Calls prog gf (#[Pt (w.heap.size+2)]++lb) (tryW mb w) fun e W' =>
  (tryW mb w).heap.size<=W'.heap.size/\W'.heap[w.heap.size]?=(tryW mb w).heap[w.heap.size]?/\W'.heap[w.heap.size+1]?=(tryW mb w).heap[w.heap.size+1]? /\
   ((e=.returned (.tuple #[])/\R none W')\/∃ er evt ev,e=AV er evt ev/\R (some (er,evt,ev)) W')
theorem PS {s:Nat}(h0:W.heap[s]?=some (.cells #[Iv 0,.bool false,Iv 0,Iv 0,Iv 0] 235 (0,0)))(h1:W.heap[s+1]?=some (.cells #[.bool false] 4 (0,0))){W2:Wd}
 (hW:W2=(((((W.setCell (Av s) (Iv 0)).setCell (Aw s 1) (.bool false)).setCell (Aw s 2) (Iv 0)).setCell (Aw s 3) (Iv 0)).setCell (Aw s 4) (Iv 0)).setCell (Av (s+1)) (.bool true)) :
 Wr (fun k=>k=s\/k=s+1) W W2/\W2.heap[s]?=some (.cells #[Iv 0,.bool false,Iv 0,Iv 0,Iv 0] 235 (0,0))/\W2.heap[s+1]?=some (.cells #[.bool true] 4 (0,0)):=by
 have n1:s+1≠s:=by omega
 have w1:=(Wr.refl (fun k=>k=s\/k=s+1) W).setCell (p:=Av s) (.inl (.inl rfl)) (Iv 0);have a1:(W.setCell (Av s) (Iv 0)).heap[s]?=some (.cells #[Iv 0,.bool false,Iv 0,Iv 0,Iv 0] 235 (0,0)):=A2 h0 _;have b1:=(Ay (p:=Av s) (w:=W) n1 (Iv 0)).trans h1
 generalize W.setCell (Av s) (Iv 0)=W1 at *
 have w2:=w1.setCell (p:=Aw s 1) (.inl (.inl rfl)) (.bool false);have a2:(W1.setCell (Aw s 1) (.bool false)).heap[s]?=some (.cells #[Iv 0,.bool false,Iv 0,Iv 0,Iv 0] 235 (0,0)):=A2 a1 _;have b2:=(Ay (p:=Aw s 1) (w:=W1) n1 (.bool false)).trans b1
 generalize W1.setCell (Aw s 1) (.bool false)=W3 at *
 have w3:=w2.setCell (p:=Aw s 2) (.inl (.inl rfl)) (Iv 0);have a3:(W3.setCell (Aw s 2) (Iv 0)).heap[s]?=some (.cells #[Iv 0,.bool false,Iv 0,Iv 0,Iv 0] 235 (0,0)):=A2 a2 _;have b3:=(Ay (p:=Aw s 2) (w:=W3) n1 (Iv 0)).trans b2
 generalize W3.setCell (Aw s 2) (Iv 0)=W4 at *
 have w4:=w3.setCell (p:=Aw s 3) (.inl (.inl rfl)) (Iv 0);have a4:(W4.setCell (Aw s 3) (Iv 0)).heap[s]?=some (.cells #[Iv 0,.bool false,Iv 0,Iv 0,Iv 0] 235 (0,0)):=A2 a3 _;have b4:=(Ay (p:=Aw s 3) (w:=W4) n1 (Iv 0)).trans b3
 generalize W4.setCell (Aw s 3) (Iv 0)=W5 at *
 have w5:=w4.setCell (p:=Aw s 4) (.inl (.inl rfl)) (Iv 0);have a5:(W5.setCell (Aw s 4) (Iv 0)).heap[s]?=some (.cells #[Iv 0,.bool false,Iv 0,Iv 0,Iv 0] 235 (0,0)):=A2 a4 _;have b5:=(Ay (p:=Aw s 4) (w:=W5) n1 (Iv 0)).trans b4
 generalize W5.setCell (Aw s 4) (Iv 0)=W6 at *
 subst hW;exact⟨w5.setCell (p:=(Av (s+1))) (.inl (.inr rfl)) _,(Ay (Wn n1) _).trans a5,A2 b5 _⟩
theorem PT (mb gf:Nat)(lb:Array Value)(w:Wd)(R:Option Stop->Wd->Prop)(eg:∀ args w,(callFunc gf args).run prog w=.ok (.enter gf args) w)(hop:EJ gf lb mb w R) :
 Cl 242 #[Pt mb,.func (.func gf) #[] lb] w (PR w R):=by
 have gg:∀ (fn:Fn) (first cap:Array Value) (w:Wd),(Instr.makeFunc fn first cap).run prog w=.ok (.func fn first cap) w:=fun _ _ _ _=>rfl
 unfold EJ at hop;obtain⟨W,hW⟩:=Ex (tryW mb w);have HW:Hq (_=W):=Hd hW.symm;rw[<- hW] at hop;have g8:=Hd hop;clear hop hW
 go_enter_defers func242,ntmps242
 go_wp2_with fail
 change Calls _ _ _ (tryW mb w) _
 have g4:(tryW mb w).heap[w.heap.size]?=some (.cells #[Iv 0,.bool false,Iv 0,Iv 0,Iv 0] 235 (0,0)):=by
  unfold tryW;exact(VL _ _ (by simp;omega)).trans ((VL _ _ (by simp)).trans (Vv w _))
 have g3:(tryW mb w).heap[w.heap.size+1]?=some (.cells #[.bool false] 4 (0,0)):=by
  unfold tryW;refine(VL _ _ (by simp)).trans ?_;have:=Vv (w.alloc (.cells #[Iv 0,.bool false,Iv 0,Iv 0,Iv 0] 235)) (.cells #[.bool false] 4)
  rwa [VK] at this
 rw[HW.o] at g4 g3 ⊢;have gc:W.heap.size=w.heap.size+3:=by rw[<- HW.o];simp[tryW]
 refine g8.o.mono ?_;rintro e W' ⟨gd,g7,g6,g5⟩;have g1:=g7.trans g4;have g0:=g6.trans g3;obtain⟨c0,c1,c2,c3,c4,f0⟩:=cells5 g1;have c5:W'.cell? (Av (w.heap.size+1))=some (.bool false):=by rw[Vt W' _ 0 _ _ _ g0];rfl
 have f1:∀ k,W'.frozen? ⟨w.heap.size+1,k,none⟩=false:=fun k=>by simp[World.frozen?,g0]
 obtain⟨s,hs⟩:=Ex w.heap.size;rw[<- hs] at g1 g0 c0 c1 c2 c3 c4 f0 c5 f1 ⊢;have hs1:s<W'.heap.size:=by omega
 have ge:s+1<W'.heap.size:=by omega
 have ga:=Hd g1;have g9:=Hd g0;have HS:=Hd hs;clear g4 g3 g7 g6 g1 g0 hs gc gd g8 HW;rcases g5 with ⟨rfl,hr⟩|⟨er,evt,ev,rfl,hr⟩
 ·have HR:=Hd hr;clear hr;go_wp2_with fail;obtain⟨W2,g2⟩:=Ex ((((((W'.setCell (Av s) (Iv 0)).setCell (Aw s 1) (.bool false)).setCell (Aw s 2) (Iv 0)).setCell (Aw s 3) (Iv 0)).setCell (Aw s 4) (Iv 0)).setCell (Av (s+1)) (.bool true));obtain⟨q1,q2,q3⟩:=PS ga.o g9.o g2;rw[<- g2];clear g2 c0 c1 c2 c3 c4 f0 c5 f1;obtain⟨c0,c1,c2,c3,c4,f0⟩:=cells5 q2;have c5:W2.cell? (Av (s+1))=some (.bool true):=by rw[Vt W2 _ 0 _ _ _ q3];rfl
  refine leaves_cons (f:=263) (args:=#[Pt (s+1),Pt s]) (by simp) (by simp[go_sem]) ?_;refine(PO (Av (s+1)) (Av s) _ c5).mono ?_;rintro e u' w'' ⟨rfl,rfl,rfl⟩;simp[Leaves,settle,results,Tryz.results242,go_sem,c0,c1,c2,c3,c4,c5];exact⟨none,W',HR.o,by rw[<- HS.o];exact q1,rfl⟩
 ·have HR:=Hd hr;clear hr;unfold AV;go_wp2_with fail;refine leaves_cons (f:=263) (args:=#[Pt (s+1),Pt s]) (by simp) (by simp[go_sem]) ?_;refine(PQ (s+1) s er evt ev [] _ _ _ _ _ _ c5 ga.o).mono ?_;rintro e u' w'' ⟨rfl,rfl,hc⟩;have q3:=(hc.keep (s+1) ge (by omega)).trans g9.o;clear c0 c1 c2 c3 c4 f0 c5 f1;obtain⟨c0,c1,c2,c3,c4,f0⟩:=cells5 hc.blk;have c5:w''.cell? (Av (s+1))=some (.bool false):=by rw[Vt w'' _ 0 _ _ _ q3];rfl
  simp[Leaves,settle,results,Tryz.results242,go_sem,c0,c1,c2,c3,c4,c5];exact⟨some (er,evt,ev),W',HR.o,⟨hc.os,hc.tape,hc.output,hc.size,fun k hk hn=>hc.keep k hk (fun e=>hn (.inl (e.trans HS.o)))⟩,rfl⟩
abbrev Ali (s:Nat)(W W':Wd):Prop:=Wr (fun k=>k=s\/k=s+1) W W'
structure PU (gf:Nat)(lb:Array Value)(mb:Nat)(I:Nat->Bool->Wd->Prop)(Fin:Int->Wd->Prop)(n:Nat)(room:Bool)(W:Wd)(R:Option Stop->Wd->Prop):Prop where
 op:EJ gf lb mb W R
 fin:∀ W1 W2,R none W1->Ali W.heap.size W1 W2->Fin 0 W2
 event:∀ er ev W1 W2,R (some (er,true,ev)) W1->Ali W.heap.size W1 W2->Cl 243 #[Pt mb,evA ev] W2 fun x w'=>x=.returned (.tuple #[])/\∃ n',n'<n/\I n' false w'
 full:∀ ev W1 W2,R (some (7,false,ev)) W1->Ali W.heap.size W1 W2->room=false->Cl 244 #[Pt mb] W2 fun x w'=>(∃ v,x=.returned v)/\I n true w'
 err:∀ er ev W1 W2,R (some (er,false,ev)) W1->Ali W.heap.size W1 W2->¬ (er=7/\room=false)->Fin er W2
theorem KI (mb gf:Nat)(lb:Array Value)(w:Wd)(eg:∀ args w,(callFunc gf args).run prog w=.ok (.enter gf args) w)(I:Nat->Bool->Wd->Prop)(Fin:Int->Wd->Prop)
 (hI:∀ n room W,I n room W->∃ R,PU gf lb mb I Fin n room W R) (n0:Nat) (h0:I n0 false w) :
 Cl 196 #[Pt mb,.func (.func gf) #[] lb] w fun x w'=>∃ er,x=.returned (Iv er)/\Fin er w':=by
 have HI:=Hd hI;clear hI
 go_enter func196,ntmps196
 go_wp2_with fail
 go_loopg [5] (2*n0+1) (fun gk s5 wx=>∃ (n:Nat) (room:Bool),s5=.bool room/\I n room wx/\gk=2*n+(if room then 0 else 1))
 case atStart=>exact⟨n0,false,rfl,h0,rfl⟩
 case round =>
  obtain⟨n,room,rfl,hi,g4⟩:=hrel;obtain⟨R,hR⟩:=HI.o n room wr hi;have g6:=Hd (PT mb gf lb wr R eg hR.op);have HR:=Hd hR;have g5:=Hd g4;clear hi hR g4 h0;go_wp2_with fail;refine g6.o.mono ?_;rintro x w2 ⟨r,W1,hr,hw,rfl⟩;obtain⟨bx,g8⟩:=Ex w2.heap.size;cases r with
  | none =>
    have HF:=Hd fun W2 (h:Wr (fun _=>False) w2 W2)=>HR.o.fin W1 W2 hr (hw.trans h (fun _ _ e=>e) (fun _ _ e=>e.elim))
    clear hr hw;unfold Ii;go_wp2_with fail;go_ret;exact⟨0,rfl,HF.o _ ((Wr.refl _ w2).alloc _)⟩
  | some st =>
    obtain⟨er,evt,ev⟩:=st;unfold Ii;cases evt with
    | true =>
      have HF:=Hd fun W2 (h:Wr (fun _=>False) w2 W2)=>HR.o.event er ev W1 W2 hr (hw.trans h (fun _ _ e=>e) (fun _ _ e=>e.elim))
      clear hr hw;go_wp2_with fail;refine(HF.o _ ((Wr.refl _ w2).alloc _)).mono ?_;rintro x w3 ⟨rfl,n',g3,g0⟩;have g7:=Hd g3;have g2:=Hd g0;clear g3 g0;go_wp2_with fail
      go_roundg (2*n'+1)
      case rel=>exact⟨n',false,rfl,g2.o,rfl⟩
      case measure=>have h1:=g7.o;have h2:=g5.o;omega
    | false =>
      have HW:=Hd fun W2 (h:Wr (fun _=>False) w2 W2)=>hw.trans h (N:=fun k=>k=wr.heap.size\/k=wr.heap.size+1) (fun _ _ e=>e) (fun _ _ e=>e.elim)
      have g1:=Hd hr;clear hr hw
      by_cases h7:er=7
      ·subst h7;cases room with
       | false =>
         have HF:=Hd fun W2 (h:Wr (fun _=>False) w2 W2)=>HR.o.full ev W1 W2 g1.o (HW.o W2 h) rfl
         go_wp2_with fail;refine(HF.o _ ((Wr.refl _ w2).alloc _)).mono ?_;rintro x w3 ⟨⟨vv,rfl⟩,g0⟩;have g2:=Hd g0;clear g0;go_wp2_with fail
         go_roundg (2*n)
         case rel=>exact⟨n,true,rfl,g2.o,rfl⟩
         case measure=>have h2:=g5.o;simp at h2;omega
       | true =>
         have HF:=Hd fun W2 (h:Wr (fun _=>False) w2 W2)=>HR.o.err 7 ev W1 W2 g1.o (HW.o W2 h) (by simp)
         go_wp2_with fail;go_ret;exact⟨_,rfl,HF.o _ ((Wr.refl _ w2).alloc _)⟩
      ·have H7:((er:Int) == 7)=false:=by simpa using h7
       have HF:=Hd fun W2 (h:Wr (fun _=>False) w2 W2)=>HR.o.err er ev W1 W2 g1.o (HW.o W2 h) (fun e=>h7 e.1)
       go_wp2_with fail;go_ret;exact⟨_,rfl,HF.o _ ((Wr.refl _ w2).alloc _)⟩
theorem KJ (hk:Ak d V):Acy (Aa d) (fun i=>d.vars.length-lvE d.vars.length (levN d) (Aa d) (2*i)):=by
 have e2:∀ i:Nat,2*i/2=i:=fun i=>by omega
 have hl:∀ i b,Aa d i=some b->lvE d.vars.length (levN d) (Aa d) (2*i)=levN d b.v:=fun i b h=>by unfold lvE;rw[e2,h]
 have hh:∀ e,lvE d.vars.length (levN d) (Aa d) (2*(e/2))=lvE d.vars.length (levN d) (Aa d) e:=fun e=>FF (e2 _)
 refine⟨hk.dag.none0,hk.dag.okLo,hk.dag.okHi,fun i b c h1 h2=>?_,fun i b c h1 h2=>?_⟩
 . have a1:=hk.dag.lvLo _ _ h1;have a2:=hk.dag.lt _ (hk.dag.var _ _ h1);have a3:=hh b.lo;rw[hl i b h1];omega
 . have a1:=hk.dag.lvHi _ _ h1;have a2:=hk.dag.lt _ (hk.dag.var _ _ h1);have a3:=hh b.hi;rw[hl i b h1];omega
theorem PV {o:Own}(h:Az o w sb d)(hlt:Ac o w)(hk:Ak d V)(f:Nat)(hf:okE (Aa d) f)(htop:∀ y b,Aa d y=some b->Aj d y<1099511627776) :
 Cl 227 #[Pt sb,Iv f] w fun x w'=>x=.returned (Iv 0)/\∃ d',Az o w' sb d'/\Ac o w'/\Dp d d' f 1/\Chg Al o o w w':=by
 obtain⟨s,h⟩:=h;have g0:=h.edge_lt hf;rcases hf with h0|⟨b,hb⟩
 . refine(Pp h hlt hk.live f (by unfold eMax;omega) h0).mono ?_;rintro e w' ⟨d',h1,h2,h3,h4,h5⟩;exact⟨h1,d',⟨s,h2⟩,h3,h4,h5⟩
 . refine(Pq h hlt hk.live (KJ hk) f (b:=b) hb htop).mono ?_;rintro e w' ⟨d',h1,h2,h3,h4,h5⟩;exact⟨h1,d',⟨s,h2⟩,h3,h4,h5⟩
theorem Dp.ok {sg:Int}(r:Dp d d' f sg)(hk:Ak d V):Ak d' V:=by
 have hl:levN d'=levN d:=by funext v;unfold levN;rw[r.level]
 exact⟨by rw[r.vars,hl,r.nodes];exact hk.dag,r.live,by rw[r.vars,r.nodes,r.tab];exact hk.tab,by rw[r.clen];exact hk.clen,by rw[r.vars];exact hk.small,by rw[r.vars,hl];exact hk.inv,by rw[r.vars,hl];exact hk.vlt⟩
abbrev WM:=@List.filter_append
theorem PW (hs:List (Int×Nat))(n:Int)(f i:Nat)(hn:1<n):AQ (hs++[(n,f)]) i=AQ hs i+(if f/2=i then 1 else 0):=by
 unfold AQ;rw[WM,Vx];congr 1
 by_cases e:f/2=i
 . simp[e,hn]
 ·have:(f/2 == i)=false:=by simp[e]
  simp[e,this,List.filter]
abbrev WD:=@List.length_filter_le
theorem PX (hs:List (Int×Nat))(i:Nat):AQ hs i<=hs.length:=WD _ _
structure Gave (K:Law)(o:Own)(w:Wd)(mb:Nat)(m:ManD)(V:Nat->BF)(f:Nat)(o':Own)(w':Wd)(m':ManD):Prop where
 is:AY (K m'.d V) o' w' mb m'
 lt:Ac o' w'
 chg:Chg (fun _=>True) o o' w w'
 ok:DV m' V
 hs:m'.hs=m.hs++[(m.next,f)]
 next:m'.next=m.next+1
 waits:m'.waits=m.waits
 calls:m'.calls=m.calls
 nodes:Aa m'.d=Aa m.d
 vars:m'.d.vars=m.d.vars
 level:m'.d.level=m.d.level
 room:m'.d.pool.room=m.d.pool.room
 many:m'.d.pool.many=m.d.pool.many
theorem PY (h:Cc m)(r:Dp m.d d' f 1)(hf:okE (Aa m.d) f)(h0:Aa m.d 0=none):Cc { m with d:=d',hs:=m.hs++[(m.next,f)],next:=m.next+1 }:=by
 have hn:=h.next
 refine⟨?_,by simp[h.zero],by simp[h.one],?_,by dsimp only;omega,?_,?_,?_⟩
 . dsimp only;rw[VU,Wh];refine⟨h.nodup,by simp,fun a ha b hb=>?_⟩;simp at hb;subst hb;rintro rfl;obtain⟨p,hp,e⟩:=VD.1 ha;have:=(h.lt p hp).2;omega
 ·intro p hp;rcases VF.1 hp with hp|hp
  . have:=h.lt p hp;dsimp only;omega
  . simp at hp;subst hp;dsimp only;omega
 ·intro p hp;dsimp only;rw[r.nodes];rcases VF.1 hp with hp|hp
  . exact h.ok p hp
  . simp at hp;subst hp;exact hf
 . have:=h.len;simp;omega
 ·intro i b hb;dsimp only at hb ⊢;rw[r.nodes] at hb;have hi:i≠0:=by rintro rfl;rw[h0] at hb;cases hb
  rw[r.ext i hi,h.refs i b hb,PW _ _ _ _ (by omega)];unfold toE;split<;>simp
theorem PZ {k:Int}{l:List (Int×Value)}(h:∀ p∈l,p.1≠k):putL k v l=l++[(k,v)]:=by
 have h1:=CV.2 h;unfold getL at h1;unfold putL;cases e:AE k l 0 with
 | none=>rfl
 | some p=>rw[e] at h1;cases h1
theorem A8.setMap {F:Phi}{o:Own}{s:ManW}(h:A8 F o w mb m s)(hlt:Ac o w){hs':List (Int×Nat)}(hm:A3 w' s.hb (Value.int .i64) (encH hs'))(hg:w.grownBy w' (some s.hb)):A8 F o w' mb { m with hs:=hs' } s:=by
 have k:∀ {g r},o g=some r->r ≠ .handles->w'.heap[g]?=w.heap[g]?:=fun hq hr=>hg.block _ (hlt _ _ hq) (fun e=>by cases e;have:=h.ownh;rw[hq] at this;cases this;exact hr rfl)
 exact⟨h.own,(k h.own (by simp)).trans h.blk,h.store.keepR (fun g r hq hr=>k hq (by rintro rfl;simp[Al,Br] at hr)) (fun _ _ h=>h),h.memo.keep (fun g r hq hr=>k hq (by rintro rfl;rcases hr with e|e<;>cases e)) (fun _ _ h=>h),h.ownh,hm,
  h.waits.keep (fun g hq=>k hq (by simp)) (fun _ h=>h)⟩
theorem kI:CT prog 3 (Value.int .i64):=Ke underlying3
theorem Ij (hK:AO K){o:Own}(hm:AY (K m.d V) o w mb m)(hlt:Ac o w)(hk:DV m V)(f:Nat)(hf:okE (Aa m.d) f)(hb:m.next<1099511627776) :
 Cl 161 #[Pt mb,Iv f] w fun x w'=>x=.returned (Iv m.next)/\∃ o' m',Gave K o w mb m V f o' w' m':=by
 obtain⟨s,hm⟩:=hm;obtain⟨c0,c1,c2,c3,c4,c5,f0⟩:=cells6 hm.blk
 have gh:=Hd (PV hm.store hlt hk.store f hf (fun y b hy=>by
  rw[hk.handles.refs y b hy];have h1:=PX m.hs y;have h2:=hk.handles.len;omega))
 have gl:=hk.handles.next
 have HM:=Hd hm;have HL:=Hd hlt;have HK:=Hd hk;have HF:=Hd hf;have ge:=Hd hK;clear hm hlt hk hf hK
 go_enter func161,ntmps161
 go_wp2_with fail;refine gh.o.mono ?_;rintro x w1 ⟨rfl,d',g8,ga,hr,g3⟩;have g5:=HM.o.setStore HL.o g8 g3;have g0:∀ p∈encH m.hs,p.1≠m.next:=by
  intro p hp e0;obtain⟨q,hq,rfl⟩:=VD.1 hp;have h1:=HK.o.handles.lt q hq;have h2:q.1<m.next:=h1.2
  have h3:q.1=m.next:=e0
  omega
 have gi:=Hd g0;have g7:=Hd g5;have gd:=Hd ga;have HR:=Hd hr;have gk:=Hd g3;clear g8 ga hr g3 g0 c0 c1 c2 c3 c4 c5 f0;obtain⟨c0,c1,c2,c3,c4,c5,f0⟩:=cells6 g5.blk;clear g5;go_upto_region 3 with fail
 go_wp2_with (refine Kf (l := encH m.hs) rfl _ _ _ rfl kI underlying98 m.next (Iv (f : Nat)) rfl rfl rfl g7.o.map ?_
              intro w2 g2 g1;have g9:Ac o w2:=gd.o.mono g1.size;rw[PZ gi.o] at g2;have g4:=g7.o.setMap gd.o (hs':=m.hs++[(m.next,f)]) (by simpa [encH] using g2) g1;have gc:Chg (fun _=>True) o o w w2:=gk.o.any.grown g1 (fun g hg=>by cases hg;exact⟨_,g7.o.ownh,trivial⟩);have g6:=Hd g4;have gg:=Hd g9;have gj:=Hd gc;clear c0 c1 c2 c3 c4 c5 f0 g2 g1 g9 gc;obtain⟨c0,c1,c2,c3,c4,c5,f0⟩:=cells6 g4.blk;clear g4)
 go_ret;have hr:=HR.o;have gf:A8 (K m.d V) o (w2.setCell (Aw mb 3) (Iv (m.next+1))) mb { m with d:=d',hs:=m.hs++[(m.next,f)],next:=m.next+1 } s:=g6.o.field rfl rfl rfl rfl rfl g6.o.waits rfl;refine⟨rfl,o,_,⟨⟨s,gf.mono fun op a b c r h=>ge.o.same _ _ _ _ _ _ _ _ hr.vars hr.level hr.nodes h⟩,gg.o.mono (by simp[World.setCell]),gj.o.setCell (p:=Aw mb 3) g6.o.own trivial _,⟨hr.ok HK.o.store,PY HK.o.handles hr HF.o HK.o.store.dag.none0⟩,rfl,rfl,rfl,rfl,hr.nodes,hr.vars,hr.level,hr.room,hr.many⟩⟩
def doW (gop:Nat)(lop:Array Value)(w:Wd):Wd:=(w.alloc (.cells #[.func (.func gop) #[] lop] 182)).alloc (.cells #[Iv 0] 101)
abbrev XS:=@enters_of
theorem Qa:∀ args w,(callFunc 197 args).run prog w=.ok (.enter 197 args) w:=XS func197 (by kernel_rfl) rfl
theorem Qb (w:Wd)(g:Fn)(fs cs:Array Value):(binOp .eql 182 (.func g fs cs) .nilFunc).run prog w=.ok (.bool false) w:=by
 have hd:Op.maxDepth=9999+1:=rfl;have h:(Op.equal 182 (.func g fs cs) .nilFunc).run prog w=.ok false w:=by
  unfold Op.equal;rw[hd];unfold Op.equalIn;simp only[WB,We underlying182,VZ];simp
 simp only[binOp];simp[h]
def varF (v:Nat):BF:=fun ρ=>ρ v
theorem Qc:∀ args w,(callFunc 144 args).run prog w=.ok (.enter 144 args) w:=XS func144 (by kernel_rfl) rfl
theorem KK (w:Wd):(zeroValue 101).run prog w=.ok (Iv 0) w:=by
 have s:(prog.info? 101).map (fun i=>i.zero)=some (some (Iv 0)):=by kernel_rfl
 cases hi:prog.info? 101 with
 | none=>rw[hi] at s;cases s
 | some i =>
   rw[hi] at s;simp only[WI,Wg] at s;simp[zeroValue,typeInfo,hi,s]
theorem DZ {hs:List (Int×Nat)}(h:(hs.map Prod.fst).Nodup):((encH hs).map Prod.fst).Nodup:=by
 have:(encH hs).map Prod.fst=hs.map Prod.fst:=by simp[encH]
 rw[this];exact h
section
variable {F:Phi}{o:Own}{s:ManW}
theorem Ea (h:A8 F o w mb m s)(hn:(m.hs.map Prod.fst).Nodup){k:Int}(hk:(k,f)∈m.hs) :
 (Instr.lookup 98 (.map (some s.hb)) (Iv k) true).run prog w=.ok (.tuple #[Iv f,.bool true]) w:=by
 have h1:=h.map.lookup kI underlying98 KK k true;have h2:getL (encH m.hs) k=some (Iv (f:Nat)):=D5 (DZ hn) (VD.2 ⟨(k,f),hk,rfl⟩);rw[h1,h2];rfl
theorem Qd (h:A8 F o w mb m s){k:Int}(hk:∀ f,(k,f)∉m.hs) :
 (Instr.lookup 98 (.map (some s.hb)) (Iv k) true).run prog w=.ok (.tuple #[Iv 0,.bool false]) w:=by
 have h1:=h.map.lookup kI underlying98 KK k true
 have h2:getL (encH m.hs) k=none:=CV.2 (by
  rintro p hp rfl;obtain⟨q,hq,rfl⟩:=VD.1 hp;exact hk q.2 hq)
 rw[h1,h2];rfl
end
theorem FG {F:Phi}{o:Own}(h:AY F o w mb m)(hx:BK o w xb mb)(hn:(m.hs.map Prod.fst).Nodup){k:Int}(hk:(k,f)∈m.hs) :
 Cl 148 #[Pt xb,Iv k] w (Sm (Iv f) w):=by
 obtain⟨s,h⟩:=h;obtain⟨c0,c1,c2,c3,c4,c5,f0⟩:=cells6 h.blk;have cx:=hx.cell;have hl:=Ea h hn hk;clear h hx hn hk
 go_enter func148,ntmps148
 go_wp2_with fail;go_ret;exact⟨rfl,rfl⟩
theorem Vo {F:Phi}{o:Own}(h:AY F o w mb m) :
 Cl 73 #[Pt mb] w (Sm (Iv m.hs.length) w):=by
 obtain⟨s,h⟩:=h;obtain⟨c0,c1,c2,c3,c4,c5,f0⟩:=cells6 h.blk;have hl:=h.map.size (P:=prog) underlying98 3;have e:(encH m.hs).length=m.hs.length:=by simp[encH]
 rw[e] at hl;clear h e
 go_enter func73,ntmps73
 go_wp2_with fail;go_ret;exact⟨rfl,rfl⟩
theorem Qe:∀ args w,(callFunc 146 args).run prog w=.ok (.enter 146 args) w:=XS func146 (by kernel_rfl) rfl
def box3 (a b c:Int)(w:Wd):Wd:=((w.alloc (.cells #[Iv a] 3)).alloc (.cells #[Iv b] 3)).alloc (.cells #[Iv c] 3)
theorem Qf (a b c:Int)(w:Wd):Bw w (box3 a b c w)/\(box3 a b c w).cell? (Av w.heap.size)=some (Iv a)/\(box3 a b c w).cell? (Av (w.heap.size+1))=some (Iv b)/\(box3 a b c w).cell? (Av (w.heap.size+2))=some (Iv c):=by
 have h0:=Vv w (.cells #[Iv a] 3);have h1:=Vv (w.alloc (.cells #[Iv a] 3)) (.cells #[Iv b] 3);have h2:=Vv ((w.alloc (.cells #[Iv a] 3)).alloc (.cells #[Iv b] 3)) (.cells #[Iv c] 3);rw[VK] at h1;rw[VK,VK] at h2;have a0:(box3 a b c w).heap[w.heap.size]?=some (.cells #[Iv a] 3 (0,0)):=(VL _ _ (by simp;omega)).trans ((VL _ _ (by simp)).trans h0);have a1:(box3 a b c w).heap[w.heap.size+1]?=some (.cells #[Iv b] 3 (0,0)):=(VL _ _ (by simp)).trans h1;have a2:(box3 a b c w).heap[w.heap.size+2]?=some (.cells #[Iv c] 3 (0,0)):=h2;exact⟨((Ah w _).alloc (by simp) _).alloc (by simp;omega) _,by rw[Vt _ _ 0 _ _ _ a0];rfl,by rw[Vt _ _ 0 _ _ _ a1];rfl,by rw[Vt _ _ 0 _ _ _ a2];rfl⟩
def man0 (n room:Nat):ManD:=⟨store0 n room,[(0,1),(1,0)],2,[],0⟩
theorem nodes0 (n room:Nat):Aa (store0 n room)=fun _=>none:=by
 funext i;have ht:(pool0 room).tk i=false:=by
  unfold Ad.tk pool0;cases i with
  | zero=>rfl
  | succ i=>rfl
 unfold Aa store0 Ad.get;simp[ht]
theorem Ik (n v:Nat)(h:v<n):(List.range n).getD v 0=v:=by simp[List.getD,h]
theorem Qg (n room:Nat)(hn:n<=64):Ak (store0 n room) (fun _ _=>true):=by
 have hl:∀ v,v<n->levN (store0 n room) v=v:=fun v hv=>Ik n v hv
 have g1:(store0 n room).vars.length=n:=by simp[store0]
 have g0:∀ i b,Aa (store0 n room) i=some b->False:=fun i b h=>by rw[nodes0] at h;cases h
 refine⟨⟨fun _=>rfl,by rw[nodes0],fun i b h=>(g0 i b h).elim,fun u v hu hv e=>?_,fun v hv=>?_,fun i b h=>(g0 i b h).elim,fun i b h=>(g0 i b h).elim,fun i b h=>(g0 i b h).elim,fun i b h=>(g0 i b h).elim,fun i b h=>(g0 i b h).elim,fun i b h=>(g0 i b h).elim,fun i j b h=>(g0 i b h).elim,fun i b h=>(g0 i b h).elim⟩,
  ?_,fun v hv lo hi id=>⟨fun h=>absurd (show (none:Option Nat)=some id from h) (by simp),fun h=>(g0 _ _ h).elim⟩,by simp[store0],by rw[g1];exact hn,fun v hv=>?_,fun i hi=>?_⟩
 . rw[g1] at hu hv;rw[hl u hu,hl v hv] at e;exact e
 . rw[g1] at hv ⊢;rw[hl v hv];exact hv
 ·refine⟨⟨fun i b h=>(g0 i b h).elim,fun i b h=>(g0 i b h).elim⟩,?_,fun i b h=>(g0 i b h).elim⟩;have h1:Ba (store0 n room).pool.at_.length (Aa (store0 n room)) (Ai (store0 n room))=Ag (store0 n room).pool.at_.length (dead1 (Aa (store0 n room)) (Ai (store0 n room))):=rfl;rw[h1,nodes0];have h2:dead1 (fun _=>none) (Ai (store0 n room)) 0=0:=rfl
  show (0:Int)=Ag 1 _
  simp[Ag,h2]
 . rw[g1] at hv;rw[hl v hv];exact Ik n v hv
 . rw[g1] at hi ⊢;have e:(store0 n room).vars.getD i 0=i:=Ik n i hi;rw[e];exact⟨hi,hl i hi⟩
theorem Qh (n room:Nat)(hn:n<=64):DV (man0 n room) (fun _ _=>true) :=
 ⟨Qg n room hn,⟨by simp[man0],by simp[man0],by simp[man0],by simp[man0],by simp[man0],fun p hp=>by simp[man0] at hp;rcases hp with rfl|rfl<;>exact .inl rfl,by simp[man0],fun i b h=>by rw[show (man0 n room).d=store0 n room from rfl,nodes0] at h;cases h⟩⟩
def Il:Law:=fun d V op a b c r=>op=1->IteP d V a b c r
theorem DA:AO Il:=⟨fun d V a b c r=>⟨fun h=>h rfl,fun h _=>h⟩,fun d V d' V' op a b c r hk hk' x h e=>(h e).ext x hk hk',fun d d' V op a b c r h1 h2 h3 h e=>by
 have q:=h e;have hl:levN d'=levN d:=by funext v;unfold levN;rw[h2]
 have hm:minL d' a b c=minL d a b c:=by unfold minL;rw[h1,hl,h3]
 exact⟨by rw[h3];exact q.okA,by rw[h3];exact q.okB,by rw[h3];exact q.okC,by rw[h3];exact q.okR,q.val,by rw[hm,h1,hl,h3];exact q.lev⟩⟩
theorem Qi {F:Phi}(o:Own)(n room:Nat)(w:Wd)(hlt:Ac o w)(hn:n<=64)(h1:1<=room)(h2:room<=1048576) :
 Cl 39 #[Iv n,Iv room] w fun x w'=>∃ mb o',x=.returned (.tuple #[Pt mb,Iv 0])/\AY F o' w' mb (man0 n room)/\Chg (fun _=>True) o o' w w'/\Ac o' w'/\w.heap.size<=mb:=by
 have HS:=Hd (PB o n room w hlt hn h1 h2);clear hlt hn h1 h2
 go_enter func39,ntmps39
 go_wp2_with fail;refine HS.o.mono ?_;rintro x w1 ⟨sb,o1,rfl,gf,gl,gi,gt⟩;have go:=Hd gf;have gr:=Hd gl;have g3:=Hd gi;clear gf gl gi;have gw:=EC (P:=prog) w1 98;obtain⟨wA,gv,gh,g2⟩:=(F7 w1 (Value.int .i64)).update (P:=prog) kI underlying98 0 (Iv 1);obtain⟨wB,gu,gc,g6⟩:=gh.update (P:=prog) kI underlying98 1 (Iv 0);have gj:=g3.o.allocR (.map #[] 0) .handles;have gk:Chg (fun _=>True) o (AI o1 w1.heap.size .handles) w wB :=
  ((gr.o.any.allocR (r:=.handles) g3.o (.map #[] 0) trivial).grown g2 (fun g hg=>by cases hg;exact⟨_,B0 _ _ _,trivial⟩)).grown g6 (fun g hg=>by cases hg;exact⟨_,B0 _ _ _,trivial⟩)
 have gd:Ac (AI o1 w1.heap.size .handles) wB:=gj.mono (Vy g2.size g6.size);have ga:∀ g r,o1 g=some r->g≠w1.heap.size:=fun g r hg e=>by have:=g3.o g r hg;omega
 have g5:∀ g r,o1 g=some r->wB.heap[g]?=w1.heap[g]?:=fun g r hg=>by
  have a0:=g3.o g r hg;have a1:g<(w1.alloc (.map #[] 0)).heap.size:=by simp;omega
  rw[g6.block g (VJ a1 g2.size) (by intro e;cases e;exact ga _ _ hg rfl),g2.block g a1 (by intro e;cases e;exact ga _ _ hg rfl)];exact VL _ _ a0
 have gp:=Hd (go.o.keepR (o':=AI o1 w1.heap.size .handles) (fun g r hg _=>g5 g r hg) (fun g r hg=>CE g3.o (Vu _) hg));have gq:Hq (A3 wB w1.heap.size (Value.int .i64) [(0,Iv 1),(1,Iv 0)]):=Hd gc;have gn:=Hd gk;have gm:=Hd gd;have HME:=Hd (OU (AI o1 w1.heap.size .handles) F wB gd);have gx:w1.heap.size<wB.heap.size:=gc.lt;clear gh g2 gc g6 gj gk gd ga g5;go_wp2_with fail;refine HME.o.mono ?_;rintro x w2 ⟨me,o2,rfl,gg,g0,g1,gy⟩;have g7:=gp.o.keepR (o':=o2) (w':=w2) (fun g r hg hr=>g0.same gm.o hg (by rintro rfl;simp[Al,Br] at hr)) g0.ext;have g4:=gq.o.keepB (g0.same gm.o (B0 o1 w1.heap.size .handles) (by simp));have g8:=g0.ext _ _ (B0 o1 w1.heap.size .handles);have HF:Hq (∀ w3,w3=w2.alloc (.cells #[Pt sb,Pt me,.map (some w1.heap.size),Iv 2,.slice none 0 0,Iv 0] 100)->AY F (AI o2 w2.heap.size .man) w3 w2.heap.size (man0 n room)/\Chg (fun _=>True) o (AI o2 w2.heap.size .man) w w3/\Ac (AI o2 w2.heap.size .man) w3/\w.heap.size<=w2.heap.size):=by
  refine Hd ?_;rintro w3 rfl;have ge:∀ g r,o2 g=some r->(w2.alloc (.cells #[Pt sb,Pt me,.map (some w1.heap.size),Iv 2,.slice none 0 0,Iv 0] 100)).heap[g]?=w2.heap[g]?:=fun g r hg=>VL _ _ (g1 g r hg)
  have g9:∀ g r,o2 g=some r->AI o2 w2.heap.size .man g=some r:=fun g r hg=>CE g1 (Vu _) hg
  exact⟨⟨⟨sb,me,w1.heap.size,.slice none 0 0⟩,B0 _ _ _,Vv w2 _,g7.keepR (fun g r hg _=>ge g r hg) g9,gg.keep (fun g r hg _=>ge g r hg) g9,g9 _ _ g8,g4.keepB (ge _ _ g8),Bf.nil _ _⟩,
   (gn.o.trans g0.any).allocR g1 _ trivial,g1.allocR _ _,(gn.o.trans g0.any).size⟩
 clear g7 g4 g8 gg g0 g1;go_wp2_with fail
 go_ret2
 obtain⟨a1,a2,a3,a4⟩:=HF.o _ rfl;exact⟨_,_,rfl,a1,a2,a3,a4⟩
section
variable {F:Phi}{o:Own}
theorem Qj (h:Az o w sb d):Cl 121 #[Pt sb] w (Sm (Iv d.vars.length) w):=by
 obtain⟨s,h⟩:=h;obtain⟨c0,c1,c2,c3,c4,f0⟩:=cells5 h.blk;obtain⟨d0,d1,_⟩:=cells2 h.lev;obtain⟨a,cap,hv,_⟩:=h.vars.slice;rw[hv] at d0;clear h hv
 go_enter func121,ntmps121
 go_wp2_with fail;go_ret;exact⟨rfl,rfl⟩
theorem KL (h:AY F o w mb m):Cl 62 #[Pt mb] w (Sm (Iv m.d.vars.length) w):=by
 obtain⟨s,h⟩:=h;obtain⟨c0,c1,c2,c3,c4,c5,f0⟩:=cells6 h.blk;have HP:=Hd (Qj h.store);clear h
 go_enter func62,ntmps62
 go_wp2_with fail;refine HP.o.mono ?_;rintro x w' ⟨rfl,rfl⟩;go_wp2_with fail;go_ret;exact⟨rfl,rfl⟩
end
structure Cd (w:Wd)(a:Option Addr)(bs:List Bool):Prop where
 len:bs.length<=1000000
 cells:∀ k,k<bs.length->∃ b off,a=some (Aw b off)/\w.cell? (Aw b (off+k))=some (.bool (bs.getD k false))
theorem Cd.below {a:Option Addr}(h:Cd w a bs)(hb:Bw w w'):Cd w' a bs :=
 ⟨h.len,fun k hk=>by
  obtain⟨b,off,rfl,hc⟩:=h.cells k hk;exact⟨b,off,rfl,(Cq hb hc)⟩⟩
def AF (bs:List Bool):Nat->Bool:=fun v=>bs.getD v false
theorem Qk {F:Phi}{o:Own}(h:AY F o w mb m)(hlt:Ac o w)(hk:DV m V){k:Int}(hkf:(k,f)∈m.hs)(a:Option Addr)(c:Nat)(bs:List Bool)(hbs:Cd w a bs) :
 Cl 125 #[Pt mb,Iv k,.slice a bs.length c] w (Bl (.tuple #[.bool (ef V f (AF bs)),Iv 0]) w):=by
 obtain⟨s,h⟩:=h;obtain⟨c0,c1,c2,c3,c4,c5,f0⟩:=cells6 h.blk;have gq:=Ea h hk.handles.nodup hkf;have HM:=Hd h;have gj:=Hd hlt;have HK:=Hd hk.store;have gn:=Hd (hk.handles.ok _ hkf);have gu:=Hd hbs;have gv:=hbs.len;clear h hlt hk hkf hbs
 go_enter func125,ntmps125
 go_wp2_with fail
 go_loopg [8] (m.d.vars.length-lvE m.d.vars.length (levN m.d) (Aa m.d) f) (fun gk s8 wx=>∃ e:Nat,s8=Iv e/\okE (Aa m.d) e/\ef V e (AF bs)=ef V f (AF bs)/\Bw w wx/\gk=m.d.vars.length-lvE m.d.vars.length (levN m.d) (Aa m.d) e)
 case atStart=>exact⟨f,rfl,gn.o,rfl,VI _ _,rfl⟩
 case round =>
  obtain⟨e,rfl,g0,gd,hB,gc⟩:=hrel;clear c0 c1 c2 c3 c4 c5 f0 gq;have hm:=HM.o.below gj.o hB;obtain⟨c0,c1,c2,c3,c4,c5,f0⟩:=cells6 hm.blk;have ge:e<eMax:=by
   obtain⟨ss,gp⟩:=hm.store;have:=gp.edge_lt g0;unfold eMax;omega
  have HC:=Hd (fun W=>G7 e W ge);have HA:=Hd (FD hm.store (gj.o.mono hB.size) HK.o e g0);have g5:=Hd gd;have HB:=Hd hB;have g4:=Hd gc;clear hm ge gd hB gc;cases hb:Aa m.d (e/2) with
  | none =>
    have h0:e/2=0:=by
     rcases g0 with h|⟨b,gi⟩
     . exact h
     . rw[hb] at gi;cases gi
    have he:decide (enode e=0)=true:=by simp[enode,h0]
    rw[he] at HC;have HR:Hq (ef V f (AF bs)=((e:Int) == 0)):=by
     show _=_
     rw[<- g5.o];have h1:=HK.o.dag.one (AF bs);have h2:e=0\/e=1:=by omega
     rcases h2 with rfl|rfl<;>simp[ef,h1]
    clear g0 hb h0 he;go_wp2_with fail;refine(HC.o _).mono ?_;rintro x w' ⟨rfl,rfl⟩;go_wp2_with fail
    go_ret2
    exact⟨by rw[HR.o];rfl,HB.o⟩
  | some b =>
    have g8:=HK.o.dag.var _ _ hb;have g6:lvE m.d.vars.length (levN m.d) (Aa m.d) e=levN m.d b.v:=by unfold lvE;rw[hb]
    have gf:=BY HK.o g0 g8 (by rw[g6];exact Vu _);have gg:cofs m.d e b.v=(eflip b.lo (eneg e),eflip b.hi (eneg e)):=by unfold cofs;rw[hb];simp
    rw[gg] at gf;obtain⟨k1,k2,k3,k4,k5⟩:=gf;have k5:=k5 (AF bs);dsimp only at k1 k2 k3 k4 k5;have g7:=HK.o.dag.lt _ g8;have ga:decide (enode e=0)=false:=by
     have:enode e≠0:=by rintro h0;have h1:e/2=0:=h0;rw[h1,HK.o.dag.none0] at hb;cases hb
     simp[this]
    rw[ga] at HC;unfold atV at HA;rw[hb] at HA;obtain⟨L,hL⟩:=Ex (eflip b.lo (eneg e));obtain⟨H,hH⟩:=Ex (eflip b.hi (eneg e));rw[<- hL,<- hH] at k5;rw[<- hL] at k1 k3;rw[<- hH] at k2 k4;dsimp only at HA;rw[<- hL,<- hH] at HA;rw[g6] at g4;have gm:=Hd k1;have gt:=Hd k2;have gl:=Hd k3;have gr:=Hd k4;have g1:=Hd k5;have g9:=Hd g7;clear g0 hb g8 g6 gg k1 k2 k3 k4 k5 g7 ga hL hH;go_wp2_with fail;refine(HC.o _).mono ?_;rintro x w' ⟨rfl,rfl⟩;go_wp2_with fail;refine HA.o.mono ?_;rintro x w2 ⟨rfl,gh⟩;have HB2:=Hd (HB.o.trans (gh.mono HB.o.size));clear gh c0 c1 c2 c3 c4 c5 f0
    by_cases hv:b.v<bs.length
    ·obtain⟨b0,off,ha,g2⟩:=(gu.o.below HB2.o).cells b.v hv;subst ha;have go:(b.v:Int)<bs.length:=by omega
     have hx:AF bs b.v=bs.getD b.v false:=rfl;rw[<- hx] at g2;cases g3:AF bs b.v with
     | true =>
       rw[g3] at g2 g1;clear g3 hx;go_wp2_with fail
       go_roundg (m.d.vars.length-lvE m.d.vars.length (levN m.d) (Aa m.d) H)
       case rel=>exact⟨H,rfl,gt.o,by rw[<- g5.o,g1.o];rfl,HB2.o,rfl⟩
       case measure=>have h1:=g4.o;have h2:=gr.o;have h3:=g9.o;omega
     | false =>
       rw[g3] at g2 g1;clear g3 hx;go_wp2_with fail
       go_roundg (m.d.vars.length-lvE m.d.vars.length (levN m.d) (Aa m.d) L)
       case rel=>exact⟨L,rfl,gm.o,by rw[<- g5.o,g1.o];rfl,HB2.o,rfl⟩
       case measure=>have h1:=g4.o;have h2:=gl.o;have h3:=g9.o;omega
    ·have go:¬ (b.v:Int)<bs.length:=by omega
     have hx:AF bs b.v=false:=by unfold AF;simp[List.getD,VN (Nat.le_of_not_lt hv)]
     rw[hx] at g1;clear hx;go_wp2_with fail
     go_roundg (m.d.vars.length-lvE m.d.vars.length (levN m.d) (Aa m.d) L)
     case rel=>exact⟨L,rfl,gm.o,by rw[<- g5.o,g1.o];rfl,HB2.o,rfl⟩
     case measure=>have h1:=g4.o;have h2:=gl.o;have h3:=g9.o;omega
theorem Ql {o:Own}{r:Role}{a:Option Addr}{xs:List Nat}(h:RowR o w r 3 1 (.slice a xs.length cap) xs.length (xs.map nat64))(hl:xs.length<=1000000):Ar w a (xs.map Int.ofNat):=by
 refine⟨by simp;omega,fun k hk=>?_⟩;simp only[VP] at hk;obtain⟨g,cap',he,_⟩:=h.shape (by omega);cases he;refine⟨g,0,rfl,?_⟩;have h1:=h.cell k (by simpa using hk);rw[VW,h1,As (by simpa using hk)];simp[nat64,hk]
theorem KM {o:Own}(h:Az o w sb d)(hlt:Ac o w)(hl:d.vars.length<=64) :
 Cl 63 #[Pt sb] w fun x w'=>∃ v,x=.returned v/\OwnI w' w.heap.size v (d.vars.map Int.ofNat)/\Bw w w':=by
 obtain⟨s,h⟩:=h;obtain⟨c0,c1,c2,c3,c4,f0⟩:=cells5 h.blk;obtain⟨d0,d1,_⟩:=cells2 h.lev;have lsb:sb<w.heap.size:=Af c0;have llb:s.lb<w.heap.size:=Af d0;obtain⟨a,cap,hv,_,_,g1,_⟩:=h.vars.slice;have g0:=h.vars;rw[hv] at d0 g0;have HI:=Hd (Ql g0 (by omega));have HN:=Hd g1;have e:d.vars.length=(d.vars.map Int.ofNat).length:=by simp
 rw[e] at d0;have g6:(d.vars.map Int.ofNat).length<=64:=by rw[<- e];exact hl
 generalize d.vars.map Int.ofNat=zs at *
 clear h hv g0 e g1 hl
 go_enter func63,ntmps63
 go_wp2_with (at_builtin;refine De rfl _ _ rfl w.heap.size w _ [] zs _ _ rfl rfl (Ew w w.heap.size (Vu _)) (HI.o.below (Ah _ _)) (by simp;omega) (by simp) (Ah _ _) HN.o ?_;intro v1 w1 g2 g3 g4 g5);go_ret;exact⟨_,rfl,by simpa using g2,g3⟩
theorem KN {F:Phi}{o:Own}(h:AY F o w mb m)(hlt:Ac o w)(hl:m.d.vars.length<=64) :
 Cl 19 #[Pt mb] w fun x w'=>∃ v,x=.returned v/\OwnI w' w.heap.size v (m.d.vars.map Int.ofNat)/\Bw w w':=by
 obtain⟨s,h⟩:=h;obtain⟨c0,c1,c2,c3,c4,c5,f0⟩:=cells6 h.blk;have HP:=Hd (KM h.store hlt hl);clear h hlt hl
 go_enter func19,ntmps19
 go_wp2_with fail;refine HP.o.mono ?_;rintro x w' ⟨v,rfl,h1,h2⟩;have H1:=Hd h1;have H2:=Hd h2;clear h1 h2;go_wp2_with fail;go_ret;exact⟨v,rfl,H1.o,H2.o⟩
open Go.RowKit Go.Shelf
abbrev XX:=@Oper.semAt_some
attribute [local go_sem] XX
def BS (p:Ad)(k:Nat):List Nat:=(List.range k).filter p.tk
def BC (p:Ad):List Nat:=BS p p.at_.length
theorem Im (h:p.tk k=true):BS p (k+1)=BS p k++[k]:=by
 unfold BS;rw[XM,WM];simp[h]
theorem KO (h:p.tk k=false):BS p (k+1)=BS p k:=by
 unfold BS;rw[XM,WM];simp[h]
theorem Qm (p:Ad){m:Nat}:k<=m->∃ suf,BS p k++suf=BS p m:=by
 induction m with
 | zero => intro h; obtain rfl : k = 0 := by omega
           exact⟨[],by simp⟩
 | succ m ih =>
   intro h
   by_cases e:k=m+1
   . subst e;exact⟨[],by simp⟩
   ·obtain⟨suf,hs⟩:=ih (by omega);cases h2:p.tk m with
    | false=>exact⟨suf,by rw[KO h2];exact hs⟩
    | true=>exact⟨suf++[m],by rw[Im h2,<- hs,VH]⟩
theorem Qn (h:p.tk k=true)(hk:k<p.at_.length):∃ suf,BS p k++k::suf=BC p:=by
 obtain⟨suf,hs⟩:=Qm p (k:=k+1) (m:=p.at_.length) (by omega);rw[Im h,VH] at hs;exact⟨suf,hs⟩
abbrev WO:=@List.mem_filter
theorem KP {suf:List Nat}(h:pre++x::suf=BC p):p.tk x=true:=by
 have:x∈BC p:=by rw[<- h];simp
 exact(WO.1 this).2
structure ItS (n₀:Nat)(o:Own)(w0:Wd)(pb:Nat)(p:Ad)(Bp:Nat)(M0 M:Nat->Prop)(W0 W:Wd):Prop where
 low:Below n₀ w0 W
 box:W.cell? (Av Bp)=some (Pt pb)
 wr:Wr (fun k=>n₀<=k) W0 W
 sub:∀ k,M k->M0 k\/W0.heap.size<=k
 nb:¬ M Bp
theorem ItS.go {o:Own}{Bp:Nat}{M0 M':Nat->Prop}(h:ItS n₀ o w0 pb p Bp M0 M W0 W)(hn:n₀<=W0.heap.size)(hge:∀ k,M k->n₀<=k)(hw:Wr M W W')
 (hM:∀ k,M' k->M k\/W.heap.size<=k):ItS n₀ o w0 pb p Bp M0 M' W0 W':=by
 have hs:=h.wr.size;have hb:=Af h.box;refine⟨h.low.trans (hw.below hge (by omega)),?_,h.wr.trans hw (fun _ _ h=>h) (fun k _ hk=>hge k hk),fun k hk=>?_,fun e=>?_⟩
 . exact(Co h.box (hw.keep Bp hb h.nb))
 ·rcases hM k hk with h1|h1
  . exact h.sub k h1
  . right;omega
 ·rcases hM Bp e with h1|h1
  . exact h.nb h1
  . have g0:Bp<W.heap.size:=hb;omega
abbrev VC:=@Nat.zero_le
theorem Qo (F:Fence)(n:Nat)(hF:F.fn 272)(hro:F.round=none)(hn:1<=n)(Bp n₀ pb:Nat){o:Own}(hp:Ap o w0 pb p)(hlt:Ac o w0)(h0:w0.heap.size<=n₀)(w:Wd)
 (hw:Below n₀ w0 w) (hn0:n₀<=w.heap.size) (hBp:w.cell? (Av Bp)=some (Pt pb)) :
 Gives F n 0 prog 272 #[Pt Bp] (fun i:Nat=>#[Iv i]) n₀ (· = Bp) (BC p) w:=by
 intro l J M W g9 gg g1 gd hY hJ;have g8:=Af hBp;have g2:ItS n₀ o w0 pb p Bp M M W W:=⟨hw.trans (g1.below (fun k h=>h.1) hn0),Co hBp (g1.keep Bp g8 (fun h=>h.2 rfl)),Wr.refl _ _,fun k h=>.inl h,gd Bp rfl⟩;have ge:n₀<=W.heap.size:=Vy hn0 g1.size;have HP:∀ W',Below n₀ w0 W'->Ap o W' pb p:=fun W' hb=>hp.below (hb.mono h0) hlt
 obtain⟨vs,vt,vf,c0,c1,c2,c3,c4,hs,ht,_⟩:=(HP W g2.low).cells;have gf:=g2.box;have g3:=hp.pos;obtain⟨gs,cs,rfl,_⟩:=hs.shape g3;have g4:=hp.len;have gq:=hp.top;have gp:=hp.room;have gj:=Hd HP;have gh:=Hd hY;have gi:=Hd g2;have gk:=Hd g9;clear HP hY hs ht hp hlt h0 g2 g9 gg g1 gd hw hn0 hBp g8;refine callsIn_of_wp func272 rfl hF ?_ hro;simp only[ntmps272,WR,VO,WN,Nat.reduceAdd,Nat.reduceSub,Xc,Xd,Xu,Xk,Ws,Xr]
 gi_wp2
 gi_loopw [11] (fun i wr=>∃ (k:Nat) (M1:Nat->Prop),k<=p.at_.length/\i=Iv k/\J (BS p k) M1 wr/\ItS n₀ o w0 pb p Bp M M1 W wr) (fun i _=>p.at_.length-(intOf i).toNat)
 case atStart=>exact⟨0,M,VC _,rfl,hJ,gi.o⟩
 case round =>
  obtain⟨k,M1,hk,rfl,g0,hS⟩:=hrel
  by_cases hlt:k<p.at_.length
  ·obtain⟨vs,vt,vf,d0,d1,d2,d3,d4,hs,ht,_⟩:=(gj.o wr hS.low).cells;have gf:=hS.box;obtain⟨gt,ct,rfl,_⟩:=ht.shape (by rw[g4];exact g3);have g7:=Ap.flag ht (k:=k) (by omega);rw[g4] at d2;have gr:(k:Int)<p.at_.length:=by omega
   have HS:=Hd hS;cases hB:p.tk k with
   | false =>
     rw[hB] at g7;have g5:Hq (J (BS p (k+1)) M1 wr):=by show J _ _ _;rw[KO hB];exact g0
     clear hB hs ht hS g0 hJ
     gi_wp2
     refine⟨fun _ h=>(by cases h),?_⟩
     gi_wp2
     go_roundw
     case rel=>exact⟨k+1,M1,by omega,by simp,g5.o,HS.o⟩
     case measure=>simp[intOf];omega
   | true =>
     rw[hB] at g7;have gn:=Hd (fun q (hq:M1 q)=>(gk.o _ _ _ g0 q hq).1);obtain⟨fn,tmps,assign,body,hy,hR⟩:=gh.o _ k M1 wr g0 (Qn hB hlt);have HU:=Hd (Im hB);have HR:=Hd hR;clear hs ht hS g0 hR hB hJ
     gi_wp2
     refine HR.o.mono ?_;rintro e W3 ⟨rfl,M3,gc,g6,ga⟩;have gm:=Hd gc;have gl:=Hd (HS.o.go ge gn.o g6 ga);clear gc g6 ga
     gi_wp2
     go_roundw
     case rel=>exact⟨k+1,M3,by omega,by simp,by rw[HU.o];exact gm.o,gl.o⟩
     case measure=>simp[intOf];omega
  ·obtain rfl:k=p.at_.length:=by omega
   have g5:=Hd g0;have HS:=Hd hS;clear g0 hS hJ
   gi_wp2
   go_end0;exact⟨⟨_,rfl⟩,M1,g5.o,HS.o.wr,HS.o.sub⟩
theorem Qp (F:Fence)(n:Nat)(hF:F.fn 267)(hro:F.round=none)(pb:Nat)(w:Wd) :
 CallsIn F n prog 267 #[Pt pb] w fun e w'=>e=.returned (.func (.func 272) #[] #[Pt w.heap.size])/\w'=w.alloc (.cells #[Pt pb] 147):=by
 refine callsIn_of_wp func267 rfl hF ?_ hro;simp only[ntmps267,WR,VO,WN,Nat.reduceAdd,Nat.reduceSub,Xc,Xd,Xu,Xk,Ws,Xr]
 gi_wp2
 go_ret;exact⟨rfl,rfl⟩
theorem Qq (F:Fence)(n:Nat)(hF:F.fn 255)(hro:F.round=none)(pb:Nat)(w:Wd) :
 CallsIn F n prog 255 #[Pt pb] w fun e w'=>e=.returned (.func (.func 266) #[] #[Pt w.heap.size])/\w'=w.alloc (.cells #[Pt pb] 147):=by
 refine callsIn_of_wp func255 rfl hF ?_ hro;simp only[ntmps255,WR,VO,WN,Nat.reduceAdd,Nat.reduceSub,Xc,Xd,Xu,Xk,Ws,Xr]
 gi_wp2
 go_ret;exact⟨rfl,rfl⟩
attribute [local go_sem] XX
structure EaS (n₀:Nat)(o:Own)(w0:Wd)(pb:Nat)(p:Ad)(Bp By l:Nat)(M0 M:Nat->Prop)(W0 W:Wd):Prop where
 it:ItS n₀ o w0 pb p Bp M0 M W0 W
 boxy:W.cell? (Av By)=some (.func (.yield l) #[] #[])
 ny:¬ M By
 ge:∀ k,M k->n₀<=k
theorem FH (h:Wr M W W')(hc:W.cell? (Aw b k)=some v)(hn:¬ M b):W'.cell? (Aw b k)=some v :=
 (Co hc (h.keep b (Af hc) hn))
theorem EaS.go {n₀:Nat}{o:Own}{w0:Wd}{pb:Nat}{p:Ad}{Bp By l:Nat}{M0 M M':Nat->Prop}{W0 W W':Wd}(h:EaS n₀ o w0 pb p Bp By l M0 M W0 W)(hn:n₀<=W0.heap.size)(hw:Wr M W W')
 (hM:∀ k,M' k->M k\/W.heap.size<=k):EaS n₀ o w0 pb p Bp By l M0 M' W0 W':=by
 have hs:=h.it.wr.size;have hb:By<W.heap.size:=Af h.boxy;refine⟨h.it.go hn h.ge hw hM,FH hw h.boxy h.ny,fun e=>?_,fun k hk=>?_⟩
 ·rcases hM By e with h1|h1
  . exact h.ny h1
  . omega
 ·rcases hM k hk with h1|h1
  . exact h.ge k h1
  . omega
theorem Qr (F:Fence)(n:Nat)(hF1:F.fn 266)(hF2:F.fn 267)(hF3:F.fn 272)(hro:F.round=none)(hn:4<=n)(Bp n₀ pb:Nat){o:Own}(hp:Ap o w0 pb p)(hlt:Ac o w0)(h0:w0.heap.size<=n₀)(w:Wd)
 (hw:Below n₀ w0 w) (hn0:n₀<=w.heap.size) (hBn:n₀<=Bp) (hBp:w.cell? (Av Bp)=some (Pt pb)) :
 Gives F n 2 prog 266 #[Pt Bp] (fun i:Nat=>#[An (p.nd i)]) n₀ (· = Bp) (BC p) w:=by
 intro l J M W g6 g7 g3 gp hY hJ;have gx:Bp<w.heap.size:=Af hBp;have gT:Bp<W.heap.size:=VJ gx g3.size;have gd:n₀<=W.heap.size:=Vy hn0 g3.size;have gh:W.cell? (Av Bp)=some (Pt pb):=FH g3 hBp (fun h=>h.2 rfl);have gg:Below n₀ w0 W:=hw.trans (g3.below (fun k h=>h.1) hn0);obtain⟨V,hV⟩:=Ex ((W.alloc (.cells #[.func (.yield l) #[] #[]] 302)).alloc (.cells #[Pt pb] 147));have g4:∀ N,Wr N W V:=fun N=>by rw[hV];exact((Wr.refl N W).alloc _).alloc _
 have gk:J [] M V:=g7 _ _ _ _ hJ (g4 _);have g2:=g6 _ _ _ hJ;have g9:V.cell? (Av W.heap.size)=some (.func (.yield l) #[] #[]):=by rw[hV];simp
 have gc:V.cell? (Av (W.heap.size+1))=some (Pt pb):=by rw[hV];simp
 have gn:V.cell? (Av Bp)=some (Pt pb):=FH (g4 (fun _=>False)) gh (fun h=>h);have g1:Below n₀ w0 V:=gg.trans ((g4 (fun k=>n₀<=k)).below (fun _ h=>h) gd);have gi:V.heap.size=W.heap.size+2:=by rw[hV];simp
 have gl:EaS n₀ o w0 pb p Bp W.heap.size l M M V V:=⟨⟨g1,gn,Wr.refl _ _,fun k h=>.inl h,gp Bp rfl⟩,g9,fun e=>by have:=(g2 _ e).2;omega,fun k h=>(g2 k h).1⟩;have HP:∀ W',Below n₀ w0 W'->Ap o W' pb p:=fun W' hb=>hp.below (hb.mono h0) hlt
 have HG:=Hd (Qo F (n-1) hF3 hro (by omega) (W.heap.size+1) n₀ pb hp hlt h0 V g1 (by omega) gc);have gq:=Hd HP;have gB:=Hd hY;have gF:=Hd gl;have gD:=Hd g6;have gt:=Hd g2;have g8:=Hd g7;have gE:=Hd gk;have gC:=Hd g4;have gI:=hp.len;have gr:=hp.pos;have gH:=hp.top;have gG:=hp.room;have h1:1<=n:=by omega
 have gP:(W.alloc (.cells #[.func (.yield l) #[] #[]] 302)).cell? (Av Bp)=some (Pt pb):=FH ((Wr.refl (fun _=>False) W).alloc _) gh (fun h=>h);refine callsIn_of_wp_marks func266 rfl hF1 ?_ hro;simp only[ntmps266,WR,VO,WN,Nat.reduceAdd,Nat.reduceSub,Xc,Xd,Xu,Xk,Ws,Xr];clear g6 g7 g3 gp hY hJ gk g2 g9 gc gn g1 gl HP hp hlt h0 hw hBp gg g4 gi
 gi_wp2_with (gi_at_call 267;refine(Qp F (n-1) hF2 hro _ _).mono ?_;rintro e w' ⟨rfl,rfl⟩)
 rw[<- hV];have gi:V.heap.size=W.heap.size+2:=by rw[hV];simp
 clear hV;have gL:prog.follows .mixedOrders=true:=by kernel_rfl
 refine JL hro h1 (gf:=272) (lb:=#[Pt (W.heap.size+1)]) rfl hF3 (XS func272 (by kernel_rfl) rfl) HG.o
  (by omega) (by rintro k rfl;omega) (fun x=>rfl)
  (fun pre N V'=>∃ M1,(∀ k,N k↔M1 k\/k=W.heap.size\/k=Bp)/\J pre M1 V'/\EaS n₀ o w0 pb p Bp W.heap.size l M M1 V V')
  ?_ ?_ (fun k=>M k\/k=W.heap.size\/k=Bp) ?_ ⟨M,fun k=>Iff.rfl,gE.o,gF.o⟩
  (fun x a' _ _=>a'={
   tmps :=
    #[Value.func (Fn.yield l) #[] #[],Value.pointer (some { block:=Bp,off:=0 }),
     Value.pointer (some { block:=W.heap.size,off:=0 }),Value.int IntKind.i64 ↑x,
     Value.pointer (some { block:=pb,off:=0 }),
     Value.func (Fn.func 272) #[] #[Value.pointer (some { block:=W.heap.size+1,off:=0 })],
     Value.int IntKind.i64 ↑x,undef,undef,undef,undef,undef,undef,undef,undef,undef,undef],
   defers:=[] }) ?_ ?_ ?_ ?_
 ·rintro pre N V' ⟨M1,hN,hj,hE⟩ k hk;rcases(hN k).1 hk with h|h|h
  . exact gD.o _ _ _ hj k h
  . subst h;exact⟨gd,Af hE.boxy⟩
  . subst h;exact⟨hBn,Af hE.it.box⟩
 ·rintro pre N V' V'' ⟨M1,hN,hj,hE⟩ hw
  have g5:∀ k,k<V'.heap.size->(k<n₀\/N k)->V''.heap[k]?=V'.heap[k]?:=fun k hk hn=>hw.keep k hk (fun⟨a,b⟩=>by
   rcases hn with h|h
   . omega
   . exact b h)
  refine⟨M1,hN,g8.o _ _ _ _ hj (hw.mono fun k ⟨a,b⟩=>⟨a,fun h=>b ((hN k).2 (.inl h))⟩),⟨⟨?_,?_,?_,hE.it.sub,hE.it.nb⟩,?_,hE.ny,hE.ge⟩⟩
  . exact hE.it.low.trans (hw.below (fun k h=>h.1) (by have:=hE.it.wr.size;omega))
  . exact(Co hE.it.box (g5 _ (Af hE.it.box) (.inr ((hN _).2 (.inr (.inr rfl))))))
  . exact hE.it.wr.trans hw (fun _ _ h=>h) (fun k _ h=>h.1)
  . exact(Co hE.boxy (g5 _ (Af hE.boxy) (.inr ((hN _).2 (.inr (.inl rfl))))))
 ·rintro k rfl h;have gR:W.heap.size+1<W.heap.size\/W.heap.size+1=W.heap.size\/W.heap.size+1=Bp:=by
   rcases h with h|h
   . left;exact(gt.o _ h).2
   . right;exact h
  omega
 . intro x a' W' W1 W2 l' _ h _;exact h
 ·intro l' pre x N V' K hI hK
  gi_wp2
  exact hK _ _ (Wr.refl _ _) rfl
 ·rintro l' pre x a' N W0 W1 ⟨M1,hN,hj,hE⟩ rfl gK hs1 g0;obtain⟨suf,g0⟩:=g0;have hx:p.tk x=true:=KP g0;obtain⟨vs,vt,vf,d0,d1,d2,d3,d4,hs,ht,_⟩:=(gq.o W1 hE.it.low).cells;have gO:=hE.it.box;have gN:=hE.boxy;obtain⟨gs,cs,rfl,gw⟩:=hs.shape gr;have gu:=((gq.o W1 hE.it.low).tk_lt hx).2;have gM:=Ap.node hs (k:=x) gu;have gJ:(x:Int)<p.at_.length:=by omega
  obtain⟨fn,tmps,assign,body,hy,hR⟩:=gB.o _ x M1 W1.drew (g8.o _ _ _ _ hj ((Wr.refl _ W1).drew)) ⟨suf,g0⟩;simp only[An] at hy;have HR:=Hd hR;have HE:=Hd hE;have HN:=Hd hN;clear hs hE hj hR hN g0 gw
  gi_wp2
  gi_region_with_o (refine⟨fun _=>by omega,HR.o.mono ?_⟩;rintro e W3 ⟨rfl,M3,gy,ga,gj⟩)
  all_goals gi_wp2
  all_goals exact⟨fun k=>M3 k\/k=W.heap.size\/k=Bp,⟨M3,fun k=>Iff.rfl,gy,HE.o.go (by omega) (Wr.trans ((Wr.refl M1 W1).drew) ga (fun _ _ h=>h) (fun _ _ h=>h)) gj⟩,
   Wr.trans ((Wr.refl M1 W1).drew) ga (fun k _ h=>.inl ((HN.o k).2 (.inl h))) (fun k _ h=>.inl ((HN.o k).2 (.inl h))),
   fun k hk=>by
    rcases hk with hk|hk
    ·rcases gj k hk with h|h
     . exact .inl ((HN.o k).2 (.inl h))
     . right;have:W1.heap.size<=k:=h;omega
    . exact .inl ((HN.o k).2 (.inr hk))⟩
 ·rintro D N W2 gS gA ⟨M1,hN,hj,hE⟩ gQ gv gz
  gi_wp2
  refine⟨by simp,.inl ⟨_,_,rfl,run_takeDeferred gz,?_⟩⟩;have gm:n₀<=D:=by omega
  refine⟨_,WC rfl _ _ _,⟨_,rfl⟩,M1,?_,?_,?_⟩
  . exact g8.o _ _ _ _ hj ((Wr.refl _ _).putObj (.inl ⟨gm,fun h=>gA ((hN D).2 (.inl h))⟩) _)
  . exact((gC.o (fun k=>n₀<=k)).trans gv (fun _ _ h=>h) (fun _ _ h=>h)).putObj (.inl gm) _
  ·intro k hk;rcases hE.it.sub k hk with h|h
   . exact .inl h
   . right;omega
def AG (d:Ae):List Nat:=(BC d.pool).filter (fun i=>decide (Ai d i=0))
theorem Qs (p:Ad):(BC p).Nodup:=(List.nodup_range).filter _
theorem Qt (d:Ae):(AG d).Nodup:=(Qs d.pool).filter _
theorem Io (h:i∈AG d):d.pool.tk i=true/\Ai d i=0:=by
 unfold AG at h;rw[WO] at h;exact⟨(WO.1 h.1).2,by simpa using h.2⟩
theorem KQ (f g:Nat->Bool):∀ k,((((List.range k).filter f).filter g).length:Int)=Ag k (fun i=>if f i=true then (if g i=true then 1 else 0) else 0)
 | 0=>by simp[Ag]
 | k+1=>by
   rw[XM,WM,WM,Vx];have ih:=KQ f g k;rw[Int.natCast_add,ih];cases hf:f k<;>cases hg:g k<;>simp[Ag,hf,hg,List.filter]
theorem KR {ext:Nat->Int}(h:AD d ext):(AG d).length=d.dead:=by
 have h1:=h.dead;have h2:((AG d).length:Int)=Ag d.pool.at_.length (dead1 (Aa d) (Ai d)):=by
  unfold AG BC BS;rw[KQ];refine B4 _ fun i _=>?_
  unfold dead1 Aa Ad.get;cases ht:d.pool.tk i<;>simp
 unfold Ba at h1;omega
structure Cp (d:Ae)(k:Nat)(d':Ae):Prop where
 vars:d'.vars=d.vars
 level:d'.level=d.level
 counts:d'.counts=d.counts
 dead:d'.dead=d.dead
 room:d'.pool.room=d.pool.room
 alen:d'.pool.at_.length=d.pool.at_.length
 keep:∀ i,i∉(AG d).take k->d'.pool.tk i=d.pool.tk i/\d'.pool.nd i=d.pool.nd i
 gone:∀ i,i∈(AG d).take k->d'.pool.tk i=false
 tab:∀ v,v<d.vars.length->∀ lo hi id,d'.tab v (lo,hi)=some id↔Aa d' id=some ⟨v,lo,hi⟩
 many:d'.pool.many+k=d.pool.many
theorem Cp.start (ht:∀ v,v<d.vars.length->∀ lo hi id,d.tab v (lo,hi)=some id↔Aa d id=some ⟨v,lo,hi⟩):Cp d 0 d :=
 ⟨rfl,rfl,rfl,rfl,rfl,rfl,fun _ _=>⟨rfl,rfl⟩,fun i h=>by simp at h,ht,rfl⟩
def Ip (d:Ae)(i:Nat)(b:BN):Ae:={ d with pool:=d.pool.give i,tab:=fun v=>if v=b.v then putF (d.tab v) (b.lo,b.hi) none else d.tab v }
theorem Cp.at {d d':Ae}{k i:Nat}(h:Cp d k d')(hi:(AG d)[k]?=some i):d'.pool.tk i=true/\d'.pool.nd i=d.pool.nd i:=by
 obtain⟨g0,e⟩:=Wf.1 hi;have hm:i∈AG d:=e ▸ VG g0;have hn:i∉(AG d).take k:=by
  intro hh;rw[List.mem_take_iff_getElem] at hh;obtain⟨j,hj,e2⟩:=hh;have g1:=WE.1 (Qt d) j k (by omega) g0 (by omega);exact g1 (e2.trans e.symm)
 have:=h.keep i hn;exact⟨this.1.trans (Io hm).1,this.2⟩
abbrev Vz:=@List.take_succ_eq_append_getElem
theorem Cp.next (h:Cp d k d')(hi:(AG d)[k]?=some i)(hl:d'.pool.taken.length=d'.pool.at_.length)(hat:i<d'.pool.at_.length)(hm:1<=d'.pool.many) :
 Cp d (k+1) (Ip d' i (bnOf (d'.pool.nd i))):=by
 obtain⟨g2,e⟩:=Wf.1 hi;obtain⟨ht,g3⟩:=h.at hi;have e1:(AG d).take (k+1)=(AG d).take k++[i]:=by rw[Vz g2,e]
 have tk:∀ j,(d'.pool.give i).tk j=if j=i then false else d'.pool.tk j:=fun j=>E8 (by rw[hl];exact hat) j
 have nd:∀ j,(d'.pool.give i).nd j=if j=i then rn0 else d'.pool.nd j:=fun j=>CR hat j
 have g0:Aa d' i=some (bnOf (d'.pool.nd i)):=by unfold Aa Ad.get;rw[Vw ht];rfl
 have g1:∀ j,Aa (Ip d' i (bnOf (d'.pool.nd i))) j=if j=i then none else Aa d' j:=fun j=>by
  unfold Aa
  show ((d'.pool.give i).get j).map bnOf=_
  rw[Ad.give_get (by rw[hl];exact hat) hat]
  by_cases e:j=i<;>simp[e]
 refine⟨h.vars,h.level,h.counts,h.dead,h.room,?_,fun j hj=>?_,fun j hj=>?_,fun v hv lo hY id=>?_,?_⟩
 ·show (d'.pool.at_.set i rn0).length=_
  rw[VQ];exact h.alen
 ·rw[e1] at hj;simp only[VF,VB,not_or] at hj
  show (d'.pool.give i).tk j=_/\(d'.pool.give i).nd j=_
  rw[tk,nd,Vs hj.2,Vs hj.2];exact h.keep j hj.1
 ·rw[e1] at hj;simp only[VF,VB] at hj
  show (d'.pool.give i).tk j=_
  rw[tk]
  by_cases e2:j=i
  . rw[Vw e2]
  . rw[Vs e2];exact h.gone j (hj.resolve_right e2)
 ·rw[g1];have h0:=h.tab v hv lo hY id
  show (if v=(bnOf (d'.pool.nd i)).v then putF (d'.tab v) ((bnOf (d'.pool.nd i)).lo,(bnOf (d'.pool.nd i)).hi) none else d'.tab v) (lo,hY)=some id↔_
  by_cases e2:id=i
  ·subst e2;simp only[Wy];constructor
   ·intro hh;exfalso
    by_cases e3:v=(bnOf (d'.pool.nd id)).v
    ·rw[Vw e3] at hh;unfold putF at hh
     by_cases e4:(lo,hY)=((bnOf (d'.pool.nd id)).lo,(bnOf (d'.pool.nd id)).hi)
     . rw[Vw e4] at hh;cases hh
     . rw[Vs e4,h0,g0] at hh;cases hh;exact e4 rfl
    . rw[Vs e3,h0,g0] at hh;cases hh;exact e3 rfl
   . intro hh;cases hh
  ·rw[Vs e2,<- h0]
   by_cases e3:v=(bnOf (d'.pool.nd i)).v
   ·rw[Vw e3];unfold putF
    by_cases e4:(lo,hY)=((bnOf (d'.pool.nd i)).lo,(bnOf (d'.pool.nd i)).hi)
    ·rw[Vw e4];constructor
     . intro hh;cases hh
     . intro hh;exfalso;have q:=(h.tab v hv lo hY i).2 (by rw[g0];cases e4;rw[e3]);rw[hh] at q;cases q;exact e2 rfl
    . rw[Vs e4]
   . rw[Vs e3]
 ·show d'.pool.many-1+(k+1)=_
  have:=h.many;omega
structure AK (d d':Ae):Prop where
 vars:d'.vars=d.vars
 level:d'.level=d.level
 counts:d'.counts=d.counts
 room:d'.pool.room=d.pool.room
 dead:d'.dead=0
 alen:d'.pool.at_.length=d.pool.at_.length
 nodes:∀ i,Aa d' i=if 0<Ai d i then Aa d i else none
 ext:∀ i b,Aa d' i=some b->Aj d' i=Aj d i
 tab:∀ v,v<d.vars.length->∀ lo hi id,d'.tab v (lo,hi)=some id↔Aa d' id=some ⟨v,lo,hi⟩
 many:d'.pool.many+d.dead=d.pool.many
theorem Cp.done {ext:Nat->Int}(h:Cp d (AG d).length d')(hl:AD d ext)(hat:∀ i,d.pool.tk i=true->i<d.pool.at_.length):AK d { d' with dead:=0 }:=by
 have hk:(AG d).take (AG d).length=AG d:=Wb;have g1:∀ i,d.pool.tk i=true->Ai d i=0->i∈AG d:=fun i h1 h2=>by
  unfold AG BC BS;simp only[WO,Xs,WH];exact⟨⟨hat i h1,h1⟩,h2⟩
 refine⟨h.vars,h.level,h.counts,h.room,rfl,h.alen,fun i=>?_,fun i b hb=>?_,h.tab,by rw[<- KR hl];exact h.many⟩
 ·show (d'.pool.get i).map bnOf=if 0<Ai d i then (d.pool.get i).map bnOf else none
  unfold Ad.get
  by_cases hc:i∈AG d
  . have h1:=h.gone i (by rw[hk];exact hc);have h2:=(Io hc).2;simp[h1,h2]
  ·obtain⟨h1,h2⟩:=h.keep i (by rw[hk];exact hc);rw[h1,h2]
   by_cases h3:0<Ai d i
   . rw[Vw h3]
   ·rw[Vs h3];cases ht:d.pool.tk i with
    | false=>rfl
    | true=>exact absurd (g1 i ht (by omega)) hc
 ·have g0:(d'.pool.get i).map bnOf=some b:=hb;have ht:d'.pool.tk i=true:=by
   unfold Ad.get at g0;cases ht:d'.pool.tk i with
   | true=>rfl
   | false=>rw[ht] at g0;simp at g0
  have hc:i∉AG d:=fun hc=>by rw[h.gone i (by rw[hk];exact hc)] at ht;cases ht
  obtain⟨h1,h2⟩:=h.keep i (by rw[hk];exact hc)
  show (if d'.pool.tk i=true then ((d'.pool.nd i).refs:Int) else 0)=if d.pool.tk i=true then ((d.pool.nd i).refs:Int) else 0
  rw[h1,h2]
theorem FI {ext:Nat->Int}(hl:AD d ext)(h0:d.dead=0){b:BN}(hb:Aa d i=some b):0<Ai d i:=by
 have h1:=hl.dead;rw[h0] at h1;have h2:=Ft (f:=dead1 (Aa d) (Ai d)) d.pool.at_.length (fun i _=>JT _ _ i) (hl.cnt.lt i b hb);unfold Ba at h1;unfold dead1 at h2;rw[hb] at h2
 by_cases h:Ai d i=0
 . simp only[h,Wy] at h2;unfold dead1 at h1;omega
 . omega
theorem AK.none {d:Ae}{V:Nat->BF}(hk:Ak d V)(h0:d.dead=0):AK d d:=by
 refine⟨rfl,rfl,rfl,rfl,h0,rfl,fun i=>?_,fun _ _ _=>rfl,hk.tab,by omega⟩;cases hb:Aa d i with
 | none=>simp
 | some b=>rw[Vw (FI hk.live h0 hb)]
theorem Qu (d:Ae)(i:Nat):0<=Aj d i:=by unfold Aj;split<;>omega
section
theorem AK.sub (r:AK d d'){b:BN}(h:Aa d' i=some b):Aa d i=some b/\0<Ai d i:=by
 rw[r.nodes] at h;split at h
 . rename_i hc;exact⟨h,hc⟩
 . cases h
theorem AK.cnt (r:AK d d'):Ai d'=Ai d:=by funext i;unfold Ai;rw[r.counts]
theorem AK.lev (r:AK d d'):levN d'=levN d:=by funext v;unfold levN;rw[r.level]
theorem AK.kid (r:AK d d')(hk:Ak d V){b:BN}(h:Aa d' i=some b)(he:e=b.lo\/e=b.hi):okE (Aa d') e:=by
 obtain⟨h1,h2⟩:=r.sub h;have ho:okE (Aa d) e:=by
  rcases he with rfl|rfl
  . exact hk.dag.okLo i b h1
  . exact hk.dag.okHi i b h1
 rcases ho with h0|⟨c,hc⟩
 . exact .inl h0
 . refine .inr ⟨c,?_⟩;rw[r.nodes,Vw (hk.live.cnt.pos_of_live h1 h2 he hc (Qu d _))];exact hc
theorem AK.lvE (r:AK d d')(h0:Aa d 0=Option.none){n:Nat}{lev:Nat->Nat}{e:Nat}(he:okE (Aa d') e):Go.Proofs.YtkidaindpahefaaGreat.lvE n lev (Aa d') e=Go.Proofs.YtkidaindpahefaaGreat.lvE n lev (Aa d) e:=by
 unfold Go.Proofs.YtkidaindpahefaaGreat.lvE;rcases he with he|⟨b,hb⟩
 ·have:Aa d' 0=Option.none:=by rw[r.nodes,h0];simp
  rw[he,h0,this]
 . rw[hb,(r.sub hb).1]
theorem AK.ok (r:AK d d')(hk:Ak d V):Ak d' V:=by
 have g0:∀ e,okE (Aa d') e->Go.Proofs.YtkidaindpahefaaGreat.lvE d.vars.length (levN d) (Aa d') e=Go.Proofs.YtkidaindpahefaaGreat.lvE d.vars.length (levN d) (Aa d) e:=fun e he=>r.lvE hk.dag.none0 he
 refine⟨?_,⟨?_,?_,fun i b hb=>by rw[r.counts];exact hk.live.has i b (r.sub hb).1⟩,by rw[r.vars];exact r.tab,by rw[r.counts];exact hk.clen,by rw[r.vars];exact hk.small,by rw[r.vars,r.lev];exact hk.inv,by rw[r.vars,r.lev];exact hk.vlt⟩
 . rw[r.vars,r.lev];exact hk.dag.restrict (Aa d') (fun i b h=>(r.sub h).1) (fun i b h=>⟨r.kid hk h (.inl rfl),r.kid hk h (.inr rfl)⟩)
 . rw[r.alen,r.cnt];exact(hk.live.cnt.collect (Aa d') r.nodes).congr (fun x b hb=>r.ext x b hb)
 ·rw[r.dead];unfold Ba;rw[B4 (g:=fun _=>0) _ (fun i _=>?_),Dh]
  . rfl
  ·unfold dead1;cases hb:Aa d' i with
   | none=>rfl
   | some b=>have:=(r.sub hb).2;rw[r.cnt];simp;omega
end
attribute [local go_sem] XX
theorem Iq {F:Fence}{fu:Nat}(T e:TypeId)(size bytes:Nat)(z:Value)(hT:prog.underlying T=some (.slice e))(he:(prog.info? e).map (fun i=>(i.zero,i.size,i.bytes))=some (some z,size,bytes))(hzs:z.cells.size=size)(hsz:0<size)
 {wr:Wd} {ops:Array Oper} {rest:List Oper} {op:Oper} {a:Act} {Q:Exit->Act->Wd->Prop} {W:Wd} (hgd:op.guard=none) (s x:Operand)
 (hop:op.op=.call { callee:=.builtin .append,args:=#[s,x],argTypes:=#[T,T] })
 {o:Own} {r:Role} {v:Value} {n:Nat} {xs:List Value} (hs:a.eval s=v) {N:Nat} (hx:a.eval x=.slice (some (Av N)) 1 1) {news:Array Value}
 (hW:W=wr.alloc (.cells news e)) (hN:N=wr.heap.size) (hl:news.size=size) (h1:∀ u∈news.toList,u.oneCell'=true) (h:RowR o wr r e size v n xs) (hlt:Ac o wr) (hn:n<1000000000) (hb:bytes<=10000)
 (hK:∀ g cap w' o',RowR o' w' r e size (.slice (some (Av g)) (n+1) cap) (n+1) (xs++news.toList)->Chg (· = r) o o' wr w'->Ac o' w'->wpListIn F fu prog ops Q rest (a.put op.dst (.slice (some (Av g)) (n+1) cap)) w'):wpListIn F fu prog ops Q (op::rest) a W:=by
 subst hN;subst hW
 obtain⟨g,cap,w',o',hr,h2,h3,h4⟩:=GF T e op.type size bytes z hT he hzs hsz news hl h1 h hlt hn hb;refine wpListIn_plain hgd fun K g1=>?_
 unfold Oper.wpIn;refine⟨?_,?_⟩
 . simp[Oper.about,hop,resolve,Target.leads,XQ]
 . rw[Oper.semAt_plain F _ _ (by rw[hop];intro c g0;cases g0)];simp only[execOp,hop,resolve,invoke,builtin,WB,XQ,VZ,List.map_toArray,WG,List.map_nil,hs,hx,hr];exact g1 _ _ (hK g cap w' o' h2 h3 h4)
theorem FJ (w:Wd)(o:Obj):(w.alloc o).drew=w.drew.alloc o:=rfl
theorem KS {F:Fence}{c:Code}(W1:Wd)(h:∃ A,c.wpIn F n P (fun e a' W'=>e=.normal/\a'=A/\W'=W1) a w/\Q .normal A W1):c.wpIn F n P Q a w:=by
 obtain⟨A,h1,h2⟩:=h;refine wpIn_mono h1 ?_;rintro _ _ _ ⟨rfl,rfl,rfl⟩;exact h2
def B5 (d:Ae)(pre:List Nat):List Nat:=pre.filter (fun i=>decide (Ai d i=0))
structure GatS (d:Ae)(w:Wd)(sb:Nat)(pre:List Nat)(M:Nat->Prop)(W:Wd)(v:Value)(oG:Own):Prop where
 mm:∀ k,M k↔(k=w.heap.size\/k=w.heap.size+1\/oG k=some .slots)
 low:Bw w W
 boxs:W.heap[w.heap.size]?=some (.cells #[Pt sb] 96 (0,0))
 boxg:W.heap[w.heap.size+1]?=some (.cells #[v] 225 (0,0))
 row:RowR oG W .slots 254 5 v (B5 d pre).length ((B5 d pre).flatMap fun i=>rnV (d.pool.nd i))
 lt:Ac oG W
 ge:∀ k r,oG k=some r->r=.slots/\w.heap.size+2<=k
def Gat (d:Ae)(w:Wd)(sb:Nat)(pre:List Nat)(M:Nat->Prop)(W:Wd):Prop:=∃ v oG,GatS d w sb pre M W v oG
theorem GatS.minds (h:GatS d w sb pre M W v oG)(hw:Wr (fun k=>w.heap.size<=k/\¬ M k) W W'):GatS d w sb pre M W' v oG:=by
 have hk:∀ k,k<W.heap.size->M k->W'.heap[k]?=W.heap[k]?:=fun k h1 h2=>hw.keep k h1 (fun e=>e.2 h2)
 have hm:=h.mm
 refine⟨hm,h.low.trans (hw.below (fun k h=>h.1) h.low.size),(hk _ (Vr.1 h.boxs).1 ((hm _).2 (.inl rfl))).trans h.boxs,(hk _ (Vr.1 h.boxg).1 ((hm _).2 (.inr (.inl rfl)))).trans h.boxg,
  h.row.keep (fun g hg=>hk g (h.lt g _ hg) ((hm g).2 (.inr (.inr hg)))) (fun _ h=>h),h.lt.mono hw.size,h.ge⟩
theorem Qv (h:Ai d x=0):B5 d (pre++[x])=B5 d pre++[x]:=by unfold B5;rw[WM];simp[h]
theorem Qw (h:Ai d x≠0):B5 d (pre++[x])=B5 d pre:=by unfold B5;rw[WM];simp[h]
theorem GatS.add {oG':Own}(h:GatS d w sb pre M W v oG)(hc:Ai d x=0)
 (hr:RowR oG' W1 .slots 254 5 v' ((B5 d pre).length+1) (((B5 d pre).flatMap fun i=>rnV (d.pool.nd i))++rnV (d.pool.nd x))) (hg:Chg (· = .slots) oG oG' W W1) (hl:Ac oG' W1) {n:Nat} (hn:n<=W.heap.size) :
 ∃ M',Gat d w sb (pre++[x]) M' (W1.setCell (Av (w.heap.size+1)) v')/\Wr (fun k=>M k\/n<=k) W (W1.setCell (Av (w.heap.size+1)) v')/\∀ k,M' k->M k\/n<=k:=by
 have none:∀ k,k<w.heap.size+2->oG k=Option.none:=fun k hk=>by
  cases e:oG k with
  | none=>rfl
  | some r=>have:=(h.ge k r e).2;omega
 have g0:w.heap.size+1<W.heap.size:=(Vr.1 h.boxg).1;have k0:=(hg.alien (by omega) (none w.heap.size (by omega))).trans h.boxs;have k1:=(hg.alien g0 (none (w.heap.size+1) (by omega))).trans h.boxg;have ge':∀ k r,oG' k=some r->r=.slots/\w.heap.size+2<=k:=fun k r hk=>by
  by_cases e:oG' k=oG k
  . rw[e] at hk;exact h.ge k r hk
  ·obtain⟨a1,q,a2,a3⟩:=hg.new k e;rw[hk] at a2;cases a2
   exact⟨a3,by omega⟩
 refine⟨fun k=>k=w.heap.size\/k=w.heap.size+1\/oG' k=some .slots,⟨v',oG',⟨fun k=>Iff.rfl,?_,?_,A2 k1 _,?_,hl.mono (by simp[World.setCell]),ge'⟩⟩,?_,fun k hk=>?_⟩
 . have:Bw w W1:=h.low.trans ⟨hg.os,hg.tape,hg.output,hg.size,fun k hk=>hg.alien (VJ hk h.low.size) (none k (by omega))⟩;exact this.setCell (p:=⟨w.heap.size+1,0,Option.none⟩) (by show _<=w.heap.size+1;omega) _
 . exact(Ay (by show _≠w.heap.size+1;omega) _).trans k0
 . rw[Qv hc,Vx,Xw];simp only[WX,WQ,List.flatMap_nil,WU];exact hr.setCell_other (fun e=>by have:=(ge' _ _ e).2;simp at this) _
 . have:Wr (fun k=>M k\/n<=k) W W1:=⟨hg.os,hg.tape,hg.output,hg.size,fun k hk hm=>hg.block k hk fun r hr e=>hm (.inl ((h.mm k).2 (.inr (.inr (by rw[hr,e])))))⟩;exact this.setCell (p:=⟨w.heap.size+1,0,Option.none⟩) (.inl (.inl ((h.mm _).2 (.inr (.inl rfl))))) _
 ·rcases hk with hk|hk|hk
  . exact .inl ((h.mm k).2 (.inl hk))
  . exact .inl ((h.mm k).2 (.inr (.inl hk)))
  ·by_cases e:oG' k=oG k
   . rw[e] at hk;exact .inl ((h.mm k).2 (.inr (.inr hk)))
   . have:=(hg.new k e).1;right;omega
theorem GatS.no (h:GatS d w sb pre M W v oG)(k:Nat)(hk:k<w.heap.size+2):oG k=none:=by
 cases e:oG k with
 | none=>rfl
 | some r=>have:=(h.ge k r e).2;omega
theorem GatS.drew {d:Ae}{w:Wd}{sb:Nat}{pre:List Nat}{M:Nat->Prop}{W:Wd}{v:Value}{oG:Own}(h:GatS d w sb pre M W v oG):GatS d w sb pre M W.drew v oG:=h.minds ((Wr.refl _ W).drew)
def FK (o:Own)(W2:Wd)(sb:Nat)(d:Ae)(s:A4)(k:Nat)(wr:Wd):Prop:=∃ o1 d1,Ao o1 wr sb d1 s/\Ac o1 wr/\Cp d k d1/\Chg Al o o1 W2 wr
theorem FK.next {o o1 o2:Own}{W2 wr w3 w4 w4' w5:Wd}{sb:Nat}{d d1:Ae}{s:A4}{k i:Nat}{N:RN}(hs1:Ao o1 wr sb d1 s)(hl1:Ac o1 wr)(hr1:Cp d k d1)(hc1:Chg Al o o1 W2 wr)(hi:(AG d)[k]?=some i)(hN:d1.pool.nd i=N)(hb3:Bw wr w3)
 (ht:AN o1 w4 N.v (s.ts.getD N.v 0) (putF (d1.tab N.v) (N.lo,N.hi) none)) (hct:Chg (· = .tmap N.v) o1 o1 w3 w4) (hl4:Ac o1 w4) (hb:Bw w4 w4')
 (hp:Ap o2 w5 s.pb (d1.pool.give i)) (hcp:Chg (fun r=>r=.pool\/r=.slots\/r=.taken\/r=.free) o1 o2 w4' w5) (hl5:Ac o2 w5):FK o W2 sb d s (k+1) w5:=by
 have h3:=hs1.below hl1 hb3;have g1:=hl1.mono hb3.size;have h4:=h3.setTab g1 ht hct;have g2:=h4.below hl4 hb;have h5:=g2.setPool (hl4.mono hb.size) hp hcp;have g0:i<d1.pool.at_.length:=(hs1.pool.tk_lt (hr1.at hi).1).2;have e:(fun u=>if u=N.v then putF (d1.tab N.v) (N.lo,N.hi) none else d1.tab u)=(fun u=>if u=N.v then putF (d1.tab u) (N.lo,N.hi) none else d1.tab u):=by
  funext u
  by_cases h:u=N.v
  . subst h;rfl
  . simp[h]
 rw[e] at h5;refine⟨o2,Ip d1 i (bnOf N),h5,hl5,?_,hc1.trans ((Chg.of_below hb3 _ o1).trans ((hct.mono ?_).trans ((Chg.of_below hb _ o1).trans (hcp.mono ?_))))⟩
 ·have:=hr1.next hi hs1.pool.len g0 (by
   have h1:=hs1.pool.cnt;have h2:=Ka (f:=fun j=>if d1.pool.tk j=true then (1:Int) else 0) (fun j _=>by split<;>omega) g0 (by simp[(hr1.at hi).1]);omega)
  rw[hN] at this;exact this
 . rintro r rfl;exact .inr (.inr (.inr (.inr (.inr (.inr (.inl ⟨_,.inr rfl⟩))))))
 . rintro r h;exact .inr (.inr (.inr (.inr (.inl h))))
theorem Eb {o:Oper}{f:FuncId}{R:Value->Wd->Prop}(hg:o.guard=none)
 (he:(execOp a.eval o).run P w=.ok (.enter f args) w) (hc:Calls P f args w fun e w'=>∃ v,e=.returned v/\R v w') (h:∀ v w',R v w'->Q .normal (a.put o.dst v) w'):A0 P ops Q S true [(some o,true)] a w:=by
 refine Di hg fun K hK=>?_
 unfold Oper.wp;simp only[he,Oper.upon];exact hc.mono fun e w' ⟨v,h1,h2⟩=>by subst h1;exact hK _ _ (h v w' h2)
abbrev Yg:=@callsIn_wide
theorem KT {o:Own}(h:Az o w sb d)(h0:d.dead=0) :
 Cl 215 #[Pt sb] w (Bl (Iv 0) w):=by
 obtain⟨s,h⟩:=h;obtain⟨c0,c1,c2,c3,c4,f0⟩:=cells5 h.blk;rw[h0] at c4;obtain⟨w1,g0⟩:=Ex (w.alloc (.cells #[Pt sb] 96));have g1:Bw w w1:=by rw[g0];exact Ah w _
 have cB:w1.cell? (Av w.heap.size)=some (Pt sb):=by rw[g0];exact cell1 (Vv w _)
 have c4':=Cq g1 c4;have HW:Hq (_=w1):=Hd g0.symm;have HB:=Hd g1;clear h c0 c1 c2 c3 c4 f0 g0 g1 h0;refine(Yg (n:=9)).1 ?_;refine callsIn_of_wp_marks func215 rfl trivial ?_;refine wpIn_wide.2 ?_;simp only[ntmps215,WR,VO,WN,Nat.reduceAdd,Nat.reduceSub,Xc,Xd,Xu,Xk,Ws,Xr];go_upto_region 1 with fail;rw[HW.o];go_wp2_with fail;exact⟨_,results_tmp rfl _ _ _,rfl,HB.o⟩
abbrev XA:=@Nat.add_zero
theorem KU {o:Own}(h:Az o w sb d)(hlt:Ac o w)(hk:Ak d V)(h0:d.dead≠0) :
 Cl 215 #[Pt sb] w fun x w'=>x=.returned (Iv d.dead)/\∃ o' d',Az o' w' sb d'/\Ac o' w'/\AK d d'/\Chg Al o o' w w':=by
 obtain⟨s,h⟩:=h;obtain⟨c0,c1,c2,c3,c4,f0⟩:=cells5 h.blk;have ko:((d.dead:Int) == 0)=false:=by simpa using h0
 obtain⟨w1,go⟩:=Ex (w.alloc (.cells #[Pt sb] 96));have gM:Bw w w1:=by rw[go];exact Ah w _
 have hB:w1.heap[w.heap.size]?=some (.cells #[Pt sb] 96 (0,0)):=by rw[go];exact Vv w _
 have hs1:w1.heap.size=w.heap.size+1:=by rw[go];simp
 obtain⟨w2,g6⟩:=Ex (w1.alloc (.cells #[.slice none 0 0] 225));have gL:Bw w w2:=by rw[g6];exact gM.alloc (by omega) _
 have gO:w2.heap[w.heap.size]?=some (.cells #[Pt sb] 96 (0,0)):=by rw[g6];exact(W9 w1 _ _ (by omega)).trans hB
 have hp:w2.heap[w.heap.size+1]?=some (.cells #[.slice none 0 0] 225 (0,0)):=by rw[g6,<- hs1];exact Vv w1 _
 have gG:w2.heap.size=w.heap.size+2:=by rw[g6];simp[hs1]
 have cB1:=cell1 hB;have cB2:=cell1 gO;have cS1:=Cq gM c4;have cS2:=Cq gL c1;have HW1:Hq (_=w1):=Hd go.symm;have hy:Hq (_=w2):=Hd g6.symm;have HB2:=Hd gL;have HH:=Hd h;have HE:=Hd (Yg.1 (Qq Fence.wide 9 trivial rfl s.pb w2));clear h c0 c1 c2 c3 c4 f0 go g6 gM gL;refine(Yg (n:=9)).1 ?_;refine callsIn_of_wp_marks func215 rfl trivial ?_;refine wpIn_wide.2 ?_;simp only[ntmps215,WR,VO,WN,Nat.reduceAdd,Nat.reduceSub,Xc,Xd,Xu,Xk,Ws,Xr];go_upto_region 1 with fail;rw[HW1.o];go_upto_region 4 with fail;rw[hy.o];go_wp2_with fail;refine HE.o.mono ?_;rintro x w3 ⟨rfl,gn⟩;go_wp2_with fail;obtain⟨w3',g4⟩:=Ex (w2.alloc (.cells #[Pt s.pb] 147));rw[<- g4];have kk:w3'.heap.size=w.heap.size+3:=by rw[g4];simp[gG]
 have g5:Bw w w3':=by rw[g4];exact HB2.o.alloc (by omega) _
 have hu:w3'.heap[w.heap.size]?=some (.cells #[Pt sb] 96 (0,0)):=by rw[g4];exact(W9 w2 _ _ (by omega)).trans gO
 have ho:w3'.heap[w.heap.size+1]?=some (.cells #[.slice none 0 0] 225 (0,0)):=by rw[g4];exact(W9 w2 _ _ (by omega)).trans hp
 have hn:w3'.cell? (Av (w.heap.size+2))=some (Pt s.pb):=by rw[g4,<- gG];exact cell1 (Vv w2 _)
 have gi:Hq (Ao o w sb d s):=HH;have g7:=Hd hlt;have HK:=Hd hk;have HG:=Hd (Qr Fence.wide 8 trivial trivial trivial rfl (by omega) (w.heap.size+2) w.heap.size s.pb HH.o.pool hlt (Vu _) w3' g5 (by omega) (by omega) hn);clear g4 hB gO hp cB1 cB2 cS1 cS2 HE HW1 hy hs1 gG hn;refine(wpIn_wide (n:=9)).1 ?_;refine JL rfl (by omega) (gf:=266) (lb:=#[Pt (w.heap.size+2)]) rfl trivial (XS func266 (by kernel_rfl) rfl) HG.o (by omega) (by rintro k rfl;omega) (fun x=>rfl)
  (Gat d w sb) ?_ ?_ (fun k=>k=w.heap.size\/k=w.heap.size+1) (by rintro k rfl h;omega) ⟨.slice none 0 0,fun _=>none,(⟨fun k=>by simp,g5,hu,ho,RowR.nil _ _ _ _ _,fun k r h=>(by cases h),fun k r h=>(by cases h)⟩:GatS d w sb [] _ w3' (.slice none 0 0) (fun _=>none))⟩
  (fun x a' W W1=>∃ Bn,W.heap.size<=Bn/\W1.heap[Bn]?=some (.cells #[Iv (d.pool.nd x).id,Iv (d.pool.nd x).v,Iv (d.pool.nd x).lo,Iv (d.pool.nd x).hi,Iv (d.pool.nd x).refs] 254 (0,0))/\a'={ tmps:=#[Value.pointer (some { block:=sb,off:=0 }),Value.pointer (some { block:=w.heap.size,off:=0 }),Value.int IntKind.i64 0,Value.pointer (some { block:=w.heap.size+1,off:=0 }),Value.pointer (some { block:=Bn,off:=0 }),undef,undef,Value.pointer (some { block:=sb,off:=0 }),Value.bool false,Value.bool false,Value.pointer (some { block:=sb,off:=0 }),Value.pointer (some { block:=sb,off:=0 }),Value.pointer (some { block:=sb,off:=4 }),Value.int IntKind.i64 ↑d.dead,Value.bool false,Value.bool false,Value.pointer (some { block:=sb,off:=0 }),Value.pointer (some { block:=sb,off:=0 }),Value.pointer (some { block:=sb,off:=1 }),Value.pointer (some { block:=s.pb,off:=0 }),Value.func (Fn.func 266) #[] #[Value.pointer (some { block:=w.heap.size+2,off:=0 })],An (d.pool.nd x),undef,undef,undef,undef,undef,undef,undef,undef,undef,undef,undef,undef,undef,undef,undef,undef,undef,undef,undef,undef,undef,undef,undef,undef,undef,undef,undef,undef,undef,undef,undef,undef,undef,undef,undef,undef,undef,undef,undef,undef,undef,undef,undef,undef,undef],defers:=[] }) ?_ ?_ ?_ ?_
 ·rintro pre M W ⟨v,oG,hS⟩ k hk;rcases(hS.mm k).1 hk with rfl|rfl|hg
  . exact⟨Vu _,(Vr.1 hS.boxs).1⟩
  . exact⟨by omega,(Vr.1 hS.boxg).1⟩
  . have:=(hS.ge k _ hg).2;exact⟨by omega,hS.lt k _ hg⟩
 . rintro pre M W W' ⟨v,oG,hS⟩ hw;exact⟨v,oG,hS.minds hw⟩
 . rintro x a' W W1 W2 l hl ⟨Bn,h1,h2,h3⟩ hw;exact⟨Bn,h1,(hw.keep Bn (Vr.1 h2).1 (by omega)).trans h2,h3⟩
 ·intro l pre x M W K hI hK;simp only[An]
  gi_wp2
  exact hK _ _ ((Wr.refl _ W).alloc _) ⟨W.heap.size,Vu _,Vv W _,rfl⟩
 ·rintro l pre x a' M W0 W ⟨v,oG,hS⟩ ⟨Bn,kp,hb,rfl⟩ hX hs1 g9;obtain⟨suf,g9⟩:=g9;have hx:d.pool.tk x=true:=KP g9;have gp:=gi.o.below g7.o hS.low;obtain⟨q0,q1,q2,q3,q4,_⟩:=cells5 gp.blk;obtain⟨n0,n1,n2,n3,n4,_⟩:=cells5 hb;have hid:=gp.pool.id x hx;rw[hid] at n0;have gh:Aa d x=some (bnOf (d.pool.nd x)):=by unfold Aa Ad.get;rw[Vw hx];rfl
  have gD:x<d.counts.length:=HK.o.live.has x _ gh;obtain⟨gc,cc,gV,_⟩:=gp.counts.shape (by omega);have gm:=gp.counts;rw[gV] at gm q3;have h9:=gm.cell x (by simpa using gD);have gE:(d.counts.map nat64)[x]?=some (Iv (Ai d x:Nat)):=by
   rw[WP,VA gD];simp[nat64,Ai,List.getD,gD]
  rw[gE] at h9;have kh:(x:Int)<d.counts.length:=by omega
  have cb:=cell1 hS.boxs;have cg:=cell1 hS.boxg;have HS:=Hd hS;have kr:=Hd hb;have hJ:=Hd g9;have kc:=Hd hid;have kl:prog.follows .mixedOrders=true:=by kernel_rfl
  clear gp gm gE gV g9 hS hid gh
  by_cases hc:Ai d x=0
  ·rw[hc] at h9;have gl:(B5 d pre).length<1000000000:=by
    have h1:=gi.o.below g7.o HS.o.low;have h2:=h1.pool.top;have h3:=h1.pool.room;have h4:(B5 d pre).length<=(BC d.pool).length:=by rw[<- hJ.o];unfold B5;refine Vy (WD _ _) ?_;simp
    have h5:(BC d.pool).length<=d.pool.at_.length:=by unfold BC BS;refine Vy (WD _ _) ?_;simp
    omega
   have hQ:=Hd gl;have HC:=Hd hc;clear gl
   gi_wp2
   refine KS W.drew ?_;apply Exists.intro;refine⟨?_,?_⟩
   ·gi_region_o
    all_goals exact⟨rfl,rfl,rfl⟩
   gi_wp2_with (gi_at_builtin
                rw[FJ];refine Iq (wr:=W.drew) 225 254 5 40 _ underlying225 F6 rfl (by decide) rfl _ _ rfl rfl rfl rfl rfl rfl (by simp[Value.oneCell']) HS.o.drew.row HS.o.drew.lt hQ.o (by decide) ?_;intro g1 k1 w1 o1 g2 g0 g3;have gv:=Hd g2;have g8:=Hd g0;have gj:=Hd g3;clear g2 g0 g3 q0 q1 q2 q3 q4 cb;have gy:=(g8.o.alien (Vr.1 HS.o.boxg).1 (HS.o.no _ (by omega))).trans HS.o.boxg;have cg1:=cell1 gy;have fz:∀ k,w1.frozen? ⟨w.heap.size+1,k,none⟩=false:=fun k=>by simp[World.frozen?,gy]
                clear cg gy)
   have hH:=HS.o.drew.add HC.o (W1:=w1) (v':=.slice (some (Av g1)) ((B5 d pre).length+1) k1) (by
    have e:rnV (d.pool.nd x)=[Iv (x:Nat),Iv (d.pool.nd x).v,Iv (d.pool.nd x).lo,Iv (d.pool.nd x).hi,Iv (d.pool.nd x).refs]:=by unfold rnV;rw[kc.o]
    rw[e];exact gv.o) g8.o gj.o hX
   obtain⟨M',a1,a2,a3⟩:=hH;exact⟨M',a1,Wr.trans ((Wr.refl (fun _=>False) W).drew) a2 (fun _ _ e=>e.elim) (fun _ _ e=>e),a3⟩
  ·have g0:((Ai d x:Int) == 0)=false:=by simpa using hc
   gi_wp2
   refine KS W.drew ?_;apply Exists.intro;refine⟨?_,?_⟩
   ·gi_region_o
    all_goals exact⟨rfl,rfl,rfl⟩
   gi_wp2
   exact⟨M,⟨v,oG,by have:=HS.o.drew;exact⟨this.mm,this.low,this.boxs,this.boxg,by rw[Qw hc];exact this.row,this.lt,this.ge⟩⟩,(Wr.refl _ W).drew,fun k hk=>.inl hk⟩
 ·rintro D M W2 hD k4 ⟨v,oG,hS⟩ _ g6 ht;have HS:=Hd hS;have hA:=Hd ht;have cg:=cell1 hS.boxg;obtain⟨ag,cpg,rfl,_⟩:=hS.row.slice;clear hS ht k4 g6 HG hu ho g5;go_wp2_with fail;have gr:∀ k i,(AG d)[k]?=some i->∃ g,ag=some (Av g)/\o g=none/\∀ j u,(rnV (d.pool.nd i))[j]?=some u->W2.cell? (Aw g (k*5+j))=some u:=by
   intro k i hi;have km:k<(AG d).length:=(Wf.1 hi).1;obtain⟨g,cp,he,gd,_⟩:=HS.o.row.shape (by show 0<(AG d).length;omega);cases he;refine⟨g,rfl,?_,fun j u hj=>?_⟩
   . have:=(HS.o.ge g _ gd).2;exact g7.o.none (by omega)
   ·have h5:j<5:=by have:=(Wf.1 hj).1;simpa [rnV] using this
    have hf:=D0 (fun i=>rnV (d.pool.nd i)) 5 (fun _=>rfl) (AG d) k j i hi h5;have gl:((AG d).flatMap fun i=>rnV (d.pool.nd i)).length=(AG d).length*5:=BV _ 5 (fun _=>rfl) _;have hc:=HS.o.row.cell (k*5+j) (by show _<((AG d).flatMap fun i=>rnV (d.pool.nd i)).length;rw[gl];omega);rw[hc];exact hf.trans hj
  have kd:=Hd gr;have gP:Hq ((B5 d (BC d.pool)).length=(AG d).length):=Hd rfl;have gw:Hq (o w.heap.size=none/\o (w.heap.size+1)=none):=Hd ⟨g7.o.none (by omega),g7.o.none (by omega)⟩;have gk:=gi.o.below g7.o HS.o.low;have gH:Ac o W2:=g7.o.mono HS.o.low.size;have hM:=Hd gk;have hP:=Hd gH;have gI:w.heap.size<W2.heap.size:=(Vr.1 HS.o.boxs).1;have gY:w.heap.size+1<W2.heap.size:=(Vr.1 HS.o.boxg).1;have hG:(B5 d (BC d.pool)).length<=1048577:=by
   show (AG d).length<=_
   have h2:=gk.pool.top;have h3:=gk.pool.room;have h5:(AG d).length<=d.pool.at_.length:=by unfold AG BC BS;refine Vy (WD _ _) (Vy (WD _ _) ?_);simp
   omega
  clear gr cg gk gH;obtain⟨m,hm⟩:=Ex ((B5 d (BC d.pool)).length);rw[<- hm] at hG gP ⊢;have HM:=Hd hm;clear hm
  go_loopw [37] (fun i wr=>∃ k:Nat,k<=m/\i=Iv k/\FK o W2 sb d s k wr) (fun i _=>m-(intOf i).toNat)
  case atStart=>exact⟨0,VC _,rfl,o,d,hM.o,hP.o,Cp.start HK.o.tab,Chg.refl _ _ _⟩
  case round =>
   obtain⟨k,hk,rfl,h8⟩:=hrel;have gJ:=h8;obtain⟨o1,d1,hs1,g3,g2,g0⟩:=h8
   by_cases kg:k<m
   ·obtain⟨i,hi⟩:∃ i,(AG d)[k]?=some i:=⟨_,VA (by have:=gP.o;omega)⟩;obtain⟨gz,gq⟩:=g2.at hi;obtain⟨g,k0,gd,gg⟩:=kd.o k i hi;subst k0;obtain⟨N,hN⟩:=Ex (d.pool.nd i);rw[<- hN] at gg gq;have e0:=g0.cell (gg 0 _ rfl) gd;have e1:=g0.cell (gg 1 _ rfl) gd;have e2:=g0.cell (gg 2 _ rfl) gd;have e3:=g0.cell (gg 3 _ rfl) gd;have e4:=g0.cell (gg 4 _ rfl) gd;rw[XA] at e0;have cb:=cell1 ((g0.alien gI gw.o.1).trans HS.o.boxs);have kn:(k:Int)<m:=by omega
    obtain⟨w3,gn⟩:=Ex (wr.alloc (.cells #[Iv N.id,Iv N.v,Iv N.lo,Iv N.hi,Iv N.refs] 254));obtain⟨b6,gK⟩:=Ex wr.heap.size;have g5:Bw wr w3:=by rw[gn];exact Ah _ _
    have gh:w3.heap[b6]?=some (.cells #[Iv N.id,Iv N.v,Iv N.lo,Iv N.hi,Iv N.refs] 254 (0,0)):=by rw[gn,gK];exact Vv _ _
    have hE:o1 b6=none:=g3.none (by omega);have hO:Hq (o1 w.heap.size=none):=Hd (g0.alien' gI gw.o.1);have k6:Hq (_=w3):=Hd gn.symm;have kf:Hq (_=b6):=Hd gK.symm;have HN:=Hd hN;have hid:N.id=i:=by rw[<- gq];exact hs1.pool.id i gz
    have hd:Aa d1 i=some ⟨N.v,N.lo,N.hi⟩:=by unfold Aa Ad.get;rw[Vw gz,gq];rfl
    have hv:N.v<d1.vars.length:=by rw[g2.vars];exact HK.o.dag.var i ⟨N.v,N.lo,N.hi⟩ (by unfold Aa Ad.get;rw[Vw (Io ((Wf.1 hi).2 ▸ VG _)).1,<- hN];rfl)
    have h7:d1.tab N.v (N.lo,N.hi)=some i:=(g2.tab N.v (by rw[<- g2.vars];exact hv) _ _ _).2 hd;have ga:=hs1.below g3 g5;have gB:=g3.mono g5.size;obtain⟨gt,ct,gT,hZ,gU,ki⟩:=ga.tabAt hv;obtain⟨q0,q1,q2,q3,q4,_⟩:=cells5 ga.blk;rw[gT] at q2;obtain⟨n0,n1,n2,n3,n4,_⟩:=cells5 gh;have cb3:=Cq g5 cb;have hU:(N.v:Int)<s.ts.length:=by omega
    have hT:=Hd (Kh o1 N.v (s.ts.getD N.v 0) (d1.tab N.v) N.lo N.hi i w3.drew ((ga.below gB (Am w3 1)).tab N.v gU) (gB.mono (Am w3 1).size) h7);have gC:=Hd hs1;have gj:=Hd g3;have gv:=Hd g2;have g8:=Hd g0;have HI:=Hd hi;have ka:=Hd gq;have hC:=Hd g5;have kq:=Hd gh;have k7:=Hd gz;have hR:=Hd hid;have hL:=Hd ga;have hz:=Hd gB;clear gg gJ hs1 g3 g2 g0 hi gq g5 gh gz hid hd hv h7 ga gB gT gn gK hN gU;go_upto_region 11 with fail;rw[k6.o,kf.o];refine AJ (fun W:Wd=>W=w3.drew) true 12 [(0,false),(1,false),(2,false),(3,false),(4,false),(5,false),(6,false),(7,false),(8,false),(9,false),(10,false),(11,false),(12,true)] (by kernel_rfl) (by kernel_rfl) rfl ?_;simp only[planned,AH]
    iterate 12
     refine Aq rfl ?_;apply Exists.intro;refine⟨fun w' hw=>?_,?_⟩
     . subst hw;go_simp;rfl
     simp only[Ab]
    refine Eb rfl (by go_simp) (hT.o.mono (R':=fun e w'=>∃ v,e=.returned v/\(v=Iv 0/\AN o1 w' N.v (s.ts.getD N.v 0) (putF (d1.tab N.v) (N.lo,N.hi) none)/\Chg (· = .tmap N.v) o1 o1 w3.drew w'/\Ac o1 w')) (fun e w' h=>⟨_,h.1,rfl,h.2⟩)) ?_;rintro _ w4 ⟨rfl,gF,gu,gA⟩;simp only[Ab];refine Cm ?_;have gx:=(hL.o.below hz.o (Am w3 1)).setTab (hz.o.mono (Am w3 1).size) gF gu;have cb4:=gu.cell (w:=w3.drew) (p:=Av w.heap.size) cb3 (hO.o);have n0':=gu.cell (w:=w3.drew) (p:=Av b6) n0 hE;obtain⟨p0,p1,p2,p3,p4,_⟩:=cells5 gx.blk;rw[hR.o] at n0';have gS:=Hd (Oz o1 s.pb d1.pool i w4.drew (gx.below gA (Am w4 1)).pool (gA.mono (Am w4 1).size) k7.o);have k8:=Hd gF;have ke:=Hd gu;have kb:=Hd gA;clear gF gu gA gx n0 n1 n2 n3 n4 q0 q1 q2 q3 q4 cb3 cb e0 e1 e2 e3 e4 hZ hU;go_upto_region 12 with fail;refine AJ (fun W:Wd=>W=w4.drew) true 6 [(0,false),(1,false),(2,false),(3,false),(4,false),(5,false),(6,true)] (by kernel_rfl) (by kernel_rfl) rfl ?_;simp only[planned,AH]
    iterate 6
     refine Aq rfl ?_;apply Exists.intro;refine⟨fun w' hw=>?_,?_⟩
     . subst hw;go_simp;rfl
     simp only[Ab]
    refine Eb rfl (by go_simp) (gS.o.mono (R':=fun e w'=>∃ v,e=.returned v/\(v=Iv 0/\∃ o',Ap o' w' s.pb (d1.pool.give i)/\Chg (fun r=>r=.pool\/r=.slots\/r=.taken\/r=.free) o1 o' w4.drew w'/\Ac o' w')) (fun e w' h=>⟨_,h.1,rfl,h.2⟩)) ?_;rintro _ w5 ⟨rfl,o2,gX,ha,gZ⟩;simp only[Ab];refine Cm ?_;have k9:=Hd (FK.next gC.o gj.o gv.o g8.o HI.o ka.o (hC.o.trans ((Am w3 1).mono hC.o.size)) k8.o ke.o kb.o (Am w4 1) gX ha gZ);clear gX ha gZ p0 p1 p2 p3 p4 cb4 n0' gY;go_wp2_with fail;go_roundw
    case rel=>exact⟨k+1,by omega,by go_num,k9.o⟩
    case measure=>simp[intOf];omega
   ·obtain rfl:k=m:=by omega
    have hh:=(g0.alien gI gw.o.1).trans HS.o.boxs;have h6:=(g0.alien gY gw.o.2).trans HS.o.boxg;have cb:=cell1 hh;have cg:=cell1 h6;obtain⟨q0,q1,q2,q3,q4,qf⟩:=cells5 hs1.blk;have gC:=Hd hs1;have gj:=Hd g3;have gv:=Hd g2;have g8:=Hd g0;have kj:sb≠w.heap.size+1:=fun e=>by have h1:=gw.o.2;have h2:=gi.o.own;rw[e] at h2;rw[h1] at h2;cases h2
    clear gJ hs1 g3 g2 g0 hh h6;go_wp2_with fail;have gN:o D=none:=g7.o.none (by omega);have hq:D<W2.heap.size:=(Vr.1 hA.o).1;have k3:=(g8.o.alien hq gN).trans hA.o;have k5:o1 D=none:=g8.o.alien' hq gN;have hW:D≠sb:=by rintro rfl;have:=gi.o.own;rw[gN] at this;cases this
    have hY:k=(AG d).length:=gP.o;refine⟨by simp,.inl ⟨D,_,rfl,run_takeDeferred ((Ay hW _).trans k3),?_⟩⟩;have hF:Ao o1 (wr.setCell (Aw sb 4) (Iv 0)) sb (d1.cd d1.counts 0) s:=gC.o.setDead gj.o 0;have gR:AK d (d1.cd d1.counts 0):=(hY ▸ gv.o:Cp d (AG d).length d1).done HK.o.live (fun i hi=>(gi.o.pool.tk_lt hi).2);have gQ:Az o1 ((wr.setCell (Aw sb 4) (Iv 0)).putObj D (.deferred none)) sb (d1.cd d1.counts 0) :=
     Az.keepR ⟨s,hF⟩ (fun g r hg _=>WA (by rintro rfl;rw[k5] at hg;cases hg)) (fun _ _ h=>h)
    refine⟨_,results_tmp rfl _ _ _,?_,o1,_,gQ,gj.o.mono (by simp[World.setCell]),gR,?_⟩
    ·show Ending.returned (Iv ((B5 d (BC d.pool)).length:Nat))=_
     have:(B5 d (BC d.pool)).length=d.dead:=KR HK.o.live;rw[this]
    . have hc:=(Chg.of_below HS.o.low Al o).trans (g8.o.setCell (p:=Aw sb 4) (r:=.store) gC.o.own (.inl rfl) (Iv 0));exact⟨hc.os,hc.tape,hc.output,by have:=hc.size;simpa [World.setCell] using this,fun k hk hr=>(WA (by omega)).trans (hc.block k hk hr),hc.ext,hc.new⟩
structure ChgX (C:Nat->Prop)(o o':Own)(w w':Wd):Prop where
 os:w'.os=w.os
 tape:w'.tape=w.tape
 output:w'.output=w.output
 size:w.heap.size<=w'.heap.size
 block:∀ k,k<w.heap.size->o k=none->¬ C k->w'.heap[k]?=w.heap[k]?
 ext:∀ k r,o k=some r->o' k=some r
 new:∀ k,o' k≠o k->w.heap.size<=k
abbrev NoB:Nat->Prop:=fun _=>False
section
variable {o:Own}
theorem ChgX.of_chg (h:Chg R o o' w w')(C:Nat->Prop):ChgX C o o' w w':=⟨h.os,h.tape,h.output,h.size,fun _ hk ho _=>h.alien hk ho,h.ext,fun k hk=>(h.new k hk).1⟩
theorem ChgX.of_wr (h:Wr D w w')(o:Own)(hD:∀ k,k<w.heap.size->D k->C k):ChgX C o o w w':=⟨h.os,h.tape,h.output,h.size,fun k hk _ hc=>h.keep k hk (fun e=>hc (hD k hk e)),fun _ _ h=>h,fun _ h=>(h rfl).elim⟩
theorem ChgX.of_below (h:Bw w w')(o:Own)(C:Nat->Prop):ChgX C o o w w':=ChgX.of_wr (Wr.of_below h NoB) o (fun _ _ h=>h.elim)
theorem ChgX.none' (h:ChgX C o o' w w')(hk:k<w.heap.size)(ho:o k=none):o' k=none:=by
 by_cases e:o' k=o k
 . rw[e];exact ho
 . have:=h.new k e;omega
theorem ChgX.trans (h:ChgX C o o' w w')(h':ChgX D o' o'' w' w'')(hD:∀ k,k<w.heap.size->D k->C k):ChgX C o o'' w w'':=by
 refine⟨h'.os.trans h.os,h'.tape.trans h.tape,h'.output.trans h.output,Vy h.size h'.size,fun k hk ho hc=>?_,fun k r hr=>h'.ext k r (h.ext k r hr),fun k hk=>?_⟩
 . exact(h'.block k (VJ hk h.size) (h.none' hk ho) (fun e=>hc (hD k hk e))).trans (h.block k hk ho hc)
 ·by_cases e:o' k=o k
  . have:=h'.new k (by rw[e];exact hk);exact Vy h.size this
  . exact h.new k e
theorem ChgX.cell (h:ChgX C o o' w w'){p:Addr}{v:Value}(hc:w.cell? p=some v)(hb:o p.block=none)(hn:¬ C p.block):w'.cell? p=some v :=
 (Wl (w:=w) (h.block p.block (XF w p hc) hb hn)).trans hc
theorem ChgX.below0 (h:ChgX NoB (fun _=>none) o w w'):Bw w w':=⟨h.os,h.tape,h.output,h.size,fun k hk=>h.block k hk rfl (fun e=>e)⟩
theorem ChgX.lower (h:ChgX C (fun _=>none) o w w')(h':ChgX D o o' w' w'')(hD:∀ k,D k->w.heap.size<=k):ChgX C (fun _=>none) o' w w'':=h.trans h' (fun k hk e=>by have:=hD k e;omega)
end
structure C8 (C:Nat->Prop)(K:Law)(o:Own)(w:Wd)(mb:Nat)(m:ManD)(V:Nat->BF)(o':Own)(w':Wd)(m':ManD)(V':Nat->BF):Prop where
 is:AY (K m'.d V') o' w' mb m'
 lt:Ac o' w'
 chg:ChgX C o o' w w'
 ok:Ak m'.d V'
 ext:Ext m.d V m'.d V'
 hs:m'.hs=m.hs
 next:m'.next=m.next
theorem Step.toX {o:Own}(h:Step K o w mb m V o' w' m' V')(C:Nat->Prop):C8 C K o w mb m V o' w' m' V':=⟨h.is,h.lt,ChgX.of_chg h.chg C,h.ok,h.ext,h.hs,h.next⟩
theorem Qx (h:Cc m)(ext:Ext m.d V m'.d V')(ok:Ak m'.d V')(e1:m'.hs=m.hs)(e2:m'.next=m.next):Cc m':=by
 refine⟨by rw[e1];exact h.nodup,by rw[e1];exact h.zero,by rw[e1];exact h.one,by rw[e1,e2];exact h.lt,by rw[e2];exact h.next,fun p hp=>?_,by rw[e1,e2];exact h.len,fun i b hb=>?_⟩
 . rw[e1] at hp;exact ext.ok (h.ok p hp)
 ·rw[e1];cases hn:Aa m.d i with
  | some b0=>rw[ext.ext i b0 hn];exact h.refs i b0 hn
  | none =>
    rw[ext.ext0 i hn];have hi:i≠0:=by rintro rfl;rw[ok.dag.none0] at hb;cases hb
    have:AQ m.hs i=0:=by
     unfold AQ;rw[List.length_eq_zero_iff,List.filter_eq_nil_iff];intro p hp;have ho:=h.ok p hp;simp only[Wq,WH,XP,not_and];rintro _ rfl;rcases ho with h0|⟨b1,g0⟩
     . exact hi h0
     . rw[hn] at g0;cases g0
    rw[this];rfl
structure SatE (K:Law)(n:Nat)(Od:List Nat->Prop)(room:Nat)(w0:Wd)(mb:Nat)(fs:List (Int×BF))(nx:Int)(w:Wd)(o:Own)(m:ManD)(V:Nat->BF):Prop where
 is:AY (K m.d V) o w mb m
 lt:Ac o w
 ok:DV m V
 vars:m.d.vars.length=n
 od:Od m.d.vars
 room:m.d.pool.room=room
 next:m.next=nx
 hs:m.hs.map (fun p=>(p.1,ef V p.2))=fs
 chg:ChgX NoB (fun _=>none) o w0 w
section
variable {o:Own}
theorem SatE.find (h:SatE K n Od room w0 mb fs nx w o m V){k:Int}(hk:(k,F)∈fs):∃ f,(k,f)∈m.hs/\ef V f=F:=by
 rw[<- h.hs] at hk;obtain⟨p,hp,e⟩:=VD.1 hk;cases e;exact⟨p.2,hp,rfl⟩
theorem SatE.none0 (h:SatE K n Od room w0 mb fs nx w o m V)(hk:k<w0.heap.size):o k=none:=h.chg.none' hk rfl
theorem KV {hs:List (Int×Nat)}(hok:∀ p∈hs,okE (Aa d) p.2)(hv:∀ i,(i=0\/∃ b,Aa d i=some b)->V' i=V i):hs.map (fun p=>(p.1,ef V' p.2))=hs.map (fun p=>(p.1,ef V p.2)):=by
 refine List.map_congr_left fun p hp=>?_
 have e:ef V' p.2=ef V p.2:=by
  funext ρ;unfold ef;rw[hv (p.2/2) (hok p hp)]
 rw[e]
theorem SatE.withOd {Od':List Nat->Prop}(h:SatE K n Od room w0 mb fs nx w o m V)(hO:Od' m.d.vars):SatE K n Od' room w0 mb fs nx w o m V :=
 ⟨h.is,h.lt,h.ok,h.vars,hO,h.room,h.next,h.hs,h.chg⟩
theorem SatE.step (h:SatE K n Od room w0 mb fs nx w o m V)(s:C8 C K o w mb m V o' w' m' V')(hC:∀ k,C k->w0.heap.size<=k):SatE K n Od room w0 mb fs nx w' o' m' V' :=
 ⟨s.is,s.lt,⟨s.ok,Qx h.ok.handles s.ext s.ok s.hs s.next⟩,by rw[s.ext.vars];exact h.vars,by rw[s.ext.vars];exact h.od,by rw[s.ext.room];exact h.room,s.next.trans h.next,
  by rw[s.hs,KV h.ok.handles.ok s.ext.val];exact h.hs,h.chg.lower s.chg hC⟩
theorem SatE.other (h:SatE K n Od room w0 mb fs nx w o m V)(hx:Wr C w w')(hC:∀ k,k<w.heap.size->C k->w0.heap.size<=k/\o k=none):SatE K n Od room w0 mb fs nx w' o m V:=by
 obtain⟨s,hm⟩:=h.is;refine⟨⟨s,hm.keep (fun g r hg=>hx.keep g (h.lt g r hg) (fun e=>?_)) (fun _ _ h=>h)⟩,h.lt.mono hx.size,h.ok,h.vars,h.od,h.room,h.next,h.hs,h.chg.trans (ChgX.of_wr (C:=fun k=>w0.heap.size<=k) hx o (fun k hk e=>(hC k hk e).1)) (fun k hk e=>by omega)⟩;have:=(hC g (h.lt g r hg) e).2;rw[hg] at this;cases this
theorem SatE.below (h:SatE K n Od room w0 mb fs nx w o m V)(hb:Bw w w'):SatE K n Od room w0 mb fs nx w' o m V:=h.other (Wr.of_below hb NoB) (fun _ _ e=>e.elim)
theorem SatE.gave (h:SatE K n Od room w0 mb fs nx w o m V){r:Nat}(g:Gave K o w mb m V r o' w' m'):SatE K n Od room w0 mb (fs++[(nx,ef V r)]) (nx+1) w' o' m' V :=
 ⟨g.is,g.lt,g.ok,by rw[g.vars];exact h.vars,by rw[g.vars];exact h.od,by rw[g.room];exact h.room,by rw[g.next,h.next],by rw[g.hs,VU,h.hs,<- h.next];rfl,h.chg.lower (ChgX.of_chg g.chg NoB) (fun _ e=>e.elim)⟩
abbrev Yh:=@List.length_pos_of_mem
theorem Ir (h:Cc m)(hk:Ak m.d V)(r:AK m.d d'):Cc { m with d:=d' }:=by
 have g1:∀ p∈m.hs,okE (Aa d') p.2:=by
  intro p hp;rcases h.ok p hp with h0|⟨b,hb⟩
  . exact .inl h0
  ·by_cases h1:1<p.1
   ·refine .inr ⟨b,?_⟩;rw[r.nodes,Vw]
    . exact hb
    ·refine hk.live.cnt.pos_of_ext hb ?_;rw[h.refs _ _ hb];have:0<AQ m.hs (p.2/2):=by
      unfold AQ;refine Yh (WO.2 ⟨hp,?_⟩);simp[h1]
     omega
   ·refine .inl ?_;have g2:=h.lt p hp;have hu:∀ q∈m.hs,q.1=p.1->q=p:=by
     intro q hq e;have g0:=h.nodup;have h1:=D5 (l:=encH m.hs) (DZ g0) (VD.2 ⟨q,hq,rfl⟩);have h2:=D5 (l:=encH m.hs) (DZ g0) (VD.2 ⟨p,hp,rfl⟩);rw[e,h2] at h1;have e2:(p.2:Int)=(q.2:Int):=by injection h1 with h1;injection h1
     exact Prod.ext e (by omega)
    rcases(by omega:p.1=0\/p.1=1) with e|e
    . rw[<- hu _ h.zero e.symm];rfl
    . rw[<- hu _ h.one e.symm];rfl
 exact⟨h.nodup,h.zero,h.one,h.lt,h.next,g1,h.len,fun i b hb=>by rw[r.ext i b hb];exact h.refs i b (r.sub hb).1⟩
end
theorem wclear {o:Own}{s:ManW}(h:SatE K n Od room w0 mb fs nx w o m V)(hs:A8 (K m.d V) o w mb m s)(G:Phi) :
 Cl 159 #[Pt s.me] w fun x w'=>x=.returned (.tuple #[])/\A8 G o w' mb m s/\Chg (· = .entries) o o w w'/\Ac o w':=by
 refine(OT o s.me (K m.d V) G w hs.memo h.lt).mono ?_;rintro x w' ⟨h1,h2,h3,h4⟩;exact⟨h1,hs.setMemo h.lt h2 (h3.mono fun r e=>.inr e),h3,h4⟩
theorem KW {o:Own}(h:SatE K n Od room w0 mb fs nx w o m V) :
 Cl 244 #[Pt mb] w fun x w'=>x=.returned (Iv m.d.dead)/\∃ o' d',SatE K n Od room w0 mb fs nx w' o' { m with d:=d' } V/\AK m.d d'/\Chg (fun _=>True) o o' w w':=by
 obtain⟨s,hs⟩:=h.is;obtain⟨c0,c1,c2,c3,c4,c5,f0⟩:=cells6 hs.blk;have HC:Hq (∀ w1,A8 (fun _ _ _ _ _=>False) o w1 mb m s/\Chg (· = .entries) o o w w1/\Ac o w1->Cl 215 #[Pt s.sb] w1 fun x w'=>x=.returned (Iv m.d.dead)/\∃ o' d',SatE K n Od room w0 mb fs nx w' o' { m with d:=d' } V/\AK m.d d'/\Chg (fun _=>True) o o' w w'):=by
  refine Hd ?_;rintro w1 ⟨g1,g2,g3⟩;have fin:∀ o' w' d',A8 (fun _ _ _ _ _=>False) o' w' mb { m with d:=d' } s->Ac o' w'->AK m.d d'->Chg Al o o' w1 w'->∃ o' d',SatE K n Od room w0 mb fs nx w' o' { m with d:=d' } V/\AK m.d d'/\Chg (fun _=>True) o o' w w':=by
   intro o' w' d' a1 a2 a3 a4;have hc:Chg (fun _=>True) o o' w w':=g2.any.trans a4.any;refine⟨o',d',⟨⟨s,a1.mono fun _ _ _ _ _ e=>e.elim⟩,a2,⟨a3.ok h.ok.store,Ir h.ok.handles h.ok.store a3⟩,by dsimp only;rw[a3.vars];exact h.vars,by dsimp only;rw[a3.vars];exact h.od,by dsimp only;rw[a3.room];exact h.room,h.next,h.hs,h.chg.lower (ChgX.of_chg hc NoB) (fun _ e=>e.elim)⟩,a3,hc⟩
  by_cases h0:m.d.dead=0
  . refine(KT g1.store h0).mono ?_;rintro x w' ⟨rfl,hb⟩;exact⟨by rw[h0];rfl,fin o w' m.d (g1.below g3 hb) (g3.mono hb.size) (AK.none h.ok.store h0) (Chg.of_below hb _ _)⟩
  . refine(KU g1.store g3 h.ok.store h0).mono ?_;rintro x w' ⟨rfl,o',d',b1,b2,b3,b4⟩;exact⟨rfl,fin o' w' d' (g1.setStore g3 b1 b4) b2 b3 b4⟩
 have g0:=Hd (wclear h hs (fun _ _ _ _ _=>False));clear h hs
 go_enter func244,ntmps244
 go_wp2_with fail;refine g0.o.mono ?_;rintro x w1 ⟨rfl,g1,g2,g3⟩;obtain⟨d0,d1,d2,d3,d4,d5,f1⟩:=cells6 g1.blk;have g4:=Hd (HC.o w1 ⟨g1,g2,g3⟩);clear g1 g2 g3 c0 c1 c2 c3 c4 c5 f0 g0 HC;go_wp2_with fail;refine g4.o.mono ?_;rintro x w2 ⟨rfl,hq⟩;have HQ:=Hd hq;clear hq;go_wp2_with fail;go_ret;exact⟨rfl,HQ.o⟩
def HapG (K:Law)(n:Nat)(Od:List Nat->Prop)(room:Nat)(w0:Wd)(mb:Nat)(fs:List (Int×BF))(nx:Int)(ev:Ev):Prop :=
 ∀ (o:Own) (W:Wd) (m:ManD) (V:Nat->BF),SatE K n Od room w0 mb fs nx W o m V->Cl 243 #[Pt mb,evA ev] W fun x w'=>x=.returned (.tuple #[]) /\
  ∃ o' m' V',SatE K n Od room w0 mb fs nx w' o' m' V'/\m'.waits=m.waits/\m'.calls=m.calls/\(m'.d.pool.many<=m.d.pool.many\/m'.d.pool.many<=fs.length*2^n)/\ChgX NoB o o' W w'
def StE (K:Law)(n:Nat)(Od:List Nat->Prop)(room:Nat)(w0:Wd)(mb:Nat)(fs:List (Int×BF))(nx:Int)(St:ManD->Prop)(m':ManD):Prop :=
 ∀ (o:Own) (W:Wd) (m:ManD) (V:Nat->BF),SatE K n Od room w0 mb fs nx W o m V->m.waits=m'.waits->m.calls=m'.calls->(m.d.pool.many<=m'.d.pool.many\/m.d.pool.many<=fs.length*2^n)->St m
def OpG (K:Law)(n:Nat)(Od:List Nat->Prop)(room:Nat)(w0:Wd)(mb:Nat)(fs:List (Int×BF))(nx:Int)(C:Nat->Prop)(B:Wd->Prop)(St:ManD->Prop)(gop:Nat)(lop:Array Value)(Q:Wd->ManD->(Nat->BF)->Nat->Prop)(E:Int->ManD->ManD->Prop):Prop :=
 ∀ (o:Own) (W:Wd) (m:ManD) (V:Nat->BF) (xb:Nat),SatE K n Od room w0 mb fs nx W o m V->B W->(∀ k,C k->k<W.heap.size/\o k=none)->St m->BK o W xb mb->¬ C xb ->
  Calls prog gop (#[Pt xb]++lop) W fun e w'=>∃ (o':Own) (m':ManD) (V':Nat->BF),C8 C K o W mb m V o' w' m' V'/\B w' /\
   ((∃ r:Nat,e=.returned (Iv r)/\okE (Aa m'.d) r/\Q w' m' V' r) \/
    (∃ er:Int,e=AV er false ev0/\er≠0/\m'.waits=m.waits/\St m'/\E er m m') \/
    (∃ ev,e=AV 0 true ev/\m.waits=ev::m'.waits/\StE K n Od room w0 mb fs nx St m'/\HapG K n Od room w0 mb fs nx ev))
theorem Qy (gop:Nat)(lop:Array Value)(W:Wd)(xb ob fb:Nat)(R:Nat->Wd->Prop)(R2:Int->Bool->Ev->Wd->Prop)(eg:∀ args w,(callFunc gop args).run prog w=.ok (.enter gop args) w)
 (hob:W.cell? (Av ob)=some (.func (.func gop) #[] lop)) (hop:Calls prog gop (#[Pt xb]++lop) W fun e w'=>(∃ r:Nat,e=.returned (Iv r)/\R r w'/\(∃ z:Int,w'.cell? (Av fb)=some (Iv z))/\w'.frozen? (Av fb)=false) \/
  ∃ er evt ev,e=AV er evt ev/\R2 er evt ev w') :
 Cl 197 #[Pt xb,Pt ob,Pt fb] W fun e w'=>(e=.returned (.tuple #[])/\∃ r w1,R r w1/\w'=w1.setCell (Av fb) (Iv (r:Nat)))\/∃ er evt ev,e=AV er evt ev/\R2 er evt ev w':=by
 have g0:=Hd hop;clear hop
 go_enter func197,ntmps197
 go_wp2_with fail;refine g0.o.mono ?_;rintro e w' (⟨r,rfl,hr,⟨z,hc⟩,hf⟩|⟨er,evt,ev,rfl,hr⟩)
 . have HR:=Hd hr;clear hr;go_wp2_with fail;go_end0;exact .inl ⟨rfl,r,w',HR.o,rfl⟩
 . have HR:=Hd hr;clear hr;unfold AV;go_wp2_with fail;exact⟨rfl,.inr ⟨er,evt,ev,rfl,HR.o⟩⟩
structure RunI (K:Law)(n:Nat)(Od:List Nat->Prop)(room:Nat)(w0:Wd)(mb:Nat)(fs:List (Int×BF))(nx:Int)(C:Nat->Prop)(B:Wd->Prop)(St:ManD->Prop)(gop:Nat)(lop:Array Value)(o0:Own)(w:Wd)(k:Nat)(full:Bool)(W:Wd)(o:Own)(m:ManD)(V:Nat->BF):Prop where
 sat:SatE K n Od room w0 mb fs nx W o m V
 bok:B W
 st:St m
 len:m.waits.length=k
 cok:∀ c,C c->c<w.heap.size/\o c=none
 chg:ChgX C o0 o w W
 size:w.heap.size+2<=W.heap.size
 obn:o w.heap.size=none
 fbn:o (w.heap.size+1)=none
 ob:W.heap[w.heap.size]?=some (.cells #[.func (.func gop) #[] lop] 182 (0,0))
 fb:∃ z:Int,W.heap[w.heap.size+1]?=some (.cells #[Iv z] 101 (0,0))
 clean:full=true->m.d.dead=0
def RunF (K:Law)(n:Nat)(Od:List Nat->Prop)(room:Nat)(w0:Wd)(mb:Nat)(fs:List (Int×BF))(nx:Int)(C:Nat->Prop)(B:Wd->Prop)(Q:Wd->ManD->(Nat->BF)->Nat->Prop)(E:Int->ManD->ManD->Prop)(o0:Own)(w:Wd)(er:Int)(W:Wd):Prop :=
 ∃ o m V,SatE K n Od room w0 mb fs nx W o m V/\B W/\ChgX C o0 o w W/\w.heap.size+2<=W.heap.size/\o (w.heap.size+1)=none /\
  ((er=0/\∃ r:Nat,okE (Aa m.d) r/\Q W m V r/\W.heap[w.heap.size+1]?=some (.cells #[Iv r] 101 (0,0))) \/
   (er≠0/\∃ m0:ManD,E er m0 m/\(er=7->m0.d.dead=0)))
theorem Qz {B:Wd->Prop}{St:ManD->Prop}{gop:Nat}{Q:Wd->ManD->(Nat->BF)->Nat->Prop}{E:Int->ManD->ManD->Prop}
 (hB:∀ W W',B W->(∀ c,C c->W'.heap[c]?=W.heap[c]?)->B W') (hQ:∀ W W' m V r,Q W m V r->(∀ c,C c->W'.heap[c]?=W.heap[c]?)->Q W' m V r) (hSt:∀ (m:ManD) (d:Ae),St m->AK m.d d->St { m with d:=d }) (hC0:∀ c,C c->w0.heap.size<=c) (eg:∀ args w,(callFunc gop args).run prog w=.ok (.enter gop args) w)
 (hop:OpG K n Od room w0 mb fs nx C B St gop lop Q E) {o:Own} {w:Wd} {m:ManD} {V:Nat->BF} (h:SatE K n Od room w0 mb fs nx w o m V) (hb:B w) (hC:∀ c,C c->c<w.heap.size/\o c=none) (hst:St m) :
 Cl 196 #[Pt mb,.func (.func 197) #[] #[Pt w.heap.size,Pt (w.heap.size+1)]] (doW gop lop w) fun x w'=>∃ er,x=.returned (Iv er)/\RunF K n Od room w0 mb fs nx C B Q E o w er w':=by
 have hz:(doW gop lop w).heap.size=w.heap.size+2:=by simp[doW]
 have gi:Bw w (doW gop lop w):=(Ah w _).alloc (by simp) _;have gt:(doW gop lop w).heap[w.heap.size+1]?=some (.cells #[Iv 0] 101 (0,0)):=by
  have:=Vv (w.alloc (.cells #[.func (.func gop) #[] lop] 182)) (.cells #[Iv 0] 101);rw[VK] at this;exact this
 have gq:(doW gop lop w).heap[w.heap.size]?=some (.cells #[.func (.func gop) #[] lop] 182 (0,0)):=(VL _ _ (by simp)).trans (Vv w _);have hw0:=h.chg.size;have gg:RunI K n Od room w0 mb fs nx C B St gop lop o w m.waits.length false (doW gop lop w) o m V :=
  ⟨h.below gi,hB _ _ hb (fun c hc=>gi.block c (hC c hc).1),hst,rfl,hC,ChgX.of_below gi o C,by omega,h.lt.none (Vu _),h.lt.none (by omega),gq,⟨0,gt⟩,by simp⟩
 have g8:∀ {k full W W' o1 m1 V1},RunI K n Od room w0 mb fs nx C B St gop lop o w k full W o1 m1 V1->∀ {s:Nat},w.heap.size+2<=s->o1 s=none->o1 (s+1)=none->Ali s W W'->RunI K n Od room w0 mb fs nx C B St gop lop o w k full W' o1 m1 V1:=by
  intro k full W W' o1 m1 V1 hi s hs n0 n1 a;have gj:=hi.size;have hk:∀ k,k<w.heap.size+2->W'.heap[k]?=W.heap[k]?:=fun k hk=>a.keep k (by omega) (by omega)
  refine⟨hi.sat.other a (fun k _ e=>?_),hB _ _ hi.bok (fun c hc=>hk c (by have:=(hi.cok c hc).1;omega)),hi.st,hi.len,hi.cok,hi.chg.trans (ChgX.of_wr (C:=fun k=>w.heap.size<=k) a o1 (fun k _ e=>by omega)) (fun k hk e=>by omega),Vy hi.size a.size,hi.obn,hi.fbn,(hk _ (by omega)).trans hi.ob,?_,hi.clean⟩
  ·rcases e with rfl|rfl
   . exact⟨by omega,n0⟩
   . exact⟨by omega,n1⟩
  . obtain⟨z,hz⟩:=hi.fb;exact⟨z,(hk _ (by omega)).trans hz⟩
 have gf:∀ {k full full' W W' o1 m1 V1 o2 m2 V2},RunI K n Od room w0 mb fs nx C B St gop lop o w k full W o1 m1 V1->SatE K n Od room w0 mb fs nx W' o2 m2 V2->ChgX NoB o1 o2 W W'->m2.waits=m1.waits->St m2->(full'=true->m2.d.dead=0)->RunI K n Od room w0 mb fs nx C B St gop lop o w k full' W' o2 m2 V2:=by
  intro k full full' W W' o1 m1 V1 o2 m2 V2 hi gm hc e1 e2 e3;have gj:=hi.size;obtain⟨z,hz⟩:=hi.fb
  exact⟨gm,hB _ _ hi.bok (fun c ga=>hc.block c (by have:=(hi.cok c ga).1;omega) (hi.cok c ga).2 (fun e=>e)),e2,by rw[e1];exact hi.len,fun c ga=>⟨(hi.cok c ga).1,hc.none' (by have:=(hi.cok c ga).1;omega) (hi.cok c ga).2⟩,
   hi.chg.trans hc (fun _ _ e=>e.elim),Vy hi.size hc.size,hc.none' (by omega) hi.obn,hc.none' (by omega) hi.fbn,(hc.block _ (by omega) hi.obn (fun e=>e)).trans hi.ob,⟨z,(hc.block _ (by omega) hi.fbn (fun e=>e)).trans hz⟩,e3⟩
 refine KI mb _ _ _ Qa (fun k full W=>∃ o1 m1 V1,RunI K n Od room w0 mb fs nx C B St gop lop o w k full W o1 m1 V1) _ ?_ _ ⟨o,m,V,gg⟩;rintro k full W ⟨o1,m1,V1,hi⟩;have gj:=hi.size;obtain⟨s,hs⟩:=Ex W.heap.size
 refine⟨fun st W1=>match st with
  | none=>∃ (o':Own) (m':ManD) (V':Nat->BF) (r:Nat) (w1:Wd),SatE K n Od room w0 mb fs nx w1 o' m' V'/\B w1/\ChgX C o o' w w1/\s+3<=w1.heap.size/\(∀ q,w.heap.size<=q->q<s+3->o1 q=none->o' q=none)/\(∃ z:Int,w1.heap[w.heap.size+1]?=some (.cells #[.int .i64 z] 101 (0,0)))/\okE (Aa m'.d) r/\Q w1 m' V' r/\W1=w1.setCell ⟨w.heap.size+1,0,none⟩ (.int .i64 (r:Nat))
  | some (er,evt,ev)=>∃ (o':Own) (m':ManD) (V':Nat->BF),RunI K n Od room w0 mb fs nx C B St gop lop o w m'.waits.length false W1 o' m' V'/\s+3<=W1.heap.size/\(∀ q,w.heap.size<=q->q<s+3->o1 q=none->o' q=none) /\
   ((evt=false/\er≠0/\m'.waits=m1.waits/\E er m1 m')\/(evt=true/\m1.waits=ev::m'.waits/\StE K n Od room w0 mb fs nx St m'/\HapG K n Od room w0 mb fs nx ev)),?_,?_,?_,?_,?_⟩
 ·unfold EJ;have g9:Bw W (tryW mb W):=((Ah _ _).alloc (by simp) _).alloc (by simp;omega) _;have go:(tryW mb W).heap.size=W.heap.size+3:=by unfold tryW;simp
  obtain⟨T,hT⟩:=Ex (tryW mb W);have h1:(tryW mb W).heap[W.heap.size+2]?=some (.cells #[Pt mb] 233 (0,0)):=by
   have:=Vv ((W.alloc (.cells #[Iv 0,.bool false,Iv 0,Iv 0,Iv 0] 235)).alloc (.cells #[.bool false] 4)) (.cells #[Pt mb] 233);rw[VK,VK] at this;exact this
  rw[<- hT] at g9 go h1 ⊢;clear hT;have g7:=hi.sat.below g9;have gv:BK o1 T (W.heap.size+2) mb:=⟨cell1 h1,hi.sat.lt.none (by omega)⟩;have gn:=hop o1 T m1 V1 (W.heap.size+2) g7 (hB _ _ hi.bok (fun c hc=>g9.block c (by have:=(hi.cok c hc).1;omega))) (fun c hc=>⟨by have:=(hi.cok c hc).1;omega,(hi.cok c hc).2⟩) hi.st gv (fun e=>by have:=(hi.cok _ e).1;omega);have gh:=(g9.block w.heap.size (by omega)).trans hi.ob;obtain⟨z,hz⟩:=hi.fb;have ge:=(g9.block (w.heap.size+1) (by omega)).trans hz;have gy:∀ q,w.heap.size<=q->¬ C q:=fun q hq e=>by have:=(hi.cok q e).1;omega
  have g0:∀ {o':Own} {w1:Wd},ChgX C o1 o' T w1->∀ q,w.heap.size<=q->q<s+3->o1 q=none->w1.heap[q]?=T.heap[q]?:=fun hc q h1 h2 h3=>hc.block q (by omega) h3 (gy q h1)
  refine(Qy gop lop T (W.heap.size+2) w.heap.size (w.heap.size+1) (fun r w1=>∃ o' m' V',C8 C K o1 T mb m1 V1 o' w1 m' V'/\B w1/\okE (Aa m'.d) r/\Q w1 m' V' r)
   (fun er evt ev w1=>∃ o' m' V',C8 C K o1 T mb m1 V1 o' w1 m' V'/\B w1/\((evt=false/\er≠0/\m'.waits=m1.waits/\St m'/\E er m1 m')\/(evt=true/\m1.waits=ev::m'.waits/\StE K n Od room w0 mb fs nx St m'/\HapG K n Od room w0 mb fs nx ev))) eg (cell1 gh) (gn.mono ?_)).mono ?_
  ·rintro e w1 ⟨o',m',V',st,b1,(⟨r,rfl,q1,q2⟩|⟨er,rfl,q1,q2,q3,q4⟩|⟨ev,rfl,q1,q2,q3⟩)⟩
   . have hf:=(g0 st.chg (w.heap.size+1) (by omega) (by omega) hi.fbn).trans ge;exact .inl ⟨r,rfl,⟨o',m',V',st,b1,q1,q2⟩,⟨z,cell1 hf⟩,by simp[World.frozen?,hf]⟩
   . exact .inr ⟨er,false,ev0,rfl,o',m',V',st,b1,.inl ⟨rfl,q1,q2,q3,q4⟩⟩
   . exact .inr ⟨0,true,ev,rfl,o',m',V',st,b1,.inr ⟨rfl,q1,q2,q3⟩⟩
  ·have n0:o1 W.heap.size=none:=hi.sat.lt.none (Vu _);have n1:o1 (W.heap.size+1)=none:=hi.sat.lt.none (by omega);rintro e W' (⟨rfl,r,w1,⟨o',m',V',st,b1,q1,q2⟩,rfl⟩|⟨er,evt,ev,rfl,o',m',V',st,b1,q⟩)
   ·have hf:=(g0 st.chg (w.heap.size+1) (by omega) (by omega) hi.fbn).trans ge;have gl:=st.chg.size;refine⟨by simp[World.setCell];omega,?_,?_,.inl ⟨rfl,o',m',V',r,w1,g7.step st hC0,b1,(hi.chg.trans (ChgX.of_below g9 o1 C) (fun _ _ e=>e)).trans st.chg (fun _ _ e=>e),by omega,fun q _ h2 h3=>st.chg.none' (by omega) h3,⟨z,hf⟩,q1,q2,rfl⟩⟩
    . exact(Ay (by show _≠w.heap.size+1;omega) _).trans (g0 st.chg _ (by omega) (by omega) n0)
    . exact(Ay (by show _≠w.heap.size+1;omega) _).trans (g0 st.chg _ (by omega) (by omega) n1)
   ·have gl:=st.chg.size;have b2:St m':=by
     rcases q with ⟨_,_,_,q,_⟩|⟨_,_,q,_⟩
     . exact q
     . exact q _ _ _ _ (g7.step st hC0) rfl rfl (.inl (Vu _))
    have gw:=(hi.chg.trans (ChgX.of_below g9 o1 C) (fun _ _ e=>e)).trans st.chg (fun _ _ e=>e);refine⟨by omega,g0 st.chg _ (by omega) (by omega) n0,g0 st.chg _ (by omega) (by omega) n1,.inr ⟨er,evt,ev,rfl,o',m',V',?_,by omega,fun q _ h2 h3=>st.chg.none' (by omega) h3,q.imp (fun⟨a1,a2,a3,_,a4⟩=>⟨a1,a2,a3,a4⟩) id⟩⟩
    exact⟨g7.step st hC0,b1,b2,rfl,fun c hc=>⟨(hi.cok c hc).1,st.chg.none' (by have:=(hi.cok c hc).1;omega) (hi.cok c hc).2⟩,gw,by omega,st.chg.none' (by omega) hi.obn,st.chg.none' (by omega) hi.fbn,
     (g0 st.chg _ (by omega) (by omega) hi.obn).trans gh,⟨z,(g0 st.chg (w.heap.size+1) (by omega) (by omega) hi.fbn).trans ge⟩,by simp⟩
 ·rintro W1 W2 ⟨o',m',V',r,w1,a1,a2,a3,a4,a5,⟨z,a6⟩,a7,a8,rfl⟩ al;have gc:Wr (fun k=>k=w.heap.size+1\/k=s\/k=s+1) w1 W2:=Wr.trans ((Wr.refl (fun k=>k=w.heap.size+1) w1).setCell (p:=(Av (w.heap.size+1))) (.inl rfl) _) al (fun k _ e=>.inl e) (fun k _ e=>.inr (by rw[hs];exact e));have n0:o' s=none:=a5 s (by omega) (by omega) (by rw[hs];exact hi.sat.lt.none (Vu _));have n1:o' (s+1)=none:=a5 (s+1) (by omega) (by omega) (by rw[hs];exact hi.sat.lt.none (by omega));have nf:o' (w.heap.size+1)=none:=a5 _ (by omega) (by omega) hi.fbn;have hf:=(al.keep (w.heap.size+1) (by simp[World.setCell];omega) (by omega)).trans (A2 a6 _);refine⟨o',m',V',a1.other gc (fun k _ e=>?_),hB _ _ a2 (fun c hc=>gc.keep c (by have:=(hi.cok c hc).1;omega) (by have:=(hi.cok c hc).1;omega)),a3.trans (ChgX.of_wr (C:=fun k=>w.heap.size<=k) gc o' (fun k _ e=>by omega)) (fun k hk e=>by omega),by have:=gc.size;omega,nf,.inl ⟨rfl,r,a7,hQ _ _ _ _ _ a8 (fun c hc=>gc.keep c (by have:=(hi.cok c hc).1;omega) (by have:=(hi.cok c hc).1;omega)),hf⟩⟩;rcases e with rfl|rfl|rfl
  . exact⟨by omega,nf⟩
  . exact⟨by omega,n0⟩
  . exact⟨by omega,n1⟩
 ·rintro er ev W1 W2 ⟨o',m',V',gd,a4,a5,(⟨h1,_⟩|⟨_,gu,gp,gx⟩)⟩ al
  . cases h1
  rw[<- hs] at al;have n0:o' s=none:=a5 s (by omega) (by omega) (by rw[hs];exact hi.sat.lt.none (Vu _));have n1:o' (s+1)=none:=a5 (s+1) (by omega) (by omega) (by rw[hs];exact hi.sat.lt.none (by omega));have g6:=g8 gd (by omega) n0 n1 al;refine(gx o' W2 m' V' g6.sat).mono ?_;rintro x w' ⟨rfl,o2,m2,V2,g1,g2,g3,g5,g4⟩;refine⟨rfl,m'.waits.length,by rw[<- hi.len,gu];simp,o2,m2,V2,gf g6 g1 g4 g2 (gp _ _ _ _ g1 g2 g3 g5) (by simp)⟩
 ·rintro ev W1 W2 ⟨o',m',V',gd,a4,a5,(⟨_,_,hw,_⟩|⟨h1,_⟩)⟩ al gz
  . rw[<- hs] at al;have n0:o' s=none:=a5 s (by omega) (by omega) (by rw[hs];exact hi.sat.lt.none (Vu _));have n1:o' (s+1)=none:=a5 (s+1) (by omega) (by omega) (by rw[hs];exact hi.sat.lt.none (by omega));have g6:=g8 gd (by omega) n0 n1 al;refine(KW g6.sat).mono ?_;rintro x w' ⟨rfl,o2,d2,g1,g2,g3⟩;have gk:=gf (full':=true) g6 g1 (ChgX.of_chg g3 NoB) rfl (hSt _ _ g6.st g2) (fun _=>g2.dead);rw[hw,hi.len] at gk;exact⟨⟨_,rfl⟩,o2,_,V',gk⟩
  . cases h1
 ·rintro er ev W1 W2 ⟨o',m',V',gd,a4,a5,(⟨_,h0,hw,hE⟩|⟨h1,_⟩)⟩ al gr
  ·rw[<- hs] at al;have n0:o' s=none:=a5 s (by omega) (by omega) (by rw[hs];exact hi.sat.lt.none (Vu _));have n1:o' (s+1)=none:=a5 (s+1) (by omega) (by omega) (by rw[hs];exact hi.sat.lt.none (by omega));have g6:=g8 gd (by omega) n0 n1 al;refine⟨o',m',V',g6.sat,g6.bok,g6.chg,g6.size,g6.fbn,.inr ⟨h0,m1,hE,fun e7=>hi.clean ?_⟩⟩;cases full with
   | true=>rfl
   | false=>exact(gr ⟨e7,rfl⟩).elim
  . cases h1
def Is (K:Law)(n:Nat)(Od:List Nat->Prop)(room:Nat)(w0:Wd)(mb:Nat)(fs:List (Int×BF))(nx:Int)(C:Nat->Prop)(B:Wd->Prop)(Q:Wd->ManD->(Nat->BF)->Nat->Prop)(E:Int->ManD->ManD->Prop)(o:Own)(w:Wd)(x:Ending)(w':Wd):Prop :=
 ∃ o' m' V',B w'/\ChgX C o o' w w' /\
  ((∃ r m1,x=.returned (.tuple #[Iv nx,Iv 0])/\SatE K n Od room w0 mb (fs++[(nx,ef V' r)]) (nx+1) w' o' m' V'/\Q w' m1 V' r/\okE (Aa m1.d) r/\Aa m'.d=Aa m1.d/\m'.d.vars=m1.d.vars/\m'.d.level=m1.d.level/\m'.d.pool.many=m1.d.pool.many/\m'.waits=m1.waits/\m'.calls=m1.calls) \/
   (∃ er m0,er≠0/\x=.returned (.tuple #[Iv 0,Iv er])/\SatE K n Od room w0 mb fs nx w' o' m' V'/\E er m0 m'/\(er=7->m0.d.dead=0)))
theorem KX (hK:AO K){B:Wd->Prop}{St:ManD->Prop}{gop:Nat}{Q:Wd->ManD->(Nat->BF)->Nat->Prop}{E:Int->ManD->ManD->Prop}
 (hB:∀ W W',B W->(∀ c,C c->W'.heap[c]?=W.heap[c]?)->B W') (hQ:∀ W W' m V r,Q W m V r->(∀ c,C c->W'.heap[c]?=W.heap[c]?)->Q W' m V r) (hSt:∀ (m:ManD) (d:Ae),St m->AK m.d d->St { m with d:=d }) (hC0:∀ c,C c->w0.heap.size<=c) (eg:∀ args w,(callFunc gop args).run prog w=.ok (.enter gop args) w)
 (hop:OpG K n Od room w0 mb fs nx C B St gop lop Q E) {o:Own} {w:Wd} {m:ManD} {V:Nat->BF} (h:SatE K n Od room w0 mb fs nx w o m V) (hb:B w) (hC:∀ c,C c->c<w.heap.size/\o c=none) (hst:St m) (hn:nx<1099511627776) :
 Cl 143 #[Pt mb,.func (.func gop) #[] lop] w (Is K n Od room w0 mb fs nx C B Q E o w):=by
 have gr:∀ (fn:Fn) (first cap:Array Value) (w:Wd),(Instr.makeFunc fn first cap).run prog w=.ok (.func fn first cap) w:=fun _ _ _ _=>rfl
 have g5:=Hd (Qz hB hQ hSt hC0 eg hop h hb hC hst);have gi:=Hd hK;have gm:=Hd hB;have gl:=Hd hQ;have gd:=Hd hn;have ge:=Hd hC;have gq:=Qb (w.alloc (.cells #[.func (.func gop) #[] lop] 182)) (.func gop) #[] lop;have HW:Hq ((w.alloc (.cells #[.func (.func gop) #[] lop] 182)).alloc (.cells #[Iv 0] 101)=doW gop lop w):=Hd rfl;clear h hb hK hB hQ hSt hC0 hop hC hst hn
 go_enter func143,ntmps143
 go_wp2_with fail;rw[HW.o];refine g5.o.mono ?_;rintro x w1 ⟨er,rfl,o1,m1,V1,sat,b1,g6,g7,g4,(⟨rfl,r,hr,hq,ga⟩|⟨h0,m0,hE,h7⟩)⟩
 rotate_left
 ·have HF:Hq (Is K n Od room w0 mb fs nx C B Q E o w (.returned (.tuple #[Iv 0,Iv er])) w1):=Hd ⟨o1,m1,V1,b1,g6,.inr ⟨er,m0,h0,rfl,sat,hE,h7⟩⟩;have gt:(er == 0)=false:=by simpa using h0
  clear h0 hE h7 sat b1 g6 g7 g4 g5 HW;go_wp2_with fail
  go_ret2
  exact HF.o
 have g1:=cell1 ga;obtain⟨s1,g9⟩:=sat.is;obtain⟨c0,c1,c2,c3,c4,c5,f0⟩:=cells6 g9.blk;obtain⟨ss,g8⟩:=g9.store;have gh:r<eMax:=by have:=g8.edge_lt hr;unfold eMax;omega
 have gk:Hq (Cl 198 #[Pt s1.sb,Iv r] w1.drew (Bl (.bool true) w1)):=by
  have h1:=DR (g8.below sat.lt (Am w1 1)) (sat.lt.mono (Am w1 1).size) r gh;rw[K3 hr] at h1;exact Hd (h1.mono fun x w' ⟨a,b⟩=>⟨a,D9 (n:=1) b⟩)
 have gj:=Hd sat;have HR:=Hd hr;have HQ:=Hd hq;have gn:=Hd b1;have gf:=Hd g6;have gu:=Hd g4;have lmb:mb<w1.heap.size:=Af c0;have lfb:w.heap.size+1<w1.heap.size:=Af g1;clear sat g9 g8 hr hq b1 g6 g4 g7 g5 HW;go_upto_region 9 with fail;refine GQ (fun W:Wd=>Bw w1 W) 7 (by kernel_rfl) (Am w1 1) ?_;refine Cb 0 rfl rfl (by kernel_rfl) ?_;apply Exists.intro;refine⟨fun w' hw=>?_,?_⟩
 . have q1:=(hw.cell (p:=Av mb) lmb).trans c0;have q2:=(hw.cell (p:=(Av (w.heap.size+1))) lfb).trans g1;go_simp;rfl
 simp only[Ab];refine Cb 1 rfl rfl (by kernel_rfl) ?_;apply Exists.intro;refine⟨fun w' hw=>?_,?_⟩
 . have q1:=(hw.cell (p:=Av mb) lmb).trans c0;have q2:=(hw.cell (p:=(Av (w.heap.size+1))) lfb).trans g1;go_simp;rfl
 simp only[Ab];refine Cb 2 rfl rfl (by kernel_rfl) ?_;apply Exists.intro;refine⟨fun w' hw=>?_,?_⟩
 . have q1:=(hw.cell (p:=Av mb) lmb).trans c0;have q2:=(hw.cell (p:=(Av (w.heap.size+1))) lfb).trans g1;go_simp;rfl
 simp only[Ab];refine Cb 3 rfl rfl (by kernel_rfl) ?_;apply Exists.intro;refine⟨fun w' hw=>?_,?_⟩
 . have q1:=(hw.cell (p:=Av mb) lmb).trans c0;have q2:=(hw.cell (p:=(Av (w.heap.size+1))) lfb).trans g1;go_simp;rfl
 simp only[Ab];refine Cb 4 rfl rfl (by kernel_rfl) ?_;apply Exists.intro;refine⟨fun w' hw=>?_,?_⟩
 . have q1:=(hw.cell (p:=Av mb) lmb).trans c0;have q2:=(hw.cell (p:=(Av (w.heap.size+1))) lfb).trans g1;go_simp;rfl
 simp only[Ab];refine Dm [5] (by kernel_rfl) (fun i hi hS o ho=>?_);simp only[CC] at hi;subst hi;simp only[C5] at ho;subst ho;refine⟨rfl,?_⟩;refine CY (v:=.bool true) (R:=fun w'=>Bw w1 w') (by go_simp) gk.o ?_;rintro w2 g3;refine⟨g3,?_⟩;simp only[Ab];have gp:=(g3.cell (p:=(Av (w.heap.size+1))) lfb).trans g1;have d0:=(g3.cell (p:=Av mb) lmb).trans c0;have g0:=Hd (gj.o.below g3);refine Cb 6 rfl rfl (by kernel_rfl) ?_;apply Exists.intro;refine⟨fun w' hw=>?_,?_⟩
 . have q1:=(hw.cell (p:=Av mb) lmb).trans c0;have q2:=(hw.cell (p:=(Av (w.heap.size+1))) lfb).trans g1;go_simp;rfl
 simp only[Ab];have gc:=g3;clear c0 c1 c2 c3 c4 c5 f0 g1 ga g3;refine FA (by kernel_rfl) ?_;have HG:=Hd (Ij gi.o g0.o.is g0.o.lt g0.o.ok r HR.o (by rw[g0.o.next];exact gd.o));have HB2:=Hd gc;clear gc;go_wp2_with fail;refine HG.o.mono ?_;rintro x w3 ⟨rfl,o3,m3,hg⟩;have g2:=Hd hg;have gd:Hq (m1.next=nx):=Hd g0.o.next
 clear hg;go_wp2_with fail
 go_ret2
 have go:=g0.o.lt;have gg:∀ c,C c->w3.heap[c]?=w1.heap[c]?:=fun c hc=>by
  have h1:=(ge.o c hc).1;have h2:=gf.o.size;have h3:=HB2.o.size;exact(g2.o.chg.alien (by omega) (gf.o.none' h1 (ge.o c hc).2)).trans (HB2.o.block c (by omega))
 refine⟨o3,m3,V1,gm.o _ _ gn.o gg,(gf.o.trans (ChgX.of_below HB2.o o1 C) (fun _ _ e=>e)).trans (ChgX.of_chg g2.o.chg C) (fun _ _ e=>e),.inl ⟨r,m1,by rw[<- gd.o];rfl,g0.o.gave g2.o,gl.o _ _ _ _ _ HQ.o gg,HR.o,g2.o.nodes,g2.o.vars,g2.o.level,g2.o.many,g2.o.waits,g2.o.calls⟩⟩
end Go.Proofs.YtkidaindpahefaaGreat
