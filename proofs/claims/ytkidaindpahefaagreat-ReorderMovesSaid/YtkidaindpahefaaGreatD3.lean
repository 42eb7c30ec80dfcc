/- Several texts in one file: contracts of the program's functions and what follows from them. -/
import Derived.Test.YtkidaindpahefaaGreatD2
import Derived.Deep.CutBlock
import Derived.Recover
import Derived.Defers
set_option linter.unusedSimpArgs false
set_option linter.unusedVariables false
set_option linter.unusedSectionVars false
set_option linter.unnecessarySimpa false
set_option maxRecDepth 100000
set_option maxHeartbeats 8000000
namespace Go.Proofs.YtkidaindpahefaaGreat
open Go.Proofs.Tryz
open Go.RowKit
structure Ev where
 after:Int
 kind:Int
 level:Int
def evL (e:Ev):List Value:=[.int .i64 e.after,.int .i64 e.kind,.int .i64 e.level]
def evA (e:Ev):Value:=.agg #[.int .i64 e.after,.int .i64 e.kind,.int .i64 e.level]
structure Zbr (o:Own)(w:World)(v:Value)(ws:List Ev):Prop where
 ex:(v=.slice none 0 0/\ws=[])\/∃ g off cap cur,v=.slice (some ⟨g,off,none⟩) ws.length cap/\o g=some .waits/\w.heap[g]?=some (.cells cur 77 (0,0))/\ws.length<=cap/\cap<=maxLen /\
  off+cap*3<=cur.size/\(cur.toList.drop off).take (ws.length*3)=ws.flatMap evL
theorem Zbr.keep {o o':Own}{w w':World}{v:Value}{ws:List Ev}(h:Zbr o w v ws)(hk:∀ g,o g=some .waits->w'.heap[g]?=w.heap[g]?)(ho:∀ g,o g=some .waits->o' g=some .waits):Zbr o' w' v ws:=by
 refine⟨h.ex.imp id ?_⟩;rintro⟨g,off,cap,cur,h1,h2,h3,rest⟩;exact⟨g,off,cap,cur,h1,ho g h2,(hk g h2).trans h3,rest⟩
theorem Zbr.chg {R:Role->Prop}{o o':Own}{w w':World}{v:Value}{ws:List Ev}(h:Zbr o w v ws)(hc:Chg R o o' w w')(hlt:Zah o w)(hr:¬ R .waits):Zbr o' w' v ws :=
 h.keep (fun g hg=>hc.same hlt hg hr) (fun g hg=>hc.ext g _ hg)
theorem Zbr.nil (o:Own)(w:World):Zbr o w (.slice none 0 0) []:=⟨.inl ⟨rfl,rfl⟩⟩
theorem Zbr.slice {o:Own}{w:World}{v:Value}{ws:List Ev}(h:Zbr o w v ws):∃ a cap,v=.slice a ws.length cap/\(a=none->cap=0):=by
 rcases h.ex with ⟨h1,h0⟩|⟨g,off,cap,cur,h1,_⟩
 . exact⟨none,0,by rw[h1,h0];rfl,fun _=>rfl⟩
 . exact⟨_,cap,h1,by simp⟩
theorem Zct (ws:List Ev):(ws.flatMap evL).length=ws.length*3:=Zba evL 3 (fun _=>rfl) ws
theorem Zbr.first {o:Own}{w:World}{v:Value}{ev:Ev}{ws:List Ev}(h:Zbr o w v (ev::ws)):∃ g off cap,v=.slice (some ⟨g,off,none⟩) (ws.length+1) cap/\o g=some .waits/\ws.length+1<=cap/\cap<=maxLen /\
 w.cell? ⟨g,off,none⟩=some (.int .i64 ev.after)/\w.cell? ⟨g,off+1,none⟩=some (.int .i64 ev.kind)/\w.cell? ⟨g,off+2,none⟩=some (.int .i64 ev.level)/\Zbr o w (.slice (if cap=1 then some ⟨g,off,none⟩ else some ⟨g,off+3,none⟩) ws.length (cap-1)) ws:=by
 rcases h.ex with ⟨h1,h0⟩|⟨g,off,cap,cur,h1,h2,h3,h4,h5,h6,h7⟩
 . cases h0
 ·simp only[List.length_cons] at h1 h4 h7;have hc:∀ j u,(evL ev++ws.flatMap evL)[j]?=some u->w.cell? ⟨g,off+j,none⟩=some u:=by
   intro j u hj;have hl:=(List.getElem?_eq_some_iff.1 hj).1;have g0:j<(ws.length+1)*3:=by
    have e1:(evL ev++ws.flatMap evL).length=3+ws.length*3:=by rw[List.length_append,Zct];rfl
    omega
   rw[cell_of_row w g (off+j) cur _ (0,0) h3];have e2:(evL ev++ws.flatMap evL)[j]?=((cur.toList.drop off).take ((ws.length+1)*3))[j]?:=by rw[h7];rfl
   rw[e2,List.getElem?_take,if_pos g0,List.getElem?_drop] at hj;simpa using hj
  refine⟨g,off,cap,h1,h2,h4,h5,hc 0 _ rfl,hc 1 _ rfl,hc 2 _ rfl,⟨.inr ?_⟩⟩
  by_cases e1:cap=1
  . have e2:ws=[]:=List.eq_nil_of_length_eq_zero (by omega);subst e2;exact⟨g,off,cap-1,cur,by rw[if_pos e1],h2,h3,by simp,by omega,by omega,by simp⟩
  ·refine⟨g,off+3,cap-1,cur,by rw[if_neg e1],h2,h3,by omega,by omega,by omega,?_⟩;have e3:(cur.toList.drop (off+3)).take (ws.length*3)=((cur.toList.drop off).take ((ws.length+1)*3)).drop 3:=by
    rw[List.drop_take,List.drop_drop];congr 1;omega
   rw[e3,h7];rfl
structure ManD where
 d:Zad
 hs:List (Int×Nat)
 next:Int
 waits:List Ev
 calls:Int
structure ManW where
 sb:Nat
 me:Nat
 hb:Nat
 vw:Value
def encH (hs:List (Int×Nat)):List (Int×Value):=hs.map fun p=>(p.1,.int .i64 (p.2:Nat))
structure Zby (F:Phi)(o:Own)(w:World)(mb:Nat)(m:ManD)(s:ManW):Prop where
 own:o mb=some .man
 blk:w.heap[mb]?=some (.cells #[.pointer (some ⟨s.sb,0,none⟩),.pointer (some ⟨s.me,0,none⟩),.map (some s.hb),.int .i64 m.next,s.vw,.int .i64 m.calls] 100 (0,0))
 store:Zar o w s.sb m.d
 memo:Zci o w s.me F
 ownh:o s.hb=some .handles
 map:Zbf w s.hb (Value.int .i64) (encH m.hs)
 waits:Zbr o w s.vw m.waits
def Zd6 (F:Phi)(o:Own)(w:World)(mb:Nat)(m:ManD):Prop:=∃ s,Zby F o w mb m s
theorem cells6 {w:World}{g:Nat}{a b c d e f:Value}{T:TypeId}(h:w.heap[g]?=some (.cells #[a,b,c,d,e,f] T (0,0))):w.cell? ⟨g,0,none⟩=some a/\w.cell? ⟨g,1,none⟩=some b/\w.cell? ⟨g,2,none⟩=some c/\w.cell? ⟨g,3,none⟩=some d/\w.cell? ⟨g,4,none⟩=some e/\w.cell? ⟨g,5,none⟩=some f /\
 (∀ k,w.frozen? ⟨g,k,none⟩=false) :=
 ⟨by rw[cell_of_row w g 0 _ _ _ h];rfl,by rw[cell_of_row w g 1 _ _ _ h];rfl,by rw[cell_of_row w g 2 _ _ _ h];rfl,by rw[cell_of_row w g 3 _ _ _ h];rfl,by rw[cell_of_row w g 4 _ _ _ h];rfl,by rw[cell_of_row w g 5 _ _ _ h];rfl,fun k=>by simp[World.frozen?,h]⟩
section
variable {F:Phi}{o o':Own}{w w':World}{mb:Nat}{m:ManD}{s:ManW}
theorem Zbf.keepB {w w':World}{b:Nat}{enc:Int->Value}{l:List (Int×Value)}(h:Zbf w b enc l)(hk:w'.heap[b]?=w.heap[b]?):Zbf w' b enc l:=by
 obtain⟨es,c,hb,rest⟩:=h.ex;exact⟨⟨es,c,hk.trans hb,rest⟩,h.nodup⟩
theorem Zar.keepR {sb:Nat}{d:Zad}(h:Zar o w sb d)(hk:∀ g r,o g=some r->Zap r->w'.heap[g]?=w.heap[g]?)(ho:∀ g r,o g=some r->o' g=some r):Zar o' w' sb d:=by
 obtain⟨s,h⟩:=h;have row:∀ {r e k v n xs},Zap r->RowR o w r e k v n xs->RowR o' w' r e k v n xs:=fun hr h=>h.keep (fun g hg=>hk g _ hg hr) (fun g hg=>ho g _ hg)
 refine⟨s,ho _ _ h.own,ho _ _ h.ownl,(hk _ _ h.own (by simp[Zap])).trans h.blk,(hk _ _ h.ownl (by simp[Zap])).trans h.lev,row (by simp[Zap]) h.vars,row (by simp[Zap]) h.level,
  h.pool.keep (fun g r hg hr=>hk g r hg (by rcases hr with rfl|rfl|rfl|rfl<;>simp[Zap,Ze1])) ho,row (by simp[Zap]) h.tabs,
  fun v hv=>(h.tab v hv).keep (fun g r hg hr=>hk g r hg (by rcases hr with rfl|rfl<;>simp[Zap])) ho,row (by simp[Zap]) h.counts,h.len,h.tlen⟩
theorem Zci.mono {G:Phi}{me:Nat}(h:Zci o w me F)(hF:∀ op a b c r,F op a b c r->G op a b c r):Zci o w me G:=by
 obtain⟨ve,a,f,h1,h2⟩:=h.ex;refine⟨h.own,ve,a,f,h1,h2.imp id ?_⟩;rintro⟨ge,cap,l,e1,e2,e3,e4⟩;exact⟨ge,cap,l,e1,e2,e3,fun i hi=>hF _ _ _ _ _ (e4 i hi)⟩
theorem Zby.keep (h:Zby F o w mb m s)(hk:∀ g r,o g=some r->w'.heap[g]?=w.heap[g]?)(ho:∀ g r,o g=some r->o' g=some r):Zby F o' w' mb m s :=
 ⟨ho _ _ h.own,(hk _ _ h.own).trans h.blk,h.store.keepR (fun g r hg _=>hk g r hg) ho,h.memo.keep (fun g r hg _=>hk g r hg) ho,ho _ _ h.ownh,h.map.keepB (hk _ _ h.ownh),h.waits.keep (fun g hg=>hk g _ hg) (fun g hg=>ho g _ hg)⟩
theorem Zby.below (h:Zby F o w mb m s)(hlt:Zah o w)(hb:Below w.heap.size w w'):Zby F o w' mb m s:=h.keep (fun g r hg=>hb.block g (hlt g r hg)) (fun _ _ h=>h)
theorem Zby.setStore {d':Zad}(h:Zby F o w mb m s)(hlt:Zah o w)(hs:Zar o' w' s.sb d')(hc:Chg Zap o o' w w'):Zby F o' w' mb { m with d:=d' } s :=
 ⟨hc.ext _ _ h.own,(hc.same hlt h.own (by simp[Zap,Ze1])).trans h.blk,hs,h.memo.chg hc hlt (by simp[Zap,Ze1]) (by simp[Zap,Ze1]),hc.ext _ _ h.ownh,h.map.keepB (hc.same hlt h.ownh (by simp[Zap,Ze1])),h.waits.chg hc hlt (by simp[Zap,Ze1])⟩
theorem Zby.setMemo {G:Phi}(h:Zby F o w mb m s)(hlt:Zah o w)(hm:Zci o' w' s.me G)(hc:Chg (fun r=>r=.memo\/r=.entries) o o' w w'):Zby G o' w' mb m s :=
 ⟨hc.ext _ _ h.own,(hc.same hlt h.own (by simp)).trans h.blk,h.store.keepR (fun g r hg hr=>hc.same hlt hg (by rintro(rfl|rfl)<;>simp[Zap,Ze1] at hr)) hc.ext,hm,hc.ext _ _ h.ownh,h.map.keepB (hc.same hlt h.ownh (by simp)),h.waits.chg hc hlt (by simp)⟩
theorem Zby.mono {G:Phi}(h:Zby F o w mb m s)(hF:∀ op a b c r,F op a b c r->G op a b c r):Zby G o w mb m s:=⟨h.own,h.blk,h.store,h.memo.mono hF,h.ownh,h.map,h.waits⟩
theorem Zby.field (h:Zby F o w mb m s){k:Nat}{u:Value}{m':ManD}{s':ManW}(hd:m'.d=m.d)(hh:m'.hs=m.hs)(h1:s'.sb=s.sb)(h2:s'.me=s.me)(h3:s'.hb=s.hb)(hw:Zbr o w s'.vw m'.waits)
 (hb:(#[.pointer (some ⟨s.sb,0,none⟩),.pointer (some ⟨s.me,0,none⟩),.map (some s.hb),.int .i64 m.next,s.vw,.int .i64 m.calls]:Array Value).setIfInBounds k u=#[.pointer (some ⟨s.sb,0,none⟩),.pointer (some ⟨s.me,0,none⟩),.map (some s.hb),.int .i64 m'.next,s'.vw,.int .i64 m'.calls]) :
 Zby F o (w.setCell ⟨mb,k,none⟩ u) mb m' s':=by
 have ne:∀ {g r},o g=some r->r ≠ .man->g≠mb:=fun hg hr e=>by subst e;have:=h.own;rw[hg] at this;cases this;exact hr rfl
 refine⟨h.own,?_,?_,?_,by rw[h3];exact h.ownh,?_,hw.keep (fun g hg=>Zaf (ne hg (by simp)) _) (fun _ h=>h)⟩
 . rw[h1,h2,h3,<- hb];exact Zac h.blk _
 . rw[h1,hd];exact h.store.keepR (fun g r hg hr=>Zaf (ne hg (by rintro rfl;simp[Zap,Ze1] at hr)) _) (fun _ _ h=>h)
 . rw[h2];exact h.memo.keep (fun g r hg hr=>Zaf (ne hg (by rintro rfl;rcases hr with e|e<;>cases e)) _) (fun _ _ h=>h)
 . rw[h3,hh];exact h.map.keepB (Zaf (ne h.ownh (by simp)) _)
end
abbrev Law:=Zad->(Nat->BF)->Phi
def minL (d:Zad)(a b c:Nat):Nat:=min (lvE d.vars.length (levN d) (Zaa d) a) (min (lvE d.vars.length (levN d) (Zaa d) b) (lvE d.vars.length (levN d) (Zaa d) c))
structure IteP (d:Zad)(V:Nat->BF)(a b c r:Nat):Prop where
 okA:okE (Zaa d) a
 okB:okE (Zaa d) b
 okC:okE (Zaa d) c
 okR:okE (Zaa d) r
 val:∀ ρ,ef V r ρ=if ef V a ρ then ef V b ρ else ef V c ρ
 lev:minL d a b c<=lvE d.vars.length (levN d) (Zaa d) r
structure Zc8 (K:Law):Prop where
 ite:∀ d V a b c r,K d V 1 a b c r↔IteP d V a b c r
 ext:∀ d V d' V' op a b c r,Zak d V->Zak d' V'->Ext d V d' V'->K d V op a b c r->K d' V' op a b c r
 same:∀ d d' V op a b c r,d'.vars=d.vars->d'.level=d.level->Zaa d'=Zaa d->K d V op a b c r->K d' V op a b c r
def Zbx (hs:List (Int×Nat))(i:Nat):Nat:=(hs.filter fun p=>decide (1<p.1)&&p.2/2 == i).length
structure Zb1 (m:ManD):Prop where
 nodup:(m.hs.map Prod.fst).Nodup
 zero:(0,1)∈m.hs
 one:(1,0)∈m.hs
 lt:∀ p∈m.hs,0<=p.1/\p.1<m.next
 next:2<=m.next
 ok:∀ p∈m.hs,okE (Zaa m.d) p.2
 len:(m.hs.length:Int)<=m.next
 refs:∀ i b,Zaa m.d i=some b->Zaw m.d i=Zbx m.hs i
structure Ztr (m:ManD)(V:Nat->BF):Prop where
 store:Zak m.d V
 handles:Zb1 m
structure Step (K:Law)(o:Own)(w:World)(mb:Nat)(m:ManD)(V:Nat->BF)(o':Own)(w':World)(m':ManD)(V':Nat->BF):Prop where
 is:Zd6 (K m'.d V') o' w' mb m'
 lt:Zah o' w'
 chg:Chg (fun _=>True) o o' w w'
 ok:Zak m'.d V'
 ext:Ext m.d V m'.d V'
 hs:m'.hs=m.hs
 next:m'.next=m.next
theorem Step.trans {K:Law}{o o' o'':Own}{w w' w'':World}{mb:Nat}{m m' m'':ManD}{V V' V'':Nat->BF}(h:Step K o w mb m V o' w' m' V')(h':Step K o' w' mb m' V' o'' w'' m'' V''):Step K o w mb m V o'' w'' m'' V'' :=
 ⟨h'.is,h'.lt,h.chg.trans h'.chg,h'.ok,h.ext.trans h'.ext,h'.hs.trans h.hs,h'.next.trans h.next⟩
structure Zf3 (o:Own)(w:World)(xb mb:Nat):Prop where
 cell:w.cell? ⟨xb,0,none⟩=some (.pointer (some ⟨mb,0,none⟩))
 own:o xb=none
theorem Zf3.chg {R:Role->Prop}{o o':Own}{w w':World}{xb mb:Nat}(h:Zf3 o w xb mb)(hc:Chg R o o' w w'):Zf3 o' w' xb mb:=⟨hc.cell h.cell h.own,hc.alien' (World.block_lt_of_cell? w _ h.cell) h.own⟩
open Go.RowKit
def sw1 (f g:Nat):Nat:=if g=f then 0 else if g=enot f then 1 else g
def sw2 (f h:Nat):Nat:=if h=f then 1 else if h=enot f then 0 else h
theorem Yd8 {f g:Nat}(h:g<eMax):sw1 f g<eMax:=by unfold sw1;unfold eMax at *;split<;>(try split)<;>omega
theorem Yd9 {f g:Nat}(h:g<eMax):sw2 f g<eMax:=by unfold sw2;unfold eMax at *;split<;>(try split)<;>omega
theorem eqE2 (w:World)(a b c d:Nat):(Op.equalIn 10000 280 (.agg #[.int .i64 a,.int .i64 b]) (.agg #[.int .i64 c,.int .i64 d])).run prog w=.ok (decide (a=c/\b=d)) w:=by
 have h:=eqE w (a,b) (c,d);unfold encE Op.equal at h;simp only[Prod.mk.injEq] at h;exact h
structure IteR where
 a:Nat
 b:Nat
 c:Nat
 n:Bool
 r:Nat
 dn:Bool
def iteV (x:IteR):Value:=.tuple #[.int .i64 x.a,.int .i64 x.b,.int .i64 x.c,.bool x.n,.int .i64 x.r,.bool x.dn]
def iteM (f g h:Nat):IteR:=if eneg f then ⟨enot f,eflip h (eneg h),eflip g (eneg h),eneg h,0,false⟩ else ⟨f,eflip g (eneg g),eflip h (eneg g),eneg g,0,false⟩
def iteK (f g h:Nat):IteR :=
 if f=0\/g=h then ⟨0,0,0,false,g,true⟩ else if f=1 then ⟨0,0,0,false,h,true⟩ else if g=0/\h=1 then ⟨0,0,0,false,f,true⟩ else if g=1/\h=0 then ⟨0,0,0,false,enot f,true⟩ else iteM f g h
def iteR (f g h:Nat):IteR:=iteK f (sw1 f g) (sw2 f h)
theorem Zco {fn:Func}{t u v x y z:Tmp}(h:fn.results=#[.tmp t,.tmp u,.tmp v,.tmp x,.tmp y,.tmp z])(tmps:Array Value)(P:Program)(w:World) :
 (results fn tmps).run P w=.ok (.tuple #[tmps.getD t undef,tmps.getD u undef,tmps.getD v undef,tmps.getD x undef,tmps.getD y undef,tmps.getD z undef]) w:=by
 simp[results,h]
theorem Ycy (f g h:Nat)(w:World)(hf:f<eMax)(hg:g<eMax)(hh:h<eMax) :
 Calls prog 200 #[.int .i64 f,.int .i64 g,.int .i64 h] w fun x w'=>x=.returned (iteV (iteR f g h))/\w=w':=by
 have HN:=Hd (fun W:World=>Zrw f W hf);have g3:=Hd (Yd8 (f:=f) hg);have HH:=Hd hh;have g2:=Hd (Yd9 (f:=f) hh);have g9:=Hd hf;clear hf hg hh
 go_enter func200,ntmps200
 go_upto_block 0 with fail
 go_cut [1] from 13 (fun s1 wx=>s1=.int .i64 (sw1 f g:Nat)/\wx=w)
 case first =>
  by_cases h1:g=f
  ·have HX:Hid ((sw1 f g:Nat)=0):=by show _=_;simp[sw1,h1]
   subst h1;go_wp2_with fail;go_meet;exact⟨by rw[HX.out];rfl,rfl⟩
  ·have H1:(g == f)=false:=by simp[h1]
   by_cases h2:g=enot f
   ·have HX:Hid ((sw1 f g:Nat)=1):=by show _=_;unfold sw1;rw[if_neg h1,if_pos h2]
    subst h2;clear h1;go_wp2_with (go_at_call 162;refine(HN.out _).mono ?_;rintro x w' ⟨rfl,rfl⟩);go_meet;exact⟨by rw[HX.out];rfl,rfl⟩
   ·have HX:Hid ((sw1 f g:Nat)=g):=by show _=_;unfold sw1;rw[if_neg h1,if_neg h2]
    have H2:(g == enot f)=false:=by simp[h2]
    clear h1 h2;go_wp2_with (go_at_call 162;refine(HN.out _).mono ?_;rintro x w' ⟨rfl,rfl⟩);go_meet;exact⟨by rw[HX.out],rfl⟩
 case rest =>
  obtain⟨rfl,rfl⟩:=hcut;have g0:Hid (iteR f g h=iteK f (sw1 f g) (sw2 f h)):=by show _=_;rfl
  obtain⟨g',g4⟩:∃ g',g'=sw1 f g:=⟨_,rfl⟩;rw[<- g4] at g0;rw[<- g4] at g3 ⊢;clear g4
  go_upto_block 1 with fail
  go_cut [2] from 13 (fun s2 wx=>s2=.int .i64 (sw2 f h:Nat)/\wx=wc)
  case first =>
   by_cases h1:h=f
   ·have HX:Hid ((sw2 f h:Nat)=1):=by show _=_;simp[sw2,h1]
    subst h1;go_wp2_with fail;go_meet;exact⟨by rw[HX.out];rfl,rfl⟩
   ·have H1:(h == f)=false:=by simp[h1]
    by_cases h2:h=enot f
    ·have HX:Hid ((sw2 f h:Nat)=0):=by show _=_;unfold sw2;rw[if_neg h1,if_pos h2]
     subst h2;clear h1;go_wp2_with (go_at_call 162;refine(HN.out _).mono ?_;rintro x w' ⟨rfl,rfl⟩);go_meet;exact⟨by rw[HX.out];rfl,rfl⟩
    ·have HX:Hid ((sw2 f h:Nat)=h):=by show _=_;unfold sw2;rw[if_neg h1,if_neg h2]
     have H2:(h == enot f)=false:=by simp[h2]
     clear h1 h2;go_wp2_with (go_at_call 162;refine(HN.out _).mono ?_;rintro x w' ⟨rfl,rfl⟩);go_meet;exact⟨by rw[HX.out],rfl⟩
  case rest =>
   obtain⟨rfl,rfl⟩:=hcut;obtain⟨h',g5⟩:∃ h',h'=sw2 f h:=⟨_,rfl⟩;rw[<- g5] at g0 g2 ⊢;clear g5
   rename World=>w
   have hq:=fun(a b c d:Nat)=>eqE2 w a b c d
   by_cases f0:f=0
   ·have HR:Hid (iteR f g h=⟨0,0,0,false,g',true⟩):=by show _=_;rw[g0.out,iteK,if_pos (.inl f0)]
    subst f0;go_wp2_with fail;refine bodyPost_ret (Zco rfl _ _ _) rfl ?_;exact⟨by rw[HR.out];rfl,rfl⟩
   ·have H0:((f:Int) == 0)=false:=by simp[f0]
    by_cases e1:g'=h'
    ·have HR:Hid (iteR f g h=⟨0,0,0,false,g',true⟩):=by show _=_;rw[g0.out,iteK,if_pos (.inr e1)]
     subst e1;go_wp2_with fail;refine bodyPost_ret (Zco rfl _ _ _) rfl ?_;exact⟨by rw[HR.out];rfl,rfl⟩
    ·have H1:(g' == h')=false:=by simp[e1]
     by_cases f1:f=1
     ·have HR:Hid (iteR f g h=⟨0,0,0,false,h',true⟩):=by show _=_;rw[g0.out,iteK,if_neg (by simp[f0,e1]),if_pos f1]
      have HR:=HR;subst f1;clear f0 e1;go_wp2_with fail;refine bodyPost_ret (Zco rfl _ _ _) rfl ?_;exact⟨by rw[HR.out];rfl,rfl⟩
     ·have H2:((f:Int) == 1)=false:=by simp;omega
      by_cases q1:g'=0/\h'=1
      ·have HR:Hid (iteR f g h=⟨0,0,0,false,f,true⟩):=by show _=_;rw[g0.out,iteK,if_neg (by simp[f0,e1]),if_neg f1,if_pos q1]
       have g8:(Op.equalIn 10000 280 (.agg #[.int .i64 g',.int .i64 h']) (.agg #[.int .i64 0,.int .i64 1])).run prog w=.ok true w:=(hq g' h' 0 1).trans (by simp[q1]);clear f0 e1 f1 q1 hq;go_wp2_with fail;refine bodyPost_ret (Zco rfl _ _ _) rfl ?_;exact⟨by rw[HR.out];rfl,rfl⟩
      ·have g8:(Op.equalIn 10000 280 (.agg #[.int .i64 g',.int .i64 h']) (.agg #[.int .i64 0,.int .i64 1])).run prog w=.ok false w:=(hq g' h' 0 1).trans (by simp[q1])
       by_cases q2:g'=1/\h'=0
       ·have HR:Hid (iteR f g h=⟨0,0,0,false,enot f,true⟩):=by show _=_;rw[g0.out,iteK,if_neg (by simp[f0,e1]),if_neg f1,if_neg q1,if_pos q2]
        have g7:(Op.equalIn 10000 280 (.agg #[.int .i64 g',.int .i64 h']) (.agg #[.int .i64 1,.int .i64 0])).run prog w=.ok true w:=(hq g' h' 1 0).trans (by simp[q2]);clear f0 e1 f1 q1 hq q2;go_wp2_with (go_at_call 162;refine(HN.out _).mono ?_;rintro x w' ⟨rfl,rfl⟩);refine bodyPost_ret (Zco rfl _ _ _) rfl ?_;exact⟨by rw[HR.out];rfl,rfl⟩
       ·have g7:(Op.equalIn 10000 280 (.agg #[.int .i64 g',.int .i64 h']) (.agg #[.int .i64 1,.int .i64 0])).run prog w=.ok false w:=(hq g' h' 1 0).trans (by simp[q2]);have g6:Hid (iteR f g h=iteM f g' h'):=by show _=_;rw[g0.out,iteK,if_neg (by simp[f0,e1]),if_neg f1,if_neg q1,if_neg q2]
        clear f0 e1 f1 q1 hq q2;have g1:=Hd (fun W:World=>Zkz f W g9.out);cases hb:eneg f with
        | true =>
          have HR:Hid (iteR f g h=⟨enot f,eflip h' (eneg h'),eflip g' (eneg h'),eneg h',0,false⟩):=by show _=_;rw[g6.out,iteM,if_pos hb]
          rw[hb] at g1;clear hb;go_wp2_with fail;refine(g1.out _).mono ?_;rintro x w' ⟨rfl,rfl⟩;go_wp2_with fail;refine(HN.out _).mono ?_;rintro x w' ⟨rfl,rfl⟩;go_wp2_with fail;refine(Zkz h' _ g2.out).mono ?_;rintro x w' ⟨rfl,rfl⟩;go_wp2_with fail;refine(Zc6 h' _ _ g2.out).mono ?_;rintro x w' ⟨rfl,rfl⟩;go_wp2_with fail;refine(Zc6 g' _ _ g3.out).mono ?_;rintro x w' ⟨rfl,rfl⟩;go_wp2_with fail;refine bodyPost_ret (Zco rfl _ _ _) rfl ?_;exact⟨by rw[HR.out];rfl,rfl⟩
        | false =>
          have HR:Hid (iteR f g h=⟨f,eflip g' (eneg g'),eflip h' (eneg g'),eneg g',0,false⟩):=by show _=_;rw[g6.out,iteM,if_neg (by simp[hb])]
          rw[hb] at g1;clear hb;go_wp2_with fail;refine(g1.out _).mono ?_;rintro x w' ⟨rfl,rfl⟩;go_wp2_with fail;refine(Zkz g' _ g3.out).mono ?_;rintro x w' ⟨rfl,rfl⟩;go_wp2_with fail;refine(Zc6 g' _ _ g3.out).mono ?_;rintro x w' ⟨rfl,rfl⟩;go_wp2_with fail;refine(Zc6 h' _ _ g2.out).mono ?_;rintro x w' ⟨rfl,rfl⟩;go_wp2_with fail;refine bodyPost_ret (Zco rfl _ _ _) rfl ?_;exact⟨by rw[HR.out];rfl,rfl⟩
end Go.Proofs.YtkidaindpahefaaGreat

namespace Go.Proofs.YtkidaindpahefaaGreat
open Go.Proofs.Tryz
def Zd8 (e f g h:Nat):Prop:=e/2=0\/e/2=f/2\/e/2=g/2\/e/2=h/2
def iteB (a b c:Bool):Bool:=if a then b else c
section
variable {V:Nat->BF}(hV:∀ ρ,V 0 ρ=true)
theorem Ziv (hV:∀ ρ,V 0 ρ=true)(ρ:Nat->Bool):ef V 0 ρ=true:=by simp[ef,hV]
theorem Zmc (hV:∀ ρ,V 0 ρ=true)(ρ:Nat->Bool):ef V 1 ρ=false:=by simp[ef,hV]
theorem Ybu (hV:∀ ρ,V 0 ρ=true)(f g:Nat)(h:Bool)(ρ:Nat->Bool):iteB (ef V f ρ) (ef V (sw1 f g) ρ) h=iteB (ef V f ρ) (ef V g ρ) h:=by
 unfold sw1
 by_cases e1:g=f
 . subst e1;rw[if_pos rfl,Ziv hV];unfold iteB;cases ef V g ρ<;>rfl
 ·by_cases e2:g=enot f
  . subst e2;rw[if_neg e1,if_pos rfl,Zhr,Zmc hV];unfold iteB;cases ef V f ρ<;>rfl
  . rw[if_neg e1,if_neg e2]
end
theorem Ybv {V:Nat->BF}(hV:∀ ρ,V 0 ρ=true)(f h:Nat)(g:Bool)(ρ:Nat->Bool):iteB (ef V f ρ) g (ef V (sw2 f h) ρ)=iteB (ef V f ρ) g (ef V h ρ):=by
 unfold sw2
 by_cases e1:h=f
 . subst e1;rw[if_pos rfl,Zmc hV];unfold iteB;cases ef V h ρ<;>rfl
 ·by_cases e2:h=enot f
  . subst e2;rw[if_neg e1,if_pos rfl,Zhr,Ziv hV];unfold iteB;cases ef V f ρ<;>rfl
  . rw[if_neg e1,if_neg e2]
theorem Zth (f g:Nat):sw1 f g/2=0\/sw1 f g/2=g/2:=by unfold sw1;split<;>(try split)<;>simp
theorem Zti (f g:Nat):sw2 f g/2=0\/sw2 f g/2=g/2:=by unfold sw2;split<;>(try split)<;>simp
theorem Zpl {f g h:Nat}(hd:(iteR f g h).dn=true):Zd8 (iteR f g h).r f g h/\∀ {V:Nat->BF},(∀ ρ,V 0 ρ=true)->∀ ρ,ef V (iteR f g h).r ρ=iteB (ef V f ρ) (ef V g ρ) (ef V h ρ):=by
 have q1:=Zth f g;have q2:=Zti f h;have key:∀ {V:Nat->BF},(∀ ρ,V 0 ρ=true)->∀ ρ,iteB (ef V f ρ) (ef V g ρ) (ef V h ρ)=iteB (ef V f ρ) (ef V (sw1 f g) ρ) (ef V (sw2 f h) ρ):=fun hV ρ=>by rw[Ybu hV,Ybv hV]
 unfold iteR at hd ⊢
 generalize sw1 f g=g' at *
 generalize sw2 f h=h' at *
 unfold iteK at hd ⊢
 by_cases e1:f=0\/g'=h'
 ·simp only[if_pos e1];refine⟨by unfold Zd8;omega,fun hV ρ=>?_⟩;rw[key hV];rcases e1 with e|e
  . subst e;rw[Ziv hV];rfl
  . subst e;unfold iteB;split<;>rfl
 ·simp only[if_neg e1] at hd ⊢
  by_cases e2:f=1
  . simp only[if_pos e2];refine⟨by unfold Zd8;omega,fun hV ρ=>?_⟩;rw[key hV];subst e2;rw[Zmc hV];rfl
  ·simp only[if_neg e2] at hd ⊢
   by_cases e3:g'=0/\h'=1
   . simp only[if_pos e3];refine⟨by unfold Zd8;omega,fun hV ρ=>?_⟩;rw[key hV,e3.1,e3.2,Zmc hV,Ziv hV];unfold iteB;cases ef _ f ρ<;>rfl
   ·simp only[if_neg e3] at hd ⊢
    by_cases e4:g'=1/\h'=0
    . simp only[if_pos e4];have:=Zek f;refine⟨by unfold Zd8;omega,fun hV ρ=>?_⟩;rw[key hV,e4.1,e4.2,Zmc hV,Ziv hV,Zhr];unfold iteB;cases ef _ f ρ<;>rfl
    . simp only[if_neg e4] at hd;unfold iteM at hd;split at hd<;>cases hd
theorem Zwz {f g h:Nat}(hd:(iteR f g h).dn=false):Zd8 (iteR f g h).a f g h/\Zd8 (iteR f g h).b f g h/\Zd8 (iteR f g h).c f g h/\(iteR f g h).a/2≠0 /\
 ∀ {V:Nat->BF},(∀ ρ,V 0 ρ=true)->∀ ρ,iteB (ef V f ρ) (ef V g ρ) (ef V h ρ)=((iteR f g h).n != iteB (ef V (iteR f g h).a ρ) (ef V (iteR f g h).b ρ) (ef V (iteR f g h).c ρ)):=by
 have q1:=Zth f g;have q2:=Zti f h;have key:∀ {V:Nat->BF},(∀ ρ,V 0 ρ=true)->∀ ρ,iteB (ef V f ρ) (ef V g ρ) (ef V h ρ)=iteB (ef V f ρ) (ef V (sw1 f g) ρ) (ef V (sw2 f h) ρ):=fun hV ρ=>by rw[Ybu hV,Ybv hV]
 unfold iteR at hd ⊢
 generalize sw1 f g=g' at *
 generalize sw2 f h=h' at *
 unfold iteK at hd ⊢
 by_cases e1:f=0\/g'=h'
 . simp[if_pos e1] at hd
 ·by_cases e2:f=1
  . simp[if_neg e1,if_pos e2] at hd
  ·by_cases e3:g'=0/\h'=1
   . simp[if_neg e1,if_neg e2,if_pos e3] at hd
   ·by_cases e4:g'=1/\h'=0
    . simp[if_neg e1,if_neg e2,if_neg e3,if_pos e4] at hd
    ·simp only[if_neg e1,if_neg e2,if_neg e3,if_neg e4];unfold iteM
     by_cases e5:eneg f=true
     . simp only[if_pos e5];have a1:=Zek f;have a2:=Zcs h' (eneg h');have a3:=Zcs g' (eneg h');refine⟨by unfold Zd8;omega,by unfold Zd8;omega,by unfold Zd8;omega,by omega,fun hV ρ=>?_⟩;rw[key hV,Zhr,Zc5,Zc5];unfold iteB;cases ef _ f ρ<;>cases eneg h'<;>simp
     . simp only[if_neg e5];have a2:=Zcs h' (eneg g');have a3:=Zcs g' (eneg g');refine⟨by unfold Zd8;omega,by unfold Zd8;omega,by unfold Zd8;omega,by omega,fun hV ρ=>?_⟩;rw[key hV,Zc5,Zc5];unfold iteB;cases ef _ f ρ<;>cases eneg g'<;>simp
open Go.RowKit
def atV (d:Zad)(f:Nat):Value :=
 match Zaa d (f/2) with
 | some b=>.tuple #[.int .i64 b.v,.int .i64 (eflip b.lo (eneg f):Nat),.int .i64 (eflip b.hi (eneg f):Nat),.bool true]
 | none=>.tuple #[.int .i64 (-1),.int .i64 0,.int .i64 0,.bool false]
theorem Zg7 {o:Own}{w:World}{sb:Nat}{d:Zad}{V:Nat->BF}(h:Zar o w sb d)(hlt:Zah o w)(hk:Zak d V)(f:Nat)(hf:okE (Zaa d) f) :
 Calls prog 175 #[.pointer (some ⟨sb,0,none⟩),.int .i64 f] w fun x w'=>x=.returned (atV d f)/\Below w.heap.size w w':=by
 obtain⟨s,h⟩:=h;have lt:∀ e,okE (Zaa d) e->e<eMax:=fun e he=>by have:=h.edge_lt he;unfold eMax;omega
 cases hb:Zaa d (f/2) with
 | none =>
   have ht:d.pool.tk (enode f)=false:=Zgh hb;have hz:d.pool.has (enode f)=rn0:=by unfold Zal.has;rw[ht];rfl
   refine(Zlf h hlt f (lt f hf) (by rw[hz];decide) (by rw[hz];decide)).mono ?_;rintro x w' ⟨rfl,g1⟩;exact⟨by simp[ht,atV,hb],g1⟩
 | some b =>
   have hn:=Za1 hb;have ht:d.pool.tk (enode f)=true:=hn.1;have g0:bnOf (d.pool.has (enode f))=b:=hn.2.2;have e1:(d.pool.has (enode f)).v=b.v:=by rw[<- g0];rfl
   have e2:(d.pool.has (enode f)).lo=b.lo:=by rw[<- g0];rfl
   have e3:(d.pool.has (enode f)).hi=b.hi:=by rw[<- g0];rfl
   refine(Zlf h hlt f (lt f hf) (by rw[e2];exact lt _ (hk.dag.okLo _ _ hb)) (by rw[e3];exact lt _ (hk.dag.okHi _ _ hb))).mono ?_;rintro x w' ⟨rfl,g1⟩;exact⟨by simp[ht,atV,hb,e1,e2,e3],g1⟩
theorem Zar.below {o:Own}{w w':World}{sb:Nat}{d:Zad}(h:Zar o w sb d)(hlt:Zah o w)(hb:Below w.heap.size w w'):Zar o w' sb d:=by
 obtain⟨s,h⟩:=h;exact⟨s,h.below hlt hb⟩
theorem Zo3 {F:Phi}{o:Own}{w:World}{xb mb:Nat}{m:ManD}{V:Nat->BF}(h:Zd6 F o w mb m)(hx:Zf3 o w xb mb)(hk:Zak m.d V)(v:Int) :
 Calls prog 229 #[.pointer (some ⟨xb,0,none⟩),.int .i64 v] w fun x w'=>x=.returned (.int .i64 (Zf1 m.d v))/\w=w':=by
 obtain⟨s,h⟩:=h;obtain⟨st,g0⟩:=h.store;obtain⟨c0,c1,c2,c3,c4,c5,f0⟩:=cells6 h.blk;have HL:=Hd (Zhu g0 v (by rw[g0.len];have:=hk.small;omega));have cx:=hx.cell;clear h g0 hx hk
 go_enter func229,ntmps229
 go_wp2_with fail;refine HL.out.mono ?_;rintro x w' ⟨rfl,rfl⟩;go_wp2_with fail;go_ret;exact⟨rfl,rfl⟩
def cofs (d:Zad)(f:Nat)(v:Int):Nat×Nat :=
 match Zaa d (f/2) with
 | some b=>if (b.v:Int)=v then (eflip b.lo (eneg f),eflip b.hi (eneg f)) else (f,f)
 | none=>(f,f)
theorem Zje {F:Phi}{o:Own}{w:World}{xb mb:Nat}{m:ManD}{V:Nat->BF}(h:Zd6 F o w mb m)(hlt:Zah o w)(hx:Zf3 o w xb mb)(hk:Zak m.d V)(f:Nat)(hf:okE (Zaa m.d) f)(v:Int) :
 Calls prog 170 #[.pointer (some ⟨xb,0,none⟩),.int .i64 f,.int .i64 v] w fun x w'=>x=.returned (.tuple #[.int .i64 (cofs m.d f v).1,.int .i64 (cofs m.d f v).2])/\Below w.heap.size w w':=by
 obtain⟨s,h⟩:=h;obtain⟨c0,c1,c2,c3,c4,c5,f0⟩:=cells6 h.blk;have HA:=Hd (Zg7 h.store hlt hk f hf);have cx:=hx.cell;clear h hx hk hlt hf;unfold atV at HA;unfold cofs;cases hb:Zaa m.d (f/2) with
 | none =>
   rw[hb] at HA;clear hb
   go_enter func170,ntmps170
   go_wp2_with fail;refine HA.out.mono ?_;rintro x w' ⟨rfl,hb⟩;have HB:=Hd hb;clear hb;go_wp2_with fail
   go_ret2
   exact⟨rfl,HB.out⟩
 | some b =>
   rw[hb] at HA;clear hb
   by_cases e:(b.v:Int)=v
   ·subst e;have HE:Hid ((if (b.v:Int)=b.v then (eflip b.lo (eneg f),eflip b.hi (eneg f)) else (f,f))=(eflip b.lo (eneg f),eflip b.hi (eneg f))):=by show _=_;rw[if_pos rfl]
    go_enter func170,ntmps170
    go_wp2_with fail;refine HA.out.mono ?_;rintro x w' ⟨rfl,hb⟩;have HB:=Hd hb;clear hb;go_wp2_with fail
    go_ret2
    exact⟨by first|rfl|(rw[HE.out];rfl),HB.out⟩
   ·have HE:Hid ((if (b.v:Int)=v then (eflip b.lo (eneg f),eflip b.hi (eneg f)) else (f,f))=(f,f)):=by show _=_;rw[if_neg e]
    have H1:((b.v:Int) == v)=false:=by simpa using e
    go_enter func170,ntmps170
    go_wp2_with fail;refine HA.out.mono ?_;rintro x w' ⟨rfl,hb⟩;have HB:=Hd hb;clear hb;go_wp2_with fail
    go_ret2
    exact⟨by first|rfl|(rw[HE.out];rfl),HB.out⟩
def TopS (d:Zad)(zs:List Nat)(top least:Int):Prop :=
 (top = -1/\least=0/\∀ e∈zs,Zaa d (e/2)=none) \/
 ∃ v:Nat,top=v/\least=(levN d v:Nat)/\v<d.vars.length/\(∃ e∈zs,∃ b,Zaa d (e/2)=some b/\b.v=v)/\∀ e∈zs,levN d v<=lvE d.vars.length (levN d) (Zaa d) e
theorem TopS.none {d:Zad}{zs:List Nat}{top least:Int}{e:Nat}(h:TopS d zs top least)(hl:∀ v,v<d.vars.length->levN d v<d.vars.length)(he:Zaa d (e/2)=none):TopS d (zs++[e]) top least:=by
 rcases h with ⟨h1,h2,h3⟩|⟨v,h1,h2,h3,⟨e0,g0,hb⟩,h5⟩
 ·refine .inl ⟨h1,h2,fun x hx=>?_⟩;rcases List.mem_append.1 hx with hx|hx
  . exact h3 x hx
  . simp at hx;subst hx;exact he
 ·refine .inr ⟨v,h1,h2,h3,⟨e0,by simp[g0],hb⟩,fun x hx=>?_⟩;rcases List.mem_append.1 hx with hx|hx
  . exact h5 x hx
  . simp at hx;subst hx;unfold lvE;rw[he];exact Nat.le_of_lt (hl v h3)
theorem TopS.keep {d:Zad}{zs:List Nat}{v:Nat}{least:Int}{e:Nat}{b:BN}(h:TopS d zs v least)(he:Zaa d (e/2)=some b)(hle:¬ ((levN d b.v:Nat):Int)<least):TopS d (zs++[e]) v least:=by
 rcases h with ⟨h1,h2,h3⟩|⟨u,h1,h2,h3,⟨e0,g0,hb⟩,h5⟩
 . omega
 ·obtain rfl:v=u:=by omega
  refine .inr ⟨v,rfl,h2,h3,⟨e0,by simp[g0],hb⟩,fun x hx=>?_⟩;rcases List.mem_append.1 hx with hx|hx
  . exact h5 x hx
  . simp at hx;subst hx;unfold lvE;rw[he];dsimp only;omega
theorem TopS.take {d:Zad}{zs:List Nat}{top least:Int}{e:Nat}{b:BN}(h:TopS d zs top least)(hv:b.v<d.vars.length)(hl:∀ v,v<d.vars.length->levN d v<d.vars.length)(he:Zaa d (e/2)=some b)(hle:top<0\/((levN d b.v:Nat):Int)<least):TopS d (zs++[e]) b.v (levN d b.v:Nat):=by
 refine .inr ⟨b.v,rfl,rfl,hv,⟨e,by simp,b,he,rfl⟩,fun x hx=>?_⟩;rcases List.mem_append.1 hx with hx|hx
 ·rcases h with ⟨h1,h2,h3⟩|⟨u,h1,h2,h3,⟨e0,g0,hb⟩,h5⟩
  . unfold lvE;rw[h3 x hx];exact Nat.le_of_lt (hl _ hv)
  . have:=h5 x hx;omega
 . simp at hx;subst hx;unfold lvE;rw[he];exact Nat.le_refl _
theorem Zps {d:Zad}{v:Nat}(h:v<d.level.length):Zf1 d v=(levN d v:Nat):=by unfold Zf1;rw[if_pos ⟨by omega,by omega⟩];rfl
theorem Zma {F:Phi}{o:Own}{w:World}{xb mb:Nat}{m:ManD}{V:Nat->BF}(h:Zd6 F o w mb m)(hlt:Zah o w)(hx:Zf3 o w xb mb)(hk:Zak m.d V)(zs:List Nat)(hz:∀ e∈zs,okE (Zaa m.d) e)(a:Option Addr)(c:Nat)(hzs:Zav w a (zs.map Int.ofNat)) :
 Calls prog 169 #[.pointer (some ⟨xb,0,none⟩),.slice a zs.length c] w fun x w'=>∃ top least,x=.returned (.int .i64 top)/\TopS m.d zs top least/\Below w.heap.size w w':=by
 obtain⟨s,h⟩:=h;obtain⟨st,gd⟩:=h.store;have gi:m.d.level.length=m.d.vars.length:=gd.len;have HM:=Hd h;have HX:=Hd hx;have g5:=Hd hlt;have HK:=Hd hk;have HZ:=Hd hz;have gl:=Hd hzs;have gj:=hzs.len;simp only[List.length_map] at gj;clear h gd hx hlt hk hz hzs
 go_enter func169,ntmps169
 go_wp2_with fail
 go_loopw [5,6,15] (fun s5 s6 i wr=>∃ (k:Nat) (top least:Int),k<=zs.length/\i=.int .i64 k/\s5=.int .i64 top/\s6=.int .i64 least/\TopS m.d (zs.take k) top least/\Below w.heap.size w wr) (fun _ _ i _=>zs.length-(intOf i).toNat)
 case atStart=>exact⟨0,-1,0,by omega,rfl,rfl,rfl,.inl ⟨rfl,rfl,by simp⟩,Below.refl _ _⟩
 case round =>
  obtain⟨k,top,least,hk,rfl,rfl,rfl,hT,hB⟩:=hrel
  by_cases g2:k<zs.length
  ·obtain⟨b0,off,ha,g3⟩:=(gl.out.below hB).cells k (by simpa using g2);subst ha;have he:at0 (zs.map Int.ofNat) k=(zs[k]:Int):=by rw[Zax (by simpa using g2)];simp
   rw[he] at g3;have g8:zs[k]∈zs:=List.getElem_mem g2;have g6:zs.take (k+1)=zs.take k++[zs[k]]:=by rw[List.take_add_one,List.getElem?_eq_getElem g2];rfl
   have g7:=HZ.out _ g8;obtain⟨f,hf⟩:∃ f,f=zs[k]:=⟨_,rfl⟩;rw[<- hf] at g3 g7 g6;obtain⟨c0,c1,c2,c3,c4,c5,f0⟩:=cells6 ((HM.out.below g5.out hB).blk);have cx:wr.cell? ⟨xb,0,none⟩=_:=(hB.cell (p:=⟨xb,0,none⟩) (Zab HX.out.cell)).trans HX.out.cell;have HA:=Hd (Zg7 ((HM.out.below g5.out hB).store) (g5.out.mono hB.size) HK.out f g7);have g4:=Hd g6;have HT:=Hd hT;have HB:=Hd hB;have gn:(k:Int)<zs.length:=by omega
   clear hf g8 he hT hB g7 g6;unfold atV at HA;have ga:Hid (∀ v,v<m.d.vars.length->levN m.d v<m.d.vars.length):=Hd HK.out.dag.lt;have gg:=Hd (fun W hb v=>Zo3 ⟨s,HM.out.below g5.out hb⟩ (o:=o) (w:=W) (xb:=xb) (mb:=mb) ⟨(hb.cell (p:=⟨xb,0,none⟩) (Zab HX.out.cell)).trans HX.out.cell,HX.out.own⟩ HK.out v);cases hb:Zaa m.d (f/2) with
   | none =>
     rw[hb] at HA;have HN:=Hd hb;clear hb;go_wp2_with fail;refine HA.out.mono ?_;rintro x w' ⟨rfl,g0⟩;have HB2:=Hd (HB.out.trans (g0.mono HB.out.size));clear g0;go_wp2_with fail;go_roundw
     case rel=>exact⟨k+1,top,least,by omega,by simp,rfl,rfl,by rw[g4.out];exact HT.out.none ga.out HN.out,HB2.out⟩
     case measure=>simp[intOf];omega
   | some b =>
     rw[hb] at HA;have HN:=Hd hb;have g9:=HK.out.dag.var _ _ hb;have ge:Zf1 m.d b.v=(levN m.d b.v:Nat):=Zps (by rw[gi];exact g9);have gh:=Hd g9;have g1:=Hd (fun W hb=>gg.out W hb b.v);rw[ge] at g1;clear hb g9 ge gg
     by_cases ht:top<0
     ·have gm:=Hd ht;go_wp2_with fail;refine HA.out.mono ?_;rintro x w' ⟨rfl,g0⟩;have HB2:=Hd (HB.out.trans (g0.mono HB.out.size));clear g0;go_wp2_with fail;refine(g1.out _ HB2.out).mono ?_;rintro x w'' ⟨rfl,rfl⟩;go_wp2_with fail;go_roundw
      case rel=>exact⟨k+1,_,_,by omega,by simp,rfl,rfl,by rw[g4.out];exact HT.out.take gh.out ga.out HN.out (.inl gm.out),HB2.out⟩
      case measure=>simp[intOf];omega
     ·by_cases gf:((levN m.d b.v:Nat):Int)<least
      ·have gc:=Hd gf;go_wp2_with fail;refine HA.out.mono ?_;rintro x w' ⟨rfl,g0⟩;have HB2:=Hd (HB.out.trans (g0.mono HB.out.size));clear g0;go_wp2_with fail;refine(g1.out _ HB2.out).mono ?_;rintro x w'' ⟨rfl,rfl⟩;go_wp2_with fail;refine(g1.out _ HB2.out).mono ?_;rintro x w'' ⟨rfl,rfl⟩;go_wp2_with fail;go_roundw
       case rel=>exact⟨k+1,_,_,by omega,by simp,rfl,rfl,by rw[g4.out];exact HT.out.take gh.out ga.out HN.out (.inr gc.out),HB2.out⟩
       case measure=>simp[intOf];omega
      ·obtain⟨tn,gk⟩:∃ tn:Nat,top=tn:=⟨top.toNat,by omega⟩;subst gk;have gc:=Hd gf;go_wp2_with fail;refine HA.out.mono ?_;rintro x w' ⟨rfl,g0⟩;have HB2:=Hd (HB.out.trans (g0.mono HB.out.size));clear g0;go_wp2_with fail;refine(g1.out _ HB2.out).mono ?_;rintro x w'' ⟨rfl,rfl⟩;go_wp2_with fail;go_roundw
       case rel=>exact⟨k+1,_,_,by omega,by simp,rfl,rfl,by rw[g4.out];exact HT.out.keep HN.out (by have:=gc.out;omega),HB2.out⟩
       case measure=>simp[intOf];omega
  ·obtain rfl:k=zs.length:=by omega
   have HT:=Hd hT;have HB:=Hd hB;clear hT hB;go_wp2_with fail;go_ret;exact⟨top,least,rfl,by have:=HT.out;rwa [List.take_length] at this,HB.out⟩
open Go.RowKit
def Zdr (er:Int)(event:Bool)(ev:Ev):Ending:=.panicked [{ v:=.iface 235 (.agg #[.int .i64 er,.bool event,.int .i64 ev.after,.int .i64 ev.kind,.int .i64 ev.level]),recovered:=false }]
def ev0:Ev:=⟨0,0,0⟩
def Zcm (c:Int):Int:=wrap64 (c+1)
def Zor (d:Zad)(v:Int)(lo hi:Nat)(er:Int):Prop :=
 (er=9/\¬ (0<=v/\v<d.vars.length)) \/
 (er=10/\0<=v/\v<d.vars.length/\(lvE d.vars.length (levN d) (Zaa d) lo<=levN d v.toNat\/lvE d.vars.length (levN d) (Zaa d) hi<=levN d v.toNat)) \/
 (er=7/\d.pool.many=d.pool.room)
def Zhy (K:Law)(o:Own)(w:World)(mb:Nat)(m:ManD)(V:Nat->BF)(v:Int)(lo hi:Nat)(e:Ending)(w':World):Prop :=
 ∃ o' m' V',Step K o w mb m V o' w' m' V' /\
  ((∃ ev,m.waits=ev::m'.waits/\ev.after<=Zcm m.calls/\m'.calls=0/\m'.d=m.d/\V'=V/\e=Zdr 0 true ev) \/
   (m'.waits=m.waits/\m'.calls=Zcm m.calls/\(∀ ev ws,m.waits=ev::ws->Zcm m.calls<ev.after) /\
    ((∃ er,Zor m.d v lo hi er/\m'.d=m.d/\V'=V/\e=Zdr er false ev0) \/
     (0<=v/\v<m.d.vars.length/\∃ r:Nat,e=.returned (.int .i64 r)/\okE (Zaa m'.d) r/\ef V' r=iteF v.toNat (ef V hi) (ef V lo) /\
      levN m.d v.toNat<=lvE m.d.vars.length (levN m'.d) (Zaa m'.d) r/\m'.d.pool.many<=m.d.pool.many+1))))
theorem Chg.ofDrewN {R:Role->Prop}{o o':Own}{w w':World}{n:Nat}(h:Chg R o o' (w.drewN n) w'):Chg R o o' w w':=⟨h.os,h.tape,h.output,h.size,h.block,h.ext,h.new⟩
theorem Zhm {w w':World}{n:Nat}(h:Below (w.drewN n).heap.size (w.drewN n) w'):Below w.heap.size w w':=⟨h.os,h.tape,h.output,h.size,h.block⟩
theorem Chg.any {R:Role->Prop}{o o':Own}{w w':World}(h:Chg R o o' w w'):Chg (fun _=>True) o o' w w':=h.mono fun _ _=>trivial
theorem Zzg {K:Law}{o:Own}{w:World}{xb mb:Nat}{m:ManD}{V:Nat->BF}(hK:Zc8 K)(h:Zd6 (K m.d V) o w mb m)(hlt:Zah o w)(hx:Zf3 o w xb mb)(hk:Zak m.d V)(v:Int)(lo hi:Nat)(hlo:okE (Zaa m.d) lo)(hhi:okE (Zaa m.d) hi)
 (hdue:∀ ev ws,m.waits=ev::ws->Zcm m.calls<ev.after) :
 Calls prog 145 #[.pointer (some ⟨xb,0,none⟩),.int .i64 v,.int .i64 lo,.int .i64 hi] w (Zhy K o w mb m V v lo hi):=by
 obtain⟨s,h⟩:=h;obtain⟨c0,c1,c2,c3,c4,c5,f0⟩:=cells6 h.blk;have cx:=hx.cell;obtain⟨W,hW⟩:∃ W,W=w.setCell ⟨mb,5,none⟩ (.int .i64 (Zcm m.calls)):=⟨_,rfl⟩;have g2:Zby (K m.d V) o W mb { m with calls:=Zcm m.calls } s:=by rw[hW];exact h.field rfl rfl rfl rfl rfl h.waits rfl
 have g5:Chg (fun _=>True) o o w W:=by rw[hW];exact(Chg.refl _ o w).setCell (p:=⟨mb,5,none⟩) h.own trivial _
 have g4:Zah o W:=hlt.mono g5.size;have gg:=hx.chg g5;obtain⟨d0,d1,d2,d3,d4,d5,g0⟩:=cells6 g2.blk;have dx:=gg.cell;obtain⟨aw,cw,g9,ga⟩:=g2.waits.slice;have gj:(m.waits=[]/\True)\/∃ ev ws,m.waits=ev::ws:=by cases m.waits with
  | nil=>exact .inl ⟨rfl,trivial⟩
  | cons ev ws=>exact .inr ⟨ev,ws,rfl⟩
 have HK:=Hd hK;have ge:=Hd g5;have g7:=Hd g4;have g6:=Hd g2;have gd:=Hd hk;have gh:Hid (∀ n,Calls prog 199 #[.pointer (some ⟨s.sb,0,none⟩),.int .i64 v,.int .i64 lo,.int .i64 hi] (W.drewN n) (Zvj o (W.drewN n) s.sb m.d V v lo hi)) :=
  Hd fun n=>Zr4 (g2.store.below g4 (Zag W n)) (g4.mono (Zag W n).size) hk v lo hi hlo hhi
 have g1:=Hd hdue;have HW:Hid (w.setCell ⟨mb,5,none⟩ (.int .i64 (wrap64 (m.calls+1)))=W):=Hd hW.symm;have gi:5≠4:=by decide
 clear h hlt hx hk hlo hhi g2 g5 g4 gg hW hdue
 go_enter func145,ntmps145
 go_upto_region 3 with fail;rw[HW.out];obtain⟨cu,g3⟩:∃ cu,cu=wrap64 (m.calls+1):=⟨_,rfl⟩;have d5':W.cell? ⟨mb,5,none⟩=some (.int .i64 cu):=by rw[g3];exact d5
 have gl:Hid (Zcm m.calls=cu):=Hd g3.symm;rw[<- g3];clear c0 c1 c2 c3 c4 c5 f0 cx gi d5 g3;have STE:Hid (∀ w',Below W.heap.size W w'->Step K o w mb m V o w' { m with calls:=Zcm m.calls } V) :=
  Hd fun w' hb=>⟨⟨s,g6.out.below g7.out hb⟩,g7.out.mono hb.size,ge.out.trans (Chg.of_below hb _ _),gd.out,Ext.refl _ _,rfl,rfl⟩
 rcases gj with ⟨hw0,_⟩|⟨ev,ws,g8⟩
 ·rw[g9] at d4;dsimp only at d4;rw[hw0] at d4;have d4':W.cell? ⟨mb,4,none⟩=some (.slice aw 0 cw):=d4;clear d4 hw0 g9 ga
  go_quiet (fail)
  go_wp2_with fail;refine(gh.out nq).mono ?_;rintro x w' (⟨q1,rfl,q2⟩|⟨q1,q2,q3,rfl,q4⟩|⟨q1,rfl,q2⟩|⟨q1,q2,r,d',V',o',rfl,q4,q5,q6,q7,q8,q9,q10,q11,q12⟩)
  . have H1:=Hd (STE.out w' (Zhm q2));have H2:Hid (Zor m.d v lo hi 9):=Hd (.inl ⟨rfl,q1⟩);clear q1 q2;go_wp2_with fail;refine⟨rfl,o,_,V,H1.out,.inr ⟨rfl,rfl,g1.out,.inl ⟨9,H2.out,rfl,rfl,rfl⟩⟩⟩
  . have H1:=Hd (STE.out w' (Zhm q4));have H2:Hid (Zor m.d v lo hi 10):=Hd (.inr (.inl ⟨rfl,q1,q2,q3⟩));clear q1 q2 q3 q4;go_wp2_with fail;refine⟨rfl,o,_,V,H1.out,.inr ⟨rfl,rfl,g1.out,.inl ⟨10,H2.out,rfl,rfl,rfl⟩⟩⟩
  . have H1:=Hd (STE.out w' (Zhm q2));have H2:Hid (Zor m.d v lo hi 7):=Hd (.inr (.inr ⟨rfl,q1⟩));clear q1 q2;go_wp2_with fail;refine⟨rfl,o,_,V,H1.out,.inr ⟨rfl,rfl,g1.out,.inl ⟨7,H2.out,rfl,rfl,rfl⟩⟩⟩
  . have H1:Hid (Step K o w mb m V o' w' { m with calls:=Zcm m.calls,d:=d' } V'):=Hd ⟨⟨s,(g6.out.setStore g7.out q4 q12.ofDrewN).mono fun op a b c r h=>HK.out.ext _ _ _ _ _ _ _ _ _ gd.out q6 q7 h⟩,q5,ge.out.trans q12.ofDrewN.any,q6,q7,rfl,rfl⟩;have H2:Hid (_/\_/\_/\_/\_/\_):=Hd ⟨q1,q2,q8,q9,q10,q11⟩;clear q1 q2 q4 q5 q6 q7 q8 q9 q10 q11 q12;go_wp2_with fail;go_ret;obtain⟨a1,a2,a3,a4,a5,a6⟩:=H2.out;exact⟨o',_,V',H1.out,.inr ⟨rfl,rfl,g1.out,.inr ⟨a1,a2,r,rfl,a3,a4,a5,a6⟩⟩⟩
 ·have gc:=g6.out.waits;have e0:({ m with calls:=Zcm m.calls }:ManD).waits=ev::ws:=g8;rw[e0] at gc;obtain⟨g,off,cap,gf,gk,gm,gn,k0,k1,k2,_⟩:=gc.first
  have hlt:¬ ev.after<=cu:=by have:=g1.out ev ws g8;rw[gl.out] at this;omega
  rw[gf] at d4;have hp:(0:Int)<((ws.length+1:Nat):Int):=by omega
  clear g9 gf ga gc e0 g8 gk
  go_quiet (fail)
  go_wp2_with fail;refine(gh.out nq).mono ?_;rintro x w' (⟨q1,rfl,q2⟩|⟨q1,q2,q3,rfl,q4⟩|⟨q1,rfl,q2⟩|⟨q1,q2,r,d',V',o',rfl,q4,q5,q6,q7,q8,q9,q10,q11,q12⟩)
  . have H1:=Hd (STE.out w' (Zhm q2));have H2:Hid (Zor m.d v lo hi 9):=Hd (.inl ⟨rfl,q1⟩);clear q1 q2;go_wp2_with fail;refine⟨rfl,o,_,V,H1.out,.inr ⟨rfl,rfl,g1.out,.inl ⟨9,H2.out,rfl,rfl,rfl⟩⟩⟩
  . have H1:=Hd (STE.out w' (Zhm q4));have H2:Hid (Zor m.d v lo hi 10):=Hd (.inr (.inl ⟨rfl,q1,q2,q3⟩));clear q1 q2 q3 q4;go_wp2_with fail;refine⟨rfl,o,_,V,H1.out,.inr ⟨rfl,rfl,g1.out,.inl ⟨10,H2.out,rfl,rfl,rfl⟩⟩⟩
  . have H1:=Hd (STE.out w' (Zhm q2));have H2:Hid (Zor m.d v lo hi 7):=Hd (.inr (.inr ⟨rfl,q1⟩));clear q1 q2;go_wp2_with fail;refine⟨rfl,o,_,V,H1.out,.inr ⟨rfl,rfl,g1.out,.inl ⟨7,H2.out,rfl,rfl,rfl⟩⟩⟩
  . have H1:Hid (Step K o w mb m V o' w' { m with calls:=Zcm m.calls,d:=d' } V'):=Hd ⟨⟨s,(g6.out.setStore g7.out q4 q12.ofDrewN).mono fun op a b c r h=>HK.out.ext _ _ _ _ _ _ _ _ _ gd.out q6 q7 h⟩,q5,ge.out.trans q12.ofDrewN.any,q6,q7,rfl,rfl⟩;have H2:Hid (_/\_/\_/\_/\_/\_):=Hd ⟨q1,q2,q8,q9,q10,q11⟩;clear q1 q2 q4 q5 q6 q7 q8 q9 q10 q11 q12;go_wp2_with fail;go_ret;obtain⟨a1,a2,a3,a4,a5,a6⟩:=H2.out;exact⟨o',_,V',H1.out,.inr ⟨rfl,rfl,g1.out,.inr ⟨a1,a2,r,rfl,a3,a4,a5,a6⟩⟩⟩
open Go.RowKit
theorem Zwd {K:Law}{o:Own}{w:World}{xb mb:Nat}{m:ManD}{V:Nat->BF}(h:Zd6 (K m.d V) o w mb m)(hlt:Zah o w)(hx:Zf3 o w xb mb)(hk:Zak m.d V)(v:Int)(lo hi:Nat){ev:Ev}{ws:List Ev}
 (hw1:m.waits=ev::ws) (hdue:ev.after<=Zcm m.calls) :
 Calls prog 145 #[.pointer (some ⟨xb,0,none⟩),.int .i64 v,.int .i64 lo,.int .i64 hi] w (Zhy K o w mb m V v lo hi):=by
 obtain⟨s,h⟩:=h;obtain⟨c0,c1,c2,c3,c4,c5,f0⟩:=cells6 h.blk;have cx:=hx.cell;obtain⟨W,hW⟩:∃ W,W=w.setCell ⟨mb,5,none⟩ (.int .i64 (Zcm m.calls)):=⟨_,rfl⟩;have ge:Zby (K m.d V) o W mb { m with calls:=Zcm m.calls } s:=by rw[hW];exact h.field rfl rfl rfl rfl rfl h.waits rfl
 have gj:Chg (fun _=>True) o o w W:=by rw[hW];exact(Chg.refl _ o w).setCell (p:=⟨mb,5,none⟩) h.own trivial _
 have gv:Zah o W:=hlt.mono gj.size;obtain⟨d0,d1,d2,d3,d4,d5,g0⟩:=cells6 ge.blk;have gg:mb<W.heap.size:=Zab d0;have gh:=ge.waits;have e0:({ m with calls:=Zcm m.calls }:ManD).waits=ev::ws:=hw1;rw[e0] at gh;obtain⟨g,off,cap,gp,gB,gE,gG,k0,k1,k2,g8⟩:=gh.first
 rw[gp] at d4;have hp:(0:Int)<((ws.length+1:Nat):Int):=by omega
 have gA:=Hd gj;have gf:=Hd gv;have gz:=Hd ge;have gD:=Hd hk;have gy:=Hd g8;have HW1:=Hd hw1;have HD:=Hd hdue;have HW:Hid (w.setCell ⟨mb,5,none⟩ (.int .i64 (wrap64 (m.calls+1)))=W):=Hd hW.symm;clear h hlt hx hk ge gj gv hW g8 gh e0 gp gB hw1
 go_enter func145,ntmps145
 go_upto_region 3 with fail;rw[HW.out];obtain⟨cu,ga⟩:∃ cu,cu=wrap64 (m.calls+1):=⟨_,rfl⟩;have d5':W.cell? ⟨mb,5,none⟩=some (.int .i64 cu):=by rw[ga];exact d5
 have gF:ev.after<=cu:=by rw[ga];exact hdue
 rw[<- ga];clear c0 c1 c2 c3 c4 c5 f0 cx d5 ga hdue
 go_quiet (fail)
 obtain⟨W2,gi⟩:∃ W2,W2=W.drewN nq:=⟨_,rfl⟩;have g1:Below W.heap.size W W2:=by rw[gi];exact Zag W nq
 rw[<- gi];have g6:=Hd (gz.out.below gf.out g1);have g3:=Hd (gf.out.mono g1.size);have go:=Hd (gA.out.trans (Chg.of_below g1 _ _));have d4':W2.cell? ⟨mb,4,none⟩=_:=(g1.cell (p:=⟨mb,4,none⟩) gg).trans d4;have g9:g<W.heap.size:=Zab k0;have l0:W2.cell? ⟨g,off,none⟩=_:=(g1.cell (p:=⟨g,off,none⟩) g9).trans k0;have l1:W2.cell? ⟨g,off+1,none⟩=_:=(g1.cell (p:=⟨g,off+1,none⟩) g9).trans k1;have l2:W2.cell? ⟨g,off+2,none⟩=_:=(g1.cell (p:=⟨g,off+2,none⟩) g9).trans k2;have gl:=Hd (gy.out.keep (w':=W2) (o':=o) (fun q hq=>g1.block q (gf.out q _ hq)) (fun _ h=>h));clear gi k0 k1 k2 d0 d1 d2 d3 d4 d5' g0 g1 gz gf gA gy HW;obtain⟨d0,d1,d2,d3,_,d5,g0⟩:=cells6 g6.out.blk;have gg:mb<W2.heap.size:=Zab d0;have g9:g<W2.heap.size:=Zab l0;go_upto_region 5 with fail;obtain⟨bx,gc⟩:∃ bx,bx=W2.heap.size:=⟨_,rfl⟩;obtain⟨W3,gd⟩:∃ W3,W3=W2.alloc (.cells #[.int .i64 ev.after,.int .i64 ev.kind,.int .i64 ev.level] 77):=⟨_,rfl⟩;have g4:Below W2.heap.size W2 W3:=by rw[gd];exact Zae W2 _
 have gt:o bx=none:=by rw[gc];exact g3.out.none (Nat.le_refl _)
 have x3:W3.heap[bx]?=some (.cells #[.int .i64 ev.after,.int .i64 ev.kind,.int .i64 ev.level] 77 (0,0)):=by rw[gd,gc];exact heap_alloc_new W2 _
 rw[<- gd,<- gc];have g2:=Hd (g6.out.below g3.out g4);have gm:=Hd (g3.out.mono g4.size);have gn:=Hd (go.out.trans (Chg.of_below g4 _ _));have d4:W3.cell? ⟨mb,4,none⟩=_:=(g4.cell (p:=⟨mb,4,none⟩) gg).trans d4';have gk:=Hd (gl.out.keep (w':=W3) (o':=o) (fun q hq=>g4.block q (g3.out q _ hq)) (fun _ h=>h));clear gd gc l0 l1 l2 d0 d1 d2 d3 d4' d5 g0 g4 g6 g3 go gl;obtain⟨d0,d1,d2,d3,_,d5,g0⟩:=cells6 g2.out.blk;have gr:bx≠mb:=by rintro rfl;rw[g2.out.own] at gt;cases gt
 obtain⟨W4,g5⟩:∃ W4,W4=(W3.setCell ⟨mb,4,none⟩ (.slice (if cap=1 then some ⟨g,off,none⟩ else some ⟨g,off+3,none⟩) ws.length (cap-1))).setCell ⟨mb,5,none⟩ (.int .i64 0):=⟨_,rfl⟩;have gu:Zby (K m.d V) o W4 mb { m with calls:=0,waits:=ws } { s with vw:=.slice (if cap=1 then some ⟨g,off,none⟩ else some ⟨g,off+3,none⟩) ws.length (cap-1) }:=by
  have a1:=g2.out.field (k:=4) (u:=.slice (if cap=1 then some ⟨g,off,none⟩ else some ⟨g,off+3,none⟩) ws.length (cap-1)) (m':={ m with calls:=Zcm m.calls,waits:=ws }) (s':={ s with vw:=.slice (if cap=1 then some ⟨g,off,none⟩ else some ⟨g,off+3,none⟩) ws.length (cap-1) }) rfl rfl rfl rfl rfl gk.out rfl;have a2:=a1.field (k:=5) (u:=.int .i64 0) (m':={ m with calls:=0,waits:=ws }) (s':={ s with vw:=.slice (if cap=1 then some ⟨g,off,none⟩ else some ⟨g,off+3,none⟩) ws.length (cap-1) }) rfl rfl rfl rfl rfl a1.waits rfl;rw[g5];exact a2
 have gw:Chg (fun _=>True) o o w W4:=by rw[g5];exact(gn.out.setCell (p:=⟨mb,4,none⟩) g2.out.own trivial _).setCell (p:=⟨mb,5,none⟩) g2.out.own trivial _
 have g7:W4.heap[bx]?=some (.cells #[.int .i64 ev.after,.int .i64 ev.kind,.int .i64 ev.level] 77 (0,0)):=by rw[g5];exact(Zaf gr _).trans ((Zaf gr _).trans x3)
 have gq:Step K o w mb m V o W4 { m with calls:=0,waits:=ws } V:=⟨⟨_,gu⟩,gm.out.mono (by rw[g5];simp[World.setCell]),gw,gD.out,Ext.refl _ _,rfl,rfl⟩;have gC:=Hd gq;have y0:W4.cell? ⟨bx,0,none⟩=some (.int .i64 ev.after):=by rw[cell_of_row W4 bx 0 _ _ _ g7];rfl
 have y1:W4.cell? ⟨bx,1,none⟩=some (.int .i64 ev.kind):=by rw[cell_of_row W4 bx 1 _ _ _ g7];rfl
 have y2:W4.cell? ⟨bx,2,none⟩=some (.int .i64 ev.level):=by rw[cell_of_row W4 bx 2 _ _ _ g7];rfl
 have gx:=Hd g5;clear gu gw g7 gq g5;go_upto_region 6 with fail;rw[<- gx.out];clear gx d0 d1 d2 d3 d4 d5 g0 x3 g2 gm gn gk;go_wp2_with fail
 all_goals exact⟨rfl,o,_,V,gC.out,.inl ⟨ev,HW1.out,HD.out,rfl,rfl,rfl,rfl⟩⟩
theorem Zo4 {K:Law}{o:Own}{w:World}{xb mb:Nat}{m:ManD}{V:Nat->BF}(hK:Zc8 K)(h:Zd6 (K m.d V) o w mb m)(hlt:Zah o w)(hx:Zf3 o w xb mb)(hk:Zak m.d V)(v:Int)(lo hi:Nat)(hlo:okE (Zaa m.d) lo)(hhi:okE (Zaa m.d) hi) :
 Calls prog 145 #[.pointer (some ⟨xb,0,none⟩),.int .i64 v,.int .i64 lo,.int .i64 hi] w (Zhy K o w mb m V v lo hi):=by
 by_cases hd:∀ ev ws,m.waits=ev::ws->Zcm m.calls<ev.after
 . exact Zzg hK h hlt hx hk v lo hi hlo hhi hd
 ·cases hw:m.waits with
  | nil=>exact absurd (fun ev ws e=>by rw[hw] at e;cases e) hd
  | cons ev ws=>exact Zwd h hlt hx hk v lo hi hw (Int.not_lt.1 fun hl=>hd fun ev' ws' e=>by rw[hw] at e;cases e;exact hl)
end Go.Proofs.YtkidaindpahefaaGreat

namespace Go.Proofs.YtkidaindpahefaaGreat
open Go.Proofs.Tryz
section
variable {d d':Zad}{V V':Nat->BF}
theorem Zku (hk:Zak d V){e:Nat}(h:e/2=0):lvE d.vars.length (levN d) (Zaa d) e=d.vars.length:=by unfold lvE;rw[h,hk.dag.none0]
theorem Zgz {e f:Nat}(h:e/2=f/2):lvE d.vars.length (levN d) (Zaa d) e=lvE d.vars.length (levN d) (Zaa d) f:=by unfold lvE;rw[h]
theorem Ziz {N:Nat->Option BN}{e f:Nat}(h:e/2=f/2)(hf:okE N f):okE N e:=by unfold okE;rw[h];exact hf
theorem Zda (hk:Zak d V){f v:Nat}(hf:okE (Zaa d) f)(hv:v<d.vars.length)(hl:levN d v<=lvE d.vars.length (levN d) (Zaa d) f) :
 okE (Zaa d) (cofs d f v).1/\okE (Zaa d) (cofs d f v).2/\levN d v<lvE d.vars.length (levN d) (Zaa d) (cofs d f v).1/\levN d v<lvE d.vars.length (levN d) (Zaa d) (cofs d f v).2 /\
  ∀ ρ,ef V f ρ=if ρ v then ef V (cofs d f v).2 ρ else ef V (cofs d f v).1 ρ:=by
 unfold cofs;cases hb:Zaa d (f/2) with
 | none =>
   have g0:levN d v<lvE d.vars.length (levN d) (Zaa d) f:=by unfold lvE;rw[hb];exact hk.dag.lt v hv
   exact⟨hf,hf,g0,g0,fun ρ=>by simp⟩
 | some b =>
   by_cases e:(b.v:Int)=v
   ·have e':b.v=v:=by omega
    simp only[if_pos e];refine⟨Zd5 (hk.dag.okLo _ _ hb),Zd5 (hk.dag.okHi _ _ hb),?_,?_,fun ρ=>?_⟩
    . rw[Zd4,<- e'];exact hk.dag.lvLo _ _ hb
    . rw[Zd4,<- e'];exact hk.dag.lvHi _ _ hb
    . rw[Zc5,Zc5];have h1:=hk.dag.eqn _ _ hb;unfold eneg;have h2:ef V f ρ=((f%2 == 1) != V (f/2) ρ):=rfl;rw[h2,h1];simp only[iteF,e'];split<;>rfl
   ·simp only[if_neg e];have g0:levN d v<lvE d.vars.length (levN d) (Zaa d) f:=by
     rcases Nat.lt_or_eq_of_le hl with h|h
     . exact h
     . exfalso;unfold lvE at h;rw[hb] at h;have:=hk.dag.inj _ _ hv (hk.dag.var _ _ hb) h;exact e (by omega)
    exact⟨hf,hf,g0,g0,fun ρ=>by simp⟩
theorem Zxm (hk:Zak d V)(f g h:Nat):minL d f g h<=d.vars.length:=by unfold minL;have:=hk.dag.lvE_le f;omega
theorem Zrn {k f g h:Nat}(h1:k<=lvE d.vars.length (levN d) (Zaa d) f)(h2:k<=lvE d.vars.length (levN d) (Zaa d) g)(h3:k<=lvE d.vars.length (levN d) (Zaa d) h):k<=minL d f g h:=by unfold minL;omega
theorem Zd8.ok (hk:Zak d V){e f g h:Nat}(hi:Zd8 e f g h)(hf:okE (Zaa d) f)(hg:okE (Zaa d) g)(hh:okE (Zaa d) h) :
 okE (Zaa d) e/\minL d f g h<=lvE d.vars.length (levN d) (Zaa d) e:=by
 rcases hi with e0|e0|e0|e0
 . exact⟨.inl e0,by rw[Zku hk e0];exact Zxm hk f g h⟩
 . exact⟨Ziz e0 hf,by rw[Zgz e0];unfold minL;omega⟩
 . exact⟨Ziz e0 hg,by rw[Zgz e0];unfold minL;omega⟩
 . exact⟨Ziz e0 hh,by rw[Zgz e0];unfold minL;omega⟩
structure IteS (d:Zad)(V:Nat->BF)(f0 g0 h0:Nat)(f g h:Nat)(nt:Bool):Prop where
 okF:okE (Zaa d) f
 okG:okE (Zaa d) g
 okH:okE (Zaa d) h
 lev:minL d f0 g0 h0<=minL d f g h
 val:∀ ρ,iteB (ef V f0 ρ) (ef V g0 ρ) (ef V h0 ρ)=(nt != iteB (ef V f ρ) (ef V g ρ) (ef V h ρ))
theorem IteS.start {f g h:Nat}(hf:okE (Zaa d) f)(hg:okE (Zaa d) g)(hh:okE (Zaa d) h):IteS d V f g h f g h false:=⟨hf,hg,hh,Nat.le_refl _,fun ρ=>by simp⟩
theorem IteS.next {f0 g0 h0 f g h:Nat}{nt:Bool}(hk:Zak d V)(s:IteS d V f0 g0 h0 f g h nt)(hd:(iteR f g h).dn=false) :
 IteS d V f0 g0 h0 (iteR f g h).a (iteR f g h).b (iteR f g h).c (nt != (iteR f g h).n)/\(iteR f g h).a/2≠0:=by
 obtain⟨ha,hb,hc,hn,hv⟩:=Zwz hd;obtain⟨a1,a2⟩:=ha.ok hk s.okF s.okG s.okH;obtain⟨b1,b2⟩:=hb.ok hk s.okF s.okG s.okH;obtain⟨c1,c2⟩:=hc.ok hk s.okF s.okG s.okH;refine⟨⟨a1,b1,c1,Nat.le_trans s.lev (Zrn a2 b2 c2),fun ρ=>?_⟩,hn⟩;rw[s.val,hv hk.dag.one];cases nt<;>cases (iteR f g h).n<;>simp
theorem IteS.answer {f0 g0 h0 f g h r:Nat}{nt:Bool}(s:IteS d V f0 g0 h0 f g h nt)(h1:okE (Zaa d) f0)(h2:okE (Zaa d) g0)(h3:okE (Zaa d) h0)(hr:okE (Zaa d) r)(hl:minL d f g h<=lvE d.vars.length (levN d) (Zaa d) r)
 (hv:∀ ρ,ef V r ρ=iteB (ef V f ρ) (ef V g ρ) (ef V h ρ)):IteP d V f0 g0 h0 (eflip r nt) :=
 ⟨h1,h2,h3,Zd5 hr,fun ρ=>by rw[Zc5,hv,<- s.val];rfl,by rw[Zd4];exact Nat.le_trans s.lev hl⟩
theorem IteS.done {f0 g0 h0 f g h:Nat}{nt:Bool}(hk:Zak d V)(s:IteS d V f0 g0 h0 f g h nt)(h1:okE (Zaa d) f0)(h2:okE (Zaa d) g0)(h3:okE (Zaa d) h0)(hd:(iteR f g h).dn=true):IteP d V f0 g0 h0 (eflip (iteR f g h).r nt):=by
 obtain⟨hh,hv⟩:=Zpl hd;obtain⟨q1,q2⟩:=hh.ok hk s.okF s.okG s.okH;exact s.answer h1 h2 h3 q1 q2 (hv hk.dag.one)
theorem Ext.minL (x:Ext d V d' V')(hk:Zak d V)(hk':Zak d' V'){f g h:Nat}(hf:okE (Zaa d) f)(hg:okE (Zaa d) g)(hh:okE (Zaa d) h):minL d' f g h=Go.Proofs.YtkidaindpahefaaGreat.minL d f g h:=by
 unfold Go.Proofs.YtkidaindpahefaaGreat.minL;rw[x.vars,x.lvE hf hk.dag.none0 hk'.dag.none0,x.lvE hg hk.dag.none0 hk'.dag.none0,x.lvE hh hk.dag.none0 hk'.dag.none0]
theorem IteS.ext {f0 g0 h0 f g h:Nat}{nt:Bool}(s:IteS d V f0 g0 h0 f g h nt)(x:Ext d V d' V')(hk:Zak d V)(hk':Zak d' V')(h1:okE (Zaa d) f0)(h2:okE (Zaa d) g0)(h3:okE (Zaa d) h0):IteS d' V' f0 g0 h0 f g h nt :=
 ⟨x.ok s.okF,x.ok s.okG,x.ok s.okH,by rw[x.minL hk hk' h1 h2 h3,x.minL hk hk' s.okF s.okG s.okH];exact s.lev,fun ρ=>by rw[x.ef s.okF,x.ef s.okG,x.ef s.okH,x.ef h1,x.ef h2,x.ef h3];exact s.val ρ⟩
theorem IteP.ext {f g h r:Nat}(s:IteP d V f g h r)(x:Ext d V d' V')(hk:Zak d V)(hk':Zak d' V'):IteP d' V' f g h r :=
 ⟨x.ok s.okA,x.ok s.okB,x.ok s.okC,x.ok s.okR,fun ρ=>by rw[x.ef s.okA,x.ef s.okB,x.ef s.okC,x.ef s.okR];exact s.val ρ,
  by rw[x.minL hk hk' s.okA s.okB s.okC,x.vars,x.lvE s.okR hk.dag.none0 hk'.dag.none0];exact s.lev⟩
theorem Zzv (hk:Zak d V){f g h v lo hi r:Nat}(hf:okE (Zaa d) f)(hg:okE (Zaa d) g)(hh:okE (Zaa d) h)(hv:v<d.vars.length)(hl:levN d v<=minL d f g h)
 (c1:∀ ρ,ef V lo ρ=iteB (ef V (cofs d f v).1 ρ) (ef V (cofs d g v).1 ρ) (ef V (cofs d h v).1 ρ)) (c2:∀ ρ,ef V hi ρ=iteB (ef V (cofs d f v).2 ρ) (ef V (cofs d g v).2 ρ) (ef V (cofs d h v).2 ρ))
 (hr:ef V r=iteF v (ef V hi) (ef V lo)) (ρ:Nat->Bool):ef V r ρ=iteB (ef V f ρ) (ef V g ρ) (ef V h ρ):=by
 have lf:=(Zda hk hf hv (by unfold minL at hl;omega)).2.2.2.2 ρ;have lg:=(Zda hk hg hv (by unfold minL at hl;omega)).2.2.2.2 ρ;have lh:=(Zda hk hh hv (by unfold minL at hl;omega)).2.2.2.2 ρ;rw[hr,lf,lg,lh];simp only[iteF];cases ρ v
 . simpa using c1 ρ
 . simpa using c2 ρ
theorem Zgt (x:Ext d V d' V')(h0:Zaa d 0=none)(h0':Zaa d' 0=none){f:Nat}(hf:okE (Zaa d) f)(v:Int):cofs d' f v=cofs d f v:=by
 unfold cofs;rcases hf with h|⟨b,hb⟩
 . rw[h,h0,h0']
 . rw[hb,x.nodes _ _ hb]
end
open Go.RowKit
def Zvi (K:Law)(k:Nat)(o:Own)(w:World)(mb:Nat)(m:ManD)(V:Nat->BF)(f g h:Nat)(e:Ending)(w':World):Prop :=
 ∃ o' m' V',Step K o w mb m V o' w' m' V' /\
  ((∃ r:Nat,e=.returned (.int .i64 r)/\IteP m'.d V' f g h r/\m'.waits=m.waits/\m'.d.pool.many+1<=m.d.pool.many+2^k) \/
   (e=Zdr 7 false ev0/\m'.waits=m.waits/\m'.d.pool.many=m'.d.pool.room/\m'.d.pool.many+2<=m.d.pool.many+2^k) \/
   (∃ ev,e=Zdr 0 true ev/\m.waits=ev::m'.waits))
def Yb2 (K:Law)(k:Nat):Prop:=∀ (o:Own) (w:World) (xb mb:Nat) (m:ManD) (V:Nat->BF) (f g h:Nat),Zd6 (K m.d V) o w mb m->Zah o w->Zf3 o w xb mb->Zak m.d V ->
 okE (Zaa m.d) f->okE (Zaa m.d) g->okE (Zaa m.d) h->m.d.vars.length<=minL m.d f g h+k ->
 Calls prog 147 #[.pointer (some ⟨xb,0,none⟩),.int .i64 f,.int .i64 g,.int .i64 h] w (Zvi K k o w mb m V f g h)
theorem Zu6 {K:Law}{o:Own}{w w':World}{mb:Nat}{m:ManD}{V:Nat->BF}(hm:Zd6 (K m.d V) o w mb m)(hl:Zah o w)(hk:Zak m.d V)(hb:Below w.heap.size w w'):Step K o w mb m V o w' m V:=by
 obtain⟨s,h⟩:=hm;exact⟨⟨s,h.below hl hb⟩,hl.mono hb.size,Chg.of_below hb _ _,hk,Ext.refl _ _,rfl,rfl⟩
theorem Step.below {K:Law}{o o':Own}{w w' w'':World}{mb:Nat}{m m':ManD}{V V':Nat->BF}(h:Step K o w mb m V o' w' m' V')(hb:Below w'.heap.size w' w''):Step K o w mb m V o' w'' m' V':=h.trans (Zu6 h.is h.lt h.ok hb)
theorem top3 {d:Zad}{V:Nat->BF}(hk:Zak d V){f g h:Nat}(hf:okE (Zaa d) f)(hn:f/2≠0){top least:Int}(ht:TopS d [f,g,h] top least) :
 ∃ v:Nat,top=v/\v<d.vars.length/\levN d v=minL d f g h/\levN d v<d.vars.length:=by
 rcases ht with ⟨_,_,h3⟩|⟨v,h1,_,h3,⟨e,he,b,hb,g0⟩,h5⟩
 ·exfalso;rcases hf with h0|⟨b,hb⟩
  . exact hn h0
  . rw[h3 f (by simp)] at hb;cases hb
 ·refine⟨v,h1,h3,?_,hk.dag.lt v h3⟩;have e0:lvE d.vars.length (levN d) (Zaa d) e=levN d v:=by unfold lvE;rw[hb,<- g0]
  have a1:=h5 f (by simp);have a2:=h5 g (by simp);have a3:=h5 h (by simp);simp only[List.mem_cons,List.not_mem_nil,or_false] at he;unfold minL;rcases he with rfl|rfl|rfl<;>omega
theorem Zkm {K:Law}(hK:Zc8 K)(k:Nat)(IH:∀ k',k=k'+1->Yb2 K k'):Yb2 K k:=by
 intro o w xb mb m V f g h hm gT hx hk hf hg hh gF;obtain⟨st0,gO⟩:∃ s,Zam o w (Classical.choose hm).sb m.d s:=(Classical.choose_spec hm).store;have gq:Hid (∀ e,okE (Zaa m.d) e->e<eMax):=Hd fun e he=>by have:=gO.edge_lt he;unfold eMax;omega
 have hq:=Hd hK;have HM:=Hd hm;have hb:=Hd gT;have HX:=Hd hx;have HK:=Hd hk;have HF:=Hd hf;have HG:=Hd hg;have HH:=Hd hh;have hY:=Hd gF;have h8:Hid (IteS m.d V f g h f g h false):=Hd (IteS.start hf hg hh);clear gO hm gT hx hk hf hg hh gF
 go_enter func147,ntmps147
 go_upto_block 0 with fail
 go_cut [1,2,3,9] from 27 (fun s1 s2 s3 s9 wx=>∃ (f' g' h':Nat) (nt:Bool),s1=.int .i64 f'/\s2=.int .i64 g'/\s3=.int .i64 h'/\s9=.bool nt/\IteS m.d V f g h f' g' h' nt/\f'/2≠0/\wx=w)
 case first =>
  go_wp2_with fail
  go_loopw [1,2,3,9,27] (fun s1 s2 s3 s9 i wr=>∃ (f' g' h':Nat) (nt:Bool) (j:Nat),s1=.int .i64 f'/\s2=.int .i64 g'/\s3=.int .i64 h'/\s9=.bool nt/\i=.int .i64 j/\j<=3/\IteS m.d V f g h f' g' h' nt/\(0<j->f'/2≠0)/\wr=w) (fun _ _ _ _ i _=>3-(intOf i).toNat)
  case atStart=>exact⟨f,g,h,false,0,rfl,rfl,rfl,rfl,rfl,by omega,h8.out,by omega,rfl⟩
  case round =>
   obtain⟨f',g',h',nt,j,rfl,rfl,rfl,rfl,rfl,hj,hS,hn,rfl⟩:=hrel;clear h8
   by_cases gT:j<3
   ·have HI:=Hd (fun W:World=>Ycy f' g' h' W (gq.out _ hS.okF) (gq.out _ hS.okG) (gq.out _ hS.okH));have gm:(iteR f' g' h').dn=true->(iteR f' g' h').r<eMax:=fun e=>gq.out _ (((Zpl e).1.ok HK.out hS.okF hS.okG hS.okH).1)
    have go:=fun e=>hS.next HK.out (f:=f') (g:=g') (h:=h') e
    have gp:=fun e=>hS.done HK.out HF.out HG.out HH.out e
    have kk:(j:Int)<3:=by omega
    unfold iteV at HI;obtain⟨R,hR⟩:∃ R,R=iteR f' g' h':=⟨_,rfl⟩;rw[<- hR] at HI gm go gp;clear hR hS hn;obtain⟨a,b,c,n,r,dn⟩:=R;dsimp only at HI gm go gp;cases dn with
    | true =>
      have gt:=Hd (fun W:World=>Zc6 r nt W (gm rfl));have kj:=Hd (gp rfl);clear gm go gp;go_wp2_with fail;refine(HI.out _).mono ?_;rintro x w' ⟨rfl,rfl⟩;go_wp2_with fail;refine(gt.out _).mono ?_;rintro x w' ⟨rfl,rfl⟩;go_wp2_with fail;go_ret;exact⟨o,m,V,⟨HM.out,hb.out,Chg.refl _ _ _,HK.out,Ext.refl _ _,rfl,rfl⟩,.inl ⟨_,rfl,kj.out,rfl,by have:=Nat.one_le_two_pow (n:=k);omega⟩⟩
    | false =>
      have hM:(nt != n)=(!nt == n):=by cases nt<;>cases n<;>rfl
      have g8:=Hd (go rfl);rw[hM] at g8;clear gm go gp hM
      by_cases hE:a=f'
      ·subst hE
       by_cases hp2:b=g'
       ·subst hp2
        by_cases hD:c=h'
        . subst hD;go_wp2_with fail;refine(HI.out _).mono ?_;rintro x w' ⟨rfl,rfl⟩;go_wp2_with fail;go_meet;exact⟨_,_,_,_,rfl,rfl,rfl,rfl,g8.out.1,g8.out.2,by trivial⟩
        ·have H3:(c == h')=false:=by simp[hD]
         go_wp2_with fail;refine(HI.out _).mono ?_;rintro x w' ⟨rfl,rfl⟩;go_wp2_with fail;go_roundw
         case rel=>exact⟨_,_,_,_,j+1,rfl,rfl,rfl,rfl,by simp,by omega,g8.out.1,fun _=>g8.out.2,by trivial⟩
         case measure=>simp[intOf];omega
       ·have H2:(b == g')=false:=by simp[hp2]
        go_wp2_with fail;refine(HI.out _).mono ?_;rintro x w' ⟨rfl,rfl⟩;go_wp2_with fail;go_roundw
        case rel=>exact⟨_,_,_,_,j+1,rfl,rfl,rfl,rfl,by simp,by omega,g8.out.1,fun _=>g8.out.2,by trivial⟩
        case measure=>simp[intOf];omega
      ·have H1:(a == f')=false:=by simp[hE]
       go_wp2_with fail;refine(HI.out _).mono ?_;rintro x w' ⟨rfl,rfl⟩;go_wp2_with fail;go_roundw
       case rel=>exact⟨_,_,_,_,j+1,rfl,rfl,rfl,rfl,by simp,by omega,g8.out.1,fun _=>g8.out.2,by trivial⟩
       case measure=>simp[intOf];omega
   ·obtain rfl:j=3:=by omega
    have HS:=Hd hS;have HN:=Hd (hn (by omega));clear hS hn;go_wp2_with fail;go_meet;exact⟨f',g',h',nt,rfl,rfl,rfl,rfl,HS.out,HN.out,rfl⟩
 case rest =>
  obtain⟨f',g',h',nt,rfl,rfl,rfl,rfl,hS,hn,rfl⟩:=hcut
  rename World=>w
  clear h8;obtain⟨s,gC⟩:=HM.out;obtain⟨c0,c1,c2,c3,c4,c5,f0⟩:=cells6 gC.blk;have cx:=HX.out.cell;have k9:=Hd (Ycu o s.me (K m.d V) 1 f' g' h' w gC.memo hb.out);have kf:=Hd gC;have HS:=Hd hS;have HN:=Hd hn;clear gC hS hn;go_wp2_with fail;refine k9.out.mono ?_;rintro x w1 ⟨kd,gj,gn,gf⟩;have h4:Zby (K m.d V) o w1 mb m s:=kf.out.setMemo hb.out gj (gn.mono fun r e=>.inl e);have hQ:=HX.out.chg gn;have kr:=Hd gn.any;have kp:=Hd h4;have kn:=Hd hQ;have kq:=Hd gf;have gN:Step K o w mb m V o w1 m V:=⟨⟨s,h4⟩,gf,gn.any,HK.out,Ext.refl _ _,rfl,rfl⟩;have h7:=Hd gN;clear gj gn gf h4 hQ gN;rcases kd with rfl|⟨r,rfl,hH⟩
  ·clear c0 c1 c2 c3 c4 c5 f0 cx;go_upto_region 14 with fail;obtain⟨w2,gB⟩:∃ w2,w2=w1.alloc (.cells #[.int .i64 f',.int .i64 g',.int .i64 h'] 101):=⟨_,rfl⟩;have hO:Below w1.heap.size w1 w2:=by rw[gB];exact Zae w1 _
   have hz:w2.heap[w1.heap.size]?=some (.cells #[.int .i64 f',.int .i64 g',.int .i64 h'] 101 (0,0)):=by rw[gB];exact heap_alloc_new w1 _
   have gD:Zav w2 (some ⟨w1.heap.size,0,none⟩) ([f',g',h'].map Int.ofNat):=⟨by simp,fun j hj=>⟨w1.heap.size,0,rfl,by
    rw[cell_of_row w2 w1.heap.size (0+j) _ _ _ hz];simp at hj
    match j,hj with
    | 0,_=>rfl
    | 1,_=>rfl
    | 2,_=>rfl⟩⟩
   have gd:=h7.out.below hO;have hP:=HX.out.chg gd.chg;have h5:Hid (Calls prog 169 #[.pointer (some ⟨xb,0,none⟩),.slice (some ⟨w1.heap.size,0,none⟩) 3 3] w2 fun x w'=>∃ top least,x=.returned (.int .i64 top)/\TopS m.d [f',g',h'] top least/\Below w2.heap.size w2 w') :=
    Hd (Zma gd.is gd.lt hP HK.out [f',g',h'] (by simp;exact⟨HS.out.okF,HS.out.okG,HS.out.okH⟩) (some ⟨w1.heap.size,0,none⟩) 3 gD)
   have h6:=Hd gd;have hU:=Hd gB;clear hO hz gD gd hP gB;go_wp2_with fail;rw[<- hU.out];refine h5.out.mono ?_;rintro x w3 ⟨top,least,rfl,gJ,hN⟩;obtain⟨v,rfl,hv,gl,kb⟩:=top3 HK.out HS.out.okF HN.out gJ;have k6:=Hd (h6.out.below hN);have HV:=Hd hv;have hW:=Hd gl;obtain⟨k',gX⟩:∃ k',k=k'+1:=⟨k-1,by have h1:=hY.out;have h2:=HS.out.lev;omega⟩;have hX:=Hd (IH k' gX);have cf:=Zda HK.out HS.out.okF hv (by rw[gl];unfold minL;omega);have cg:=Zda HK.out HS.out.okG hv (by rw[gl];unfold minL;omega);have ch:=Zda HK.out HS.out.okH hv (by rw[gl];unfold minL;omega);have gf:levN m.d v+1<=minL m.d (cofs m.d f' v).1 (cofs m.d g' v).1 (cofs m.d h' v).1:=Zrn cf.2.2.1 cg.2.2.1 ch.2.2.1;have hG:levN m.d v+1<=minL m.d (cofs m.d f' v).2 (cofs m.d g' v).2 (cofs m.d h' v).2:=Zrn cf.2.2.2.1 cg.2.2.2.1 ch.2.2.2.1;have hJ:m.d.vars.length<=levN m.d v+1+k':=by have h1:=hY.out;have h2:=HS.out.lev;omega
   have gw:=Hd cf;have gv:=Hd cg;have gu:=Hd ch;have ho:=Hd gf;have hd:=Hd hG;have ht:=Hd hJ;have HKK:=Hd gX;have h9:Hid (∀ (W:World) (e:Nat),okE (Zaa m.d) e->Step K o w mb m V o W m V->Calls prog 170 #[.pointer (some ⟨xb,0,none⟩),.int .i64 e,.int .i64 v] W fun x w'=>x=.returned (.tuple #[.int .i64 (cofs m.d e v).1,.int .i64 (cofs m.d e v).2])/\Step K o w mb m V o w' m V) :=
    Hd fun W e he st=>(Zje st.is st.lt (HX.out.chg st.chg) HK.out e he v).mono fun x w' ⟨h1,h2⟩=>⟨h1,st.below h2⟩
   clear gJ hN hv gl kb cf cg ch gf hG hJ gX h5 hU h6;go_wp2_with fail;refine(h9.out _ _ HS.out.okF k6.out).mono ?_;rintro x w4 ⟨rfl,gM⟩;have k5:=Hd gM;clear gM;go_wp2_with fail;refine(h9.out _ _ HS.out.okG k5.out).mono ?_;rintro x w5 ⟨rfl,gL⟩;have k4:=Hd gL;clear gL;go_wp2_with fail;refine(h9.out _ _ HS.out.okH k4.out).mono ?_;rintro x w6 ⟨rfl,gK⟩;have ga:=Hd gK;clear gK;go_wp2_with fail;refine(hX.out o w6 xb mb m V _ _ _ ga.out.is ga.out.lt (HX.out.chg ga.out.chg) HK.out gw.out.1 gv.out.1 gu.out.1 (by have h1:=ht.out;have h2:=ho.out;omega)).mono ?_;have gH:Hid (2^k=2^k'+2^k'):=by show _=_;rw[HKK.out,Nat.pow_succ];omega
   have ha:Hid (1<=2^k'):=Hd Nat.one_le_two_pow;rintro x w7 ⟨o7,m7,V7,st7,(⟨lo,rfl,hF,g5,gi⟩|⟨rfl,g5,gQ,gi⟩|⟨ev,rfl,g5⟩)⟩
   ·have g2:=Hd (ga.out.trans st7);have gI:=Hd st7.ok;have g7:=Hd st7.ext;have gr:=Hd hF;have ge:=Hd g5;have gA:=Hd gi;have hI:m7.d.vars.length<=minL m7.d (cofs m.d f' v).2 (cofs m.d g' v).2 (cofs m.d h' v).2+k':=by
     rw[st7.ext.minL HK.out st7.ok gw.out.2.1 gv.out.2.1 gu.out.2.1,st7.ext.vars];have h1:=ht.out;have h2:=hd.out;omega
    have ki:=Hd hI;clear st7 hF g5 gi hI;go_wp2_with fail;refine(hX.out o7 w7 xb mb m7 V7 _ _ _ g2.out.is g2.out.lt (HX.out.chg g2.out.chg) gI.out (g7.out.ok gw.out.2.1) (g7.out.ok gv.out.2.1) (g7.out.ok gu.out.2.1) ki.out).mono ?_;rintro x w8 ⟨o8,m8,V8,st8,(⟨hi,rfl,gZ,g4,gh⟩|⟨rfl,g4,gP,gh⟩|⟨ev,rfl,g4⟩)⟩
    ·have g1:=Hd (g2.out.trans st8);have hp:=Hd st8.ok;have g6:=Hd st8.ext;have hr:=Hd gZ;have gz:=Hd g4;have hc:=Hd gh;have hT:=Zo4 hq.out g1.out.is g1.out.lt (HX.out.chg g1.out.chg) st8.ok v lo hi (st8.ext.ok gr.out.okR) gZ.okR;have kg:=Hd hT;clear st8 gZ g4 gh hT;go_wp2_with fail;refine kg.out.mono ?_;have gU:levN m8.d v<lvE m8.d.vars.length (levN m8.d) (Zaa m8.d) lo:=by
      have e1:=g6.out.lvE (n:=m8.d.vars.length) gr.out.okR gI.out.dag.none0 hp.out.dag.none0;have e2:=gr.out.lev;have e3:=g7.out.minL HK.out gI.out gw.out.1 gv.out.1 gu.out.1;have e4:=ho.out;have e5:=g7.out.lev;have e6:=g6.out.lev;have e7:=g6.out.vars;rw[e1,e6,e5,e7];rw[e5] at e2;omega
     have gY:levN m8.d v<lvE m8.d.vars.length (levN m8.d) (Zaa m8.d) hi:=by
      have e2:=hr.out.lev;have x78:=g7.out.trans g6.out;have e3:=x78.minL HK.out hp.out gw.out.2.1 gv.out.2.1 gu.out.2.1;have e4:=hd.out;have e5:=x78.lev;rw[e5] at e2 ⊢;omega
     have hA:v<m8.d.vars.length:=by rw[(g7.out.trans g6.out).vars];exact HV.out
     have h0:∀ er,Zor m8.d v lo hi er->er=7/\m8.d.pool.many=m8.d.pool.room:=by
      rintro er (⟨_,h1⟩|⟨_,_,_,h1⟩|h1)
      . exact absurd ⟨by omega,by omega⟩ h1
      . simp only[Int.toNat_natCast] at h1;omega
      . exact h1
     have kl:=Hd gU;have km:=Hd gY;have ko:=Hd hA;have ka:=Hd h0;clear gU gY hA h0;rintro x w9 ⟨o9,m9,V9,st9,(⟨ev,hy,_,_,gG,h3,rfl⟩|⟨gg,_,_,(⟨er,hL,gG,h3,rfl⟩|⟨_,_,r,rfl,hC,hB,gS,k0⟩)⟩)⟩
     . have g0:=Hd (g1.out.trans st9);have ke:=Hd hy;clear st9 hy gG h3;unfold Zdr;go_wp2_with fail;exact⟨rfl,o9,m9,V9,g0.out,.inr (.inr ⟨ev,rfl,by rw[<- ge.out,<- gz.out];exact ke.out⟩)⟩
     . have g0:=Hd (g1.out.trans st9);obtain⟨rfl,gE⟩:=ka.out er hL;have hw:=Hd gE;have hZ:=Hd gG;have gy:=Hd gg;clear st9 hL gG h3 gg gE;unfold Zdr;go_wp2_with fail;exact⟨rfl,o9,m9,V9,g0.out,.inr (.inl ⟨rfl,by rw[gy.out,gz.out,ge.out],by rw[hZ.out];exact hw.out,by rw[hZ.out];have a1:=gA.out;have a2:=hc.out;have a3:=gH.out;have a4:=ha.out;omega⟩)⟩
     ·have g9:=g1.out.trans st9;have x09:=g9.ext;have gc:=st9.ok;have x79:=g6.out.trans st9.ext;have a0:=HK.out.dag.none0;have a9:=gc.dag.none0;have g3:IteP m9.d V9 f' g' h' r:=by
       refine⟨x09.ok HS.out.okF,x09.ok HS.out.okG,x09.ok HS.out.okH,hC,fun ρ=>?_,?_⟩
       ·refine Zzv (lo:=lo) (hi:=hi) (v:=v) gc (x09.ok HS.out.okF) (x09.ok HS.out.okG) (x09.ok HS.out.okH) (by rw[x09.vars];exact HV.out) (by rw[x09.lev,x09.minL HK.out gc HS.out.okF HS.out.okG HS.out.okH,hW.out];exact Nat.le_refl _) ?_ ?_ ?_ ρ
        . intro ρ;rw[Zgt x09 a0 a9 HS.out.okF,Zgt x09 a0 a9 HS.out.okG,Zgt x09 a0 a9 HS.out.okH];exact(gr.out.ext x79 gI.out gc).val ρ
        . intro ρ;rw[Zgt x09 a0 a9 HS.out.okF,Zgt x09 a0 a9 HS.out.okG,Zgt x09 a0 a9 HS.out.okH];exact(hr.out.ext st9.ext hp.out gc).val ρ
        . rw[hB,st9.ext.ef hr.out.okR,st9.ext.ef (g6.out.ok gr.out.okR)];rfl
       . rw[x09.minL HK.out gc HS.out.okF HS.out.okG HS.out.okH,<- hW.out];have e1:=(g7.out.trans g6.out).lev;have e2:=(g7.out.trans g6.out).vars;rw[e1,e2] at gS;rw[x09.vars];exact gS
      have hu:=Hd ((HS.out.ext x09 HK.out gc HF.out HG.out HH.out).answer (x09.ok HF.out) (x09.ok HG.out) (x09.ok HH.out) g3.okR g3.lev g3.val);obtain⟨s9,gk⟩:=g9.is;have k7:=Hd (Yaf o9 s9.me (K m9.d V9) 1 f' g' h' r w9 gk.memo g9.lt ((hq.out.ite _ _ _ _ _ _).2 g3));have gR:r<eMax:=by
       obtain⟨ss,kc⟩:=gk.store;have:=kc.edge_lt g3.okR;unfold eMax;omega
      have gt:=Hd (fun W:World=>Zc6 r nt W gR);obtain⟨c0,c1,c2,c3,c4,c5,f0⟩:=cells6 gk.blk;have cx:=(HX.out.chg g9.chg).cell;have kh:=Hd gk;have g0:=Hd g9;have gy:=Hd (gg.trans (gz.out.trans ge.out));have k8:Hid (m9.d.pool.many+1<=m.d.pool.many+2^k):=Hd (by have a1:=gA.out;have a2:=hc.out;have a3:=gH.out;omega);clear st9 g9 x09 gc x79 a0 a9 g3 gk gR gg hC hB gS k0;go_wp2_with fail;refine k7.out.mono ?_;rintro x w10 ⟨rfl,o10,gj,gx,gV⟩;have k3:Hid (Step K o w mb m V o10 w10 m9 V9):=Hd ⟨⟨s9,kh.out.setMemo g0.out.lt gj gx⟩,gV,g0.out.chg.trans gx.any,g0.out.ok,g0.out.ext,g0.out.hs,g0.out.next⟩;clear gj gx gV c0 c1 c2 c3 c4 c5 f0 cx;go_wp2_with fail;refine(gt.out _).mono ?_;rintro x w' ⟨rfl,rfl⟩;go_wp2_with fail;go_ret;exact⟨o10,m9,V9,k3.out,.inl ⟨_,rfl,hu.out,gy.out,k8.out⟩⟩
    . have g1:=Hd (g2.out.trans st8);have HQ:Hid (m8.waits=m.waits/\m8.d.pool.many=m8.d.pool.room/\m8.d.pool.many+2<=m.d.pool.many+2^k):=Hd ⟨g4.trans ge.out,gP,by have a1:=gA.out;have a3:=gH.out;have a4:=ha.out;omega⟩;clear st8 g4 gP gh;unfold Zdr;go_wp2_with fail;exact⟨rfl,o8,m8,V8,g1.out,.inr (.inl ⟨rfl,HQ.out.1,HQ.out.2.1,HQ.out.2.2⟩)⟩
    . have g1:=Hd (g2.out.trans st8);have HQ:=Hd g4;clear st8 g4;unfold Zdr;go_wp2_with fail;exact⟨rfl,o8,m8,V8,g1.out,.inr (.inr ⟨ev,rfl,by rw[<- ge.out];exact HQ.out⟩)⟩
   . have g2:=Hd (ga.out.trans st7);have HQ:Hid (m7.waits=m.waits/\m7.d.pool.many=m7.d.pool.room/\m7.d.pool.many+2<=m.d.pool.many+2^k):=Hd ⟨g5,gQ,by have a3:=gH.out;have a4:=ha.out;omega⟩;clear st7 g5 gQ gi;unfold Zdr;go_wp2_with fail;exact⟨rfl,o7,m7,V7,g2.out,.inr (.inl ⟨rfl,HQ.out.1,HQ.out.2.1,HQ.out.2.2⟩)⟩
   . have g2:=Hd (ga.out.trans st7);have HQ:=Hd g5;clear st7 g5;unfold Zdr;go_wp2_with fail;exact⟨rfl,o7,m7,V7,g2.out,.inr (.inr ⟨ev,rfl,HQ.out⟩)⟩
  . have g3:IteP m.d V f' g' h' r:=(hq.out.ite _ _ _ _ _ _).1 hH;have hu:=Hd (HS.out.answer HF.out HG.out HH.out g3.okR g3.lev g3.val);have gt:=Hd (fun W:World=>Zc6 r nt W (gq.out _ g3.okR));clear hH g3 c0 c1 c2 c3 c4 c5 f0 cx;go_wp2_with fail;refine(gt.out _).mono ?_;rintro x w' ⟨rfl,rfl⟩;go_wp2_with fail;go_ret;exact⟨o,m,V,h7.out,.inl ⟨_,rfl,hu.out,rfl,by have:=Nat.one_le_two_pow (n:=k);omega⟩⟩
theorem Ztw {K:Law}(hK:Zc8 K):∀ k,Yb2 K k:=by
 intro k
 induction k with
 | zero=>exact Zkm hK 0 (fun k' e=>absurd e (by omega))
 | succ k ih =>
   refine Zkm hK (k+1) (fun k' e=>?_);have e2:k'=k:=by omega
   rw[e2];exact ih
open Go.RowKit
structure Caught (sb:Nat)(er:Int)(evt:Bool)(ev:Ev)(w w':World):Prop where
 size:w.heap.size<=w'.heap.size
 os:w'.os=w.os
 tape:w'.tape=w.tape
 output:w'.output=w.output
 keep:∀ k,k<w.heap.size->k≠sb->w'.heap[k]?=w.heap[k]?
 blk:w'.heap[sb]?=some (.cells #[.int .i64 er,.bool evt,.int .i64 ev.after,.int .i64 ev.kind,.int .i64 ev.level] 235 (0,0))
theorem Zoz {sb:Nat}{er:Int}{evt:Bool}{ev:Ev}{w:World}{a0 a1 a2 a3 a4:Value}(hs:w.heap[sb]?=some (.cells #[a0,a1,a2,a3,a4] 235 (0,0)))(ob:Obj) :
 Caught sb er evt ev w ((((((w.setCell ⟨sb,0,none⟩ (.int .i64 er)).setCell ⟨sb,1,none⟩ (.bool evt)).setCell ⟨sb,2,none⟩ (.int .i64 ev.after)).setCell ⟨sb,3,none⟩ (.int .i64 ev.kind)).setCell ⟨sb,4,none⟩ (.int .i64 ev.level)).alloc ob):=by
 have w1:=(Wr.refl (· = sb) w).setCell (p:=⟨sb,0,none⟩) (.inl rfl) (.int .i64 er);have h1:(w.setCell ⟨sb,0,none⟩ (.int .i64 er)).heap[sb]?=some (.cells #[.int .i64 er,a1,a2,a3,a4] 235 (0,0)):=Zac hs _
 generalize w.setCell ⟨sb,0,none⟩ (.int .i64 er)=W1 at *
 have w2:=w1.setCell (p:=⟨sb,1,none⟩) (.inl rfl) (.bool evt);have h2:(W1.setCell ⟨sb,1,none⟩ (.bool evt)).heap[sb]?=some (.cells #[.int .i64 er,.bool evt,a2,a3,a4] 235 (0,0)):=Zac h1 _
 generalize W1.setCell ⟨sb,1,none⟩ (.bool evt)=W2 at *
 have w3:=w2.setCell (p:=⟨sb,2,none⟩) (.inl rfl) (.int .i64 ev.after);have h3:(W2.setCell ⟨sb,2,none⟩ (.int .i64 ev.after)).heap[sb]?=some (.cells #[.int .i64 er,.bool evt,.int .i64 ev.after,a3,a4] 235 (0,0)):=Zac h2 _
 generalize W2.setCell ⟨sb,2,none⟩ (.int .i64 ev.after)=W3 at *
 have w4:=w3.setCell (p:=⟨sb,3,none⟩) (.inl rfl) (.int .i64 ev.kind);have h4:(W3.setCell ⟨sb,3,none⟩ (.int .i64 ev.kind)).heap[sb]?=some (.cells #[.int .i64 er,.bool evt,.int .i64 ev.after,.int .i64 ev.kind,a4] 235 (0,0)):=Zac h3 _
 generalize W3.setCell ⟨sb,3,none⟩ (.int .i64 ev.kind)=W4 at *
 have w5:=w4.setCell (p:=⟨sb,4,none⟩) (.inl rfl) (.int .i64 ev.level);have h5:(W4.setCell ⟨sb,4,none⟩ (.int .i64 ev.level)).heap[sb]?=some (.cells #[.int .i64 er,.bool evt,.int .i64 ev.after,.int .i64 ev.kind,.int .i64 ev.level] 235 (0,0)):=Zac h4 _
 generalize W4.setCell ⟨sb,4,none⟩ (.int .i64 ev.level)=W5 at *
 have w6:=w5.alloc ob;exact⟨w6.size,w6.os,w6.tape,w6.output,fun k hk g0=>w6.keep k hk g0,(Go.heap_alloc_old _ _ (Array.getElem?_eq_some_iff.1 h5).1).trans h5⟩
theorem Zlx (v:Value)(w:World):(Instr.typeAssert (.iface 235 v) 20 235 true).run prog w=.ok (.tuple #[v,.bool true]) w:=by
 simp[Instr.typeAssert,run_underlying underlying235,go_sem,Result.andThen]
theorem Ztu (dn st:Addr)(w:World)(hd:w.cell? dn=some (.bool true)) :
 CallsD prog 263 #[.pointer (some dn),.pointer (some st)] .returning w fun e u' w'=>e=.returned (.tuple #[])/\u'=.returning/\w'=w:=by
 refine callsD_of_wpS func263 rfl fun c₀ cs hu=>?_
 apply wpS_seq;apply wpS_seq;apply wpS_region;simp[wpOpsS,go_sem,hd,ntmps263,Exit.thenS];refine wpS_cond (t:=true) (by simp[Act.eval,Array.replicate]) ?_;simp only[if_true];refine wpS_of_wp (wp_ret ?_);cases c₀
 simp_all [Exit.thenS,bodyPostS,results,Tryz.results263]
theorem Zki (dn sb:Nat)(er:Int)(evt:Bool)(ev:Ev)(older:List PanicEntry)(w:World)(a0 a1 a2 a3 a4:Value)(hd:w.cell? ⟨dn,0,none⟩=some (.bool false))(hs:w.heap[sb]?=some (.cells #[a0,a1,a2,a3,a4] 235 (0,0))) :
 CallsD prog 263 #[.pointer (some ⟨dn,0,none⟩),.pointer (some ⟨sb,0,none⟩)] (.panicking ({ v:=.iface 235 (.agg #[.int .i64 er,.bool evt,.int .i64 ev.after,.int .i64 ev.kind,.int .i64 ev.level]),recovered:=false }::older)) w fun e u' w' =>
  e=.returned (.tuple #[])/\u'=.panicking ({ v:=.iface 235 (.agg #[.int .i64 er,.bool evt,.int .i64 ev.after,.int .i64 ev.kind,.int .i64 ev.level]),recovered:=true }::older) /\
  Caught sb er evt ev w w':=by
 refine callsD_of_wpS func263 rfl fun c₀ cs hu=>?_
 simp only[ntmps263,List.size_toArray,List.length_cons,List.length_nil,Nat.reduceAdd,Nat.reduceSub,Array.replicate_succ,Array.replicate_zero,List.push_toArray,List.append_toArray,List.nil_append,List.cons_append];apply wpS_seq;apply wpS_seq;apply wpS_region;simp[wpOpsS,go_sem,hd,Exit.thenS];refine wpS_cond (t:=false) (by simp[Act.eval]) ?_;simp only[Bool.false_eq_true,if_false];refine wpS_of_wp (wp_skip ?_);simp only[Exit.thenS];apply wpS_seq;apply wpS_region;simp[wpOpsS,go_sem,recoverD,hu,Exit.thenS];have lsb:sb<w.heap.size:=(Array.getElem?_eq_some_iff.1 hs).1;obtain⟨c0,c1,c2,c3,c4,f0⟩:=cells5 hs;refine wpS_of_wp (wp_mono (Q:=fun e a' w'=>e=.normal/\a'.defers=[]/\Caught sb er evt ev w w') ?_ ?_)
 ·have HS:=Hd hs;have g0:=fun v=>Zlx v w
  clear hs;go_wp2_with fail
  first|exact⟨rfl,rfl,Zoz HS.out _⟩|exact Zoz HS.out _
 . rintro e a' w' ⟨rfl,h1,h2⟩;refine⟨h1,_,rfl,_,results_none rfl _ _ _,?_⟩;exact⟨rfl,rfl,h2⟩
open Go.RowKit
abbrev Stop:=Int×Bool×Ev
def Ydd (r:Option Stop):Value :=
 match r with
 | some (er,evt,ev)=>.agg #[.int .i64 er,.bool evt,.int .i64 ev.after,.int .i64 ev.kind,.int .i64 ev.level]
 | none=>.agg #[.int .i64 0,.bool false,.int .i64 0,.int .i64 0,.int .i64 0]
def tryW (mb:Nat)(w:World):World :=
 ((w.alloc (.cells #[.int .i64 0,.bool false,.int .i64 0,.int .i64 0,.int .i64 0] 235)).alloc (.cells #[.bool false] 4)).alloc (.cells #[.pointer (some ⟨mb,0,none⟩)] 233)
def Yb5 (w:World)(R:Option Stop->World->Prop)(x:Ending)(w':World):Prop :=
 ∃ r W',R r W'/\Wr (fun k=>k=w.heap.size\/k=w.heap.size+1) W' w'/\x=.returned (.tuple #[Ydd r,.bool r.isNone])
def Zvo (gf:Nat)(lb:Array Value)(mb:Nat)(w:World)(R:Option Stop->World->Prop):Prop :=
 Calls prog gf (#[.pointer (some ⟨w.heap.size+2,0,none⟩)]++lb) (tryW mb w) fun e W' =>
  (tryW mb w).heap.size<=W'.heap.size/\W'.heap[w.heap.size]?=(tryW mb w).heap[w.heap.size]?/\W'.heap[w.heap.size+1]?=(tryW mb w).heap[w.heap.size+1]? /\
   ((e=.returned (.tuple #[])/\R none W')\/∃ er evt ev,e=Zdr er evt ev/\R (some (er,evt,ev)) W')
theorem Zty {s:Nat}{W:World}(h0:W.heap[s]?=some (.cells #[.int .i64 0,.bool false,.int .i64 0,.int .i64 0,.int .i64 0] 235 (0,0)))(h1:W.heap[s+1]?=some (.cells #[.bool false] 4 (0,0))){W2:World}
 (hW:W2=(((((W.setCell ⟨s,0,none⟩ (.int .i64 0)).setCell ⟨s,1,none⟩ (.bool false)).setCell ⟨s,2,none⟩ (.int .i64 0)).setCell ⟨s,3,none⟩ (.int .i64 0)).setCell ⟨s,4,none⟩ (.int .i64 0)).setCell ⟨s+1,0,none⟩ (.bool true)) :
 Wr (fun k=>k=s\/k=s+1) W W2/\W2.heap[s]?=some (.cells #[.int .i64 0,.bool false,.int .i64 0,.int .i64 0,.int .i64 0] 235 (0,0))/\W2.heap[s+1]?=some (.cells #[.bool true] 4 (0,0)):=by
 have n1:s+1≠s:=by omega
 have w1:=(Wr.refl (fun k=>k=s\/k=s+1) W).setCell (p:=⟨s,0,none⟩) (.inl (.inl rfl)) (.int .i64 0);have a1:(W.setCell ⟨s,0,none⟩ (.int .i64 0)).heap[s]?=some (.cells #[.int .i64 0,.bool false,.int .i64 0,.int .i64 0,.int .i64 0] 235 (0,0)):=Zac h0 _;have b1:=(Zaf (p:=⟨s,0,none⟩) (w:=W) n1 (.int .i64 0)).trans h1
 generalize W.setCell ⟨s,0,none⟩ (.int .i64 0)=W1 at *
 have w2:=w1.setCell (p:=⟨s,1,none⟩) (.inl (.inl rfl)) (.bool false);have a2:(W1.setCell ⟨s,1,none⟩ (.bool false)).heap[s]?=some (.cells #[.int .i64 0,.bool false,.int .i64 0,.int .i64 0,.int .i64 0] 235 (0,0)):=Zac a1 _;have b2:=(Zaf (p:=⟨s,1,none⟩) (w:=W1) n1 (.bool false)).trans b1
 generalize W1.setCell ⟨s,1,none⟩ (.bool false)=W3 at *
 have w3:=w2.setCell (p:=⟨s,2,none⟩) (.inl (.inl rfl)) (.int .i64 0);have a3:(W3.setCell ⟨s,2,none⟩ (.int .i64 0)).heap[s]?=some (.cells #[.int .i64 0,.bool false,.int .i64 0,.int .i64 0,.int .i64 0] 235 (0,0)):=Zac a2 _;have b3:=(Zaf (p:=⟨s,2,none⟩) (w:=W3) n1 (.int .i64 0)).trans b2
 generalize W3.setCell ⟨s,2,none⟩ (.int .i64 0)=W4 at *
 have w4:=w3.setCell (p:=⟨s,3,none⟩) (.inl (.inl rfl)) (.int .i64 0);have a4:(W4.setCell ⟨s,3,none⟩ (.int .i64 0)).heap[s]?=some (.cells #[.int .i64 0,.bool false,.int .i64 0,.int .i64 0,.int .i64 0] 235 (0,0)):=Zac a3 _;have b4:=(Zaf (p:=⟨s,3,none⟩) (w:=W4) n1 (.int .i64 0)).trans b3
 generalize W4.setCell ⟨s,3,none⟩ (.int .i64 0)=W5 at *
 have w5:=w4.setCell (p:=⟨s,4,none⟩) (.inl (.inl rfl)) (.int .i64 0);have a5:(W5.setCell ⟨s,4,none⟩ (.int .i64 0)).heap[s]?=some (.cells #[.int .i64 0,.bool false,.int .i64 0,.int .i64 0,.int .i64 0] 235 (0,0)):=Zac a4 _;have b5:=(Zaf (p:=⟨s,4,none⟩) (w:=W5) n1 (.int .i64 0)).trans b4
 generalize W5.setCell ⟨s,4,none⟩ (.int .i64 0)=W6 at *
 subst hW;exact⟨w5.setCell (p:=⟨s+1,0,none⟩) (.inl (.inr rfl)) _,(Zaf (Ne.symm n1) _).trans a5,Zac b5 _⟩
theorem Ydh (mb gf:Nat)(lb:Array Value)(w:World)(R:Option Stop->World->Prop)(eg:∀ args w,(callFunc gf args).run prog w=.ok (.enter gf args) w)(hop:Zvo gf lb mb w R) :
 Calls prog 242 #[.pointer (some ⟨mb,0,none⟩),.func (.func gf) #[] lb] w (Yb5 w R):=by
 have gg:∀ (fn:Fn) (first cap:Array Value) (w:World),(Instr.makeFunc fn first cap).run prog w=.ok (.func fn first cap) w:=fun _ _ _ _=>rfl
 unfold Zvo at hop;obtain⟨W,hW⟩:∃ W,W=tryW mb w:=⟨_,rfl⟩;have HW:Hid (_=W):=Hd hW.symm;rw[<- hW] at hop;have g8:=Hd hop;clear hop hW
 go_enter_defers func242,ntmps242
 go_wp2_with fail
 change Calls _ _ _ (tryW mb w) _
 have g4:(tryW mb w).heap[w.heap.size]?=some (.cells #[.int .i64 0,.bool false,.int .i64 0,.int .i64 0,.int .i64 0] 235 (0,0)):=by
  unfold tryW;exact(Go.heap_alloc_old _ _ (by simp;omega)).trans ((Go.heap_alloc_old _ _ (by simp)).trans (heap_alloc_new w _))
 have g3:(tryW mb w).heap[w.heap.size+1]?=some (.cells #[.bool false] 4 (0,0)):=by
  unfold tryW;refine(Go.heap_alloc_old _ _ (by simp)).trans ?_;have:=heap_alloc_new (w.alloc (.cells #[.int .i64 0,.bool false,.int .i64 0,.int .i64 0,.int .i64 0] 235)) (.cells #[.bool false] 4)
  rwa [World.size_alloc] at this
 rw[HW.out] at g4 g3 ⊢;have gc:W.heap.size=w.heap.size+3:=by rw[<- HW.out];simp[tryW]
 refine g8.out.mono ?_;rintro e W' ⟨gd,g7,g6,g5⟩;have g1:=g7.trans g4;have g0:=g6.trans g3;obtain⟨c0,c1,c2,c3,c4,f0⟩:=cells5 g1;have c5:W'.cell? ⟨w.heap.size+1,0,none⟩=some (.bool false):=by rw[cell_of_row W' _ 0 _ _ _ g0];rfl
 have f1:∀ k,W'.frozen? ⟨w.heap.size+1,k,none⟩=false:=fun k=>by simp[World.frozen?,g0]
 obtain⟨s,hs⟩:∃ s,s=w.heap.size:=⟨_,rfl⟩;rw[<- hs] at g1 g0 c0 c1 c2 c3 c4 f0 c5 f1 ⊢;have hs1:s<W'.heap.size:=by omega
 have ge:s+1<W'.heap.size:=by omega
 have ga:=Hd g1;have g9:=Hd g0;have HS:=Hd hs;clear g4 g3 g7 g6 g1 g0 hs gc gd g8 HW;rcases g5 with ⟨rfl,hr⟩|⟨er,evt,ev,rfl,hr⟩
 ·have HR:=Hd hr;clear hr;go_wp2_with fail;obtain⟨W2,g2⟩:∃ W2,W2=(((((W'.setCell ⟨s,0,none⟩ (.int .i64 0)).setCell ⟨s,1,none⟩ (.bool false)).setCell ⟨s,2,none⟩ (.int .i64 0)).setCell ⟨s,3,none⟩ (.int .i64 0)).setCell ⟨s,4,none⟩ (.int .i64 0)).setCell ⟨s+1,0,none⟩ (.bool true):=⟨_,rfl⟩;obtain⟨q1,q2,q3⟩:=Zty ga.out g9.out g2;rw[<- g2];clear g2 c0 c1 c2 c3 c4 f0 c5 f1;obtain⟨c0,c1,c2,c3,c4,f0⟩:=cells5 q2;have c5:W2.cell? ⟨s+1,0,none⟩=some (.bool true):=by rw[cell_of_row W2 _ 0 _ _ _ q3];rfl
  refine leaves_cons (f:=263) (args:=#[.pointer (some ⟨s+1,0,none⟩),.pointer (some ⟨s,0,none⟩)]) (by simp) (by simp[go_sem]) ?_;refine(Ztu ⟨s+1,0,none⟩ ⟨s,0,none⟩ _ c5).mono ?_;rintro e u' w'' ⟨rfl,rfl,rfl⟩;simp[Leaves,settle,results,Tryz.results242,go_sem,c0,c1,c2,c3,c4,c5];exact⟨none,W',HR.out,by rw[<- HS.out];exact q1,rfl⟩
 ·have HR:=Hd hr;clear hr;unfold Zdr;go_wp2_with fail;refine leaves_cons (f:=263) (args:=#[.pointer (some ⟨s+1,0,none⟩),.pointer (some ⟨s,0,none⟩)]) (by simp) (by simp[go_sem]) ?_;refine(Zki (s+1) s er evt ev [] _ _ _ _ _ _ c5 ga.out).mono ?_;rintro e u' w'' ⟨rfl,rfl,hc⟩;have q3:=(hc.keep (s+1) ge (by omega)).trans g9.out;clear c0 c1 c2 c3 c4 f0 c5 f1;obtain⟨c0,c1,c2,c3,c4,f0⟩:=cells5 hc.blk;have c5:w''.cell? ⟨s+1,0,none⟩=some (.bool false):=by rw[cell_of_row w'' _ 0 _ _ _ q3];rfl
  simp[Leaves,settle,results,Tryz.results242,go_sem,c0,c1,c2,c3,c4,c5];exact⟨some (er,evt,ev),W',HR.out,⟨hc.os,hc.tape,hc.output,hc.size,fun k hk hn=>hc.keep k hk (fun e=>hn (.inl (e.trans HS.out)))⟩,rfl⟩
open Go.RowKit
abbrev Ali (s:Nat)(W W':World):Prop:=Wr (fun k=>k=s\/k=s+1) W W'
structure Yec (gf:Nat)(lb:Array Value)(mb:Nat)(I:Nat->Bool->World->Prop)(Fin:Int->World->Prop)(n:Nat)(room:Bool)(W:World)(R:Option Stop->World->Prop):Prop where
 op:Zvo gf lb mb W R
 fin:∀ W1 W2,R none W1->Ali W.heap.size W1 W2->Fin 0 W2
 event:∀ er ev W1 W2,R (some (er,true,ev)) W1->Ali W.heap.size W1 W2->Calls prog 243 #[.pointer (some ⟨mb,0,none⟩),evA ev] W2 fun x w'=>x=.returned (.tuple #[])/\∃ n',n'<n/\I n' false w'
 full:∀ ev W1 W2,R (some (7,false,ev)) W1->Ali W.heap.size W1 W2->room=false->Calls prog 244 #[.pointer (some ⟨mb,0,none⟩)] W2 fun x w'=>(∃ v,x=.returned v)/\I n true w'
 err:∀ er ev W1 W2,R (some (er,false,ev)) W1->Ali W.heap.size W1 W2->¬ (er=7/\room=false)->Fin er W2
theorem Zyg (mb gf:Nat)(lb:Array Value)(w:World)(eg:∀ args w,(callFunc gf args).run prog w=.ok (.enter gf args) w)(I:Nat->Bool->World->Prop)(Fin:Int->World->Prop)
 (hI:∀ n room W,I n room W->∃ R,Yec gf lb mb I Fin n room W R) (n0:Nat) (h0:I n0 false w) :
 Calls prog 196 #[.pointer (some ⟨mb,0,none⟩),.func (.func gf) #[] lb] w fun x w'=>∃ er,x=.returned (.int .i64 er)/\Fin er w':=by
 have HI:=Hd hI;clear hI
 go_enter func196,ntmps196
 go_wp2_with fail
 go_loopg [5] (2*n0+1) (fun gk s5 wx=>∃ (n:Nat) (room:Bool),s5=.bool room/\I n room wx/\gk=2*n+(if room then 0 else 1))
 case atStart=>exact⟨n0,false,rfl,h0,rfl⟩
 case round =>
  obtain⟨n,room,rfl,hi,g4⟩:=hrel;obtain⟨R,hR⟩:=HI.out n room wr hi;have g6:=Hd (Ydh mb gf lb wr R eg hR.op);have HR:=Hd hR;have g5:=Hd g4;clear hi hR g4 h0;go_wp2_with fail;refine g6.out.mono ?_;rintro x w2 ⟨r,W1,hr,hw,rfl⟩;obtain⟨bx,g8⟩:∃ bx,bx=w2.heap.size:=⟨_,rfl⟩;cases r with
  | none =>
    have HF:=Hd fun W2 (h:Wr (fun _=>False) w2 W2)=>HR.out.fin W1 W2 hr (hw.trans h (fun _ _ e=>e) (fun _ _ e=>e.elim))
    clear hr hw;unfold Ydd;go_wp2_with fail;go_ret;exact⟨0,rfl,HF.out _ ((Wr.refl _ w2).alloc _)⟩
  | some st =>
    obtain⟨er,evt,ev⟩:=st;unfold Ydd;cases evt with
    | true =>
      have HF:=Hd fun W2 (h:Wr (fun _=>False) w2 W2)=>HR.out.event er ev W1 W2 hr (hw.trans h (fun _ _ e=>e) (fun _ _ e=>e.elim))
      clear hr hw;go_wp2_with fail;refine(HF.out _ ((Wr.refl _ w2).alloc _)).mono ?_;rintro x w3 ⟨rfl,n',g3,g0⟩;have g7:=Hd g3;have g2:=Hd g0;clear g3 g0;go_wp2_with fail
      go_roundg (2*n'+1)
      case rel=>exact⟨n',false,rfl,g2.out,rfl⟩
      case measure=>have h1:=g7.out;have h2:=g5.out;omega
    | false =>
      have HW:=Hd fun W2 (h:Wr (fun _=>False) w2 W2)=>hw.trans h (N:=fun k=>k=wr.heap.size\/k=wr.heap.size+1) (fun _ _ e=>e) (fun _ _ e=>e.elim)
      have g1:=Hd hr;clear hr hw
      by_cases h7:er=7
      ·subst h7;cases room with
       | false =>
         have HF:=Hd fun W2 (h:Wr (fun _=>False) w2 W2)=>HR.out.full ev W1 W2 g1.out (HW.out W2 h) rfl
         go_wp2_with fail;refine(HF.out _ ((Wr.refl _ w2).alloc _)).mono ?_;rintro x w3 ⟨⟨vv,rfl⟩,g0⟩;have g2:=Hd g0;clear g0;go_wp2_with fail
         go_roundg (2*n)
         case rel=>exact⟨n,true,rfl,g2.out,rfl⟩
         case measure=>have h2:=g5.out;simp at h2;omega
       | true =>
         have HF:=Hd fun W2 (h:Wr (fun _=>False) w2 W2)=>HR.out.err 7 ev W1 W2 g1.out (HW.out W2 h) (by simp)
         go_wp2_with fail;go_ret;exact⟨_,rfl,HF.out _ ((Wr.refl _ w2).alloc _)⟩
      ·have H7:((er:Int) == 7)=false:=by simpa using h7
       have HF:=Hd fun W2 (h:Wr (fun _=>False) w2 W2)=>HR.out.err er ev W1 W2 g1.out (HW.out W2 h) (fun e=>h7 e.1)
       go_wp2_with fail;go_ret;exact⟨_,rfl,HF.out _ ((Wr.refl _ w2).alloc _)⟩
open Go.RowKit
theorem Ybj {d:Zad}{V:Nat->BF}(hk:Zak d V):Acy (Zaa d) (fun i=>d.vars.length-lvE d.vars.length (levN d) (Zaa d) (2*i)):=by
 have e2:∀ i:Nat,2*i/2=i:=fun i=>by omega
 have hl:∀ i b,Zaa d i=some b->lvE d.vars.length (levN d) (Zaa d) (2*i)=levN d b.v:=fun i b h=>by unfold lvE;rw[e2,h]
 have hh:∀ e,lvE d.vars.length (levN d) (Zaa d) (2*(e/2))=lvE d.vars.length (levN d) (Zaa d) e:=fun e=>Zgz (e2 _)
 refine⟨hk.dag.none0,hk.dag.okLo,hk.dag.okHi,fun i b c h1 h2=>?_,fun i b c h1 h2=>?_⟩
 . have a1:=hk.dag.lvLo _ _ h1;have a2:=hk.dag.lt _ (hk.dag.var _ _ h1);have a3:=hh b.lo;rw[hl i b h1];omega
 . have a1:=hk.dag.lvHi _ _ h1;have a2:=hk.dag.lt _ (hk.dag.var _ _ h1);have a3:=hh b.hi;rw[hl i b h1];omega
theorem Ycw {o:Own}{w:World}{sb:Nat}{d:Zad}{V:Nat->BF}(h:Zar o w sb d)(hlt:Zah o w)(hk:Zak d V)(f:Nat)(hf:okE (Zaa d) f)(htop:∀ y b,Zaa d y=some b->Zaw d y<1099511627776) :
 Calls prog 227 #[.pointer (some ⟨sb,0,none⟩),.int .i64 f] w fun x w'=>x=.returned (.int .i64 0)/\∃ d',Zar o w' sb d'/\Zah o w'/\Zf4 d d' f 1/\Chg Zap o o w w':=by
 obtain⟨s,h⟩:=h;have g0:=h.edge_lt hf;rcases hf with h0|⟨b,hb⟩
 . refine(Zl2 h hlt hk.live f (by unfold eMax;omega) h0).mono ?_;rintro e w' ⟨d',h1,h2,h3,h4,h5⟩;exact⟨h1,d',⟨s,h2⟩,h3,h4,h5⟩
 . refine(Zl1 h hlt hk.live (Ybj hk) f (b:=b) hb htop).mono ?_;rintro e w' ⟨d',h1,h2,h3,h4,h5⟩;exact⟨h1,d',⟨s,h2⟩,h3,h4,h5⟩
theorem Zf4.ok {d d':Zad}{V:Nat->BF}{f:Nat}{sg:Int}(r:Zf4 d d' f sg)(hk:Zak d V):Zak d' V:=by
 have hl:levN d'=levN d:=by funext v;unfold levN;rw[r.level]
 exact⟨by rw[r.vars,hl,r.nodes];exact hk.dag,r.live,by rw[r.vars,r.nodes,r.tab];exact hk.tab,by rw[r.clen];exact hk.clen,by rw[r.vars];exact hk.small,by rw[r.vars,hl];exact hk.inv,by rw[r.vars,hl];exact hk.vlt⟩
theorem Zn8 (hs:List (Int×Nat))(n:Int)(f i:Nat)(hn:1<n):Zbx (hs++[(n,f)]) i=Zbx hs i+(if f/2=i then 1 else 0):=by
 unfold Zbx;rw[List.filter_append,List.length_append];congr 1
 by_cases e:f/2=i
 . simp[e,hn]
 ·have:(f/2 == i)=false:=by simp[e]
  simp[e,this,List.filter]
theorem Zx7 (hs:List (Int×Nat))(i:Nat):Zbx hs i<=hs.length:=List.length_filter_le _ _
structure Gave (K:Law)(o:Own)(w:World)(mb:Nat)(m:ManD)(V:Nat->BF)(f:Nat)(o':Own)(w':World)(m':ManD):Prop where
 is:Zd6 (K m'.d V) o' w' mb m'
 lt:Zah o' w'
 chg:Chg (fun _=>True) o o' w w'
 ok:Ztr m' V
 hs:m'.hs=m.hs++[(m.next,f)]
 next:m'.next=m.next+1
 waits:m'.waits=m.waits
 calls:m'.calls=m.calls
 nodes:Zaa m'.d=Zaa m.d
 vars:m'.d.vars=m.d.vars
 level:m'.d.level=m.d.level
 room:m'.d.pool.room=m.d.pool.room
 many:m'.d.pool.many=m.d.pool.many
theorem Zpe {m:ManD}{d':Zad}{f:Nat}(h:Zb1 m)(r:Zf4 m.d d' f 1)(hf:okE (Zaa m.d) f)(h0:Zaa m.d 0=none):Zb1 { m with d:=d',hs:=m.hs++[(m.next,f)],next:=m.next+1 }:=by
 have hn:=h.next
 refine⟨?_,by simp[h.zero],by simp[h.one],?_,by dsimp only;omega,?_,?_,?_⟩
 . dsimp only;rw[List.map_append,List.nodup_append];refine⟨h.nodup,by simp,fun a ha b hb=>?_⟩;simp at hb;subst hb;rintro rfl;obtain⟨p,hp,e⟩:=List.mem_map.1 ha;have:=(h.lt p hp).2;omega
 ·intro p hp;rcases List.mem_append.1 hp with hp|hp
  . have:=h.lt p hp;dsimp only;omega
  . simp at hp;subst hp;dsimp only;omega
 ·intro p hp;dsimp only;rw[r.nodes];rcases List.mem_append.1 hp with hp|hp
  . exact h.ok p hp
  . simp at hp;subst hp;exact hf
 . have:=h.len;simp;omega
 ·intro i b hb;dsimp only at hb ⊢;rw[r.nodes] at hb;have hi:i≠0:=by rintro rfl;rw[h0] at hb;cases hb
  rw[r.ext i hi,h.refs i b hb,Zn8 _ _ _ _ (by omega)];unfold toE;split<;>simp
theorem Yae {k:Int}{v:Value}{l:List (Int×Value)}(h:∀ p∈l,p.1≠k):putL k v l=l++[(k,v)]:=by
 have h1:=Zd2.2 h;unfold getL at h1;unfold putL;cases e:Zch k l 0 with
 | none=>rfl
 | some p=>rw[e] at h1;cases h1
theorem Zby.setMap {F:Phi}{o:Own}{w w':World}{mb:Nat}{m:ManD}{s:ManW}(h:Zby F o w mb m s)(hlt:Zah o w){hs':List (Int×Nat)}(hm:Zbf w' s.hb (Value.int .i64) (encH hs'))(hg:w.grownBy w' (some s.hb)):Zby F o w' mb { m with hs:=hs' } s:=by
 have k:∀ {g r},o g=some r->r ≠ .handles->w'.heap[g]?=w.heap[g]?:=fun hq hr=>hg.block _ (hlt _ _ hq) (fun e=>by cases e;have:=h.ownh;rw[hq] at this;cases this;exact hr rfl)
 exact⟨h.own,(k h.own (by simp)).trans h.blk,h.store.keepR (fun g r hq hr=>k hq (by rintro rfl;simp[Zap,Ze1] at hr)) (fun _ _ h=>h),h.memo.keep (fun g r hq hr=>k hq (by rintro rfl;rcases hr with e|e<;>cases e)) (fun _ _ h=>h),h.ownh,hm,
  h.waits.keep (fun g hq=>k hq (by simp)) (fun _ h=>h)⟩
theorem kI:Zm9 prog 3 (Value.int .i64):=Zpp underlying3
theorem Znr {K:Law}(hK:Zc8 K){o:Own}{w:World}{mb:Nat}{m:ManD}{V:Nat->BF}(hm:Zd6 (K m.d V) o w mb m)(hlt:Zah o w)(hk:Ztr m V)(f:Nat)(hf:okE (Zaa m.d) f)(hb:m.next<1099511627776) :
 Calls prog 161 #[.pointer (some ⟨mb,0,none⟩),.int .i64 f] w fun x w'=>x=.returned (.int .i64 m.next)/\∃ o' m',Gave K o w mb m V f o' w' m':=by
 obtain⟨s,hm⟩:=hm;obtain⟨c0,c1,c2,c3,c4,c5,f0⟩:=cells6 hm.blk
 have gh:=Hd (Ycw hm.store hlt hk.store f hf (fun y b hy=>by
  rw[hk.handles.refs y b hy];have h1:=Zx7 m.hs y;have h2:=hk.handles.len;omega))
 have gl:=hk.handles.next
 have HM:=Hd hm;have HL:=Hd hlt;have HK:=Hd hk;have HF:=Hd hf;have ge:=Hd hK;clear hm hlt hk hf hK
 go_enter func161,ntmps161
 go_wp2_with fail;refine gh.out.mono ?_;rintro x w1 ⟨rfl,d',g8,ga,hr,g3⟩;have g5:=HM.out.setStore HL.out g8 g3;have g0:∀ p∈encH m.hs,p.1≠m.next:=by
  intro p hp e0;obtain⟨q,hq,rfl⟩:=List.mem_map.1 hp;have h1:=HK.out.handles.lt q hq;have h2:q.1<m.next:=h1.2
  have h3:q.1=m.next:=e0
  omega
 have gi:=Hd g0;have g7:=Hd g5;have gd:=Hd ga;have HR:=Hd hr;have gk:=Hd g3;clear g8 ga hr g3 g0 c0 c1 c2 c3 c4 c5 f0;obtain⟨c0,c1,c2,c3,c4,c5,f0⟩:=cells6 g5.blk;clear g5;go_upto_region 3 with fail
 go_wp2_with (refine Zhl (l := encH m.hs) rfl _ _ _ rfl kI underlying98 m.next (.int .i64 (f : Nat)) rfl rfl rfl g7.out.map ?_
              intro w2 g2 g1;have g9:Zah o w2:=gd.out.mono g1.size;rw[Yae gi.out] at g2;have g4:=g7.out.setMap gd.out (hs':=m.hs++[(m.next,f)]) (by simpa [encH] using g2) g1;have gc:Chg (fun _=>True) o o w w2:=gk.out.any.grown g1 (fun g hg=>by cases hg;exact⟨_,g7.out.ownh,trivial⟩);have g6:=Hd g4;have gg:=Hd g9;have gj:=Hd gc;clear c0 c1 c2 c3 c4 c5 f0 g2 g1 g9 gc;obtain⟨c0,c1,c2,c3,c4,c5,f0⟩:=cells6 g4.blk;clear g4)
 go_ret;have hr:=HR.out;have gf:Zby (K m.d V) o (w2.setCell ⟨mb,3,none⟩ (.int .i64 (m.next+1))) mb { m with d:=d',hs:=m.hs++[(m.next,f)],next:=m.next+1 } s:=g6.out.field rfl rfl rfl rfl rfl g6.out.waits rfl;refine⟨rfl,o,_,⟨⟨s,gf.mono fun op a b c r h=>ge.out.same _ _ _ _ _ _ _ _ hr.vars hr.level hr.nodes h⟩,gg.out.mono (by simp[World.setCell]),gj.out.setCell (p:=⟨mb,3,none⟩) g6.out.own trivial _,⟨hr.ok HK.out.store,Zpe HK.out.handles hr HF.out HK.out.store.dag.none0⟩,rfl,rfl,rfl,rfl,hr.nodes,hr.vars,hr.level,hr.room,hr.many⟩⟩
open Go.RowKit
def doW (gop:Nat)(lop:Array Value)(w:World):World:=(w.alloc (.cells #[.func (.func gop) #[] lop] 182)).alloc (.cells #[.int .i64 0] 101)
theorem Zt0:∀ args w,(callFunc 197 args).run prog w=.ok (.enter 197 args) w:=enters_of func197 (by kernel_rfl) rfl
theorem Ydt (w:World)(g:Fn)(fs cs:Array Value):(binOp .eql 182 (.func g fs cs) .nilFunc).run prog w=.ok (.bool false) w:=by
 have hd:Op.maxDepth=9999+1:=rfl;have h:(Op.equal 182 (.func g fs cs) .nilFunc).run prog w=.ok false w:=by
  unfold Op.equal;rw[hd];unfold Op.equalIn;simp only[Sem.run_bind,run_underlying underlying182,Result.andThen_ok];simp
 simp only[binOp];simp[h]
open Go.RowKit
def varF (v:Nat):BF:=fun ρ=>ρ v
theorem Zri:∀ args w,(callFunc 144 args).run prog w=.ok (.enter 144 args) w:=enters_of func144 (by kernel_rfl) rfl
open Go.RowKit
theorem Ybb (w:World):(zeroValue 101).run prog w=.ok (.int .i64 0) w:=by
 have s:(prog.info? 101).map (fun i=>i.zero)=some (some (.int .i64 0)):=by kernel_rfl
 cases hi:prog.info? 101 with
 | none=>rw[hi] at s;cases s
 | some i =>
   rw[hi] at s;simp only[Option.map_some,Option.some.injEq] at s;simp[zeroValue,typeInfo,hi,s]
theorem Zeh {hs:List (Int×Nat)}(h:(hs.map Prod.fst).Nodup):((encH hs).map Prod.fst).Nodup:=by
 have:(encH hs).map Prod.fst=hs.map Prod.fst:=by simp[encH]
 rw[this];exact h
section
variable {F:Phi}{o:Own}{w:World}{mb:Nat}{m:ManD}{s:ManW}
theorem Zgy (h:Zby F o w mb m s)(hn:(m.hs.map Prod.fst).Nodup){k:Int}{f:Nat}(hk:(k,f)∈m.hs) :
 (Instr.lookup 98 (.map (some s.hb)) (.int .i64 k) true).run prog w=.ok (.tuple #[.int .i64 f,.bool true]) w:=by
 have h1:=h.map.lookup kI underlying98 Ybb k true;have h2:getL (encH m.hs) k=some (.int .i64 (f:Nat)):=Zdb (Zeh hn) (List.mem_map.2 ⟨(k,f),hk,rfl⟩);rw[h1,h2];rfl
end
theorem Zfn {F:Phi}{o:Own}{w:World}{xb mb:Nat}{m:ManD}(h:Zd6 F o w mb m)(hx:Zf3 o w xb mb)(hn:(m.hs.map Prod.fst).Nodup){k:Int}{f:Nat}(hk:(k,f)∈m.hs) :
 Calls prog 148 #[.pointer (some ⟨xb,0,none⟩),.int .i64 k] w fun x w'=>x=.returned (.int .i64 f)/\w=w':=by
 obtain⟨s,h⟩:=h;obtain⟨c0,c1,c2,c3,c4,c5,f0⟩:=cells6 h.blk;have cx:=hx.cell;have hl:=Zgy h hn hk;clear h hx hn hk
 go_enter func148,ntmps148
 go_wp2_with fail;go_ret;exact⟨rfl,rfl⟩
theorem Ycv {F:Phi}{o:Own}{w:World}{mb:Nat}{m:ManD}(h:Zd6 F o w mb m) :
 Calls prog 73 #[.pointer (some ⟨mb,0,none⟩)] w fun x w'=>x=.returned (.int .i64 m.hs.length)/\w=w':=by
 obtain⟨s,h⟩:=h;obtain⟨c0,c1,c2,c3,c4,c5,f0⟩:=cells6 h.blk;have hl:=h.map.size (P:=prog) underlying98 3;have e:(encH m.hs).length=m.hs.length:=by simp[encH]
 rw[e] at hl;clear h e
 go_enter func73,ntmps73
 go_wp2_with fail;go_ret;exact⟨rfl,rfl⟩
open Go.RowKit
end Go.Proofs.YtkidaindpahefaaGreat

namespace Go.Proofs.YtkidaindpahefaaGreat
open Go.Proofs.Tryz
open Go.RowKit
theorem Zrh:∀ args w,(callFunc 146 args).run prog w=.ok (.enter 146 args) w:=enters_of func146 (by kernel_rfl) rfl
def box3 (a b c:Int)(w:World):World:=((w.alloc (.cells #[.int .i64 a] 3)).alloc (.cells #[.int .i64 b] 3)).alloc (.cells #[.int .i64 c] 3)
theorem Ycc (a b c:Int)(w:World):Below w.heap.size w (box3 a b c w)/\(box3 a b c w).cell? ⟨w.heap.size,0,none⟩=some (.int .i64 a)/\(box3 a b c w).cell? ⟨w.heap.size+1,0,none⟩=some (.int .i64 b)/\(box3 a b c w).cell? ⟨w.heap.size+2,0,none⟩=some (.int .i64 c):=by
 have h0:=heap_alloc_new w (.cells #[.int .i64 a] 3);have h1:=heap_alloc_new (w.alloc (.cells #[.int .i64 a] 3)) (.cells #[.int .i64 b] 3);have h2:=heap_alloc_new ((w.alloc (.cells #[.int .i64 a] 3)).alloc (.cells #[.int .i64 b] 3)) (.cells #[.int .i64 c] 3);rw[World.size_alloc] at h1;rw[World.size_alloc,World.size_alloc] at h2;have a0:(box3 a b c w).heap[w.heap.size]?=some (.cells #[.int .i64 a] 3 (0,0)):=(Go.heap_alloc_old _ _ (by simp;omega)).trans ((Go.heap_alloc_old _ _ (by simp)).trans h0);have a1:(box3 a b c w).heap[w.heap.size+1]?=some (.cells #[.int .i64 b] 3 (0,0)):=(Go.heap_alloc_old _ _ (by simp)).trans h1;have a2:(box3 a b c w).heap[w.heap.size+2]?=some (.cells #[.int .i64 c] 3 (0,0)):=h2;exact⟨((Zae w _).alloc (by simp) _).alloc (by simp;omega) _,by rw[cell_of_row _ _ 0 _ _ _ a0];rfl,by rw[cell_of_row _ _ 0 _ _ _ a1];rfl,by rw[cell_of_row _ _ 0 _ _ _ a2];rfl⟩
open Go.RowKit
def man0 (n room:Nat):ManD:=⟨store0 n room,[(0,1),(1,0)],2,[],0⟩
theorem nodes0 (n room:Nat):Zaa (store0 n room)=fun _=>none:=by
 funext i;have ht:(pool0 room).tk i=false:=by
  unfold Zal.tk pool0;cases i with
  | zero=>rfl
  | succ i=>rfl
 unfold Zaa store0 Zal.get;simp[ht]
theorem Zi3 (n v:Nat)(h:v<n):(List.range n).getD v 0=v:=by simp[List.getD,h]
theorem Zyr (n room:Nat)(hn:n<=64):Zak (store0 n room) (fun _ _=>true):=by
 have hl:∀ v,v<n->levN (store0 n room) v=v:=fun v hv=>Zi3 n v hv
 have g1:(store0 n room).vars.length=n:=by simp[store0]
 have g0:∀ i b,Zaa (store0 n room) i=some b->False:=fun i b h=>by rw[nodes0] at h;cases h
 refine⟨⟨fun _=>rfl,by rw[nodes0],fun i b h=>(g0 i b h).elim,fun u v hu hv e=>?_,fun v hv=>?_,fun i b h=>(g0 i b h).elim,fun i b h=>(g0 i b h).elim,fun i b h=>(g0 i b h).elim,fun i b h=>(g0 i b h).elim,fun i b h=>(g0 i b h).elim,fun i b h=>(g0 i b h).elim,fun i j b h=>(g0 i b h).elim,fun i b h=>(g0 i b h).elim⟩,
  ?_,fun v hv lo hi id=>⟨fun h=>absurd (show (none:Option Nat)=some id from h) (by simp),fun h=>(g0 _ _ h).elim⟩,by simp[store0],by rw[g1];exact hn,fun v hv=>?_,fun i hi=>?_⟩
 . rw[g1] at hu hv;rw[hl u hu,hl v hv] at e;exact e
 . rw[g1] at hv ⊢;rw[hl v hv];exact hv
 ·refine⟨⟨fun i b h=>(g0 i b h).elim,fun i b h=>(g0 i b h).elim⟩,?_,fun i b h=>(g0 i b h).elim⟩;have h1:Zec (store0 n room).pool.at_.length (Zaa (store0 n room)) (Zau (store0 n room))=Zas (store0 n room).pool.at_.length (dead1 (Zaa (store0 n room)) (Zau (store0 n room))):=rfl;rw[h1,nodes0];have h2:dead1 (fun _=>none) (Zau (store0 n room)) 0=0:=rfl
  show (0:Int)=Zas 1 _
  simp[Zas,h2]
 . rw[g1] at hv;rw[hl v hv];exact Zi3 n v hv
 . rw[g1] at hi ⊢;have e:(store0 n room).vars.getD i 0=i:=Zi3 n i hi;rw[e];exact⟨hi,hl i hi⟩
theorem Yc2 (n room:Nat)(hn:n<=64):Ztr (man0 n room) (fun _ _=>true) :=
 ⟨Zyr n room hn,⟨by simp[man0],by simp[man0],by simp[man0],by simp[man0],by simp[man0],fun p hp=>by simp[man0] at hp;rcases hp with rfl|rfl<;>exact .inl rfl,by simp[man0],fun i b h=>by rw[show (man0 n room).d=store0 n room from rfl,nodes0] at h;cases h⟩⟩
def Zkr:Law:=fun d V op a b c r=>op=1->IteP d V a b c r
theorem Zb7:Zc8 Zkr:=⟨fun d V a b c r=>⟨fun h=>h rfl,fun h _=>h⟩,fun d V d' V' op a b c r hk hk' x h e=>(h e).ext x hk hk',fun d d' V op a b c r h1 h2 h3 h e=>by
 have q:=h e;have hl:levN d'=levN d:=by funext v;unfold levN;rw[h2]
 have hm:minL d' a b c=minL d a b c:=by unfold minL;rw[h1,hl,h3]
 exact⟨by rw[h3];exact q.okA,by rw[h3];exact q.okB,by rw[h3];exact q.okC,by rw[h3];exact q.okR,q.val,by rw[hm,h1,hl,h3];exact q.lev⟩⟩
theorem Yc4 {F:Phi}(o:Own)(n room:Nat)(w:World)(hlt:Zah o w)(hn:n<=64)(h1:1<=room)(h2:room<=1048576) :
 Calls prog 39 #[.int .i64 n,.int .i64 room] w fun x w'=>∃ mb o',x=.returned (.tuple #[.pointer (some ⟨mb,0,none⟩),.int .i64 0])/\Zd6 F o' w' mb (man0 n room)/\Chg (fun _=>True) o o' w w'/\Zah o' w'/\w.heap.size<=mb:=by
 have HS:=Hd (Zxs o n room w hlt hn h1 h2);clear hlt hn h1 h2
 go_enter func39,ntmps39
 go_wp2_with fail;refine HS.out.mono ?_;rintro x w1 ⟨sb,o1,rfl,gf,gl,gi,gt⟩;have go:=Hd gf;have gr:=Hd gl;have g3:=Hd gi;clear gf gl gi;have gw:=Zem (P:=prog) w1 98;obtain⟨wA,gv,gh,g2⟩:=(Zia w1 (Value.int .i64)).update (P:=prog) kI underlying98 0 (.int .i64 1);obtain⟨wB,gu,gc,g6⟩:=gh.update (P:=prog) kI underlying98 1 (.int .i64 0);have gj:=g3.out.allocR (.map #[] 0) .handles;have gk:Chg (fun _=>True) o (Zcl o1 w1.heap.size .handles) w wB :=
  ((gr.out.any.allocR (r:=.handles) g3.out (.map #[] 0) trivial).grown g2 (fun g hg=>by cases hg;exact⟨_,Za8 _ _ _,trivial⟩)).grown g6 (fun g hg=>by cases hg;exact⟨_,Za8 _ _ _,trivial⟩)
 have gd:Zah (Zcl o1 w1.heap.size .handles) wB:=gj.mono (Nat.le_trans g2.size g6.size);have ga:∀ g r,o1 g=some r->g≠w1.heap.size:=fun g r hg e=>by have:=g3.out g r hg;omega
 have g5:∀ g r,o1 g=some r->wB.heap[g]?=w1.heap[g]?:=fun g r hg=>by
  have a0:=g3.out g r hg;have a1:g<(w1.alloc (.map #[] 0)).heap.size:=by simp;omega
  rw[g6.block g (Nat.lt_of_lt_of_le a1 g2.size) (by intro e;cases e;exact ga _ _ hg rfl),g2.block g a1 (by intro e;cases e;exact ga _ _ hg rfl)];exact Go.heap_alloc_old _ _ a0
 have gp:=Hd (go.out.keepR (o':=Zcl o1 w1.heap.size .handles) (fun g r hg _=>g5 g r hg) (fun g r hg=>Zc3 g3.out (Nat.le_refl _) hg));have gq:Hid (Zbf wB w1.heap.size (Value.int .i64) [(0,.int .i64 1),(1,.int .i64 0)]):=Hd gc;have gn:=Hd gk;have gm:=Hd gd;have HME:=Hd (Zz5 (Zcl o1 w1.heap.size .handles) F wB gd);have gx:w1.heap.size<wB.heap.size:=gc.lt;clear gh g2 gc g6 gj gk gd ga g5;go_wp2_with fail;refine HME.out.mono ?_;rintro x w2 ⟨me,o2,rfl,gg,g0,g1,gy⟩;have g7:=gp.out.keepR (o':=o2) (w':=w2) (fun g r hg hr=>g0.same gm.out hg (by rintro rfl;simp[Zap,Ze1] at hr)) g0.ext;have g4:=gq.out.keepB (g0.same gm.out (Za8 o1 w1.heap.size .handles) (by simp));have g8:=g0.ext _ _ (Za8 o1 w1.heap.size .handles);have HF:Hid (∀ w3,w3=w2.alloc (.cells #[.pointer (some ⟨sb,0,none⟩),.pointer (some ⟨me,0,none⟩),.map (some w1.heap.size),.int .i64 2,.slice none 0 0,.int .i64 0] 100)->Zd6 F (Zcl o2 w2.heap.size .man) w3 w2.heap.size (man0 n room)/\Chg (fun _=>True) o (Zcl o2 w2.heap.size .man) w w3/\Zah (Zcl o2 w2.heap.size .man) w3/\w.heap.size<=w2.heap.size):=by
  refine Hd ?_;rintro w3 rfl;have ge:∀ g r,o2 g=some r->(w2.alloc (.cells #[.pointer (some ⟨sb,0,none⟩),.pointer (some ⟨me,0,none⟩),.map (some w1.heap.size),.int .i64 2,.slice none 0 0,.int .i64 0] 100)).heap[g]?=w2.heap[g]?:=fun g r hg=>Go.heap_alloc_old _ _ (g1 g r hg)
  have g9:∀ g r,o2 g=some r->Zcl o2 w2.heap.size .man g=some r:=fun g r hg=>Zc3 g1 (Nat.le_refl _) hg
  exact⟨⟨⟨sb,me,w1.heap.size,.slice none 0 0⟩,Za8 _ _ _,heap_alloc_new w2 _,g7.keepR (fun g r hg _=>ge g r hg) g9,gg.keep (fun g r hg _=>ge g r hg) g9,g9 _ _ g8,g4.keepB (ge _ _ g8),Zbr.nil _ _⟩,
   (gn.out.trans g0.any).allocR g1 _ trivial,g1.allocR _ _,(gn.out.trans g0.any).size⟩
 clear g7 g4 g8 gg g0 g1;go_wp2_with fail
 go_ret2
 obtain⟨a1,a2,a3,a4⟩:=HF.out _ rfl;exact⟨_,_,rfl,a1,a2,a3,a4⟩
open Go.RowKit
section
variable {F:Phi}{o:Own}{w:World}{sb mb:Nat}{d:Zad}{m:ManD}
theorem Zon (h:Zar o w sb d):Calls prog 121 #[.pointer (some ⟨sb,0,none⟩)] w fun x w'=>x=.returned (.int .i64 d.vars.length)/\w=w':=by
 obtain⟨s,h⟩:=h;obtain⟨c0,c1,c2,c3,c4,f0⟩:=cells5 h.blk;obtain⟨d0,d1,_⟩:=cells2 h.lev;obtain⟨a,cap,hv,_⟩:=h.vars.slice;rw[hv] at d0;clear h hv
 go_enter func121,ntmps121
 go_wp2_with fail;go_ret;exact⟨rfl,rfl⟩
theorem Zkv (h:Zd6 F o w mb m):Calls prog 62 #[.pointer (some ⟨mb,0,none⟩)] w fun x w'=>x=.returned (.int .i64 m.d.vars.length)/\w=w':=by
 obtain⟨s,h⟩:=h;obtain⟨c0,c1,c2,c3,c4,c5,f0⟩:=cells6 h.blk;have HP:=Hd (Zon h.store);clear h
 go_enter func62,ntmps62
 go_wp2_with fail;refine HP.out.mono ?_;rintro x w' ⟨rfl,rfl⟩;go_wp2_with fail;go_ret;exact⟨rfl,rfl⟩
end
open Go.RowKit
structure Zf2 (w:World)(a:Option Addr)(bs:List Bool):Prop where
 len:bs.length<=1000000
 cells:∀ k,k<bs.length->∃ b off,a=some ⟨b,off,none⟩/\w.cell? ⟨b,off+k,none⟩=some (.bool (bs.getD k false))
theorem Zf2.below {w w':World}{a:Option Addr}{bs:List Bool}(h:Zf2 w a bs)(hb:Below w.heap.size w w'):Zf2 w' a bs :=
 ⟨h.len,fun k hk=>by
  obtain⟨b,off,rfl,hc⟩:=h.cells k hk;exact⟨b,off,rfl,(hb.cell (p:=⟨b,off+k,none⟩) (Zab hc)).trans hc⟩⟩
def Zcn (bs:List Bool):Nat->Bool:=fun v=>bs.getD v false
theorem Zzj {F:Phi}{o:Own}{w:World}{mb:Nat}{m:ManD}{V:Nat->BF}(h:Zd6 F o w mb m)(hlt:Zah o w)(hk:Ztr m V){k:Int}{f:Nat}(hkf:(k,f)∈m.hs)(a:Option Addr)(c:Nat)(bs:List Bool)(hbs:Zf2 w a bs) :
 Calls prog 125 #[.pointer (some ⟨mb,0,none⟩),.int .i64 k,.slice a bs.length c] w fun x w'=>x=.returned (.tuple #[.bool (ef V f (Zcn bs)),.int .i64 0])/\Below w.heap.size w w':=by
 obtain⟨s,h⟩:=h;obtain⟨c0,c1,c2,c3,c4,c5,f0⟩:=cells6 h.blk;have gq:=Zgy h hk.handles.nodup hkf;have HM:=Hd h;have gj:=Hd hlt;have HK:=Hd hk.store;have gn:=Hd (hk.handles.ok _ hkf);have gu:=Hd hbs;have gv:=hbs.len;clear h hlt hk hkf hbs
 go_enter func125,ntmps125
 go_wp2_with fail
 go_loopg [8] (m.d.vars.length-lvE m.d.vars.length (levN m.d) (Zaa m.d) f) (fun gk s8 wx=>∃ e:Nat,s8=.int .i64 e/\okE (Zaa m.d) e/\ef V e (Zcn bs)=ef V f (Zcn bs)/\Below w.heap.size w wx/\gk=m.d.vars.length-lvE m.d.vars.length (levN m.d) (Zaa m.d) e)
 case atStart=>exact⟨f,rfl,gn.out,rfl,Below.refl _ _,rfl⟩
 case round =>
  obtain⟨e,rfl,g0,gd,hB,gc⟩:=hrel;clear c0 c1 c2 c3 c4 c5 f0 gq;have hm:=HM.out.below gj.out hB;obtain⟨c0,c1,c2,c3,c4,c5,f0⟩:=cells6 hm.blk;have ge:e<eMax:=by
   obtain⟨ss,gp⟩:=hm.store;have:=gp.edge_lt g0;unfold eMax;omega
  have HC:=Hd (fun W=>Zkk e W ge);have HA:=Hd (Zg7 hm.store (gj.out.mono hB.size) HK.out e g0);have g5:=Hd gd;have HB:=Hd hB;have g4:=Hd gc;clear hm ge gd hB gc;cases hb:Zaa m.d (e/2) with
  | none =>
    have h0:e/2=0:=by
     rcases g0 with h|⟨b,gi⟩
     . exact h
     . rw[hb] at gi;cases gi
    have he:decide (enode e=0)=true:=by simp[enode,h0]
    rw[he] at HC;have HR:Hid (ef V f (Zcn bs)=((e:Int) == 0)):=by
     show _=_
     rw[<- g5.out];have h1:=HK.out.dag.one (Zcn bs);have h2:e=0\/e=1:=by omega
     rcases h2 with rfl|rfl<;>simp[ef,h1]
    clear g0 hb h0 he;go_wp2_with fail;refine(HC.out _).mono ?_;rintro x w' ⟨rfl,rfl⟩;go_wp2_with fail
    go_ret2
    exact⟨by rw[HR.out];rfl,HB.out⟩
  | some b =>
    have g8:=HK.out.dag.var _ _ hb;have g6:lvE m.d.vars.length (levN m.d) (Zaa m.d) e=levN m.d b.v:=by unfold lvE;rw[hb]
    have gf:=Zda HK.out g0 g8 (by rw[g6];exact Nat.le_refl _);have gg:cofs m.d e b.v=(eflip b.lo (eneg e),eflip b.hi (eneg e)):=by unfold cofs;rw[hb];simp
    rw[gg] at gf;obtain⟨k1,k2,k3,k4,k5⟩:=gf;have k5:=k5 (Zcn bs);dsimp only at k1 k2 k3 k4 k5;have g7:=HK.out.dag.lt _ g8;have ga:decide (enode e=0)=false:=by
     have:enode e≠0:=by rintro h0;have h1:e/2=0:=h0;rw[h1,HK.out.dag.none0] at hb;cases hb
     simp[this]
    rw[ga] at HC;unfold atV at HA;rw[hb] at HA;obtain⟨L,hL⟩:∃ L,L=eflip b.lo (eneg e):=⟨_,rfl⟩;obtain⟨H,hH⟩:∃ H,H=eflip b.hi (eneg e):=⟨_,rfl⟩;rw[<- hL,<- hH] at k5;rw[<- hL] at k1 k3;rw[<- hH] at k2 k4;dsimp only at HA;rw[<- hL,<- hH] at HA;rw[g6] at g4;have gm:=Hd k1;have gt:=Hd k2;have gl:=Hd k3;have gr:=Hd k4;have g1:=Hd k5;have g9:=Hd g7;clear g0 hb g8 g6 gg k1 k2 k3 k4 k5 g7 ga hL hH;go_wp2_with fail;refine(HC.out _).mono ?_;rintro x w' ⟨rfl,rfl⟩;go_wp2_with fail;refine HA.out.mono ?_;rintro x w2 ⟨rfl,gh⟩;have HB2:=Hd (HB.out.trans (gh.mono HB.out.size));clear gh c0 c1 c2 c3 c4 c5 f0
    by_cases hv:b.v<bs.length
    ·obtain⟨b0,off,ha,g2⟩:=(gu.out.below HB2.out).cells b.v hv;subst ha;have go:(b.v:Int)<bs.length:=by omega
     have hx:Zcn bs b.v=bs.getD b.v false:=rfl;rw[<- hx] at g2;cases g3:Zcn bs b.v with
     | true =>
       rw[g3] at g2 g1;clear g3 hx;go_wp2_with fail
       go_roundg (m.d.vars.length-lvE m.d.vars.length (levN m.d) (Zaa m.d) H)
       case rel=>exact⟨H,rfl,gt.out,by rw[<- g5.out,g1.out];rfl,HB2.out,rfl⟩
       case measure=>have h1:=g4.out;have h2:=gr.out;have h3:=g9.out;omega
     | false =>
       rw[g3] at g2 g1;clear g3 hx;go_wp2_with fail
       go_roundg (m.d.vars.length-lvE m.d.vars.length (levN m.d) (Zaa m.d) L)
       case rel=>exact⟨L,rfl,gm.out,by rw[<- g5.out,g1.out];rfl,HB2.out,rfl⟩
       case measure=>have h1:=g4.out;have h2:=gl.out;have h3:=g9.out;omega
    ·have go:¬ (b.v:Int)<bs.length:=by omega
     have hx:Zcn bs b.v=false:=by unfold Zcn;simp[List.getD,List.getElem?_eq_none (Nat.le_of_not_lt hv)]
     rw[hx] at g1;clear hx;go_wp2_with fail
     go_roundg (m.d.vars.length-lvE m.d.vars.length (levN m.d) (Zaa m.d) L)
     case rel=>exact⟨L,rfl,gm.out,by rw[<- g5.out,g1.out];rfl,HB2.out,rfl⟩
     case measure=>have h1:=g4.out;have h2:=gl.out;have h3:=g9.out;omega
open Go.RowKit
end Go.Proofs.YtkidaindpahefaaGreat

namespace Go.Proofs.YtkidaindpahefaaGreat
open Go.Proofs.Tryz
open Go.RowKit
theorem Zub {o:Own}{w:World}{r:Role}{a:Option Addr}{cap:Nat}{xs:List Nat}(h:RowR o w r 3 1 (.slice a xs.length cap) xs.length (xs.map nat64))(hl:xs.length<=1000000):Zav w a (xs.map Int.ofNat):=by
 refine⟨by simp;omega,fun k hk=>?_⟩;simp only[List.length_map] at hk;obtain⟨g,cap',he,_⟩:=h.shape (by omega);cases he;refine⟨g,0,rfl,?_⟩;have h1:=h.cell k (by simpa using hk);rw[Nat.zero_add,h1,Zax (by simpa using hk)];simp[nat64,hk]
theorem Zhi {o:Own}{w:World}{sb:Nat}{d:Zad}(h:Zar o w sb d)(hlt:Zah o w)(hl:d.vars.length<=64) :
 Calls prog 63 #[.pointer (some ⟨sb,0,none⟩)] w fun x w'=>∃ v,x=.returned v/\OwnI w' w.heap.size v (d.vars.map Int.ofNat)/\Below w.heap.size w w':=by
 obtain⟨s,h⟩:=h;obtain⟨c0,c1,c2,c3,c4,f0⟩:=cells5 h.blk;obtain⟨d0,d1,_⟩:=cells2 h.lev;have lsb:sb<w.heap.size:=Zab c0;have llb:s.lb<w.heap.size:=Zab d0;obtain⟨a,cap,hv,_,_,g1,_⟩:=h.vars.slice;have g0:=h.vars;rw[hv] at d0 g0;have HI:=Hd (Zub g0 (by omega));have HN:=Hd g1;have e:d.vars.length=(d.vars.map Int.ofNat).length:=by simp
 rw[e] at d0;have g6:(d.vars.map Int.ofNat).length<=64:=by rw[<- e];exact hl
 generalize d.vars.map Int.ofNat=zs at *
 clear h hv g0 e g1 hl
 go_enter func63,ntmps63
 go_wp2_with (at_builtin;refine Zeg rfl _ _ rfl w.heap.size w _ [] zs _ _ rfl rfl (Zif w w.heap.size (Nat.le_refl _)) (HI.out.below (Zae _ _)) (by simp;omega) (by simp) (Zae _ _) HN.out ?_;intro v1 w1 g2 g3 g4 g5);go_ret;exact⟨_,rfl,by simpa using g2,g3⟩
theorem Zjk {F:Phi}{o:Own}{w:World}{mb:Nat}{m:ManD}(h:Zd6 F o w mb m)(hlt:Zah o w)(hl:m.d.vars.length<=64) :
 Calls prog 19 #[.pointer (some ⟨mb,0,none⟩)] w fun x w'=>∃ v,x=.returned v/\OwnI w' w.heap.size v (m.d.vars.map Int.ofNat)/\Below w.heap.size w w':=by
 obtain⟨s,h⟩:=h;obtain⟨c0,c1,c2,c3,c4,c5,f0⟩:=cells6 h.blk;have HP:=Hd (Zhi h.store hlt hl);clear h hlt hl
 go_enter func19,ntmps19
 go_wp2_with fail;refine HP.out.mono ?_;rintro x w' ⟨v,rfl,h1,h2⟩;have H1:=Hd h1;have H2:=Hd h2;clear h1 h2;go_wp2_with fail;go_ret;exact⟨v,rfl,H1.out,H2.out⟩
open Go.RowKit
end Go.Proofs.YtkidaindpahefaaGreat

namespace Go.Proofs.YtkidaindpahefaaGreat
open Go.Proofs.Tryz
open Go.RowKit Go.Shelf
attribute [local go_sem] Oper.semAt_some
def Zd9 (p:Zal)(k:Nat):List Nat:=(List.range k).filter p.tk
def Zds (p:Zal):List Nat:=Zd9 p p.at_.length
theorem Zi9 {p:Zal}{k:Nat}(h:p.tk k=true):Zd9 p (k+1)=Zd9 p k++[k]:=by
 unfold Zd9;rw[List.range_succ,List.filter_append];simp[h]
theorem Zqw {p:Zal}{k:Nat}(h:p.tk k=false):Zd9 p (k+1)=Zd9 p k:=by
 unfold Zd9;rw[List.range_succ,List.filter_append];simp[h]
theorem Zu8 (p:Zal){k m:Nat}:k<=m->∃ suf,Zd9 p k++suf=Zd9 p m:=by
 induction m with
 | zero => intro h; obtain rfl : k = 0 := by omega
           exact⟨[],by simp⟩
 | succ m ih =>
   intro h
   by_cases e:k=m+1
   . subst e;exact⟨[],by simp⟩
   ·obtain⟨suf,hs⟩:=ih (by omega);cases h2:p.tk m with
    | false=>exact⟨suf,by rw[Zqw h2];exact hs⟩
    | true=>exact⟨suf++[m],by rw[Zi9 h2,<- hs,List.append_assoc]⟩
theorem Zu9 {p:Zal}{k:Nat}(h:p.tk k=true)(hk:k<p.at_.length):∃ suf,Zd9 p k++k::suf=Zds p:=by
 obtain⟨suf,hs⟩:=Zu8 p (k:=k+1) (m:=p.at_.length) (by omega);rw[Zi9 h,List.append_assoc] at hs;exact⟨suf,hs⟩
theorem Zmp {p:Zal}{pre suf:List Nat}{x:Nat}(h:pre++x::suf=Zds p):p.tk x=true:=by
 have:x∈Zds p:=by rw[<- h];simp
 exact(List.mem_filter.1 this).2
structure ItS (n₀:Nat)(o:Own)(w0:World)(pb:Nat)(p:Zal)(Bp:Nat)(M0 M:Nat->Prop)(W0 W:World):Prop where
 low:Below n₀ w0 W
 box:W.cell? ⟨Bp,0,none⟩=some (.pointer (some ⟨pb,0,none⟩))
 wr:Wr (fun k=>n₀<=k) W0 W
 sub:∀ k,M k->M0 k\/W0.heap.size<=k
 nb:¬ M Bp
theorem ItS.go {n₀:Nat}{o:Own}{w0:World}{pb:Nat}{p:Zal}{Bp:Nat}{M0 M M':Nat->Prop}{W0 W W':World}(h:ItS n₀ o w0 pb p Bp M0 M W0 W)(hn:n₀<=W0.heap.size)(hge:∀ k,M k->n₀<=k)(hw:Wr M W W')
 (hM:∀ k,M' k->M k\/W.heap.size<=k):ItS n₀ o w0 pb p Bp M0 M' W0 W':=by
 have hs:=h.wr.size;have hb:=Zab h.box;refine⟨h.low.trans (hw.below hge (by omega)),?_,h.wr.trans hw (fun _ _ h=>h) (fun k _ hk=>hge k hk),fun k hk=>?_,fun e=>?_⟩
 . exact(World.cell?_of_block (w:=W) (a:=⟨Bp,0,none⟩) (hw.keep Bp hb h.nb)).trans h.box
 ·rcases hM k hk with h1|h1
  . exact h.sub k h1
  . right;omega
 ·rcases hM Bp e with h1|h1
  . exact h.nb h1
  . have g0:Bp<W.heap.size:=hb;omega
theorem Zt8 (F:Fence)(n:Nat)(hF:F.fn 272)(hro:F.round=none)(hn:1<=n)(Bp n₀ pb:Nat){o:Own}{w0:World}{p:Zal}(hp:Zaq o w0 pb p)(hlt:Zah o w0)(h0:w0.heap.size<=n₀)(w:World)
 (hw:Below n₀ w0 w) (hn0:n₀<=w.heap.size) (hBp:w.cell? ⟨Bp,0,none⟩=some (.pointer (some ⟨pb,0,none⟩))) :
 Gives F n 0 prog 272 #[.pointer (some ⟨Bp,0,none⟩)] (fun i:Nat=>#[.int .i64 i]) n₀ (· = Bp) (Zds p) w:=by
 intro l J M W g9 gg g1 gd hY hJ;have g8:=Zab hBp;have g2:ItS n₀ o w0 pb p Bp M M W W:=⟨hw.trans (g1.below (fun k h=>h.1) hn0),(World.cell?_of_block (w:=w) (a:=⟨Bp,0,none⟩) (g1.keep Bp g8 (fun h=>h.2 rfl))).trans hBp,Wr.refl _ _,fun k h=>.inl h,gd Bp rfl⟩;have ge:n₀<=W.heap.size:=Nat.le_trans hn0 g1.size;have HP:∀ W',Below n₀ w0 W'->Zaq o W' pb p:=fun W' hb=>hp.below (hb.mono h0) hlt
 obtain⟨vs,vt,vf,c0,c1,c2,c3,c4,hs,ht,_⟩:=(HP W g2.low).cells;have gf:=g2.box;have g3:=hp.pos;obtain⟨gs,cs,rfl,_⟩:=hs.shape g3;have g4:=hp.len;have gq:=hp.top;have gp:=hp.room;have gj:=Hd HP;have gh:=Hd hY;have gi:=Hd g2;have gk:=Hd g9;clear HP hY hs ht hp hlt h0 g2 g9 gg g1 gd hw hn0 hBp g8;refine callsIn_of_wp func272 rfl hF ?_ hro;simp only[ntmps272,List.size_toArray,List.length_cons,List.length_nil,Nat.reduceAdd,Nat.reduceSub,Array.replicate_succ,Array.replicate_zero,List.push_toArray,List.append_toArray,List.nil_append,List.cons_append]
 gi_wp2
 gi_loopw [11] (fun i wr=>∃ (k:Nat) (M1:Nat->Prop),k<=p.at_.length/\i=.int .i64 k/\J (Zd9 p k) M1 wr/\ItS n₀ o w0 pb p Bp M M1 W wr) (fun i _=>p.at_.length-(intOf i).toNat)
 case atStart=>exact⟨0,M,Nat.zero_le _,rfl,hJ,gi.out⟩
 case round =>
  obtain⟨k,M1,hk,rfl,g0,hS⟩:=hrel
  by_cases hlt:k<p.at_.length
  ·obtain⟨vs,vt,vf,d0,d1,d2,d3,d4,hs,ht,_⟩:=(gj.out wr hS.low).cells;have gf:=hS.box;obtain⟨gt,ct,rfl,_⟩:=ht.shape (by rw[g4];exact g3);have g7:=Zaq.flag ht (k:=k) (by omega);rw[g4] at d2;have gr:(k:Int)<p.at_.length:=by omega
   have HS:=Hd hS;cases hB:p.tk k with
   | false =>
     rw[hB] at g7;have g5:Hid (J (Zd9 p (k+1)) M1 wr):=by show J _ _ _;rw[Zqw hB];exact g0
     clear hB hs ht hS g0 hJ
     gi_wp2
     refine⟨fun _ h=>(by cases h),?_⟩
     gi_wp2
     go_roundw
     case rel=>exact⟨k+1,M1,by omega,by simp,g5.out,HS.out⟩
     case measure=>simp[intOf];omega
   | true =>
     rw[hB] at g7;have gn:=Hd (fun q (hq:M1 q)=>(gk.out _ _ _ g0 q hq).1);obtain⟨fn,tmps,assign,body,hy,hR⟩:=gh.out _ k M1 wr g0 (Zu9 hB hlt);have HU:=Hd (Zi9 hB);have HR:=Hd hR;clear hs ht hS g0 hR hB hJ
     gi_wp2
     refine HR.out.mono ?_;rintro e W3 ⟨rfl,M3,gc,g6,ga⟩;have gm:=Hd gc;have gl:=Hd (HS.out.go ge gn.out g6 ga);clear gc g6 ga
     gi_wp2
     go_roundw
     case rel=>exact⟨k+1,M3,by omega,by simp,by rw[HU.out];exact gm.out,gl.out⟩
     case measure=>simp[intOf];omega
  ·obtain rfl:k=p.at_.length:=by omega
   have g5:=Hd g0;have HS:=Hd hS;clear g0 hS hJ
   gi_wp2
   go_end0;exact⟨⟨_,rfl⟩,M1,g5.out,HS.out.wr,HS.out.sub⟩
theorem Ydv (F:Fence)(n:Nat)(hF:F.fn 267)(hro:F.round=none)(pb:Nat)(w:World) :
 CallsIn F n prog 267 #[.pointer (some ⟨pb,0,none⟩)] w fun e w'=>e=.returned (.func (.func 272) #[] #[.pointer (some ⟨w.heap.size,0,none⟩)])/\w'=w.alloc (.cells #[.pointer (some ⟨pb,0,none⟩)] 147):=by
 refine callsIn_of_wp func267 rfl hF ?_ hro;simp only[ntmps267,List.size_toArray,List.length_cons,List.length_nil,Nat.reduceAdd,Nat.reduceSub,Array.replicate_succ,Array.replicate_zero,List.push_toArray,List.append_toArray,List.nil_append,List.cons_append]
 gi_wp2
 go_ret;exact⟨rfl,rfl⟩
theorem Yci (F:Fence)(n:Nat)(hF:F.fn 255)(hro:F.round=none)(pb:Nat)(w:World) :
 CallsIn F n prog 255 #[.pointer (some ⟨pb,0,none⟩)] w fun e w'=>e=.returned (.func (.func 266) #[] #[.pointer (some ⟨w.heap.size,0,none⟩)])/\w'=w.alloc (.cells #[.pointer (some ⟨pb,0,none⟩)] 147):=by
 refine callsIn_of_wp func255 rfl hF ?_ hro;simp only[ntmps255,List.size_toArray,List.length_cons,List.length_nil,Nat.reduceAdd,Nat.reduceSub,Array.replicate_succ,Array.replicate_zero,List.push_toArray,List.append_toArray,List.nil_append,List.cons_append]
 gi_wp2
 go_ret;exact⟨rfl,rfl⟩
end Go.Proofs.YtkidaindpahefaaGreat

namespace Go.Proofs.YtkidaindpahefaaGreat
open Go.Proofs.Tryz
open Go.RowKit Go.Shelf
attribute [local go_sem] Oper.semAt_some
structure EaS (n₀:Nat)(o:Own)(w0:World)(pb:Nat)(p:Zal)(Bp By l:Nat)(M0 M:Nat->Prop)(W0 W:World):Prop where
 it:ItS n₀ o w0 pb p Bp M0 M W0 W
 boxy:W.cell? ⟨By,0,none⟩=some (.func (.yield l) #[] #[])
 ny:¬ M By
 ge:∀ k,M k->n₀<=k
theorem Zng {M:Nat->Prop}{W W':World}{b k:Nat}{v:Value}(h:Wr M W W')(hc:W.cell? ⟨b,k,none⟩=some v)(hn:¬ M b):W'.cell? ⟨b,k,none⟩=some v :=
 (World.cell?_of_block (w:=W) (a:=⟨b,k,none⟩) (h.keep b (Zab hc) hn)).trans hc
theorem EaS.go {n₀:Nat}{o:Own}{w0:World}{pb:Nat}{p:Zal}{Bp By l:Nat}{M0 M M':Nat->Prop}{W0 W W':World}(h:EaS n₀ o w0 pb p Bp By l M0 M W0 W)(hn:n₀<=W0.heap.size)(hw:Wr M W W')
 (hM:∀ k,M' k->M k\/W.heap.size<=k):EaS n₀ o w0 pb p Bp By l M0 M' W0 W':=by
 have hs:=h.it.wr.size;have hb:By<W.heap.size:=Zab h.boxy;refine⟨h.it.go hn h.ge hw hM,Zng hw h.boxy h.ny,fun e=>?_,fun k hk=>?_⟩
 ·rcases hM By e with h1|h1
  . exact h.ny h1
  . omega
 ·rcases hM k hk with h1|h1
  . exact h.ge k h1
  . omega
theorem Zrf (F:Fence)(n:Nat)(hF1:F.fn 266)(hF2:F.fn 267)(hF3:F.fn 272)(hro:F.round=none)(hn:4<=n)(Bp n₀ pb:Nat){o:Own}{w0:World}{p:Zal}(hp:Zaq o w0 pb p)(hlt:Zah o w0)(h0:w0.heap.size<=n₀)(w:World)
 (hw:Below n₀ w0 w) (hn0:n₀<=w.heap.size) (hBn:n₀<=Bp) (hBp:w.cell? ⟨Bp,0,none⟩=some (.pointer (some ⟨pb,0,none⟩))) :
 Gives F n 2 prog 266 #[.pointer (some ⟨Bp,0,none⟩)] (fun i:Nat=>#[Zaz (p.nd i)]) n₀ (· = Bp) (Zds p) w:=by
 intro l J M W g6 g7 g3 gp hY hJ;have gx:Bp<w.heap.size:=Zab hBp;have gT:Bp<W.heap.size:=Nat.lt_of_lt_of_le gx g3.size;have gd:n₀<=W.heap.size:=Nat.le_trans hn0 g3.size;have gh:W.cell? ⟨Bp,0,none⟩=some (.pointer (some ⟨pb,0,none⟩)):=Zng g3 hBp (fun h=>h.2 rfl);have gg:Below n₀ w0 W:=hw.trans (g3.below (fun k h=>h.1) hn0);obtain⟨V,hV⟩:∃ V,V=(W.alloc (.cells #[.func (.yield l) #[] #[]] 302)).alloc (.cells #[.pointer (some ⟨pb,0,none⟩)] 147):=⟨_,rfl⟩;have g4:∀ N,Wr N W V:=fun N=>by rw[hV];exact((Wr.refl N W).alloc _).alloc _
 have gk:J [] M V:=g7 _ _ _ _ hJ (g4 _);have g2:=g6 _ _ _ hJ;have g9:V.cell? ⟨W.heap.size,0,none⟩=some (.func (.yield l) #[] #[]):=by rw[hV];simp
 have gc:V.cell? ⟨W.heap.size+1,0,none⟩=some (.pointer (some ⟨pb,0,none⟩)):=by rw[hV];simp
 have gn:V.cell? ⟨Bp,0,none⟩=some (.pointer (some ⟨pb,0,none⟩)):=Zng (g4 (fun _=>False)) gh (fun h=>h);have g1:Below n₀ w0 V:=gg.trans ((g4 (fun k=>n₀<=k)).below (fun _ h=>h) gd);have gi:V.heap.size=W.heap.size+2:=by rw[hV];simp
 have gl:EaS n₀ o w0 pb p Bp W.heap.size l M M V V:=⟨⟨g1,gn,Wr.refl _ _,fun k h=>.inl h,gp Bp rfl⟩,g9,fun e=>by have:=(g2 _ e).2;omega,fun k h=>(g2 k h).1⟩;have HP:∀ W',Below n₀ w0 W'->Zaq o W' pb p:=fun W' hb=>hp.below (hb.mono h0) hlt
 have HG:=Hd (Zt8 F (n-1) hF3 hro (by omega) (W.heap.size+1) n₀ pb hp hlt h0 V g1 (by omega) gc);have gq:=Hd HP;have gB:=Hd hY;have gF:=Hd gl;have gD:=Hd g6;have gt:=Hd g2;have g8:=Hd g7;have gE:=Hd gk;have gC:=Hd g4;have gI:=hp.len;have gr:=hp.pos;have gH:=hp.top;have gG:=hp.room;have h1:1<=n:=by omega
 have gP:(W.alloc (.cells #[.func (.yield l) #[] #[]] 302)).cell? ⟨Bp,0,none⟩=some (.pointer (some ⟨pb,0,none⟩)):=Zng ((Wr.refl (fun _=>False) W).alloc _) gh (fun h=>h);refine callsIn_of_wp_marks func266 rfl hF1 ?_ hro;simp only[ntmps266,List.size_toArray,List.length_cons,List.length_nil,Nat.reduceAdd,Nat.reduceSub,Array.replicate_succ,Array.replicate_zero,List.push_toArray,List.append_toArray,List.nil_append,List.cons_append];clear g6 g7 g3 gp hY hJ gk g2 g9 gc gn g1 gl HP hp hlt h0 hw hBp gg g4 gi
 gi_wp2_with (gi_at_call 267;refine(Ydv F (n-1) hF2 hro _ _).mono ?_;rintro e w' ⟨rfl,rfl⟩)
 rw[<- hV];have gi:V.heap.size=W.heap.size+2:=by rw[hV];simp
 clear hV;have gL:prog.follows .mixedOrders=true:=by kernel_rfl
 refine Ztn hro h1 (gf:=272) (lb:=#[.pointer (some ⟨W.heap.size+1,0,none⟩)]) rfl hF3 (enters_of func272 (by kernel_rfl) rfl) HG.out
  (by omega) (by rintro k rfl;omega) (fun x=>rfl)
  (fun pre N V'=>∃ M1,(∀ k,N k↔M1 k\/k=W.heap.size\/k=Bp)/\J pre M1 V'/\EaS n₀ o w0 pb p Bp W.heap.size l M M1 V V')
  ?_ ?_ (fun k=>M k\/k=W.heap.size\/k=Bp) ?_ ⟨M,fun k=>Iff.rfl,gE.out,gF.out⟩
  (fun x a' _ _=>a'={
   tmps :=
    #[Value.func (Fn.yield l) #[] #[],Value.pointer (some { block:=Bp,off:=0 }),
     Value.pointer (some { block:=W.heap.size,off:=0 }),Value.int IntKind.i64 ↑x,
     Value.pointer (some { block:=pb,off:=0 }),
     Value.func (Fn.func 272) #[] #[Value.pointer (some { block:=W.heap.size+1,off:=0 })],
     Value.int IntKind.i64 ↑x,undef,undef,undef,undef,undef,undef,undef,undef,undef,undef],
   defers:=[] }) ?_ ?_ ?_ ?_
 ·rintro pre N V' ⟨M1,hN,hj,hE⟩ k hk;rcases(hN k).1 hk with h|h|h
  . exact gD.out _ _ _ hj k h
  . subst h;exact⟨gd,Zab hE.boxy⟩
  . subst h;exact⟨hBn,Zab hE.it.box⟩
 ·rintro pre N V' V'' ⟨M1,hN,hj,hE⟩ hw
  have g5:∀ k,k<V'.heap.size->(k<n₀\/N k)->V''.heap[k]?=V'.heap[k]?:=fun k hk hn=>hw.keep k hk (fun⟨a,b⟩=>by
   rcases hn with h|h
   . omega
   . exact b h)
  refine⟨M1,hN,g8.out _ _ _ _ hj (hw.mono fun k ⟨a,b⟩=>⟨a,fun h=>b ((hN k).2 (.inl h))⟩),⟨⟨?_,?_,?_,hE.it.sub,hE.it.nb⟩,?_,hE.ny,hE.ge⟩⟩
  . exact hE.it.low.trans (hw.below (fun k h=>h.1) (by have:=hE.it.wr.size;omega))
  . exact(World.cell?_of_block (w:=V') (a:=⟨Bp,0,none⟩) (g5 _ (Zab hE.it.box) (.inr ((hN _).2 (.inr (.inr rfl)))))).trans hE.it.box
  . exact hE.it.wr.trans hw (fun _ _ h=>h) (fun k _ h=>h.1)
  . exact(World.cell?_of_block (w:=V') (a:=⟨W.heap.size,0,none⟩) (g5 _ (Zab hE.boxy) (.inr ((hN _).2 (.inr (.inl rfl)))))).trans hE.boxy
 ·rintro k rfl h;have gR:W.heap.size+1<W.heap.size\/W.heap.size+1=W.heap.size\/W.heap.size+1=Bp:=by
   rcases h with h|h
   . left;exact(gt.out _ h).2
   . right;exact h
  omega
 . intro x a' W' W1 W2 l' _ h _;exact h
 ·intro l' pre x N V' K hI hK
  gi_wp2
  exact hK _ _ (Wr.refl _ _) rfl
 ·rintro l' pre x a' N W0 W1 ⟨M1,hN,hj,hE⟩ rfl gK hs1 g0;obtain⟨suf,g0⟩:=g0;have hx:p.tk x=true:=Zmp g0;obtain⟨vs,vt,vf,d0,d1,d2,d3,d4,hs,ht,_⟩:=(gq.out W1 hE.it.low).cells;have gO:=hE.it.box;have gN:=hE.boxy;obtain⟨gs,cs,rfl,gw⟩:=hs.shape gr;have gu:=((gq.out W1 hE.it.low).tk_lt hx).2;have gM:=Zaq.node hs (k:=x) gu;have gJ:(x:Int)<p.at_.length:=by omega
  obtain⟨fn,tmps,assign,body,hy,hR⟩:=gB.out _ x M1 W1.drew (g8.out _ _ _ _ hj ((Wr.refl _ W1).drew)) ⟨suf,g0⟩;simp only[Zaz] at hy;have HR:=Hd hR;have HE:=Hd hE;have HN:=Hd hN;clear hs hE hj hR hN g0 gw
  gi_wp2
  gi_region_with_o (refine⟨fun _=>by omega,HR.out.mono ?_⟩;rintro e W3 ⟨rfl,M3,gy,ga,gj⟩)
  all_goals gi_wp2
  all_goals exact⟨fun k=>M3 k\/k=W.heap.size\/k=Bp,⟨M3,fun k=>Iff.rfl,gy,HE.out.go (by omega) (Wr.trans ((Wr.refl M1 W1).drew) ga (fun _ _ h=>h) (fun _ _ h=>h)) gj⟩,
   Wr.trans ((Wr.refl M1 W1).drew) ga (fun k _ h=>.inl ((HN.out k).2 (.inl h))) (fun k _ h=>.inl ((HN.out k).2 (.inl h))),
   fun k hk=>by
    rcases hk with hk|hk
    ·rcases gj k hk with h|h
     . exact .inl ((HN.out k).2 (.inl h))
     . right;have:W1.heap.size<=k:=h;omega
    . exact .inl ((HN.out k).2 (.inr hk))⟩
 ·rintro D N W2 gS gA ⟨M1,hN,hj,hE⟩ gQ gv gz
  gi_wp2
  refine⟨by simp,.inl ⟨_,_,rfl,run_takeDeferred gz,?_⟩⟩;have gm:n₀<=D:=by omega
  refine⟨_,results_none rfl _ _ _,⟨_,rfl⟩,M1,?_,?_,?_⟩
  . exact g8.out _ _ _ _ hj ((Wr.refl _ _).putObj (.inl ⟨gm,fun h=>gA ((hN D).2 (.inl h))⟩) _)
  . exact((gC.out (fun k=>n₀<=k)).trans gv (fun _ _ h=>h) (fun _ _ h=>h)).putObj (.inl gm) _
  ·intro k hk;rcases hE.it.sub k hk with h|h
   . exact .inl h
   . right;omega
open Go.RowKit
def Zcg (d:Zad):List Nat:=(Zds d.pool).filter (fun i=>decide (Zau d i=0))
theorem Zqv (p:Zal):(Zds p).Nodup:=(List.nodup_range).filter _
theorem Zre (d:Zad):(Zcg d).Nodup:=(Zqv d.pool).filter _
theorem Zkw {d:Zad}{i:Nat}(h:i∈Zcg d):d.pool.tk i=true/\Zau d i=0:=by
 unfold Zcg at h;rw[List.mem_filter] at h;exact⟨(List.mem_filter.1 h.1).2,by simpa using h.2⟩
theorem Zmh (f g:Nat->Bool):∀ k,((((List.range k).filter f).filter g).length:Int)=Zas k (fun i=>if f i=true then (if g i=true then 1 else 0) else 0)
 | 0=>by simp[Zas]
 | k+1=>by
   rw[List.range_succ,List.filter_append,List.filter_append,List.length_append];have ih:=Zmh f g k;rw[Int.natCast_add,ih];cases hf:f k<;>cases hg:g k<;>simp[Zas,hf,hg,List.filter]
theorem Zo5 {d:Zad}{ext:Nat->Int}(h:Zb9 d ext):(Zcg d).length=d.dead:=by
 have h1:=h.dead;have h2:((Zcg d).length:Int)=Zas d.pool.at_.length (dead1 (Zaa d) (Zau d)):=by
  unfold Zcg Zds Zd9;rw[Zmh];refine Za3 _ fun i _=>?_
  unfold dead1 Zaa Zal.get;cases ht:d.pool.tk i<;>simp
 unfold Zec at h1;omega
structure Zdt (d:Zad)(k:Nat)(d':Zad):Prop where
 vars:d'.vars=d.vars
 level:d'.level=d.level
 counts:d'.counts=d.counts
 dead:d'.dead=d.dead
 room:d'.pool.room=d.pool.room
 alen:d'.pool.at_.length=d.pool.at_.length
 keep:∀ i,i∉(Zcg d).take k->d'.pool.tk i=d.pool.tk i/\d'.pool.nd i=d.pool.nd i
 gone:∀ i,i∈(Zcg d).take k->d'.pool.tk i=false
 tab:∀ v,v<d.vars.length->∀ lo hi id,d'.tab v (lo,hi)=some id↔Zaa d' id=some ⟨v,lo,hi⟩
 many:d'.pool.many+k=d.pool.many
theorem Zdt.start {d:Zad}(ht:∀ v,v<d.vars.length->∀ lo hi id,d.tab v (lo,hi)=some id↔Zaa d id=some ⟨v,lo,hi⟩):Zdt d 0 d :=
 ⟨rfl,rfl,rfl,rfl,rfl,rfl,fun _ _=>⟨rfl,rfl⟩,fun i h=>by simp at h,ht,rfl⟩
def Zwh (d:Zad)(i:Nat)(b:BN):Zad:={ d with pool:=d.pool.give i,tab:=fun v=>if v=b.v then putF (d.tab v) (b.lo,b.hi) none else d.tab v }
theorem Zdt.at {d d':Zad}{k i:Nat}(h:Zdt d k d')(hi:(Zcg d)[k]?=some i):d'.pool.tk i=true/\d'.pool.nd i=d.pool.nd i:=by
 obtain⟨g0,e⟩:=List.getElem?_eq_some_iff.1 hi;have hm:i∈Zcg d:=e ▸ List.getElem_mem g0;have hn:i∉(Zcg d).take k:=by
  intro hh;rw[List.mem_take_iff_getElem] at hh;obtain⟨j,hj,e2⟩:=hh;have g1:=List.pairwise_iff_getElem.1 (Zre d) j k (by omega) g0 (by omega);exact g1 (e2.trans e.symm)
 have:=h.keep i hn;exact⟨this.1.trans (Zkw hm).1,this.2⟩
theorem Zdt.next {d d':Zad}{k i:Nat}(h:Zdt d k d')(hi:(Zcg d)[k]?=some i)(hl:d'.pool.taken.length=d'.pool.at_.length)(hat:i<d'.pool.at_.length)(hm:1<=d'.pool.many) :
 Zdt d (k+1) (Zwh d' i (bnOf (d'.pool.nd i))):=by
 obtain⟨g2,e⟩:=List.getElem?_eq_some_iff.1 hi;obtain⟨ht,g3⟩:=h.at hi;have e1:(Zcg d).take (k+1)=(Zcg d).take k++[i]:=by rw[List.take_succ_eq_append_getElem g2,e]
 have tk:∀ j,(d'.pool.give i).tk j=if j=i then false else d'.pool.tk j:=fun j=>Zlk (by rw[hl];exact hat) j
 have nd:∀ j,(d'.pool.give i).nd j=if j=i then rn0 else d'.pool.nd j:=fun j=>Zid hat j
 have g0:Zaa d' i=some (bnOf (d'.pool.nd i)):=by unfold Zaa Zal.get;rw[if_pos ht];rfl
 have g1:∀ j,Zaa (Zwh d' i (bnOf (d'.pool.nd i))) j=if j=i then none else Zaa d' j:=fun j=>by
  unfold Zaa
  show ((d'.pool.give i).get j).map bnOf=_
  rw[Zal.give_get (by rw[hl];exact hat) hat]
  by_cases e:j=i<;>simp[e]
 refine⟨h.vars,h.level,h.counts,h.dead,h.room,?_,fun j hj=>?_,fun j hj=>?_,fun v hv lo hY id=>?_,?_⟩
 ·show (d'.pool.at_.set i rn0).length=_
  rw[List.length_set];exact h.alen
 ·rw[e1] at hj;simp only[List.mem_append,List.mem_singleton,not_or] at hj
  show (d'.pool.give i).tk j=_/\(d'.pool.give i).nd j=_
  rw[tk,nd,if_neg hj.2,if_neg hj.2];exact h.keep j hj.1
 ·rw[e1] at hj;simp only[List.mem_append,List.mem_singleton] at hj
  show (d'.pool.give i).tk j=_
  rw[tk]
  by_cases e2:j=i
  . rw[if_pos e2]
  . rw[if_neg e2];exact h.gone j (hj.resolve_right e2)
 ·rw[g1];have h0:=h.tab v hv lo hY id
  show (if v=(bnOf (d'.pool.nd i)).v then putF (d'.tab v) ((bnOf (d'.pool.nd i)).lo,(bnOf (d'.pool.nd i)).hi) none else d'.tab v) (lo,hY)=some id↔_
  by_cases e2:id=i
  ·subst e2;simp only[if_true];constructor
   ·intro hh;exfalso
    by_cases e3:v=(bnOf (d'.pool.nd id)).v
    ·rw[if_pos e3] at hh;unfold putF at hh
     by_cases e4:(lo,hY)=((bnOf (d'.pool.nd id)).lo,(bnOf (d'.pool.nd id)).hi)
     . rw[if_pos e4] at hh;cases hh
     . rw[if_neg e4,h0,g0] at hh;cases hh;exact e4 rfl
    . rw[if_neg e3,h0,g0] at hh;cases hh;exact e3 rfl
   . intro hh;cases hh
  ·rw[if_neg e2,<- h0]
   by_cases e3:v=(bnOf (d'.pool.nd i)).v
   ·rw[if_pos e3];unfold putF
    by_cases e4:(lo,hY)=((bnOf (d'.pool.nd i)).lo,(bnOf (d'.pool.nd i)).hi)
    ·rw[if_pos e4];constructor
     . intro hh;cases hh
     . intro hh;exfalso;have q:=(h.tab v hv lo hY i).2 (by rw[g0];cases e4;rw[e3]);rw[hh] at q;cases q;exact e2 rfl
    . rw[if_neg e4]
   . rw[if_neg e3]
 ·show d'.pool.many-1+(k+1)=_
  have:=h.many;omega
structure Za7 (d d':Zad):Prop where
 vars:d'.vars=d.vars
 level:d'.level=d.level
 counts:d'.counts=d.counts
 room:d'.pool.room=d.pool.room
 dead:d'.dead=0
 alen:d'.pool.at_.length=d.pool.at_.length
 nodes:∀ i,Zaa d' i=if 0<Zau d i then Zaa d i else none
 ext:∀ i b,Zaa d' i=some b->Zaw d' i=Zaw d i
 tab:∀ v,v<d.vars.length->∀ lo hi id,d'.tab v (lo,hi)=some id↔Zaa d' id=some ⟨v,lo,hi⟩
 many:d'.pool.many+d.dead=d.pool.many
theorem Zdt.done {d d':Zad}{ext:Nat->Int}(h:Zdt d (Zcg d).length d')(hl:Zb9 d ext)(hat:∀ i,d.pool.tk i=true->i<d.pool.at_.length):Za7 d { d' with dead:=0 }:=by
 have hk:(Zcg d).take (Zcg d).length=Zcg d:=List.take_length;have g1:∀ i,d.pool.tk i=true->Zau d i=0->i∈Zcg d:=fun i h1 h2=>by
  unfold Zcg Zds Zd9;simp only[List.mem_filter,List.mem_range,decide_eq_true_eq];exact⟨⟨hat i h1,h1⟩,h2⟩
 refine⟨h.vars,h.level,h.counts,h.room,rfl,h.alen,fun i=>?_,fun i b hb=>?_,h.tab,by rw[<- Zo5 hl];exact h.many⟩
 ·show (d'.pool.get i).map bnOf=if 0<Zau d i then (d.pool.get i).map bnOf else none
  unfold Zal.get
  by_cases hc:i∈Zcg d
  . have h1:=h.gone i (by rw[hk];exact hc);have h2:=(Zkw hc).2;simp[h1,h2]
  ·obtain⟨h1,h2⟩:=h.keep i (by rw[hk];exact hc);rw[h1,h2]
   by_cases h3:0<Zau d i
   . rw[if_pos h3]
   ·rw[if_neg h3];cases ht:d.pool.tk i with
    | false=>rfl
    | true=>exact absurd (g1 i ht (by omega)) hc
 ·have g0:(d'.pool.get i).map bnOf=some b:=hb;have ht:d'.pool.tk i=true:=by
   unfold Zal.get at g0;cases ht:d'.pool.tk i with
   | true=>rfl
   | false=>rw[ht] at g0;simp at g0
  have hc:i∉Zcg d:=fun hc=>by rw[h.gone i (by rw[hk];exact hc)] at ht;cases ht
  obtain⟨h1,h2⟩:=h.keep i (by rw[hk];exact hc)
  show (if d'.pool.tk i=true then ((d'.pool.nd i).refs:Int) else 0)=if d.pool.tk i=true then ((d.pool.nd i).refs:Int) else 0
  rw[h1,h2]
theorem Zj0 {d:Zad}{ext:Nat->Int}(hl:Zb9 d ext)(h0:d.dead=0){i:Nat}{b:BN}(hb:Zaa d i=some b):0<Zau d i:=by
 have h1:=hl.dead;rw[h0] at h1;have h2:=Zj4 (f:=dead1 (Zaa d) (Zau d)) d.pool.at_.length (fun i _=>Zjf _ _ i) (hl.cnt.lt i b hb);unfold Zec at h1;unfold dead1 at h2;rw[hb] at h2
 by_cases h:Zau d i=0
 . simp only[h,if_true] at h2;unfold dead1 at h1;omega
 . omega
theorem Za7.none {d:Zad}{V:Nat->BF}(hk:Zak d V)(h0:d.dead=0):Za7 d d:=by
 refine⟨rfl,rfl,rfl,rfl,h0,rfl,fun i=>?_,fun _ _ _=>rfl,hk.tab,by omega⟩;cases hb:Zaa d i with
 | none=>simp
 | some b=>rw[if_pos (Zj0 hk.live h0 hb)]
theorem Zpb (d:Zad)(i:Nat):0<=Zaw d i:=by unfold Zaw;split<;>omega
section
variable {d d':Zad}{V:Nat->BF}
theorem Za7.sub (r:Za7 d d'){i:Nat}{b:BN}(h:Zaa d' i=some b):Zaa d i=some b/\0<Zau d i:=by
 rw[r.nodes] at h;split at h
 . rename_i hc;exact⟨h,hc⟩
 . cases h
theorem Za7.cnt (r:Za7 d d'):Zau d'=Zau d:=by funext i;unfold Zau;rw[r.counts]
theorem Za7.lev (r:Za7 d d'):levN d'=levN d:=by funext v;unfold levN;rw[r.level]
theorem Za7.kid (r:Za7 d d')(hk:Zak d V){i:Nat}{b:BN}(h:Zaa d' i=some b){e:Nat}(he:e=b.lo\/e=b.hi):okE (Zaa d') e:=by
 obtain⟨h1,h2⟩:=r.sub h;have ho:okE (Zaa d) e:=by
  rcases he with rfl|rfl
  . exact hk.dag.okLo i b h1
  . exact hk.dag.okHi i b h1
 rcases ho with h0|⟨c,hc⟩
 . exact .inl h0
 . refine .inr ⟨c,?_⟩;rw[r.nodes,if_pos (hk.live.cnt.pos_of_live h1 h2 he hc (Zpb d _))];exact hc
theorem Za7.lvE (r:Za7 d d')(h0:Zaa d 0=Option.none){n:Nat}{lev:Nat->Nat}{e:Nat}(he:okE (Zaa d') e):Go.Proofs.YtkidaindpahefaaGreat.lvE n lev (Zaa d') e=Go.Proofs.YtkidaindpahefaaGreat.lvE n lev (Zaa d) e:=by
 unfold Go.Proofs.YtkidaindpahefaaGreat.lvE;rcases he with he|⟨b,hb⟩
 ·have:Zaa d' 0=Option.none:=by rw[r.nodes,h0];simp
  rw[he,h0,this]
 . rw[hb,(r.sub hb).1]
theorem Za7.ok (r:Za7 d d')(hk:Zak d V):Zak d' V:=by
 have g0:∀ e,okE (Zaa d') e->Go.Proofs.YtkidaindpahefaaGreat.lvE d.vars.length (levN d) (Zaa d') e=Go.Proofs.YtkidaindpahefaaGreat.lvE d.vars.length (levN d) (Zaa d) e:=fun e he=>r.lvE hk.dag.none0 he
 refine⟨?_,⟨?_,?_,fun i b hb=>by rw[r.counts];exact hk.live.has i b (r.sub hb).1⟩,by rw[r.vars];exact r.tab,by rw[r.counts];exact hk.clen,by rw[r.vars];exact hk.small,by rw[r.vars,r.lev];exact hk.inv,by rw[r.vars,r.lev];exact hk.vlt⟩
 . rw[r.vars,r.lev];exact hk.dag.restrict (Zaa d') (fun i b h=>(r.sub h).1) (fun i b h=>⟨r.kid hk h (.inl rfl),r.kid hk h (.inr rfl)⟩)
 . rw[r.alen,r.cnt];exact(hk.live.cnt.collect (Zaa d') r.nodes).congr (fun x b hb=>r.ext x b hb)
 ·rw[r.dead];unfold Zec;rw[Za3 (g:=fun _=>0) _ (fun i _=>?_),Zdh]
  . rfl
  ·unfold dead1;cases hb:Zaa d' i with
   | none=>rfl
   | some b=>have:=(r.sub hb).2;rw[r.cnt];simp;omega
end
end Go.Proofs.YtkidaindpahefaaGreat

namespace Go.Proofs.YtkidaindpahefaaGreat
open Go.Proofs.Tryz
open Go.RowKit Go.Shelf
attribute [local go_sem] Oper.semAt_some
theorem Zep {F:Fence}{fu:Nat}(T e:TypeId)(size bytes:Nat)(z:Value)(hT:prog.underlying T=some (.slice e))(he:(prog.info? e).map (fun i=>(i.zero,i.size,i.bytes))=some (some z,size,bytes))(hzs:z.cells.size=size)(hsz:0<size)
 {wr:World} {ops:Array Oper} {rest:List Oper} {op:Oper} {a:Act} {Q:Exit->Act->World->Prop} {W:World} (hgd:op.guard=none) (s x:Operand)
 (hop:op.op=.call { callee:=.builtin .append,args:=#[s,x],argTypes:=#[T,T] })
 {o:Own} {r:Role} {v:Value} {n:Nat} {xs:List Value} (hs:a.eval s=v) {N:Nat} (hx:a.eval x=.slice (some ⟨N,0,none⟩) 1 1) {news:Array Value}
 (hW:W=wr.alloc (.cells news e)) (hN:N=wr.heap.size) (hl:news.size=size) (h1:∀ u∈news.toList,u.oneCell'=true) (h:RowR o wr r e size v n xs) (hlt:Zah o wr) (hn:n<1000000000) (hb:bytes<=10000)
 (hK:∀ g cap w' o',RowR o' w' r e size (.slice (some ⟨g,0,none⟩) (n+1) cap) (n+1) (xs++news.toList)->Chg (· = r) o o' wr w'->Zah o' w'->wpListIn F fu prog ops Q rest (a.put op.dst (.slice (some ⟨g,0,none⟩) (n+1) cap)) w'):wpListIn F fu prog ops Q (op::rest) a W:=by
 subst hN;subst hW
 obtain⟨g,cap,w',o',hr,h2,h3,h4⟩:=Zi6 T e op.type size bytes z hT he hzs hsz news hl h1 h hlt hn hb;refine wpListIn_plain hgd fun K g1=>?_
 unfold Oper.wpIn;refine⟨?_,?_⟩
 . simp[Oper.about,hop,resolve,Target.leads,Sem.run_pure]
 . rw[Oper.semAt_plain F _ _ (by rw[hop];intro c g0;cases g0)];simp only[execOp,hop,resolve,invoke,builtin,Sem.run_bind,Sem.run_pure,Result.andThen_ok,List.map_toArray,List.map_cons,List.map_nil,hs,hx,hr];exact g1 _ _ (hK g cap w' o' h2 h3 h4)
theorem Zgv (w:World)(o:Obj):(w.alloc o).drew=w.drew.alloc o:=rfl
theorem Zqz {F:Fence}{n:Nat}{P:Program}{c:Code}{Q:Exit->Act->World->Prop}{a:Act}{w:World}(W1:World)(h:∃ A,c.wpIn F n P (fun e a' W'=>e=.normal/\a'=A/\W'=W1) a w/\Q .normal A W1):c.wpIn F n P Q a w:=by
 obtain⟨A,h1,h2⟩:=h;refine wpIn_mono h1 ?_;rintro _ _ _ ⟨rfl,rfl,rfl⟩;exact h2
def Zfp (d:Zad)(pre:List Nat):List Nat:=pre.filter (fun i=>decide (Zau d i=0))
structure GatS (d:Zad)(w:World)(sb:Nat)(pre:List Nat)(M:Nat->Prop)(W:World)(v:Value)(oG:Own):Prop where
 mm:∀ k,M k↔(k=w.heap.size\/k=w.heap.size+1\/oG k=some .slots)
 low:Below w.heap.size w W
 boxs:W.heap[w.heap.size]?=some (.cells #[.pointer (some ⟨sb,0,none⟩)] 96 (0,0))
 boxg:W.heap[w.heap.size+1]?=some (.cells #[v] 225 (0,0))
 row:RowR oG W .slots 254 5 v (Zfp d pre).length ((Zfp d pre).flatMap fun i=>rnV (d.pool.nd i))
 lt:Zah oG W
 ge:∀ k r,oG k=some r->r=.slots/\w.heap.size+2<=k
def Gat (d:Zad)(w:World)(sb:Nat)(pre:List Nat)(M:Nat->Prop)(W:World):Prop:=∃ v oG,GatS d w sb pre M W v oG
theorem GatS.minds {d:Zad}{w:World}{sb:Nat}{pre:List Nat}{M:Nat->Prop}{W W':World}{v:Value}{oG:Own}(h:GatS d w sb pre M W v oG)(hw:Wr (fun k=>w.heap.size<=k/\¬ M k) W W'):GatS d w sb pre M W' v oG:=by
 have hk:∀ k,k<W.heap.size->M k->W'.heap[k]?=W.heap[k]?:=fun k h1 h2=>hw.keep k h1 (fun e=>e.2 h2)
 have hm:=h.mm
 refine⟨hm,h.low.trans (hw.below (fun k h=>h.1) h.low.size),(hk _ (Array.getElem?_eq_some_iff.1 h.boxs).1 ((hm _).2 (.inl rfl))).trans h.boxs,(hk _ (Array.getElem?_eq_some_iff.1 h.boxg).1 ((hm _).2 (.inr (.inl rfl)))).trans h.boxg,
  h.row.keep (fun g hg=>hk g (h.lt g _ hg) ((hm g).2 (.inr (.inr hg)))) (fun _ h=>h),h.lt.mono hw.size,h.ge⟩
theorem Zwo {d:Zad}{pre:List Nat}{x:Nat}(h:Zau d x=0):Zfp d (pre++[x])=Zfp d pre++[x]:=by unfold Zfp;rw[List.filter_append];simp[h]
theorem Zzo {d:Zad}{pre:List Nat}{x:Nat}(h:Zau d x≠0):Zfp d (pre++[x])=Zfp d pre:=by unfold Zfp;rw[List.filter_append];simp[h]
theorem GatS.add {d:Zad}{w:World}{sb:Nat}{pre:List Nat}{M:Nat->Prop}{W W1:World}{v v':Value}{oG oG':Own}{x:Nat}(h:GatS d w sb pre M W v oG)(hc:Zau d x=0)
 (hr:RowR oG' W1 .slots 254 5 v' ((Zfp d pre).length+1) (((Zfp d pre).flatMap fun i=>rnV (d.pool.nd i))++rnV (d.pool.nd x))) (hg:Chg (· = .slots) oG oG' W W1) (hl:Zah oG' W1) {n:Nat} (hn:n<=W.heap.size) :
 ∃ M',Gat d w sb (pre++[x]) M' (W1.setCell ⟨w.heap.size+1,0,none⟩ v')/\Wr (fun k=>M k\/n<=k) W (W1.setCell ⟨w.heap.size+1,0,none⟩ v')/\∀ k,M' k->M k\/n<=k:=by
 have none:∀ k,k<w.heap.size+2->oG k=Option.none:=fun k hk=>by
  cases e:oG k with
  | none=>rfl
  | some r=>have:=(h.ge k r e).2;omega
 have g0:w.heap.size+1<W.heap.size:=(Array.getElem?_eq_some_iff.1 h.boxg).1;have k0:=(hg.alien (by omega) (none w.heap.size (by omega))).trans h.boxs;have k1:=(hg.alien g0 (none (w.heap.size+1) (by omega))).trans h.boxg;have ge':∀ k r,oG' k=some r->r=.slots/\w.heap.size+2<=k:=fun k r hk=>by
  by_cases e:oG' k=oG k
  . rw[e] at hk;exact h.ge k r hk
  ·obtain⟨a1,q,a2,a3⟩:=hg.new k e;rw[hk] at a2;cases a2
   exact⟨a3,by omega⟩
 refine⟨fun k=>k=w.heap.size\/k=w.heap.size+1\/oG' k=some .slots,⟨v',oG',⟨fun k=>Iff.rfl,?_,?_,Zac k1 _,?_,hl.mono (by simp[World.setCell]),ge'⟩⟩,?_,fun k hk=>?_⟩
 . have:Below w.heap.size w W1:=h.low.trans ⟨hg.os,hg.tape,hg.output,hg.size,fun k hk=>hg.alien (Nat.lt_of_lt_of_le hk h.low.size) (none k (by omega))⟩;exact this.setCell (p:=⟨w.heap.size+1,0,Option.none⟩) (by show _<=w.heap.size+1;omega) _
 . exact(Zaf (by show _≠w.heap.size+1;omega) _).trans k0
 . rw[Zwo hc,List.length_append,List.flatMap_append];simp only[List.length_singleton,List.flatMap_cons,List.flatMap_nil,List.append_nil];exact hr.setCell_other (fun e=>by have:=(ge' _ _ e).2;simp at this) _
 . have:Wr (fun k=>M k\/n<=k) W W1:=⟨hg.os,hg.tape,hg.output,hg.size,fun k hk hm=>hg.block k hk fun r hr e=>hm (.inl ((h.mm k).2 (.inr (.inr (by rw[hr,e])))))⟩;exact this.setCell (p:=⟨w.heap.size+1,0,Option.none⟩) (.inl (.inl ((h.mm _).2 (.inr (.inl rfl))))) _
 ·rcases hk with hk|hk|hk
  . exact .inl ((h.mm k).2 (.inl hk))
  . exact .inl ((h.mm k).2 (.inr (.inl hk)))
  ·by_cases e:oG' k=oG k
   . rw[e] at hk;exact .inl ((h.mm k).2 (.inr (.inr hk)))
   . have:=(hg.new k e).1;right;omega
theorem GatS.no {d:Zad}{w:World}{sb:Nat}{pre:List Nat}{M:Nat->Prop}{W:World}{v:Value}{oG:Own}(h:GatS d w sb pre M W v oG)(k:Nat)(hk:k<w.heap.size+2):oG k=none:=by
 cases e:oG k with
 | none=>rfl
 | some r=>have:=(h.ge k r e).2;omega
theorem GatS.drew {d:Zad}{w:World}{sb:Nat}{pre:List Nat}{M:Nat->Prop}{W:World}{v:Value}{oG:Own}(h:GatS d w sb pre M W v oG):GatS d w sb pre M W.drew v oG:=h.minds ((Wr.refl _ W).drew)
def Zza (o:Own)(W2:World)(sb:Nat)(d:Zad)(s:Za5)(k:Nat)(wr:World):Prop:=∃ o1 d1,Zam o1 wr sb d1 s/\Zah o1 wr/\Zdt d k d1/\Chg Zap o o1 W2 wr
theorem Zza.next {o o1 o2:Own}{W2 wr w3 w4 w4' w5:World}{sb:Nat}{d d1:Zad}{s:Za5}{k i:Nat}{N:RN}(hs1:Zam o1 wr sb d1 s)(hl1:Zah o1 wr)(hr1:Zdt d k d1)(hc1:Chg Zap o o1 W2 wr)(hi:(Zcg d)[k]?=some i)(hN:d1.pool.nd i=N)(hb3:Below wr.heap.size wr w3)
 (ht:Zc9 o1 w4 N.v (s.ts.getD N.v 0) (putF (d1.tab N.v) (N.lo,N.hi) none)) (hct:Chg (· = .tmap N.v) o1 o1 w3 w4) (hl4:Zah o1 w4) (hb:Below w4.heap.size w4 w4')
 (hp:Zaq o2 w5 s.pb (d1.pool.give i)) (hcp:Chg (fun r=>r=.pool\/r=.slots\/r=.taken\/r=.free) o1 o2 w4' w5) (hl5:Zah o2 w5):Zza o W2 sb d s (k+1) w5:=by
 have h3:=hs1.below hl1 hb3;have g1:=hl1.mono hb3.size;have h4:=h3.setTab g1 ht hct;have g2:=h4.below hl4 hb;have h5:=g2.setPool (hl4.mono hb.size) hp hcp;have g0:i<d1.pool.at_.length:=(hs1.pool.tk_lt (hr1.at hi).1).2;have e:(fun u=>if u=N.v then putF (d1.tab N.v) (N.lo,N.hi) none else d1.tab u)=(fun u=>if u=N.v then putF (d1.tab u) (N.lo,N.hi) none else d1.tab u):=by
  funext u
  by_cases h:u=N.v
  . subst h;rfl
  . simp[h]
 rw[e] at h5;refine⟨o2,Zwh d1 i (bnOf N),h5,hl5,?_,hc1.trans ((Chg.of_below hb3 _ o1).trans ((hct.mono ?_).trans ((Chg.of_below hb _ o1).trans (hcp.mono ?_))))⟩
 ·have:=hr1.next hi hs1.pool.len g0 (by
   have h1:=hs1.pool.cnt;have h2:=Zqs (f:=fun j=>if d1.pool.tk j=true then (1:Int) else 0) (fun j _=>by split<;>omega) g0 (by simp[(hr1.at hi).1]);omega)
  rw[hN] at this;exact this
 . rintro r rfl;exact .inr (.inr (.inr (.inr (.inr (.inr (.inl ⟨_,.inr rfl⟩))))))
 . rintro r h;exact .inr (.inr (.inr (.inr (.inl h))))
theorem Zdf {P:Program}{S:World->Prop}{Q:Exit->Act->World->Prop}{ops:Array Oper}{o:Oper}{a:Act}{w:World}{f:FuncId}{args:Array Value}{R:Value->World->Prop}(hg:o.guard=none)
 (he:(execOp a.eval o).run P w=.ok (.enter f args) w) (hc:Calls P f args w fun e w'=>∃ v,e=.returned v/\R v w') (h:∀ v w',R v w'->Q .normal (a.put o.dst v) w'):Zb5 P ops Q S true [(some o,true)] a w:=by
 refine Zew hg fun K hK=>?_
 unfold Oper.wp;simp only[he,Oper.upon];exact hc.mono fun e w' ⟨v,h1,h2⟩=>by subst h1;exact hK _ _ (h v w' h2)
theorem Zh3 {o:Own}{w:World}{sb:Nat}{d:Zad}(h:Zar o w sb d)(h0:d.dead=0) :
 Calls prog 215 #[.pointer (some ⟨sb,0,none⟩)] w fun x w'=>x=.returned (.int .i64 0)/\Below w.heap.size w w':=by
 obtain⟨s,h⟩:=h;obtain⟨c0,c1,c2,c3,c4,f0⟩:=cells5 h.blk;rw[h0] at c4;obtain⟨w1,g0⟩:∃ w1,w1=w.alloc (.cells #[.pointer (some ⟨sb,0,none⟩)] 96):=⟨_,rfl⟩;have g1:Below w.heap.size w w1:=by rw[g0];exact Zae w _
 have cB:w1.cell? ⟨w.heap.size,0,none⟩=some (.pointer (some ⟨sb,0,none⟩)):=by rw[g0];exact cell1 (heap_alloc_new w _)
 have c4':=(g1.cell (p:=⟨sb,4,none⟩) (Zab c4)).trans c4;have HW:Hid (_=w1):=Hd g0.symm;have HB:=Hd g1;clear h c0 c1 c2 c3 c4 f0 g0 g1 h0;refine(callsIn_wide (n:=9)).1 ?_;refine callsIn_of_wp_marks func215 rfl trivial ?_;refine wpIn_wide.2 ?_;simp only[ntmps215,List.size_toArray,List.length_cons,List.length_nil,Nat.reduceAdd,Nat.reduceSub,Array.replicate_succ,Array.replicate_zero,List.push_toArray,List.append_toArray,List.nil_append,List.cons_append];go_upto_region 1 with fail;rw[HW.out];go_wp2_with fail;exact⟨_,results_tmp rfl _ _ _,rfl,HB.out⟩
theorem Zkj {o:Own}{w:World}{sb:Nat}{d:Zad}{V:Nat->BF}(h:Zar o w sb d)(hlt:Zah o w)(hk:Zak d V)(h0:d.dead≠0) :
 Calls prog 215 #[.pointer (some ⟨sb,0,none⟩)] w fun x w'=>x=.returned (.int .i64 d.dead)/\∃ o' d',Zar o' w' sb d'/\Zah o' w'/\Za7 d d'/\Chg Zap o o' w w':=by
 obtain⟨s,h⟩:=h;obtain⟨c0,c1,c2,c3,c4,f0⟩:=cells5 h.blk;have ko:((d.dead:Int) == 0)=false:=by simpa using h0
 obtain⟨w1,go⟩:∃ w1,w1=w.alloc (.cells #[.pointer (some ⟨sb,0,none⟩)] 96):=⟨_,rfl⟩;have gM:Below w.heap.size w w1:=by rw[go];exact Zae w _
 have hB:w1.heap[w.heap.size]?=some (.cells #[.pointer (some ⟨sb,0,none⟩)] 96 (0,0)):=by rw[go];exact heap_alloc_new w _
 have hs1:w1.heap.size=w.heap.size+1:=by rw[go];simp
 obtain⟨w2,g6⟩:∃ w2,w2=w1.alloc (.cells #[.slice none 0 0] 225):=⟨_,rfl⟩;have gL:Below w.heap.size w w2:=by rw[g6];exact gM.alloc (by omega) _
 have gO:w2.heap[w.heap.size]?=some (.cells #[.pointer (some ⟨sb,0,none⟩)] 96 (0,0)):=by rw[g6];exact(Below.heap_alloc w1 _ _ (by omega)).trans hB
 have hp:w2.heap[w.heap.size+1]?=some (.cells #[.slice none 0 0] 225 (0,0)):=by rw[g6,<- hs1];exact heap_alloc_new w1 _
 have gG:w2.heap.size=w.heap.size+2:=by rw[g6];simp[hs1]
 have cB1:=cell1 hB;have cB2:=cell1 gO;have cS1:=(gM.cell (p:=⟨sb,4,none⟩) (Zab c4)).trans c4;have cS2:=(gL.cell (p:=⟨sb,1,none⟩) (Zab c1)).trans c1;have HW1:Hid (_=w1):=Hd go.symm;have hy:Hid (_=w2):=Hd g6.symm;have HB2:=Hd gL;have HH:=Hd h;have HE:=Hd (callsIn_wide.1 (Yci Fence.wide 9 trivial rfl s.pb w2));clear h c0 c1 c2 c3 c4 f0 go g6 gM gL;refine(callsIn_wide (n:=9)).1 ?_;refine callsIn_of_wp_marks func215 rfl trivial ?_;refine wpIn_wide.2 ?_;simp only[ntmps215,List.size_toArray,List.length_cons,List.length_nil,Nat.reduceAdd,Nat.reduceSub,Array.replicate_succ,Array.replicate_zero,List.push_toArray,List.append_toArray,List.nil_append,List.cons_append];go_upto_region 1 with fail;rw[HW1.out];go_upto_region 4 with fail;rw[hy.out];go_wp2_with fail;refine HE.out.mono ?_;rintro x w3 ⟨rfl,gn⟩;go_wp2_with fail;obtain⟨w3',g4⟩:∃ w3',w3'=w2.alloc (.cells #[.pointer (some ⟨s.pb,0,none⟩)] 147):=⟨_,rfl⟩;rw[<- g4];have kk:w3'.heap.size=w.heap.size+3:=by rw[g4];simp[gG]
 have g5:Below w.heap.size w w3':=by rw[g4];exact HB2.out.alloc (by omega) _
 have hu:w3'.heap[w.heap.size]?=some (.cells #[.pointer (some ⟨sb,0,none⟩)] 96 (0,0)):=by rw[g4];exact(Below.heap_alloc w2 _ _ (by omega)).trans gO
 have ho:w3'.heap[w.heap.size+1]?=some (.cells #[.slice none 0 0] 225 (0,0)):=by rw[g4];exact(Below.heap_alloc w2 _ _ (by omega)).trans hp
 have hn:w3'.cell? ⟨w.heap.size+2,0,none⟩=some (.pointer (some ⟨s.pb,0,none⟩)):=by rw[g4,<- gG];exact cell1 (heap_alloc_new w2 _)
 have gi:Hid (Zam o w sb d s):=HH;have g7:=Hd hlt;have HK:=Hd hk;have HG:=Hd (Zrf Fence.wide 8 trivial trivial trivial rfl (by omega) (w.heap.size+2) w.heap.size s.pb HH.out.pool hlt (Nat.le_refl _) w3' g5 (by omega) (by omega) hn);clear g4 hB gO hp cB1 cB2 cS1 cS2 HE HW1 hy hs1 gG hn;refine(wpIn_wide (n:=9)).1 ?_;refine Ztn rfl (by omega) (gf:=266) (lb:=#[.pointer (some ⟨w.heap.size+2,0,none⟩)]) rfl trivial (enters_of func266 (by kernel_rfl) rfl) HG.out (by omega) (by rintro k rfl;omega) (fun x=>rfl)
  (Gat d w sb) ?_ ?_ (fun k=>k=w.heap.size\/k=w.heap.size+1) (by rintro k rfl h;omega) ⟨.slice none 0 0,fun _=>none,(⟨fun k=>by simp,g5,hu,ho,RowR.nil _ _ _ _ _,fun k r h=>(by cases h),fun k r h=>(by cases h)⟩:GatS d w sb [] _ w3' (.slice none 0 0) (fun _=>none))⟩
  (fun x a' W W1=>∃ Bn,W.heap.size<=Bn/\W1.heap[Bn]?=some (.cells #[.int .i64 (d.pool.nd x).id,.int .i64 (d.pool.nd x).v,.int .i64 (d.pool.nd x).lo,.int .i64 (d.pool.nd x).hi,.int .i64 (d.pool.nd x).refs] 254 (0,0))/\a'={ tmps:=#[Value.pointer (some { block:=sb,off:=0 }),Value.pointer (some { block:=w.heap.size,off:=0 }),Value.int IntKind.i64 0,Value.pointer (some { block:=w.heap.size+1,off:=0 }),Value.pointer (some { block:=Bn,off:=0 }),undef,undef,Value.pointer (some { block:=sb,off:=0 }),Value.bool false,Value.bool false,Value.pointer (some { block:=sb,off:=0 }),Value.pointer (some { block:=sb,off:=0 }),Value.pointer (some { block:=sb,off:=4 }),Value.int IntKind.i64 ↑d.dead,Value.bool false,Value.bool false,Value.pointer (some { block:=sb,off:=0 }),Value.pointer (some { block:=sb,off:=0 }),Value.pointer (some { block:=sb,off:=1 }),Value.pointer (some { block:=s.pb,off:=0 }),Value.func (Fn.func 266) #[] #[Value.pointer (some { block:=w.heap.size+2,off:=0 })],Zaz (d.pool.nd x),undef,undef,undef,undef,undef,undef,undef,undef,undef,undef,undef,undef,undef,undef,undef,undef,undef,undef,undef,undef,undef,undef,undef,undef,undef,undef,undef,undef,undef,undef,undef,undef,undef,undef,undef,undef,undef,undef,undef,undef,undef,undef,undef,undef,undef],defers:=[] }) ?_ ?_ ?_ ?_
 ·rintro pre M W ⟨v,oG,hS⟩ k hk;rcases(hS.mm k).1 hk with rfl|rfl|hg
  . exact⟨Nat.le_refl _,(Array.getElem?_eq_some_iff.1 hS.boxs).1⟩
  . exact⟨by omega,(Array.getElem?_eq_some_iff.1 hS.boxg).1⟩
  . have:=(hS.ge k _ hg).2;exact⟨by omega,hS.lt k _ hg⟩
 . rintro pre M W W' ⟨v,oG,hS⟩ hw;exact⟨v,oG,hS.minds hw⟩
 . rintro x a' W W1 W2 l hl ⟨Bn,h1,h2,h3⟩ hw;exact⟨Bn,h1,(hw.keep Bn (Array.getElem?_eq_some_iff.1 h2).1 (by omega)).trans h2,h3⟩
 ·intro l pre x M W K hI hK;simp only[Zaz]
  gi_wp2
  exact hK _ _ ((Wr.refl _ W).alloc _) ⟨W.heap.size,Nat.le_refl _,heap_alloc_new W _,rfl⟩
 ·rintro l pre x a' M W0 W ⟨v,oG,hS⟩ ⟨Bn,kp,hb,rfl⟩ hX hs1 g9;obtain⟨suf,g9⟩:=g9;have hx:d.pool.tk x=true:=Zmp g9;have gp:=gi.out.below g7.out hS.low;obtain⟨q0,q1,q2,q3,q4,_⟩:=cells5 gp.blk;obtain⟨n0,n1,n2,n3,n4,_⟩:=cells5 hb;have hid:=gp.pool.id x hx;rw[hid] at n0;have gh:Zaa d x=some (bnOf (d.pool.nd x)):=by unfold Zaa Zal.get;rw[if_pos hx];rfl
  have gD:x<d.counts.length:=HK.out.live.has x _ gh;obtain⟨gc,cc,gV,_⟩:=gp.counts.shape (by omega);have gm:=gp.counts;rw[gV] at gm q3;have h9:=gm.cell x (by simpa using gD);have gE:(d.counts.map nat64)[x]?=some (.int .i64 (Zau d x:Nat)):=by
   rw[List.getElem?_map,List.getElem?_eq_getElem gD];simp[nat64,Zau,List.getD,gD]
  rw[gE] at h9;have kh:(x:Int)<d.counts.length:=by omega
  have cb:=cell1 hS.boxs;have cg:=cell1 hS.boxg;have HS:=Hd hS;have kr:=Hd hb;have hJ:=Hd g9;have kc:=Hd hid;have kl:prog.follows .mixedOrders=true:=by kernel_rfl
  clear gp gm gE gV g9 hS hid gh
  by_cases hc:Zau d x=0
  ·rw[hc] at h9;have gl:(Zfp d pre).length<1000000000:=by
    have h1:=gi.out.below g7.out HS.out.low;have h2:=h1.pool.top;have h3:=h1.pool.room;have h4:(Zfp d pre).length<=(Zds d.pool).length:=by rw[<- hJ.out];unfold Zfp;refine Nat.le_trans (List.length_filter_le _ _) ?_;simp
    have h5:(Zds d.pool).length<=d.pool.at_.length:=by unfold Zds Zd9;refine Nat.le_trans (List.length_filter_le _ _) ?_;simp
    omega
   have hQ:=Hd gl;have HC:=Hd hc;clear gl
   gi_wp2
   refine Zqz W.drew ?_;apply Exists.intro;refine⟨?_,?_⟩
   ·gi_region_o
    all_goals exact⟨rfl,rfl,rfl⟩
   gi_wp2_with (gi_at_builtin
                rw[Zgv];refine Zep (wr:=W.drew) 225 254 5 40 _ underlying225 Zjy rfl (by decide) rfl _ _ rfl rfl rfl rfl rfl rfl (by simp[Value.oneCell']) HS.out.drew.row HS.out.drew.lt hQ.out (by decide) ?_;intro g1 k1 w1 o1 g2 g0 g3;have gv:=Hd g2;have g8:=Hd g0;have gj:=Hd g3;clear g2 g0 g3 q0 q1 q2 q3 q4 cb;have gy:=(g8.out.alien (Array.getElem?_eq_some_iff.1 HS.out.boxg).1 (HS.out.no _ (by omega))).trans HS.out.boxg;have cg1:=cell1 gy;have fz:∀ k,w1.frozen? ⟨w.heap.size+1,k,none⟩=false:=fun k=>by simp[World.frozen?,gy]
                clear cg gy)
   have hH:=HS.out.drew.add HC.out (W1:=w1) (v':=.slice (some ⟨g1,0,none⟩) ((Zfp d pre).length+1) k1) (by
    have e:rnV (d.pool.nd x)=[.int .i64 (x:Nat),.int .i64 (d.pool.nd x).v,.int .i64 (d.pool.nd x).lo,.int .i64 (d.pool.nd x).hi,.int .i64 (d.pool.nd x).refs]:=by unfold rnV;rw[kc.out]
    rw[e];exact gv.out) g8.out gj.out hX
   obtain⟨M',a1,a2,a3⟩:=hH;exact⟨M',a1,Wr.trans ((Wr.refl (fun _=>False) W).drew) a2 (fun _ _ e=>e.elim) (fun _ _ e=>e),a3⟩
  ·have g0:((Zau d x:Int) == 0)=false:=by simpa using hc
   gi_wp2
   refine Zqz W.drew ?_;apply Exists.intro;refine⟨?_,?_⟩
   ·gi_region_o
    all_goals exact⟨rfl,rfl,rfl⟩
   gi_wp2
   exact⟨M,⟨v,oG,by have:=HS.out.drew;exact⟨this.mm,this.low,this.boxs,this.boxg,by rw[Zzo hc];exact this.row,this.lt,this.ge⟩⟩,(Wr.refl _ W).drew,fun k hk=>.inl hk⟩
 ·rintro D M W2 hD k4 ⟨v,oG,hS⟩ _ g6 ht;have HS:=Hd hS;have hA:=Hd ht;have cg:=cell1 hS.boxg;obtain⟨ag,cpg,rfl,_⟩:=hS.row.slice;clear hS ht k4 g6 HG hu ho g5;go_wp2_with fail;have gr:∀ k i,(Zcg d)[k]?=some i->∃ g,ag=some ⟨g,0,none⟩/\o g=none/\∀ j u,(rnV (d.pool.nd i))[j]?=some u->W2.cell? ⟨g,k*5+j,none⟩=some u:=by
   intro k i hi;have km:k<(Zcg d).length:=(List.getElem?_eq_some_iff.1 hi).1;obtain⟨g,cp,he,gd,_⟩:=HS.out.row.shape (by show 0<(Zcg d).length;omega);cases he;refine⟨g,rfl,?_,fun j u hj=>?_⟩
   . have:=(HS.out.ge g _ gd).2;exact g7.out.none (by omega)
   ·have h5:j<5:=by have:=(List.getElem?_eq_some_iff.1 hj).1;simpa [rnV] using this
    have hf:=Zfo (fun i=>rnV (d.pool.nd i)) 5 (fun _=>rfl) (Zcg d) k j i hi h5;have gl:((Zcg d).flatMap fun i=>rnV (d.pool.nd i)).length=(Zcg d).length*5:=Zba _ 5 (fun _=>rfl) _;have hc:=HS.out.row.cell (k*5+j) (by show _<((Zcg d).flatMap fun i=>rnV (d.pool.nd i)).length;rw[gl];omega);rw[hc];exact hf.trans hj
  have kd:=Hd gr;have gP:Hid ((Zfp d (Zds d.pool)).length=(Zcg d).length):=Hd rfl;have gw:Hid (o w.heap.size=none/\o (w.heap.size+1)=none):=Hd ⟨g7.out.none (by omega),g7.out.none (by omega)⟩;have gk:=gi.out.below g7.out HS.out.low;have gH:Zah o W2:=g7.out.mono HS.out.low.size;have hM:=Hd gk;have hP:=Hd gH;have gI:w.heap.size<W2.heap.size:=(Array.getElem?_eq_some_iff.1 HS.out.boxs).1;have gY:w.heap.size+1<W2.heap.size:=(Array.getElem?_eq_some_iff.1 HS.out.boxg).1;have hG:(Zfp d (Zds d.pool)).length<=1048577:=by
   show (Zcg d).length<=_
   have h2:=gk.pool.top;have h3:=gk.pool.room;have h5:(Zcg d).length<=d.pool.at_.length:=by unfold Zcg Zds Zd9;refine Nat.le_trans (List.length_filter_le _ _) (Nat.le_trans (List.length_filter_le _ _) ?_);simp
   omega
  clear gr cg gk gH;obtain⟨m,hm⟩:∃ m,m=(Zfp d (Zds d.pool)).length:=⟨_,rfl⟩;rw[<- hm] at hG gP ⊢;have HM:=Hd hm;clear hm
  go_loopw [37] (fun i wr=>∃ k:Nat,k<=m/\i=.int .i64 k/\Zza o W2 sb d s k wr) (fun i _=>m-(intOf i).toNat)
  case atStart=>exact⟨0,Nat.zero_le _,rfl,o,d,hM.out,hP.out,Zdt.start HK.out.tab,Chg.refl _ _ _⟩
  case round =>
   obtain⟨k,hk,rfl,h8⟩:=hrel;have gJ:=h8;obtain⟨o1,d1,hs1,g3,g2,g0⟩:=h8
   by_cases kg:k<m
   ·obtain⟨i,hi⟩:∃ i,(Zcg d)[k]?=some i:=⟨_,List.getElem?_eq_getElem (by have:=gP.out;omega)⟩;obtain⟨gz,gq⟩:=g2.at hi;obtain⟨g,k0,gd,gg⟩:=kd.out k i hi;subst k0;obtain⟨N,hN⟩:∃ N,N=d.pool.nd i:=⟨_,rfl⟩;rw[<- hN] at gg gq;have e0:=g0.cell (gg 0 _ rfl) gd;have e1:=g0.cell (gg 1 _ rfl) gd;have e2:=g0.cell (gg 2 _ rfl) gd;have e3:=g0.cell (gg 3 _ rfl) gd;have e4:=g0.cell (gg 4 _ rfl) gd;rw[Nat.add_zero] at e0;have cb:=cell1 ((g0.alien gI gw.out.1).trans HS.out.boxs);have kn:(k:Int)<m:=by omega
    obtain⟨w3,gn⟩:∃ w3,w3=wr.alloc (.cells #[.int .i64 N.id,.int .i64 N.v,.int .i64 N.lo,.int .i64 N.hi,.int .i64 N.refs] 254):=⟨_,rfl⟩;obtain⟨b6,gK⟩:∃ b6,b6=wr.heap.size:=⟨_,rfl⟩;have g5:Below wr.heap.size wr w3:=by rw[gn];exact Zae _ _
    have gh:w3.heap[b6]?=some (.cells #[.int .i64 N.id,.int .i64 N.v,.int .i64 N.lo,.int .i64 N.hi,.int .i64 N.refs] 254 (0,0)):=by rw[gn,gK];exact heap_alloc_new _ _
    have hE:o1 b6=none:=g3.none (by omega);have hO:Hid (o1 w.heap.size=none):=Hd (g0.alien' gI gw.out.1);have k6:Hid (_=w3):=Hd gn.symm;have kf:Hid (_=b6):=Hd gK.symm;have HN:=Hd hN;have hid:N.id=i:=by rw[<- gq];exact hs1.pool.id i gz
    have hd:Zaa d1 i=some ⟨N.v,N.lo,N.hi⟩:=by unfold Zaa Zal.get;rw[if_pos gz,gq];rfl
    have hv:N.v<d1.vars.length:=by rw[g2.vars];exact HK.out.dag.var i ⟨N.v,N.lo,N.hi⟩ (by unfold Zaa Zal.get;rw[if_pos (Zkw ((List.getElem?_eq_some_iff.1 hi).2 ▸ List.getElem_mem _)).1,<- hN];rfl)
    have h7:d1.tab N.v (N.lo,N.hi)=some i:=(g2.tab N.v (by rw[<- g2.vars];exact hv) _ _ _).2 hd;have ga:=hs1.below g3 g5;have gB:=g3.mono g5.size;obtain⟨gt,ct,gT,hZ,gU,ki⟩:=ga.tabAt hv;obtain⟨q0,q1,q2,q3,q4,_⟩:=cells5 ga.blk;rw[gT] at q2;obtain⟨n0,n1,n2,n3,n4,_⟩:=cells5 gh;have cb3:=(g5.cell (p:=⟨w.heap.size,0,none⟩) (Zab cb)).trans cb;have hU:(N.v:Int)<s.ts.length:=by omega
    have hT:=Hd (Zwe o1 N.v (s.ts.getD N.v 0) (d1.tab N.v) N.lo N.hi i w3.drew ((ga.below gB (Zag w3 1)).tab N.v gU) (gB.mono (Zag w3 1).size) h7);have gC:=Hd hs1;have gj:=Hd g3;have gv:=Hd g2;have g8:=Hd g0;have HI:=Hd hi;have ka:=Hd gq;have hC:=Hd g5;have kq:=Hd gh;have k7:=Hd gz;have hR:=Hd hid;have hL:=Hd ga;have hz:=Hd gB;clear gg gJ hs1 g3 g2 g0 hi gq g5 gh gz hid hd hv h7 ga gB gT gn gK hN gU;go_upto_region 11 with fail;rw[k6.out,kf.out];refine Zan (fun W:World=>W=w3.drew) true 12 [(0,false),(1,false),(2,false),(3,false),(4,false),(5,false),(6,false),(7,false),(8,false),(9,false),(10,false),(11,false),(12,true)] (by kernel_rfl) (by kernel_rfl) rfl ?_;simp only[planned,Zdd]
    iterate 12
     refine Zaj rfl ?_;apply Exists.intro;refine⟨fun w' hw=>?_,?_⟩
     . subst hw;go_simp;rfl
     simp only[Zai]
    refine Zdf rfl (by go_simp) (hT.out.mono (R':=fun e w'=>∃ v,e=.returned v/\(v=.int .i64 0/\Zc9 o1 w' N.v (s.ts.getD N.v 0) (putF (d1.tab N.v) (N.lo,N.hi) none)/\Chg (· = .tmap N.v) o1 o1 w3.drew w'/\Zah o1 w')) (fun e w' h=>⟨_,h.1,rfl,h.2⟩)) ?_;rintro _ w4 ⟨rfl,gF,gu,gA⟩;simp only[Zai];refine Zb8 ?_;have gx:=(hL.out.below hz.out (Zag w3 1)).setTab (hz.out.mono (Zag w3 1).size) gF gu;have cb4:=gu.cell (w:=w3.drew) (p:=⟨w.heap.size,0,none⟩) cb3 (hO.out);have n0':=gu.cell (w:=w3.drew) (p:=⟨b6,0,none⟩) n0 hE;obtain⟨p0,p1,p2,p3,p4,_⟩:=cells5 gx.blk;rw[hR.out] at n0';have gS:=Hd (Zp8 o1 s.pb d1.pool i w4.drew (gx.below gA (Zag w4 1)).pool (gA.mono (Zag w4 1).size) k7.out);have k8:=Hd gF;have ke:=Hd gu;have kb:=Hd gA;clear gF gu gA gx n0 n1 n2 n3 n4 q0 q1 q2 q3 q4 cb3 cb e0 e1 e2 e3 e4 hZ hU;go_upto_region 12 with fail;refine Zan (fun W:World=>W=w4.drew) true 6 [(0,false),(1,false),(2,false),(3,false),(4,false),(5,false),(6,true)] (by kernel_rfl) (by kernel_rfl) rfl ?_;simp only[planned,Zdd]
    iterate 6
     refine Zaj rfl ?_;apply Exists.intro;refine⟨fun w' hw=>?_,?_⟩
     . subst hw;go_simp;rfl
     simp only[Zai]
    refine Zdf rfl (by go_simp) (gS.out.mono (R':=fun e w'=>∃ v,e=.returned v/\(v=.int .i64 0/\∃ o',Zaq o' w' s.pb (d1.pool.give i)/\Chg (fun r=>r=.pool\/r=.slots\/r=.taken\/r=.free) o1 o' w4.drew w'/\Zah o' w')) (fun e w' h=>⟨_,h.1,rfl,h.2⟩)) ?_;rintro _ w5 ⟨rfl,o2,gX,ha,gZ⟩;simp only[Zai];refine Zb8 ?_;have k9:=Hd (Zza.next gC.out gj.out gv.out g8.out HI.out ka.out (hC.out.trans ((Zag w3 1).mono hC.out.size)) k8.out ke.out kb.out (Zag w4 1) gX ha gZ);clear gX ha gZ p0 p1 p2 p3 p4 cb4 n0' gY;go_wp2_with fail;go_roundw
    case rel=>exact⟨k+1,by omega,by go_num,k9.out⟩
    case measure=>simp[intOf];omega
   ·obtain rfl:k=m:=by omega
    have hh:=(g0.alien gI gw.out.1).trans HS.out.boxs;have h6:=(g0.alien gY gw.out.2).trans HS.out.boxg;have cb:=cell1 hh;have cg:=cell1 h6;obtain⟨q0,q1,q2,q3,q4,qf⟩:=cells5 hs1.blk;have gC:=Hd hs1;have gj:=Hd g3;have gv:=Hd g2;have g8:=Hd g0;have kj:sb≠w.heap.size+1:=fun e=>by have h1:=gw.out.2;have h2:=gi.out.own;rw[e] at h2;rw[h1] at h2;cases h2
    clear gJ hs1 g3 g2 g0 hh h6;go_wp2_with fail;have gN:o D=none:=g7.out.none (by omega);have hq:D<W2.heap.size:=(Array.getElem?_eq_some_iff.1 hA.out).1;have k3:=(g8.out.alien hq gN).trans hA.out;have k5:o1 D=none:=g8.out.alien' hq gN;have hW:D≠sb:=by rintro rfl;have:=gi.out.own;rw[gN] at this;cases this
    have hY:k=(Zcg d).length:=gP.out;refine⟨by simp,.inl ⟨D,_,rfl,run_takeDeferred ((Zaf hW _).trans k3),?_⟩⟩;have hF:Zam o1 (wr.setCell ⟨sb,4,none⟩ (.int .i64 0)) sb (d1.cd d1.counts 0) s:=gC.out.setDead gj.out 0;have gR:Za7 d (d1.cd d1.counts 0):=(hY ▸ gv.out:Zdt d (Zcg d).length d1).done HK.out.live (fun i hi=>(gi.out.pool.tk_lt hi).2);have gQ:Zar o1 ((wr.setCell ⟨sb,4,none⟩ (.int .i64 0)).putObj D (.deferred none)) sb (d1.cd d1.counts 0) :=
     Zar.keepR ⟨s,hF⟩ (fun g r hg _=>World.putObj_heap_other (by rintro rfl;rw[k5] at hg;cases hg)) (fun _ _ h=>h)
    refine⟨_,results_tmp rfl _ _ _,?_,o1,_,gQ,gj.out.mono (by simp[World.setCell]),gR,?_⟩
    ·show Ending.returned (.int .i64 ((Zfp d (Zds d.pool)).length:Nat))=_
     have:(Zfp d (Zds d.pool)).length=d.dead:=Zo5 HK.out.live;rw[this]
    . have hc:=(Chg.of_below HS.out.low Zap o).trans (g8.out.setCell (p:=⟨sb,4,none⟩) (r:=.store) gC.out.own (.inl rfl) (.int .i64 0));exact⟨hc.os,hc.tape,hc.output,by have:=hc.size;simpa [World.setCell] using this,fun k hk hr=>(World.putObj_heap_other (by omega)).trans (hc.block k hk hr),hc.ext,hc.new⟩
open Go.RowKit
structure ChgX (C:Nat->Prop)(o o':Own)(w w':World):Prop where
 os:w'.os=w.os
 tape:w'.tape=w.tape
 output:w'.output=w.output
 size:w.heap.size<=w'.heap.size
 block:∀ k,k<w.heap.size->o k=none->¬ C k->w'.heap[k]?=w.heap[k]?
 ext:∀ k r,o k=some r->o' k=some r
 new:∀ k,o' k≠o k->w.heap.size<=k
abbrev NoB:Nat->Prop:=fun _=>False
section
variable {C D:Nat->Prop}{R:Role->Prop}{o o' o'':Own}{w w' w'':World}
theorem ChgX.of_chg (h:Chg R o o' w w')(C:Nat->Prop):ChgX C o o' w w':=⟨h.os,h.tape,h.output,h.size,fun _ hk ho _=>h.alien hk ho,h.ext,fun k hk=>(h.new k hk).1⟩
theorem ChgX.of_wr (h:Wr D w w')(o:Own)(hD:∀ k,k<w.heap.size->D k->C k):ChgX C o o w w':=⟨h.os,h.tape,h.output,h.size,fun k hk _ hc=>h.keep k hk (fun e=>hc (hD k hk e)),fun _ _ h=>h,fun _ h=>(h rfl).elim⟩
theorem ChgX.of_below (h:Below w.heap.size w w')(o:Own)(C:Nat->Prop):ChgX C o o w w':=ChgX.of_wr (Wr.of_below h NoB) o (fun _ _ h=>h.elim)
theorem ChgX.none' (h:ChgX C o o' w w'){k:Nat}(hk:k<w.heap.size)(ho:o k=none):o' k=none:=by
 by_cases e:o' k=o k
 . rw[e];exact ho
 . have:=h.new k e;omega
theorem ChgX.trans (h:ChgX C o o' w w')(h':ChgX D o' o'' w' w'')(hD:∀ k,k<w.heap.size->D k->C k):ChgX C o o'' w w'':=by
 refine⟨h'.os.trans h.os,h'.tape.trans h.tape,h'.output.trans h.output,Nat.le_trans h.size h'.size,fun k hk ho hc=>?_,fun k r hr=>h'.ext k r (h.ext k r hr),fun k hk=>?_⟩
 . exact(h'.block k (Nat.lt_of_lt_of_le hk h.size) (h.none' hk ho) (fun e=>hc (hD k hk e))).trans (h.block k hk ho hc)
 ·by_cases e:o' k=o k
  . have:=h'.new k (by rw[e];exact hk);exact Nat.le_trans h.size this
  . exact h.new k e
theorem ChgX.cell (h:ChgX C o o' w w'){p:Addr}{v:Value}(hc:w.cell? p=some v)(hb:o p.block=none)(hn:¬ C p.block):w'.cell? p=some v :=
 (World.cell?_of_block (w:=w) (h.block p.block (World.block_lt_of_cell? w p hc) hb hn)).trans hc
theorem ChgX.below0 (h:ChgX NoB (fun _=>none) o w w'):Below w.heap.size w w':=⟨h.os,h.tape,h.output,h.size,fun k hk=>h.block k hk rfl (fun e=>e)⟩
theorem ChgX.lower (h:ChgX C (fun _=>none) o w w')(h':ChgX D o o' w' w'')(hD:∀ k,D k->w.heap.size<=k):ChgX C (fun _=>none) o' w w'':=h.trans h' (fun k hk e=>by have:=hD k e;omega)
end
structure Zkd (C:Nat->Prop)(K:Law)(o:Own)(w:World)(mb:Nat)(m:ManD)(V:Nat->BF)(o':Own)(w':World)(m':ManD)(V':Nat->BF):Prop where
 is:Zd6 (K m'.d V') o' w' mb m'
 lt:Zah o' w'
 chg:ChgX C o o' w w'
 ok:Zak m'.d V'
 ext:Ext m.d V m'.d V'
 hs:m'.hs=m.hs
 next:m'.next=m.next
theorem Step.toX {K:Law}{o o':Own}{w w':World}{mb:Nat}{m m':ManD}{V V':Nat->BF}(h:Step K o w mb m V o' w' m' V')(C:Nat->Prop):Zkd C K o w mb m V o' w' m' V':=⟨h.is,h.lt,ChgX.of_chg h.chg C,h.ok,h.ext,h.hs,h.next⟩
theorem Zrk {m m':ManD}{V V':Nat->BF}(h:Zb1 m)(ext:Ext m.d V m'.d V')(ok:Zak m'.d V')(e1:m'.hs=m.hs)(e2:m'.next=m.next):Zb1 m':=by
 refine⟨by rw[e1];exact h.nodup,by rw[e1];exact h.zero,by rw[e1];exact h.one,by rw[e1,e2];exact h.lt,by rw[e2];exact h.next,fun p hp=>?_,by rw[e1,e2];exact h.len,fun i b hb=>?_⟩
 . rw[e1] at hp;exact ext.ok (h.ok p hp)
 ·rw[e1];cases hn:Zaa m.d i with
  | some b0=>rw[ext.ext i b0 hn];exact h.refs i b0 hn
  | none =>
    rw[ext.ext0 i hn];have hi:i≠0:=by rintro rfl;rw[ok.dag.none0] at hb;cases hb
    have:Zbx m.hs i=0:=by
     unfold Zbx;rw[List.length_eq_zero_iff,List.filter_eq_nil_iff];intro p hp;have ho:=h.ok p hp;simp only[Bool.and_eq_true,decide_eq_true_eq,beq_iff_eq,not_and];rintro _ rfl;rcases ho with h0|⟨b1,g0⟩
     . exact hi h0
     . rw[hn] at g0;cases g0
    rw[this];rfl
structure SatE (K:Law)(n:Nat)(Od:List Nat->Prop)(room:Nat)(w0:World)(mb:Nat)(fs:List (Int×BF))(nx:Int)(w:World)(o:Own)(m:ManD)(V:Nat->BF):Prop where
 is:Zd6 (K m.d V) o w mb m
 lt:Zah o w
 ok:Ztr m V
 vars:m.d.vars.length=n
 od:Od m.d.vars
 room:m.d.pool.room=room
 next:m.next=nx
 hs:m.hs.map (fun p=>(p.1,ef V p.2))=fs
 chg:ChgX NoB (fun _=>none) o w0 w
section
variable {K:Law}{n:Nat}{Od:List Nat->Prop}{room:Nat}{w0 w w':World}{mb:Nat}{fs:List (Int×BF)}{nx:Int}{o o':Own}{m m':ManD}{V V':Nat->BF}
theorem SatE.find (h:SatE K n Od room w0 mb fs nx w o m V){k:Int}{F:BF}(hk:(k,F)∈fs):∃ f,(k,f)∈m.hs/\ef V f=F:=by
 rw[<- h.hs] at hk;obtain⟨p,hp,e⟩:=List.mem_map.1 hk;cases e;exact⟨p.2,hp,rfl⟩
theorem SatE.none0 (h:SatE K n Od room w0 mb fs nx w o m V){k:Nat}(hk:k<w0.heap.size):o k=none:=h.chg.none' hk rfl
theorem Ybo {hs:List (Int×Nat)}{d:Zad}(hok:∀ p∈hs,okE (Zaa d) p.2)(hv:∀ i,(i=0\/∃ b,Zaa d i=some b)->V' i=V i):hs.map (fun p=>(p.1,ef V' p.2))=hs.map (fun p=>(p.1,ef V p.2)):=by
 refine List.map_congr_left fun p hp=>?_
 have e:ef V' p.2=ef V p.2:=by
  funext ρ;unfold ef;rw[hv (p.2/2) (hok p hp)]
 rw[e]
theorem SatE.withOd {Od':List Nat->Prop}(h:SatE K n Od room w0 mb fs nx w o m V)(hO:Od' m.d.vars):SatE K n Od' room w0 mb fs nx w o m V :=
 ⟨h.is,h.lt,h.ok,h.vars,hO,h.room,h.next,h.hs,h.chg⟩
theorem SatE.step {C:Nat->Prop}(h:SatE K n Od room w0 mb fs nx w o m V)(s:Zkd C K o w mb m V o' w' m' V')(hC:∀ k,C k->w0.heap.size<=k):SatE K n Od room w0 mb fs nx w' o' m' V' :=
 ⟨s.is,s.lt,⟨s.ok,Zrk h.ok.handles s.ext s.ok s.hs s.next⟩,by rw[s.ext.vars];exact h.vars,by rw[s.ext.vars];exact h.od,by rw[s.ext.room];exact h.room,s.next.trans h.next,
  by rw[s.hs,Ybo h.ok.handles.ok s.ext.val];exact h.hs,h.chg.lower s.chg hC⟩
theorem SatE.other {C:Nat->Prop}(h:SatE K n Od room w0 mb fs nx w o m V)(hx:Wr C w w')(hC:∀ k,k<w.heap.size->C k->w0.heap.size<=k/\o k=none):SatE K n Od room w0 mb fs nx w' o m V:=by
 obtain⟨s,hm⟩:=h.is;refine⟨⟨s,hm.keep (fun g r hg=>hx.keep g (h.lt g r hg) (fun e=>?_)) (fun _ _ h=>h)⟩,h.lt.mono hx.size,h.ok,h.vars,h.od,h.room,h.next,h.hs,h.chg.trans (ChgX.of_wr (C:=fun k=>w0.heap.size<=k) hx o (fun k hk e=>(hC k hk e).1)) (fun k hk e=>by omega)⟩;have:=(hC g (h.lt g r hg) e).2;rw[hg] at this;cases this
theorem SatE.below (h:SatE K n Od room w0 mb fs nx w o m V)(hb:Below w.heap.size w w'):SatE K n Od room w0 mb fs nx w' o m V:=h.other (Wr.of_below hb NoB) (fun _ _ e=>e.elim)
theorem SatE.gave (h:SatE K n Od room w0 mb fs nx w o m V){r:Nat}(g:Gave K o w mb m V r o' w' m'):SatE K n Od room w0 mb (fs++[(nx,ef V r)]) (nx+1) w' o' m' V :=
 ⟨g.is,g.lt,g.ok,by rw[g.vars];exact h.vars,by rw[g.vars];exact h.od,by rw[g.room];exact h.room,by rw[g.next,h.next],by rw[g.hs,List.map_append,h.hs,<- h.next];rfl,h.chg.lower (ChgX.of_chg g.chg NoB) (fun _ e=>e.elim)⟩
theorem Zgd {d':Zad}(h:Zb1 m)(hk:Zak m.d V)(r:Za7 m.d d'):Zb1 { m with d:=d' }:=by
 have g1:∀ p∈m.hs,okE (Zaa d') p.2:=by
  intro p hp;rcases h.ok p hp with h0|⟨b,hb⟩
  . exact .inl h0
  ·by_cases h1:1<p.1
   ·refine .inr ⟨b,?_⟩;rw[r.nodes,if_pos]
    . exact hb
    ·refine hk.live.cnt.pos_of_ext hb ?_;rw[h.refs _ _ hb];have:0<Zbx m.hs (p.2/2):=by
      unfold Zbx;refine List.length_pos_of_mem (List.mem_filter.2 ⟨hp,?_⟩);simp[h1]
     omega
   ·refine .inl ?_;have g2:=h.lt p hp;have hu:∀ q∈m.hs,q.1=p.1->q=p:=by
     intro q hq e;have g0:=h.nodup;have h1:=Zdb (l:=encH m.hs) (Zeh g0) (List.mem_map.2 ⟨q,hq,rfl⟩);have h2:=Zdb (l:=encH m.hs) (Zeh g0) (List.mem_map.2 ⟨p,hp,rfl⟩);rw[e,h2] at h1;have e2:(p.2:Int)=(q.2:Int):=by injection h1 with h1;injection h1
     exact Prod.ext e (by omega)
    rcases(by omega:p.1=0\/p.1=1) with e|e
    . rw[<- hu _ h.zero e.symm];rfl
    . rw[<- hu _ h.one e.symm];rfl
 exact⟨h.nodup,h.zero,h.one,h.lt,h.next,g1,h.len,fun i b hb=>by rw[r.ext i b hb];exact h.refs i b (r.sub hb).1⟩
end
theorem wclear {K:Law}{n:Nat}{Od:List Nat->Prop}{room:Nat}{w0 w:World}{mb:Nat}{fs:List (Int×BF)}{nx:Int}{o:Own}{m:ManD}{V:Nat->BF}{s:ManW}(h:SatE K n Od room w0 mb fs nx w o m V)(hs:Zby (K m.d V) o w mb m s)(G:Phi) :
 Calls prog 159 #[.pointer (some ⟨s.me,0,none⟩)] w fun x w'=>x=.returned (.tuple #[])/\Zby G o w' mb m s/\Chg (· = .entries) o o w w'/\Zah o w':=by
 refine(Ztv o s.me (K m.d V) G w hs.memo h.lt).mono ?_;rintro x w' ⟨h1,h2,h3,h4⟩;exact⟨h1,hs.setMemo h.lt h2 (h3.mono fun r e=>.inr e),h3,h4⟩
theorem Zhf {K:Law}{n:Nat}{Od:List Nat->Prop}{room:Nat}{w0 w:World}{mb:Nat}{fs:List (Int×BF)}{nx:Int}{o:Own}{m:ManD}{V:Nat->BF}(h:SatE K n Od room w0 mb fs nx w o m V) :
 Calls prog 244 #[.pointer (some ⟨mb,0,none⟩)] w fun x w'=>x=.returned (.int .i64 m.d.dead)/\∃ o' d',SatE K n Od room w0 mb fs nx w' o' { m with d:=d' } V/\Za7 m.d d'/\Chg (fun _=>True) o o' w w':=by
 obtain⟨s,hs⟩:=h.is;obtain⟨c0,c1,c2,c3,c4,c5,f0⟩:=cells6 hs.blk;have HC:Hid (∀ w1,Zby (fun _ _ _ _ _=>False) o w1 mb m s/\Chg (· = .entries) o o w w1/\Zah o w1->Calls prog 215 #[.pointer (some ⟨s.sb,0,none⟩)] w1 fun x w'=>x=.returned (.int .i64 m.d.dead)/\∃ o' d',SatE K n Od room w0 mb fs nx w' o' { m with d:=d' } V/\Za7 m.d d'/\Chg (fun _=>True) o o' w w'):=by
  refine Hd ?_;rintro w1 ⟨g1,g2,g3⟩;have fin:∀ o' w' d',Zby (fun _ _ _ _ _=>False) o' w' mb { m with d:=d' } s->Zah o' w'->Za7 m.d d'->Chg Zap o o' w1 w'->∃ o' d',SatE K n Od room w0 mb fs nx w' o' { m with d:=d' } V/\Za7 m.d d'/\Chg (fun _=>True) o o' w w':=by
   intro o' w' d' a1 a2 a3 a4;have hc:Chg (fun _=>True) o o' w w':=g2.any.trans a4.any;refine⟨o',d',⟨⟨s,a1.mono fun _ _ _ _ _ e=>e.elim⟩,a2,⟨a3.ok h.ok.store,Zgd h.ok.handles h.ok.store a3⟩,by dsimp only;rw[a3.vars];exact h.vars,by dsimp only;rw[a3.vars];exact h.od,by dsimp only;rw[a3.room];exact h.room,h.next,h.hs,h.chg.lower (ChgX.of_chg hc NoB) (fun _ e=>e.elim)⟩,a3,hc⟩
  by_cases h0:m.d.dead=0
  . refine(Zh3 g1.store h0).mono ?_;rintro x w' ⟨rfl,hb⟩;exact⟨by rw[h0];rfl,fin o w' m.d (g1.below g3 hb) (g3.mono hb.size) (Za7.none h.ok.store h0) (Chg.of_below hb _ _)⟩
  . refine(Zkj g1.store g3 h.ok.store h0).mono ?_;rintro x w' ⟨rfl,o',d',b1,b2,b3,b4⟩;exact⟨rfl,fin o' w' d' (g1.setStore g3 b1 b4) b2 b3 b4⟩
 have g0:=Hd (wclear h hs (fun _ _ _ _ _=>False));clear h hs
 go_enter func244,ntmps244
 go_wp2_with fail;refine g0.out.mono ?_;rintro x w1 ⟨rfl,g1,g2,g3⟩;obtain⟨d0,d1,d2,d3,d4,d5,f1⟩:=cells6 g1.blk;have g4:=Hd (HC.out w1 ⟨g1,g2,g3⟩);clear g1 g2 g3 c0 c1 c2 c3 c4 c5 f0 g0 HC;go_wp2_with fail;refine g4.out.mono ?_;rintro x w2 ⟨rfl,hq⟩;have HQ:=Hd hq;clear hq;go_wp2_with fail;go_ret;exact⟨rfl,HQ.out⟩
open Go.RowKit
def HapG (K:Law)(n:Nat)(Od:List Nat->Prop)(room:Nat)(w0:World)(mb:Nat)(fs:List (Int×BF))(nx:Int)(ev:Ev):Prop :=
 ∀ (o:Own) (W:World) (m:ManD) (V:Nat->BF),SatE K n Od room w0 mb fs nx W o m V->Calls prog 243 #[.pointer (some ⟨mb,0,none⟩),evA ev] W fun x w'=>x=.returned (.tuple #[]) /\
  ∃ o' m' V',SatE K n Od room w0 mb fs nx w' o' m' V'/\m'.waits=m.waits/\m'.calls=m.calls/\(m'.d.pool.many<=m.d.pool.many\/m'.d.pool.many<=fs.length*2^n)/\ChgX NoB o o' W w'
def StE (K:Law)(n:Nat)(Od:List Nat->Prop)(room:Nat)(w0:World)(mb:Nat)(fs:List (Int×BF))(nx:Int)(St:ManD->Prop)(m':ManD):Prop :=
 ∀ (o:Own) (W:World) (m:ManD) (V:Nat->BF),SatE K n Od room w0 mb fs nx W o m V->m.waits=m'.waits->m.calls=m'.calls->(m.d.pool.many<=m'.d.pool.many\/m.d.pool.many<=fs.length*2^n)->St m
def OpG (K:Law)(n:Nat)(Od:List Nat->Prop)(room:Nat)(w0:World)(mb:Nat)(fs:List (Int×BF))(nx:Int)(C:Nat->Prop)(B:World->Prop)(St:ManD->Prop)(gop:Nat)(lop:Array Value)(Q:World->ManD->(Nat->BF)->Nat->Prop)(E:Int->ManD->ManD->Prop):Prop :=
 ∀ (o:Own) (W:World) (m:ManD) (V:Nat->BF) (xb:Nat),SatE K n Od room w0 mb fs nx W o m V->B W->(∀ k,C k->k<W.heap.size/\o k=none)->St m->Zf3 o W xb mb->¬ C xb ->
  Calls prog gop (#[.pointer (some ⟨xb,0,none⟩)]++lop) W fun e w'=>∃ (o':Own) (m':ManD) (V':Nat->BF),Zkd C K o W mb m V o' w' m' V'/\B w' /\
   ((∃ r:Nat,e=.returned (.int .i64 r)/\okE (Zaa m'.d) r/\Q w' m' V' r) \/
    (∃ er:Int,e=Zdr er false ev0/\er≠0/\m'.waits=m.waits/\St m'/\E er m m') \/
    (∃ ev,e=Zdr 0 true ev/\m.waits=ev::m'.waits/\StE K n Od room w0 mb fs nx St m'/\HapG K n Od room w0 mb fs nx ev))
theorem Ycg (gop:Nat)(lop:Array Value)(W:World)(xb ob fb:Nat)(R:Nat->World->Prop)(R2:Int->Bool->Ev->World->Prop)(eg:∀ args w,(callFunc gop args).run prog w=.ok (.enter gop args) w)
 (hob:W.cell? ⟨ob,0,none⟩=some (.func (.func gop) #[] lop)) (hop:Calls prog gop (#[.pointer (some ⟨xb,0,none⟩)]++lop) W fun e w'=>(∃ r:Nat,e=.returned (.int .i64 r)/\R r w'/\(∃ z:Int,w'.cell? ⟨fb,0,none⟩=some (.int .i64 z))/\w'.frozen? ⟨fb,0,none⟩=false) \/
  ∃ er evt ev,e=Zdr er evt ev/\R2 er evt ev w') :
 Calls prog 197 #[.pointer (some ⟨xb,0,none⟩),.pointer (some ⟨ob,0,none⟩),.pointer (some ⟨fb,0,none⟩)] W fun e w'=>(e=.returned (.tuple #[])/\∃ r w1,R r w1/\w'=w1.setCell ⟨fb,0,none⟩ (.int .i64 (r:Nat)))\/∃ er evt ev,e=Zdr er evt ev/\R2 er evt ev w':=by
 have g0:=Hd hop;clear hop
 go_enter func197,ntmps197
 go_wp2_with fail;refine g0.out.mono ?_;rintro e w' (⟨r,rfl,hr,⟨z,hc⟩,hf⟩|⟨er,evt,ev,rfl,hr⟩)
 . have HR:=Hd hr;clear hr;go_wp2_with fail;go_end0;exact .inl ⟨rfl,r,w',HR.out,rfl⟩
 . have HR:=Hd hr;clear hr;unfold Zdr;go_wp2_with fail;exact⟨rfl,.inr ⟨er,evt,ev,rfl,HR.out⟩⟩
structure RunI (K:Law)(n:Nat)(Od:List Nat->Prop)(room:Nat)(w0:World)(mb:Nat)(fs:List (Int×BF))(nx:Int)(C:Nat->Prop)(B:World->Prop)(St:ManD->Prop)(gop:Nat)(lop:Array Value)(o0:Own)(w:World)(k:Nat)(full:Bool)(W:World)(o:Own)(m:ManD)(V:Nat->BF):Prop where
 sat:SatE K n Od room w0 mb fs nx W o m V
 bok:B W
 st:St m
 len:m.waits.length=k
 cok:∀ c,C c->c<w.heap.size/\o c=none
 chg:ChgX C o0 o w W
 size:w.heap.size+2<=W.heap.size
 obn:o w.heap.size=none
 fbn:o (w.heap.size+1)=none
 ob:W.heap[w.heap.size]?=some (.cells #[.func (.func gop) #[] lop] 182 (0,0))
 fb:∃ z:Int,W.heap[w.heap.size+1]?=some (.cells #[.int .i64 z] 101 (0,0))
 clean:full=true->m.d.dead=0
def RunF (K:Law)(n:Nat)(Od:List Nat->Prop)(room:Nat)(w0:World)(mb:Nat)(fs:List (Int×BF))(nx:Int)(C:Nat->Prop)(B:World->Prop)(Q:World->ManD->(Nat->BF)->Nat->Prop)(E:Int->ManD->ManD->Prop)(o0:Own)(w:World)(er:Int)(W:World):Prop :=
 ∃ o m V,SatE K n Od room w0 mb fs nx W o m V/\B W/\ChgX C o0 o w W/\w.heap.size+2<=W.heap.size/\o (w.heap.size+1)=none /\
  ((er=0/\∃ r:Nat,okE (Zaa m.d) r/\Q W m V r/\W.heap[w.heap.size+1]?=some (.cells #[.int .i64 r] 101 (0,0))) \/
   (er≠0/\∃ m0:ManD,E er m0 m/\(er=7->m0.d.dead=0)))
theorem Ych {K:Law}{n:Nat}{Od:List Nat->Prop}{room:Nat}{w0:World}{mb:Nat}{fs:List (Int×BF)}{nx:Int}{C:Nat->Prop}{B:World->Prop}{St:ManD->Prop}{gop:Nat}{lop:Array Value}{Q:World->ManD->(Nat->BF)->Nat->Prop}{E:Int->ManD->ManD->Prop}
 (hB:∀ W W',B W->(∀ c,C c->W'.heap[c]?=W.heap[c]?)->B W') (hQ:∀ W W' m V r,Q W m V r->(∀ c,C c->W'.heap[c]?=W.heap[c]?)->Q W' m V r) (hSt:∀ (m:ManD) (d:Zad),St m->Za7 m.d d->St { m with d:=d }) (hC0:∀ c,C c->w0.heap.size<=c) (eg:∀ args w,(callFunc gop args).run prog w=.ok (.enter gop args) w)
 (hop:OpG K n Od room w0 mb fs nx C B St gop lop Q E) {o:Own} {w:World} {m:ManD} {V:Nat->BF} (h:SatE K n Od room w0 mb fs nx w o m V) (hb:B w) (hC:∀ c,C c->c<w.heap.size/\o c=none) (hst:St m) :
 Calls prog 196 #[.pointer (some ⟨mb,0,none⟩),.func (.func 197) #[] #[.pointer (some ⟨w.heap.size,0,none⟩),.pointer (some ⟨w.heap.size+1,0,none⟩)]] (doW gop lop w) fun x w'=>∃ er,x=.returned (.int .i64 er)/\RunF K n Od room w0 mb fs nx C B Q E o w er w':=by
 have hz:(doW gop lop w).heap.size=w.heap.size+2:=by simp[doW]
 have gi:Below w.heap.size w (doW gop lop w):=(Zae w _).alloc (by simp) _;have gt:(doW gop lop w).heap[w.heap.size+1]?=some (.cells #[.int .i64 0] 101 (0,0)):=by
  have:=heap_alloc_new (w.alloc (.cells #[.func (.func gop) #[] lop] 182)) (.cells #[.int .i64 0] 101);rw[World.size_alloc] at this;exact this
 have gq:(doW gop lop w).heap[w.heap.size]?=some (.cells #[.func (.func gop) #[] lop] 182 (0,0)):=(Go.heap_alloc_old _ _ (by simp)).trans (heap_alloc_new w _);have hw0:=h.chg.size;have gg:RunI K n Od room w0 mb fs nx C B St gop lop o w m.waits.length false (doW gop lop w) o m V :=
  ⟨h.below gi,hB _ _ hb (fun c hc=>gi.block c (hC c hc).1),hst,rfl,hC,ChgX.of_below gi o C,by omega,h.lt.none (Nat.le_refl _),h.lt.none (by omega),gq,⟨0,gt⟩,by simp⟩
 have g8:∀ {k full W W' o1 m1 V1},RunI K n Od room w0 mb fs nx C B St gop lop o w k full W o1 m1 V1->∀ {s:Nat},w.heap.size+2<=s->o1 s=none->o1 (s+1)=none->Ali s W W'->RunI K n Od room w0 mb fs nx C B St gop lop o w k full W' o1 m1 V1:=by
  intro k full W W' o1 m1 V1 hi s hs n0 n1 a;have gj:=hi.size;have hk:∀ k,k<w.heap.size+2->W'.heap[k]?=W.heap[k]?:=fun k hk=>a.keep k (by omega) (by omega)
  refine⟨hi.sat.other a (fun k _ e=>?_),hB _ _ hi.bok (fun c hc=>hk c (by have:=(hi.cok c hc).1;omega)),hi.st,hi.len,hi.cok,hi.chg.trans (ChgX.of_wr (C:=fun k=>w.heap.size<=k) a o1 (fun k _ e=>by omega)) (fun k hk e=>by omega),Nat.le_trans hi.size a.size,hi.obn,hi.fbn,(hk _ (by omega)).trans hi.ob,?_,hi.clean⟩
  ·rcases e with rfl|rfl
   . exact⟨by omega,n0⟩
   . exact⟨by omega,n1⟩
  . obtain⟨z,hz⟩:=hi.fb;exact⟨z,(hk _ (by omega)).trans hz⟩
 have gf:∀ {k full full' W W' o1 m1 V1 o2 m2 V2},RunI K n Od room w0 mb fs nx C B St gop lop o w k full W o1 m1 V1->SatE K n Od room w0 mb fs nx W' o2 m2 V2->ChgX NoB o1 o2 W W'->m2.waits=m1.waits->St m2->(full'=true->m2.d.dead=0)->RunI K n Od room w0 mb fs nx C B St gop lop o w k full' W' o2 m2 V2:=by
  intro k full full' W W' o1 m1 V1 o2 m2 V2 hi gm hc e1 e2 e3;have gj:=hi.size;obtain⟨z,hz⟩:=hi.fb
  exact⟨gm,hB _ _ hi.bok (fun c ga=>hc.block c (by have:=(hi.cok c ga).1;omega) (hi.cok c ga).2 (fun e=>e)),e2,by rw[e1];exact hi.len,fun c ga=>⟨(hi.cok c ga).1,hc.none' (by have:=(hi.cok c ga).1;omega) (hi.cok c ga).2⟩,
   hi.chg.trans hc (fun _ _ e=>e.elim),Nat.le_trans hi.size hc.size,hc.none' (by omega) hi.obn,hc.none' (by omega) hi.fbn,(hc.block _ (by omega) hi.obn (fun e=>e)).trans hi.ob,⟨z,(hc.block _ (by omega) hi.fbn (fun e=>e)).trans hz⟩,e3⟩
 refine Zyg mb _ _ _ Zt0 (fun k full W=>∃ o1 m1 V1,RunI K n Od room w0 mb fs nx C B St gop lop o w k full W o1 m1 V1) _ ?_ _ ⟨o,m,V,gg⟩;rintro k full W ⟨o1,m1,V1,hi⟩;have gj:=hi.size;obtain⟨s,hs⟩:∃ s,s=W.heap.size:=⟨_,rfl⟩
 refine⟨fun st W1=>match st with
  | none=>∃ (o':Own) (m':ManD) (V':Nat->BF) (r:Nat) (w1:World),SatE K n Od room w0 mb fs nx w1 o' m' V'/\B w1/\ChgX C o o' w w1/\s+3<=w1.heap.size/\(∀ q,w.heap.size<=q->q<s+3->o1 q=none->o' q=none)/\(∃ z:Int,w1.heap[w.heap.size+1]?=some (.cells #[.int .i64 z] 101 (0,0)))/\okE (Zaa m'.d) r/\Q w1 m' V' r/\W1=w1.setCell ⟨w.heap.size+1,0,none⟩ (.int .i64 (r:Nat))
  | some (er,evt,ev)=>∃ (o':Own) (m':ManD) (V':Nat->BF),RunI K n Od room w0 mb fs nx C B St gop lop o w m'.waits.length false W1 o' m' V'/\s+3<=W1.heap.size/\(∀ q,w.heap.size<=q->q<s+3->o1 q=none->o' q=none) /\
   ((evt=false/\er≠0/\m'.waits=m1.waits/\E er m1 m')\/(evt=true/\m1.waits=ev::m'.waits/\StE K n Od room w0 mb fs nx St m'/\HapG K n Od room w0 mb fs nx ev)),?_,?_,?_,?_,?_⟩
 ·unfold Zvo;have g9:Below W.heap.size W (tryW mb W):=((Zae _ _).alloc (by simp) _).alloc (by simp;omega) _;have go:(tryW mb W).heap.size=W.heap.size+3:=by unfold tryW;simp
  obtain⟨T,hT⟩:∃ T,T=tryW mb W:=⟨_,rfl⟩;have h1:(tryW mb W).heap[W.heap.size+2]?=some (.cells #[.pointer (some ⟨mb,0,none⟩)] 233 (0,0)):=by
   have:=heap_alloc_new ((W.alloc (.cells #[.int .i64 0,.bool false,.int .i64 0,.int .i64 0,.int .i64 0] 235)).alloc (.cells #[.bool false] 4)) (.cells #[.pointer (some ⟨mb,0,none⟩)] 233);rw[World.size_alloc,World.size_alloc] at this;exact this
  rw[<- hT] at g9 go h1 ⊢;clear hT;have g7:=hi.sat.below g9;have gv:Zf3 o1 T (W.heap.size+2) mb:=⟨cell1 h1,hi.sat.lt.none (by omega)⟩;have gn:=hop o1 T m1 V1 (W.heap.size+2) g7 (hB _ _ hi.bok (fun c hc=>g9.block c (by have:=(hi.cok c hc).1;omega))) (fun c hc=>⟨by have:=(hi.cok c hc).1;omega,(hi.cok c hc).2⟩) hi.st gv (fun e=>by have:=(hi.cok _ e).1;omega);have gh:=(g9.block w.heap.size (by omega)).trans hi.ob;obtain⟨z,hz⟩:=hi.fb;have ge:=(g9.block (w.heap.size+1) (by omega)).trans hz;have gy:∀ q,w.heap.size<=q->¬ C q:=fun q hq e=>by have:=(hi.cok q e).1;omega
  have g0:∀ {o':Own} {w1:World},ChgX C o1 o' T w1->∀ q,w.heap.size<=q->q<s+3->o1 q=none->w1.heap[q]?=T.heap[q]?:=fun hc q h1 h2 h3=>hc.block q (by omega) h3 (gy q h1)
  refine(Ycg gop lop T (W.heap.size+2) w.heap.size (w.heap.size+1) (fun r w1=>∃ o' m' V',Zkd C K o1 T mb m1 V1 o' w1 m' V'/\B w1/\okE (Zaa m'.d) r/\Q w1 m' V' r)
   (fun er evt ev w1=>∃ o' m' V',Zkd C K o1 T mb m1 V1 o' w1 m' V'/\B w1/\((evt=false/\er≠0/\m'.waits=m1.waits/\St m'/\E er m1 m')\/(evt=true/\m1.waits=ev::m'.waits/\StE K n Od room w0 mb fs nx St m'/\HapG K n Od room w0 mb fs nx ev))) eg (cell1 gh) (gn.mono ?_)).mono ?_
  ·rintro e w1 ⟨o',m',V',st,b1,(⟨r,rfl,q1,q2⟩|⟨er,rfl,q1,q2,q3,q4⟩|⟨ev,rfl,q1,q2,q3⟩)⟩
   . have hf:=(g0 st.chg (w.heap.size+1) (by omega) (by omega) hi.fbn).trans ge;exact .inl ⟨r,rfl,⟨o',m',V',st,b1,q1,q2⟩,⟨z,cell1 hf⟩,by simp[World.frozen?,hf]⟩
   . exact .inr ⟨er,false,ev0,rfl,o',m',V',st,b1,.inl ⟨rfl,q1,q2,q3,q4⟩⟩
   . exact .inr ⟨0,true,ev,rfl,o',m',V',st,b1,.inr ⟨rfl,q1,q2,q3⟩⟩
  ·have n0:o1 W.heap.size=none:=hi.sat.lt.none (Nat.le_refl _);have n1:o1 (W.heap.size+1)=none:=hi.sat.lt.none (by omega);rintro e W' (⟨rfl,r,w1,⟨o',m',V',st,b1,q1,q2⟩,rfl⟩|⟨er,evt,ev,rfl,o',m',V',st,b1,q⟩)
   ·have hf:=(g0 st.chg (w.heap.size+1) (by omega) (by omega) hi.fbn).trans ge;have gl:=st.chg.size;refine⟨by simp[World.setCell];omega,?_,?_,.inl ⟨rfl,o',m',V',r,w1,g7.step st hC0,b1,(hi.chg.trans (ChgX.of_below g9 o1 C) (fun _ _ e=>e)).trans st.chg (fun _ _ e=>e),by omega,fun q _ h2 h3=>st.chg.none' (by omega) h3,⟨z,hf⟩,q1,q2,rfl⟩⟩
    . exact(Zaf (by show _≠w.heap.size+1;omega) _).trans (g0 st.chg _ (by omega) (by omega) n0)
    . exact(Zaf (by show _≠w.heap.size+1;omega) _).trans (g0 st.chg _ (by omega) (by omega) n1)
   ·have gl:=st.chg.size;have b2:St m':=by
     rcases q with ⟨_,_,_,q,_⟩|⟨_,_,q,_⟩
     . exact q
     . exact q _ _ _ _ (g7.step st hC0) rfl rfl (.inl (Nat.le_refl _))
    have gw:=(hi.chg.trans (ChgX.of_below g9 o1 C) (fun _ _ e=>e)).trans st.chg (fun _ _ e=>e);refine⟨by omega,g0 st.chg _ (by omega) (by omega) n0,g0 st.chg _ (by omega) (by omega) n1,.inr ⟨er,evt,ev,rfl,o',m',V',?_,by omega,fun q _ h2 h3=>st.chg.none' (by omega) h3,q.imp (fun⟨a1,a2,a3,_,a4⟩=>⟨a1,a2,a3,a4⟩) id⟩⟩
    exact⟨g7.step st hC0,b1,b2,rfl,fun c hc=>⟨(hi.cok c hc).1,st.chg.none' (by have:=(hi.cok c hc).1;omega) (hi.cok c hc).2⟩,gw,by omega,st.chg.none' (by omega) hi.obn,st.chg.none' (by omega) hi.fbn,
     (g0 st.chg _ (by omega) (by omega) hi.obn).trans gh,⟨z,(g0 st.chg (w.heap.size+1) (by omega) (by omega) hi.fbn).trans ge⟩,by simp⟩
 ·rintro W1 W2 ⟨o',m',V',r,w1,a1,a2,a3,a4,a5,⟨z,a6⟩,a7,a8,rfl⟩ al;have gc:Wr (fun k=>k=w.heap.size+1\/k=s\/k=s+1) w1 W2:=Wr.trans ((Wr.refl (fun k=>k=w.heap.size+1) w1).setCell (p:=⟨w.heap.size+1,0,none⟩) (.inl rfl) _) al (fun k _ e=>.inl e) (fun k _ e=>.inr (by rw[hs];exact e));have n0:o' s=none:=a5 s (by omega) (by omega) (by rw[hs];exact hi.sat.lt.none (Nat.le_refl _));have n1:o' (s+1)=none:=a5 (s+1) (by omega) (by omega) (by rw[hs];exact hi.sat.lt.none (by omega));have nf:o' (w.heap.size+1)=none:=a5 _ (by omega) (by omega) hi.fbn;have hf:=(al.keep (w.heap.size+1) (by simp[World.setCell];omega) (by omega)).trans (Zac a6 _);refine⟨o',m',V',a1.other gc (fun k _ e=>?_),hB _ _ a2 (fun c hc=>gc.keep c (by have:=(hi.cok c hc).1;omega) (by have:=(hi.cok c hc).1;omega)),a3.trans (ChgX.of_wr (C:=fun k=>w.heap.size<=k) gc o' (fun k _ e=>by omega)) (fun k hk e=>by omega),by have:=gc.size;omega,nf,.inl ⟨rfl,r,a7,hQ _ _ _ _ _ a8 (fun c hc=>gc.keep c (by have:=(hi.cok c hc).1;omega) (by have:=(hi.cok c hc).1;omega)),hf⟩⟩;rcases e with rfl|rfl|rfl
  . exact⟨by omega,nf⟩
  . exact⟨by omega,n0⟩
  . exact⟨by omega,n1⟩
 ·rintro er ev W1 W2 ⟨o',m',V',gd,a4,a5,(⟨h1,_⟩|⟨_,gu,gp,gx⟩)⟩ al
  . cases h1
  rw[<- hs] at al;have n0:o' s=none:=a5 s (by omega) (by omega) (by rw[hs];exact hi.sat.lt.none (Nat.le_refl _));have n1:o' (s+1)=none:=a5 (s+1) (by omega) (by omega) (by rw[hs];exact hi.sat.lt.none (by omega));have g6:=g8 gd (by omega) n0 n1 al;refine(gx o' W2 m' V' g6.sat).mono ?_;rintro x w' ⟨rfl,o2,m2,V2,g1,g2,g3,g5,g4⟩;refine⟨rfl,m'.waits.length,by rw[<- hi.len,gu];simp,o2,m2,V2,gf g6 g1 g4 g2 (gp _ _ _ _ g1 g2 g3 g5) (by simp)⟩
 ·rintro ev W1 W2 ⟨o',m',V',gd,a4,a5,(⟨_,_,hw,_⟩|⟨h1,_⟩)⟩ al gz
  . rw[<- hs] at al;have n0:o' s=none:=a5 s (by omega) (by omega) (by rw[hs];exact hi.sat.lt.none (Nat.le_refl _));have n1:o' (s+1)=none:=a5 (s+1) (by omega) (by omega) (by rw[hs];exact hi.sat.lt.none (by omega));have g6:=g8 gd (by omega) n0 n1 al;refine(Zhf g6.sat).mono ?_;rintro x w' ⟨rfl,o2,d2,g1,g2,g3⟩;have gk:=gf (full':=true) g6 g1 (ChgX.of_chg g3 NoB) rfl (hSt _ _ g6.st g2) (fun _=>g2.dead);rw[hw,hi.len] at gk;exact⟨⟨_,rfl⟩,o2,_,V',gk⟩
  . cases h1
 ·rintro er ev W1 W2 ⟨o',m',V',gd,a4,a5,(⟨_,h0,hw,hE⟩|⟨h1,_⟩)⟩ al gr
  ·rw[<- hs] at al;have n0:o' s=none:=a5 s (by omega) (by omega) (by rw[hs];exact hi.sat.lt.none (Nat.le_refl _));have n1:o' (s+1)=none:=a5 (s+1) (by omega) (by omega) (by rw[hs];exact hi.sat.lt.none (by omega));have g6:=g8 gd (by omega) n0 n1 al;refine⟨o',m',V',g6.sat,g6.bok,g6.chg,g6.size,g6.fbn,.inr ⟨h0,m1,hE,fun e7=>hi.clean ?_⟩⟩;cases full with
   | true=>rfl
   | false=>exact(gr ⟨e7,rfl⟩).elim
  . cases h1
def Zvg (K:Law)(n:Nat)(Od:List Nat->Prop)(room:Nat)(w0:World)(mb:Nat)(fs:List (Int×BF))(nx:Int)(C:Nat->Prop)(B:World->Prop)(Q:World->ManD->(Nat->BF)->Nat->Prop)(E:Int->ManD->ManD->Prop)(o:Own)(w:World)(x:Ending)(w':World):Prop :=
 ∃ o' m' V',B w'/\ChgX C o o' w w' /\
  ((∃ r m1,x=.returned (.tuple #[.int .i64 nx,.int .i64 0])/\SatE K n Od room w0 mb (fs++[(nx,ef V' r)]) (nx+1) w' o' m' V'/\Q w' m1 V' r/\okE (Zaa m1.d) r/\Zaa m'.d=Zaa m1.d/\m'.d.vars=m1.d.vars/\m'.d.level=m1.d.level/\m'.d.pool.many=m1.d.pool.many/\m'.waits=m1.waits/\m'.calls=m1.calls) \/
   (∃ er m0,er≠0/\x=.returned (.tuple #[.int .i64 0,.int .i64 er])/\SatE K n Od room w0 mb fs nx w' o' m' V'/\E er m0 m'/\(er=7->m0.d.dead=0)))
theorem Ybk {K:Law}(hK:Zc8 K){n:Nat}{Od:List Nat->Prop}{room:Nat}{w0:World}{mb:Nat}{fs:List (Int×BF)}{nx:Int}{C:Nat->Prop}{B:World->Prop}{St:ManD->Prop}{gop:Nat}{lop:Array Value}{Q:World->ManD->(Nat->BF)->Nat->Prop}{E:Int->ManD->ManD->Prop}
 (hB:∀ W W',B W->(∀ c,C c->W'.heap[c]?=W.heap[c]?)->B W') (hQ:∀ W W' m V r,Q W m V r->(∀ c,C c->W'.heap[c]?=W.heap[c]?)->Q W' m V r) (hSt:∀ (m:ManD) (d:Zad),St m->Za7 m.d d->St { m with d:=d }) (hC0:∀ c,C c->w0.heap.size<=c) (eg:∀ args w,(callFunc gop args).run prog w=.ok (.enter gop args) w)
 (hop:OpG K n Od room w0 mb fs nx C B St gop lop Q E) {o:Own} {w:World} {m:ManD} {V:Nat->BF} (h:SatE K n Od room w0 mb fs nx w o m V) (hb:B w) (hC:∀ c,C c->c<w.heap.size/\o c=none) (hst:St m) (hn:nx<1099511627776) :
 Calls prog 143 #[.pointer (some ⟨mb,0,none⟩),.func (.func gop) #[] lop] w (Zvg K n Od room w0 mb fs nx C B Q E o w):=by
 have gr:∀ (fn:Fn) (first cap:Array Value) (w:World),(Instr.makeFunc fn first cap).run prog w=.ok (.func fn first cap) w:=fun _ _ _ _=>rfl
 have g5:=Hd (Ych hB hQ hSt hC0 eg hop h hb hC hst);have gi:=Hd hK;have gm:=Hd hB;have gl:=Hd hQ;have gd:=Hd hn;have ge:=Hd hC;have gq:=Ydt (w.alloc (.cells #[.func (.func gop) #[] lop] 182)) (.func gop) #[] lop;have HW:Hid ((w.alloc (.cells #[.func (.func gop) #[] lop] 182)).alloc (.cells #[.int .i64 0] 101)=doW gop lop w):=Hd rfl;clear h hb hK hB hQ hSt hC0 hop hC hst hn
 go_enter func143,ntmps143
 go_wp2_with fail;rw[HW.out];refine g5.out.mono ?_;rintro x w1 ⟨er,rfl,o1,m1,V1,sat,b1,g6,g7,g4,(⟨rfl,r,hr,hq,ga⟩|⟨h0,m0,hE,h7⟩)⟩
 rotate_left
 ·have HF:Hid (Zvg K n Od room w0 mb fs nx C B Q E o w (.returned (.tuple #[.int .i64 0,.int .i64 er])) w1):=Hd ⟨o1,m1,V1,b1,g6,.inr ⟨er,m0,h0,rfl,sat,hE,h7⟩⟩;have gt:(er == 0)=false:=by simpa using h0
  clear h0 hE h7 sat b1 g6 g7 g4 g5 HW;go_wp2_with fail
  go_ret2
  exact HF.out
 have g1:=cell1 ga;obtain⟨s1,g9⟩:=sat.is;obtain⟨c0,c1,c2,c3,c4,c5,f0⟩:=cells6 g9.blk;obtain⟨ss,g8⟩:=g9.store;have gh:r<eMax:=by have:=g8.edge_lt hr;unfold eMax;omega
 have gk:Hid (Calls prog 198 #[.pointer (some ⟨s1.sb,0,none⟩),.int .i64 r] w1.drew fun x w'=>x=.returned (.bool true)/\Below w1.heap.size w1 w'):=by
  have h1:=Zdx (g8.below sat.lt (Zag w1 1)) (sat.lt.mono (Zag w1 1).size) r gh;rw[Ydy hr] at h1;exact Hd (h1.mono fun x w' ⟨a,b⟩=>⟨a,Zhm (n:=1) b⟩)
 have gj:=Hd sat;have HR:=Hd hr;have HQ:=Hd hq;have gn:=Hd b1;have gf:=Hd g6;have gu:=Hd g4;have lmb:mb<w1.heap.size:=Zab c0;have lfb:w.heap.size+1<w1.heap.size:=Zab g1;clear sat g9 g8 hr hq b1 g6 g4 g7 g5 HW;go_upto_region 9 with fail;refine Ze4 (fun W:World=>Below w1.heap.size w1 W) 7 (by kernel_rfl) (Zag w1 1) ?_;refine Zbj 0 rfl rfl (by kernel_rfl) ?_;apply Exists.intro;refine⟨fun w' hw=>?_,?_⟩
 . have q1:=(hw.cell (p:=⟨mb,0,none⟩) lmb).trans c0;have q2:=(hw.cell (p:=⟨w.heap.size+1,0,none⟩) lfb).trans g1;go_simp;rfl
 simp only[Zai];refine Zbj 1 rfl rfl (by kernel_rfl) ?_;apply Exists.intro;refine⟨fun w' hw=>?_,?_⟩
 . have q1:=(hw.cell (p:=⟨mb,0,none⟩) lmb).trans c0;have q2:=(hw.cell (p:=⟨w.heap.size+1,0,none⟩) lfb).trans g1;go_simp;rfl
 simp only[Zai];refine Zbj 2 rfl rfl (by kernel_rfl) ?_;apply Exists.intro;refine⟨fun w' hw=>?_,?_⟩
 . have q1:=(hw.cell (p:=⟨mb,0,none⟩) lmb).trans c0;have q2:=(hw.cell (p:=⟨w.heap.size+1,0,none⟩) lfb).trans g1;go_simp;rfl
 simp only[Zai];refine Zbj 3 rfl rfl (by kernel_rfl) ?_;apply Exists.intro;refine⟨fun w' hw=>?_,?_⟩
 . have q1:=(hw.cell (p:=⟨mb,0,none⟩) lmb).trans c0;have q2:=(hw.cell (p:=⟨w.heap.size+1,0,none⟩) lfb).trans g1;go_simp;rfl
 simp only[Zai];refine Zbj 4 rfl rfl (by kernel_rfl) ?_;apply Exists.intro;refine⟨fun w' hw=>?_,?_⟩
 . have q1:=(hw.cell (p:=⟨mb,0,none⟩) lmb).trans c0;have q2:=(hw.cell (p:=⟨w.heap.size+1,0,none⟩) lfb).trans g1;go_simp;rfl
 simp only[Zai];refine Zd3 [5] (by kernel_rfl) (fun i hi hS o ho=>?_);simp only[Zls] at hi;subst hi;simp only[Zkg] at ho;subst ho;refine⟨rfl,?_⟩;refine Zdo (v:=.bool true) (R:=fun w'=>Below w1.heap.size w1 w') (by go_simp) gk.out ?_;rintro w2 g3;refine⟨g3,?_⟩;simp only[Zai];have gp:=(g3.cell (p:=⟨w.heap.size+1,0,none⟩) lfb).trans g1;have d0:=(g3.cell (p:=⟨mb,0,none⟩) lmb).trans c0;have g0:=Hd (gj.out.below g3);refine Zbj 6 rfl rfl (by kernel_rfl) ?_;apply Exists.intro;refine⟨fun w' hw=>?_,?_⟩
 . have q1:=(hw.cell (p:=⟨mb,0,none⟩) lmb).trans c0;have q2:=(hw.cell (p:=⟨w.heap.size+1,0,none⟩) lfb).trans g1;go_simp;rfl
 simp only[Zai];have gc:=g3;clear c0 c1 c2 c3 c4 c5 f0 g1 ga g3;refine Zjz (by kernel_rfl) ?_;have HG:=Hd (Znr gi.out g0.out.is g0.out.lt g0.out.ok r HR.out (by rw[g0.out.next];exact gd.out));have HB2:=Hd gc;clear gc;go_wp2_with fail;refine HG.out.mono ?_;rintro x w3 ⟨rfl,o3,m3,hg⟩;have g2:=Hd hg;have gd:Hid (m1.next=nx):=Hd g0.out.next
 clear hg;go_wp2_with fail
 go_ret2
 have go:=g0.out.lt;have gg:∀ c,C c->w3.heap[c]?=w1.heap[c]?:=fun c hc=>by
  have h1:=(ge.out c hc).1;have h2:=gf.out.size;have h3:=HB2.out.size;exact(g2.out.chg.alien (by omega) (gf.out.none' h1 (ge.out c hc).2)).trans (HB2.out.block c (by omega))
 refine⟨o3,m3,V1,gm.out _ _ gn.out gg,(gf.out.trans (ChgX.of_below HB2.out o1 C) (fun _ _ e=>e)).trans (ChgX.of_chg g2.out.chg C) (fun _ _ e=>e),.inl ⟨r,m1,by rw[<- gd.out];rfl,g0.out.gave g2.out,gl.out _ _ _ _ _ HQ.out gg,HR.out,g2.out.nodes,g2.out.vars,g2.out.level,g2.out.many,g2.out.waits,g2.out.calls⟩⟩
end Go.Proofs.YtkidaindpahefaaGreat
