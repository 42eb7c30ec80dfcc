/- Several texts in one file: contracts of the program's functions and what follows from them. -/
import Derived.Test.YtkidaindpahefaaGreatY2
import Derived.RangeFuncNested
import Derived.RangeFuncBound
import Derived.RangeFuncCalls
import Derived.RangeFuncLeaves
import Derived.RangeFuncWrites
import Derived.Shelf.Abstract
import Derived.Shelf.RegionOpen
import Derived.OwnWalkIn
import Derived.TacticsInMore
import Derived.LoopNIn
import Derived.LoopIn
import Derived.Recover
import Derived.Defers
set_option linter.unusedSimpArgs false
set_option linter.unusedVariables false
set_option linter.unusedSectionVars false
set_option linter.unnecessarySimpa false
set_option maxRecDepth 100000
set_option maxHeartbeats 8000000
namespace Go.Proofs.YtkidaindpahefaaGreat
open Go.Proofs.Tryz
open Go.RowKit
variable {K:Law}{M:Nat->Prop}{N:Nat->Option BN}{P:Program}{Q:Exit->Act->Wd->Prop}{R:Role->Prop}{S:Wd->Prop}{T:TypeId}{V V':Nat->BF}{W W' w w' w'' w0 wr:Wd}{a:Act}{args:Array Value}{b:BN}{base cap e f f0 g g0 gf h h0 hi i j k lo mb n n₀ sb t x xb:Nat}{bs:List Bool}{d d':Ae}{ev:Ev}{fl ys zs:List Int}{gs:List (List Int)}{last nt:Bool}{least op:Int}{m m':ManD}{o':Own}{ops:Array Oper}{pl:List Nat}{r:List (Option Oper×Bool)}{rest:List Oper}{row:Option Nat}{v v' z:Value}{ws:List Ev}{xs:List Value}
def atV (d:Ae)(f:Nat):Value :=
 match Aa d (f/2) with
 | some b=>.tuple #[.int .i64 b.v,.int .i64 (eflip b.lo (eneg f):Nat),.int .i64 (eflip b.hi (eneg f):Nat),.bool true]
 | none=>.tuple #[.int .i64 (-1),.int .i64 0,.int .i64 0,.bool false]
theorem FL {o:Own}(h:A2 o w sb d)(hlt:Ab o w)(hk:Ak d V)(f:Nat)(hf:okE (Aa d) f) :
 Cl 175 #[Pt sb,Iv f] w (Bl (atV d f) w):=by
 obtain⟨s,h⟩:=h;have lt:∀ e,okE (Aa d) e->e<eMax:=fun e he=>by have:=h.edge_lt he;unfold eMax;omega
 cases hb:Aa d (f/2) with
 | none =>
   have ht:d.pool.tk (enode f)=false:=Ie hb;have hz:d.pool.has (enode f)=rn0:=by unfold Ad.has;rw[ht];rfl
   refine(Kh h hlt f (lt f hf) (by rw[hz];decide) (by rw[hz];decide)).mono ?_;rintro x w' ⟨rfl,g1⟩;exact⟨by simp[ht,atV,hb],g1⟩
 | some b =>
   have hn:=BM hb;have ht:d.pool.tk (enode f)=true:=hn.1;have g0:bnOf (d.pool.has (enode f))=b:=hn.2.2;have e1:(d.pool.has (enode f)).v=b.v:=by rw[<- g0];rfl
   have e2:(d.pool.has (enode f)).lo=b.lo:=by rw[<- g0];rfl
   have e3:(d.pool.has (enode f)).hi=b.hi:=by rw[<- g0];rfl
   refine(Kh h hlt f (lt f hf) (by rw[e2];exact lt _ (hk.dag.okLo _ _ hb)) (by rw[e3];exact lt _ (hk.dag.okHi _ _ hb))).mono ?_;rintro x w' ⟨rfl,g1⟩;exact⟨by simp[ht,atV,hb,e1,e2,e3],g1⟩
theorem A2.below {o:Own}{w w':Wd}{sb:Nat}{d:Ae}(h:A2 o w sb d)(hlt:Ab o w)(hb:Bw w w'):A2 o w' sb d:=by
 obtain⟨s,h⟩:=h;exact⟨s,h.below hlt hb⟩
theorem P3 {F:Phi}{o:Own}(h:Ba F o w mb m)(hx:BO o w xb mb)(hk:Ak m.d V)(v:Int) :
 Cl 229 #[Pt xb,Iv v] w (Sm (Iv (C9 m.d v)) w):=by
 obtain⟨s,h⟩:=h;obtain⟨st,g0⟩:=h.store;obtain⟨c0,c1,c2,c3,c4,c5,f0⟩:=cells6 h.blk;have HL:=Hd (Ik g0 v (by rw[g0.len];have:=hk.small;omega));have cx:=hx.cell;clear h g0 hx hk
 go_enter func229,ntmps229
 go_wp2_with fail;refine HL.o.mono ?_;rintro x w' ⟨rfl,rfl⟩;go_wp2_with fail;go_ret;exact⟨rfl,rfl⟩
def cofs (d:Ae)(f:Nat)(v:Int):Nat×Nat :=
 match Aa d (f/2) with
 | some b=>if (b.v:Int)=v then (eflip b.lo (eneg f),eflip b.hi (eneg f)) else (f,f)
 | none=>(f,f)
theorem Kw {F:Phi}{o:Own}(h:Ba F o w mb m)(hlt:Ab o w)(hx:BO o w xb mb)(hk:Ak m.d V)(f:Nat)(hf:okE (Aa m.d) f)(v:Int) :
 Cl 170 #[Pt xb,Iv f,Iv v] w (Bl (.tuple #[Iv (cofs m.d f v).1,Iv (cofs m.d f v).2]) w):=by
 obtain⟨s,h⟩:=h;obtain⟨c0,c1,c2,c3,c4,c5,f0⟩:=cells6 h.blk;have HA:=Hd (FL h.store hlt hk f hf);have cx:=hx.cell;clear h hx hk hlt hf;unfold atV at HA;unfold cofs;cases hb:Aa m.d (f/2) with
 | none =>
   rw[hb] at HA;clear hb
   go_enter func170,ntmps170
   go_wp2_with fail;refine HA.o.mono ?_;rintro x w' ⟨rfl,hb⟩;have HB:=Hd hb;clear hb;go_wp2_with fail
   go_ret2
   exact⟨rfl,HB.o⟩
 | some b =>
   rw[hb] at HA;clear hb
   by_cases e:(b.v:Int)=v
   ·subst e;have HE:Hq ((if (b.v:Int)=b.v then (eflip b.lo (eneg f),eflip b.hi (eneg f)) else (f,f))=(eflip b.lo (eneg f),eflip b.hi (eneg f))):=by show _=_;rw[Vs rfl]
    go_enter func170,ntmps170
    go_wp2_with fail;refine HA.o.mono ?_;rintro x w' ⟨rfl,hb⟩;have HB:=Hd hb;clear hb;go_wp2_with fail
    go_ret2
    exact⟨by first|rfl|(rw[HE.o];rfl),HB.o⟩
   ·have HE:Hq ((if (b.v:Int)=v then (eflip b.lo (eneg f),eflip b.hi (eneg f)) else (f,f))=(f,f)):=by show _=_;rw[Vn e]
    have H1:((b.v:Int) == v)=false:=by simpa using e
    go_enter func170,ntmps170
    go_wp2_with fail;refine HA.o.mono ?_;rintro x w' ⟨rfl,hb⟩;have HB:=Hd hb;clear hb;go_wp2_with fail
    go_ret2
    exact⟨by first|rfl|(rw[HE.o];rfl),HB.o⟩
def TopS (d:Ae)(zs:List Nat)(top least:Int):Prop :=
 (top = -1/\least=0/\∀ e∈zs,Aa d (e/2)=none) \/
 ∃ v:Nat,top=v/\least=(levN d v:Nat)/\v<d.vars.length/\(∃ e∈zs,∃ b,Aa d (e/2)=some b/\b.v=v)/\∀ e∈zs,levN d v<=lvE d.vars.length (levN d) (Aa d) e
theorem TopS.none {d:Ae}{zs:List Nat}{top least:Int}{e:Nat}(h:TopS d zs top least)(hl:∀ v,v<d.vars.length->levN d v<d.vars.length)(he:Aa d (e/2)=none):TopS d (zs++[e]) top least:=by
 rcases h with ⟨h1,h2,h3⟩|⟨v,h1,h2,h3,⟨e0,g0,hb⟩,h5⟩
 ·refine .inl ⟨h1,h2,fun x hx=>?_⟩;rcases Vy.1 hx with hx|hx
  . exact h3 x hx
  . simp at hx;subst hx;exact he
 ·refine .inr ⟨v,h1,h2,h3,⟨e0,by simp[g0],hb⟩,fun x hx=>?_⟩;rcases Vy.1 hx with hx|hx
  . exact h5 x hx
  . simp at hx;subst hx;unfold lvE;rw[he];exact Nat.le_of_lt (hl v h3)
theorem TopS.keep {zs:List Nat}{v:Nat}(h:TopS d zs v least)(he:Aa d (e/2)=some b)(hle:¬ ((levN d b.v:Nat):Int)<least):TopS d (zs++[e]) v least:=by
 rcases h with ⟨h1,h2,h3⟩|⟨u,h1,h2,h3,⟨e0,g0,hb⟩,h5⟩
 . omega
 ·obtain rfl:v=u:=by omega
  refine .inr ⟨v,rfl,h2,h3,⟨e0,by simp[g0],hb⟩,fun x hx=>?_⟩;rcases Vy.1 hx with hx|hx
  . exact h5 x hx
  . simp at hx;subst hx;unfold lvE;rw[he];dsimp only;omega
theorem TopS.take {zs:List Nat}{top:Int}(h:TopS d zs top least)(hv:b.v<d.vars.length)(hl:∀ v,v<d.vars.length->levN d v<d.vars.length)(he:Aa d (e/2)=some b)(hle:top<0\/((levN d b.v:Nat):Int)<least):TopS d (zs++[e]) b.v (levN d b.v:Nat):=by
 refine .inr ⟨b.v,rfl,rfl,hv,⟨e,by simp,b,he,rfl⟩,fun x hx=>?_⟩;rcases Vy.1 hx with hx|hx
 ·rcases h with ⟨h1,h2,h3⟩|⟨u,h1,h2,h3,⟨e0,g0,hb⟩,h5⟩
  . unfold lvE;rw[h3 x hx];exact Nat.le_of_lt (hl _ hv)
  . have:=h5 x hx;omega
 . simp at hx;subst hx;unfold lvE;rw[he];exact Vo _
theorem Kx {v:Nat}(h:v<d.level.length):C9 d v=(levN d v:Nat):=by unfold C9;rw[Vs ⟨by omega,by omega⟩];rfl
abbrev Vw:=@List.length_map
abbrev Vv:=@List.getElem_mem
abbrev VI:=@List.take_length
theorem Ky {F:Phi}{o:Own}(h:Ba F o w mb m)(hlt:Ab o w)(hx:BO o w xb mb)(hk:Ak m.d V)(zs:List Nat)(hz:∀ e∈zs,okE (Aa m.d) e)(a:Option Addr)(c:Nat)(hzs:Au w a (zs.map Int.ofNat)) :
 Cl 169 #[Pt xb,.slice a zs.length c] w fun x w'=>∃ top least,x=.returned (Iv top)/\TopS m.d zs top least/\Bw w w':=by
 obtain⟨s,h⟩:=h;obtain⟨st,gd⟩:=h.store;have gi:m.d.level.length=m.d.vars.length:=gd.len;have HM:=Hd h;have HX:=Hd hx;have g5:=Hd hlt;have HK:=Hd hk;have HZ:=Hd hz;have gl:=Hd hzs;have gj:=hzs.len;simp only[Vw] at gj;clear h gd hx hlt hk hz hzs
 go_enter func169,ntmps169
 go_wp2_with fail
 go_loopw [5,6,15] (fun s5 s6 i wr=>∃ (k:Nat) (top least:Int),k<=zs.length/\i=Iv k/\s5=Iv top/\s6=Iv least/\TopS m.d (zs.take k) top least/\Bw w wr) (fun _ _ i _=>zs.length-(intOf i).toNat)
 case atStart=>exact⟨0,-1,0,by omega,rfl,rfl,rfl,.inl ⟨rfl,rfl,by simp⟩,VA _ _⟩
 case round =>
  obtain⟨k,top,least,hk,rfl,rfl,rfl,hT,hB⟩:=hrel
  by_cases g2:k<zs.length
  ·obtain⟨b0,off,ha,g3⟩:=(gl.o.below hB).cells k (by simpa using g2);subst ha;have he:at0 (zs.map Int.ofNat) k=(zs[k]:Int):=by rw[Az (by simpa using g2)];simp
   rw[he] at g3;have g8:zs[k]∈zs:=Vv g2;have g6:zs.take (k+1)=zs.take k++[zs[k]]:=by rw[List.take_add_one,VD g2];rfl
   have g7:=HZ.o _ g8;obtain⟨f,hf⟩:=Ex (zs[k]);rw[<- hf] at g3 g7 g6;obtain⟨c0,c1,c2,c3,c4,c5,f0⟩:=cells6 ((HM.o.below g5.o hB).blk);have cx:wr.cell? (Av xb)=_:=(hB.cell (p:=Av xb) (Ah HX.o.cell)).trans HX.o.cell;have HA:=Hd (FL ((HM.o.below g5.o hB).store) (g5.o.mono hB.size) HK.o f g7);have g4:=Hd g6;have HT:=Hd hT;have HB:=Hd hB;have gn:(k:Int)<zs.length:=by omega
   clear hf g8 he hT hB g7 g6;unfold atV at HA;have ga:Hq (∀ v,v<m.d.vars.length->levN m.d v<m.d.vars.length):=Hd HK.o.dag.lt;have gg:=Hd (fun W hb v=>P3 ⟨s,HM.o.below g5.o hb⟩ (o:=o) (w:=W) (xb:=xb) (mb:=mb) ⟨(hb.cell (p:=Av xb) (Ah HX.o.cell)).trans HX.o.cell,HX.o.own⟩ HK.o v);cases hb:Aa m.d (f/2) with
   | none =>
     rw[hb] at HA;have HN:=Hd hb;clear hb;go_wp2_with fail;refine HA.o.mono ?_;rintro x w' ⟨rfl,g0⟩;have HB2:=Hd (HB.o.trans (g0.mono HB.o.size));clear g0;go_wp2_with fail;go_roundw
     case rel=>exact⟨k+1,top,least,by omega,by simp,rfl,rfl,by rw[g4.o];exact HT.o.none ga.o HN.o,HB2.o⟩
     case measure=>simp[intOf];omega
   | some b =>
     rw[hb] at HA;have HN:=Hd hb;have g9:=HK.o.dag.var _ _ hb;have ge:C9 m.d b.v=(levN m.d b.v:Nat):=Kx (by rw[gi];exact g9);have gh:=Hd g9;have g1:=Hd (fun W hb=>gg.o W hb b.v);rw[ge] at g1;clear hb g9 ge gg
     by_cases ht:top<0
     ·have gm:=Hd ht;go_wp2_with fail;refine HA.o.mono ?_;rintro x w' ⟨rfl,g0⟩;have HB2:=Hd (HB.o.trans (g0.mono HB.o.size));clear g0;go_wp2_with fail;refine(g1.o _ HB2.o).mono ?_;rintro x w'' ⟨rfl,rfl⟩;go_wp2_with fail;go_roundw
      case rel=>exact⟨k+1,_,_,by omega,by simp,rfl,rfl,by rw[g4.o];exact HT.o.take gh.o ga.o HN.o (.inl gm.o),HB2.o⟩
      case measure=>simp[intOf];omega
     ·by_cases gf:((levN m.d b.v:Nat):Int)<least
      ·have gc:=Hd gf;go_wp2_with fail;refine HA.o.mono ?_;rintro x w' ⟨rfl,g0⟩;have HB2:=Hd (HB.o.trans (g0.mono HB.o.size));clear g0;go_wp2_with fail;refine(g1.o _ HB2.o).mono ?_;rintro x w'' ⟨rfl,rfl⟩;go_wp2_with fail;refine(g1.o _ HB2.o).mono ?_;rintro x w'' ⟨rfl,rfl⟩;go_wp2_with fail;go_roundw
       case rel=>exact⟨k+1,_,_,by omega,by simp,rfl,rfl,by rw[g4.o];exact HT.o.take gh.o ga.o HN.o (.inr gc.o),HB2.o⟩
       case measure=>simp[intOf];omega
      ·obtain⟨tn,gk⟩:∃ tn:Nat,top=tn:=⟨top.toNat,by omega⟩;subst gk;have gc:=Hd gf;go_wp2_with fail;refine HA.o.mono ?_;rintro x w' ⟨rfl,g0⟩;have HB2:=Hd (HB.o.trans (g0.mono HB.o.size));clear g0;go_wp2_with fail;refine(g1.o _ HB2.o).mono ?_;rintro x w'' ⟨rfl,rfl⟩;go_wp2_with fail;go_roundw
       case rel=>exact⟨k+1,_,_,by omega,by simp,rfl,rfl,by rw[g4.o];exact HT.o.keep HN.o (by have:=gc.o;omega),HB2.o⟩
       case measure=>simp[intOf];omega
  ·obtain rfl:k=zs.length:=by omega
   have HT:=Hd hT;have HB:=Hd hB;clear hT hB;go_wp2_with fail;go_ret;exact⟨top,least,rfl,by have:=HT.o;rwa [VI] at this,HB.o⟩
def AV (er:Int)(event:Bool)(ev:Ev):Ending:=.panicked [{ v:=.iface 235 (.agg #[Iv er,.bool event,Iv ev.after,Iv ev.kind,Iv ev.level]),recovered:=false }]
def ev0:Ev:=⟨0,0,0⟩
def BP (c:Int):Int:=wrap64 (c+1)
def D3 (d:Ae)(v:Int)(lo hi:Nat)(er:Int):Prop :=
 (er=9/\¬ (0<=v/\v<d.vars.length)) \/
 (er=10/\0<=v/\v<d.vars.length/\(lvE d.vars.length (levN d) (Aa d) lo<=levN d v.toNat\/lvE d.vars.length (levN d) (Aa d) hi<=levN d v.toNat)) \/
 (er=7/\d.pool.many=d.pool.room)
def FM (K:Law)(o:Own)(w:Wd)(mb:Nat)(m:ManD)(V:Nat->BF)(v:Int)(lo hi:Nat)(e:Ending)(w':Wd):Prop :=
 ∃ o' m' V',Step K o w mb m V o' w' m' V' /\
  ((∃ ev,m.waits=ev::m'.waits/\ev.after<=BP m.calls/\m'.calls=0/\m'.d=m.d/\V'=V/\e=AV 0 true ev) \/
   (m'.waits=m.waits/\m'.calls=BP m.calls/\(∀ ev ws,m.waits=ev::ws->BP m.calls<ev.after) /\
    ((∃ er,D3 m.d v lo hi er/\m'.d=m.d/\V'=V/\e=AV er false ev0) \/
     (0<=v/\v<m.d.vars.length/\∃ r:Nat,e=.returned (Iv r)/\okE (Aa m'.d) r/\ef V' r=iteF v.toNat (ef V hi) (ef V lo) /\
      levN m.d v.toNat<=lvE m.d.vars.length (levN m'.d) (Aa m'.d) r/\m'.d.pool.many<=m.d.pool.many+1))))
theorem Chg.ofDrewN {o:Own}(h:Chg R o o' (w.drewN n) w'):Chg R o o' w w':=⟨h.os,h.tape,h.output,h.size,h.block,h.ext,h.new⟩
theorem DO (h:Below (w.drewN n).heap.size (w.drewN n) w'):Bw w w':=⟨h.os,h.tape,h.output,h.size,h.block⟩
theorem Chg.any {o:Own}(h:Chg R o o' w w'):Chg (fun _=>True) o o' w w':=h.mono fun _ _=>trivial
theorem P4 {o:Own}(hK:Bb K)(h:Ba (K m.d V) o w mb m)(hlt:Ab o w)(hx:BO o w xb mb)(hk:Ak m.d V)(v:Int)(lo hi:Nat)(hlo:okE (Aa m.d) lo)(hhi:okE (Aa m.d) hi)
 (hdue:∀ ev ws,m.waits=ev::ws->BP m.calls<ev.after) :
 Cl 145 #[Pt xb,Iv v,Iv lo,Iv hi] w (FM K o w mb m V v lo hi):=by
 obtain⟨s,h⟩:=h;obtain⟨c0,c1,c2,c3,c4,c5,f0⟩:=cells6 h.blk;have cx:=hx.cell;obtain⟨W,hW⟩:=Ex (w.setCell (Aw mb 5) (Iv (BP m.calls)));have g2:A7 (K m.d V) o W mb { m with calls:=BP m.calls } s:=by rw[hW];exact h.field rfl rfl rfl rfl rfl h.waits rfl
 have g5:Chg (fun _=>True) o o w W:=by rw[hW];exact(Chg.refl _ o w).setCell (p:=Aw mb 5) h.own trivial _
 have g4:Ab o W:=hlt.mono g5.size;have gg:=hx.chg g5;obtain⟨d0,d1,d2,d3,d4,d5,g0⟩:=cells6 g2.blk;have dx:=gg.cell;obtain⟨aw,cw,g9,ga⟩:=g2.waits.slice;have gj:(m.waits=[]/\True)\/∃ ev ws,m.waits=ev::ws:=by cases m.waits with
  | nil=>exact .inl ⟨rfl,trivial⟩
  | cons ev ws=>exact .inr ⟨ev,ws,rfl⟩
 have HK:=Hd hK;have ge:=Hd g5;have g7:=Hd g4;have g6:=Hd g2;have gd:=Hd hk;have gh:Hq (∀ n,Cl 199 #[Pt s.sb,Iv v,Iv lo,Iv hi] (W.drewN n) (Il o (W.drewN n) s.sb m.d V v lo hi)) :=
  Hd fun n=>Pv (g2.store.below g4 (An W n)) (g4.mono (An W n).size) hk v lo hi hlo hhi
 have g1:=Hd hdue;have HW:Hq (w.setCell (Aw mb 5) (Iv (wrap64 (m.calls+1)))=W):=Hd hW.symm;have gi:5≠4:=by decide
 clear h hlt hx hk hlo hhi g2 g5 g4 gg hW hdue
 go_enter func145,ntmps145
 go_upto_region 3 with fail;rw[HW.o];obtain⟨cu,g3⟩:=Ex (wrap64 (m.calls+1));have d5':W.cell? (Aw mb 5)=some (Iv cu):=by rw[g3];exact d5
 have gl:Hq (BP m.calls=cu):=Hd g3.symm;rw[<- g3];clear c0 c1 c2 c3 c4 c5 f0 cx gi d5 g3;have STE:Hq (∀ w',Bw W w'->Step K o w mb m V o w' { m with calls:=BP m.calls } V) :=
  Hd fun w' hb=>⟨⟨s,g6.o.below g7.o hb⟩,g7.o.mono hb.size,ge.o.trans (Chg.of_below hb _ _),gd.o,Ext.refl _ _,rfl,rfl⟩
 rcases gj with ⟨hw0,_⟩|⟨ev,ws,g8⟩
 ·rw[g9] at d4;dsimp only at d4;rw[hw0] at d4;have d4':W.cell? (Aw mb 4)=some (.slice aw 0 cw):=d4;clear d4 hw0 g9 ga
  go_quiet (fail)
  go_wp2_with fail;refine(gh.o nq).mono ?_;rintro x w' (⟨q1,rfl,q2⟩|⟨q1,q2,q3,rfl,q4⟩|⟨q1,rfl,q2⟩|⟨q1,q2,r,d',V',o',rfl,q4,q5,q6,q7,q8,q9,q10,q11,q12⟩)
  . have H1:=Hd (STE.o w' (DO q2));have H2:Hq (D3 m.d v lo hi 9):=Hd (.inl ⟨rfl,q1⟩);clear q1 q2;go_wp2_with fail;refine⟨rfl,o,_,V,H1.o,.inr ⟨rfl,rfl,g1.o,.inl ⟨9,H2.o,rfl,rfl,rfl⟩⟩⟩
  . have H1:=Hd (STE.o w' (DO q4));have H2:Hq (D3 m.d v lo hi 10):=Hd (.inr (.inl ⟨rfl,q1,q2,q3⟩));clear q1 q2 q3 q4;go_wp2_with fail;refine⟨rfl,o,_,V,H1.o,.inr ⟨rfl,rfl,g1.o,.inl ⟨10,H2.o,rfl,rfl,rfl⟩⟩⟩
  . have H1:=Hd (STE.o w' (DO q2));have H2:Hq (D3 m.d v lo hi 7):=Hd (.inr (.inr ⟨rfl,q1⟩));clear q1 q2;go_wp2_with fail;refine⟨rfl,o,_,V,H1.o,.inr ⟨rfl,rfl,g1.o,.inl ⟨7,H2.o,rfl,rfl,rfl⟩⟩⟩
  . have H1:Hq (Step K o w mb m V o' w' { m with calls:=BP m.calls,d:=d' } V'):=Hd ⟨⟨s,(g6.o.setStore g7.o q4 q12.ofDrewN).mono fun op a b c r h=>HK.o.ext _ _ _ _ _ _ _ _ _ gd.o q6 q7 h⟩,q5,ge.o.trans q12.ofDrewN.any,q6,q7,rfl,rfl⟩;have H2:Hq (_/\_/\_/\_/\_/\_):=Hd ⟨q1,q2,q8,q9,q10,q11⟩;clear q1 q2 q4 q5 q6 q7 q8 q9 q10 q11 q12;go_wp2_with fail;go_ret;obtain⟨a1,a2,a3,a4,a5,a6⟩:=H2.o;exact⟨o',_,V',H1.o,.inr ⟨rfl,rfl,g1.o,.inr ⟨a1,a2,r,rfl,a3,a4,a5,a6⟩⟩⟩
 ·have gc:=g6.o.waits;have e0:({ m with calls:=BP m.calls }:ManD).waits=ev::ws:=g8;rw[e0] at gc;obtain⟨g,off,cap,gf,gk,gm,gn,k0,k1,k2,_⟩:=gc.first
  have hlt:¬ ev.after<=cu:=by have:=g1.o ev ws g8;rw[gl.o] at this;omega
  rw[gf] at d4;have hp:(0:Int)<((ws.length+1:Nat):Int):=by omega
  clear g9 gf ga gc e0 g8 gk
  go_quiet (fail)
  go_wp2_with fail;refine(gh.o nq).mono ?_;rintro x w' (⟨q1,rfl,q2⟩|⟨q1,q2,q3,rfl,q4⟩|⟨q1,rfl,q2⟩|⟨q1,q2,r,d',V',o',rfl,q4,q5,q6,q7,q8,q9,q10,q11,q12⟩)
  . have H1:=Hd (STE.o w' (DO q2));have H2:Hq (D3 m.d v lo hi 9):=Hd (.inl ⟨rfl,q1⟩);clear q1 q2;go_wp2_with fail;refine⟨rfl,o,_,V,H1.o,.inr ⟨rfl,rfl,g1.o,.inl ⟨9,H2.o,rfl,rfl,rfl⟩⟩⟩
  . have H1:=Hd (STE.o w' (DO q4));have H2:Hq (D3 m.d v lo hi 10):=Hd (.inr (.inl ⟨rfl,q1,q2,q3⟩));clear q1 q2 q3 q4;go_wp2_with fail;refine⟨rfl,o,_,V,H1.o,.inr ⟨rfl,rfl,g1.o,.inl ⟨10,H2.o,rfl,rfl,rfl⟩⟩⟩
  . have H1:=Hd (STE.o w' (DO q2));have H2:Hq (D3 m.d v lo hi 7):=Hd (.inr (.inr ⟨rfl,q1⟩));clear q1 q2;go_wp2_with fail;refine⟨rfl,o,_,V,H1.o,.inr ⟨rfl,rfl,g1.o,.inl ⟨7,H2.o,rfl,rfl,rfl⟩⟩⟩
  . have H1:Hq (Step K o w mb m V o' w' { m with calls:=BP m.calls,d:=d' } V'):=Hd ⟨⟨s,(g6.o.setStore g7.o q4 q12.ofDrewN).mono fun op a b c r h=>HK.o.ext _ _ _ _ _ _ _ _ _ gd.o q6 q7 h⟩,q5,ge.o.trans q12.ofDrewN.any,q6,q7,rfl,rfl⟩;have H2:Hq (_/\_/\_/\_/\_/\_):=Hd ⟨q1,q2,q8,q9,q10,q11⟩;clear q1 q2 q4 q5 q6 q7 q8 q9 q10 q11 q12;go_wp2_with fail;go_ret;obtain⟨a1,a2,a3,a4,a5,a6⟩:=H2.o;exact⟨o',_,V',H1.o,.inr ⟨rfl,rfl,g1.o,.inr ⟨a1,a2,r,rfl,a3,a4,a5,a6⟩⟩⟩
theorem P5 {o:Own}(h:Ba (K m.d V) o w mb m)(hlt:Ab o w)(hx:BO o w xb mb)(hk:Ak m.d V)(v:Int)(lo hi:Nat)
 (hw1:m.waits=ev::ws) (hdue:ev.after<=BP m.calls) :
 Cl 145 #[Pt xb,Iv v,Iv lo,Iv hi] w (FM K o w mb m V v lo hi):=by
 obtain⟨s,h⟩:=h;obtain⟨c0,c1,c2,c3,c4,c5,f0⟩:=cells6 h.blk;have cx:=hx.cell;obtain⟨W,hW⟩:=Ex (w.setCell (Aw mb 5) (Iv (BP m.calls)));have ge:A7 (K m.d V) o W mb { m with calls:=BP m.calls } s:=by rw[hW];exact h.field rfl rfl rfl rfl rfl h.waits rfl
 have gj:Chg (fun _=>True) o o w W:=by rw[hW];exact(Chg.refl _ o w).setCell (p:=Aw mb 5) h.own trivial _
 have gv:Ab o W:=hlt.mono gj.size;obtain⟨d0,d1,d2,d3,d4,d5,g0⟩:=cells6 ge.blk;have gg:mb<W.heap.size:=Ah d0;have gh:=ge.waits;have e0:({ m with calls:=BP m.calls }:ManD).waits=ev::ws:=hw1;rw[e0] at gh;obtain⟨g,off,cap,gp,gB,gE,gG,k0,k1,k2,g8⟩:=gh.first
 rw[gp] at d4;have hp:(0:Int)<((ws.length+1:Nat):Int):=by omega
 have gA:=Hd gj;have gf:=Hd gv;have gz:=Hd ge;have gD:=Hd hk;have gy:=Hd g8;have HW1:=Hd hw1;have HD:=Hd hdue;have HW:Hq (w.setCell (Aw mb 5) (Iv (wrap64 (m.calls+1)))=W):=Hd hW.symm;clear h hlt hx hk ge gj gv hW g8 gh e0 gp gB hw1
 go_enter func145,ntmps145
 go_upto_region 3 with fail;rw[HW.o];obtain⟨cu,ga⟩:=Ex (wrap64 (m.calls+1));have d5':W.cell? (Aw mb 5)=some (Iv cu):=by rw[ga];exact d5
 have gF:ev.after<=cu:=by rw[ga];exact hdue
 rw[<- ga];clear c0 c1 c2 c3 c4 c5 f0 cx d5 ga hdue
 go_quiet (fail)
 obtain⟨W2,gi⟩:=Ex (W.drewN nq);have g1:Bw W W2:=by rw[gi];exact An W nq
 rw[<- gi];have g6:=Hd (gz.o.below gf.o g1);have g3:=Hd (gf.o.mono g1.size);have go:=Hd (gA.o.trans (Chg.of_below g1 _ _));have d4':W2.cell? (Aw mb 4)=_:=(g1.cell (p:=Aw mb 4) gg).trans d4;have g9:g<W.heap.size:=Ah k0;have l0:W2.cell? (Aw g off)=_:=(g1.cell (p:=Aw g off) g9).trans k0;have l1:W2.cell? (Aw g (off+1))=_:=(g1.cell (p:=(Aw g (off+1))) g9).trans k1;have l2:W2.cell? (Aw g (off+2))=_:=(g1.cell (p:=(Aw g (off+2))) g9).trans k2;have gl:=Hd (gy.o.keep (w':=W2) (o':=o) (fun q hq=>g1.block q (gf.o q _ hq)) (fun _ h=>h));clear gi k0 k1 k2 d0 d1 d2 d3 d4 d5' g0 g1 gz gf gA gy HW;obtain⟨d0,d1,d2,d3,_,d5,g0⟩:=cells6 g6.o.blk;have gg:mb<W2.heap.size:=Ah d0;have g9:g<W2.heap.size:=Ah l0;go_upto_region 5 with fail;obtain⟨bx,gc⟩:=Ex W2.heap.size;obtain⟨W3,gd⟩:=Ex (W2.alloc (.cells #[Iv ev.after,Iv ev.kind,Iv ev.level] 77));have g4:Bw W2 W3:=by rw[gd];exact Af W2 _
 have gt:o bx=none:=by rw[gc];exact g3.o.none (Vo _)
 have x3:W3.heap[bx]?=some (.cells #[Iv ev.after,Iv ev.kind,Iv ev.level] 77 (0,0)):=by rw[gd,gc];exact Vq W2 _
 rw[<- gd,<- gc];have g2:=Hd (g6.o.below g3.o g4);have gm:=Hd (g3.o.mono g4.size);have gn:=Hd (go.o.trans (Chg.of_below g4 _ _));have d4:W3.cell? (Aw mb 4)=_:=(g4.cell (p:=Aw mb 4) gg).trans d4';have gk:=Hd (gl.o.keep (w':=W3) (o':=o) (fun q hq=>g4.block q (g3.o q _ hq)) (fun _ h=>h));clear gd gc l0 l1 l2 d0 d1 d2 d3 d4' d5 g0 g4 g6 g3 go gl;obtain⟨d0,d1,d2,d3,_,d5,g0⟩:=cells6 g2.o.blk;have gr:bx≠mb:=by rintro rfl;rw[g2.o.own] at gt;cases gt
 obtain⟨W4,g5⟩:=Ex ((W3.setCell (Aw mb 4) (.slice (if cap=1 then some (Aw g off) else some (Aw g (off+3))) ws.length (cap-1))).setCell (Aw mb 5) (Iv 0));have gu:A7 (K m.d V) o W4 mb { m with calls:=0,waits:=ws } { s with vw:=.slice (if cap=1 then some (Aw g off) else some (Aw g (off+3))) ws.length (cap-1) }:=by
  have a1:=g2.o.field (k:=4) (u:=.slice (if cap=1 then some (Aw g off) else some (Aw g (off+3))) ws.length (cap-1)) (m':={ m with calls:=BP m.calls,waits:=ws }) (s':={ s with vw:=.slice (if cap=1 then some (Aw g off) else some (Aw g (off+3))) ws.length (cap-1) }) rfl rfl rfl rfl rfl gk.o rfl;have a2:=a1.field (k:=5) (u:=Iv 0) (m':={ m with calls:=0,waits:=ws }) (s':={ s with vw:=.slice (if cap=1 then some (Aw g off) else some (Aw g (off+3))) ws.length (cap-1) }) rfl rfl rfl rfl rfl a1.waits rfl;rw[g5];exact a2
 have gw:Chg (fun _=>True) o o w W4:=by rw[g5];exact(gn.o.setCell (p:=Aw mb 4) g2.o.own trivial _).setCell (p:=Aw mb 5) g2.o.own trivial _
 have g7:W4.heap[bx]?=some (.cells #[Iv ev.after,Iv ev.kind,Iv ev.level] 77 (0,0)):=by rw[g5];exact(A0 gr _).trans ((A0 gr _).trans x3)
 have gq:Step K o w mb m V o W4 { m with calls:=0,waits:=ws } V:=⟨⟨_,gu⟩,gm.o.mono (by rw[g5];simp[World.setCell]),gw,gD.o,Ext.refl _ _,rfl,rfl⟩;have gC:=Hd gq;have y0:W4.cell? (Av bx)=some (Iv ev.after):=by rw[Vp W4 bx 0 _ _ _ g7];rfl
 have y1:W4.cell? (Aw bx 1)=some (Iv ev.kind):=by rw[Vp W4 bx 1 _ _ _ g7];rfl
 have y2:W4.cell? (Aw bx 2)=some (Iv ev.level):=by rw[Vp W4 bx 2 _ _ _ g7];rfl
 have gx:=Hd g5;clear gu gw g7 gq g5;go_upto_region 6 with fail;rw[<- gx.o];clear gx d0 d1 d2 d3 d4 d5 g0 x3 g2 gm gn gk;go_wp2_with fail
 all_goals exact⟨rfl,o,_,V,gC.o,.inl ⟨ev,HW1.o,HD.o,rfl,rfl,rfl,rfl⟩⟩
theorem Kz {o:Own}(hK:Bb K)(h:Ba (K m.d V) o w mb m)(hlt:Ab o w)(hx:BO o w xb mb)(hk:Ak m.d V)(v:Int)(lo hi:Nat)(hlo:okE (Aa m.d) lo)(hhi:okE (Aa m.d) hi) :
 Cl 145 #[Pt xb,Iv v,Iv lo,Iv hi] w (FM K o w mb m V v lo hi):=by
 by_cases hd:∀ ev ws,m.waits=ev::ws->BP m.calls<ev.after
 . exact P4 hK h hlt hx hk v lo hi hlo hhi hd
 ·cases hw:m.waits with
  | nil=>exact absurd (fun ev ws e=>by rw[hw] at e;cases e) hd
  | cons ev ws=>exact P5 h hlt hx hk v lo hi hw (Int.not_lt.1 fun hl=>hd fun ev' ws' e=>by rw[hw] at e;cases e;exact hl)
section
theorem Im (hk:Ak d V)(h:e/2=0):lvE d.vars.length (levN d) (Aa d) e=d.vars.length:=by unfold lvE;rw[h,hk.dag.none0]
theorem FN (h:e/2=f/2):lvE d.vars.length (levN d) (Aa d) e=lvE d.vars.length (levN d) (Aa d) f:=by unfold lvE;rw[h]
theorem Io (h:e/2=f/2)(hf:okE N f):okE N e:=by unfold okE;rw[h];exact hf
theorem Cf (hk:Ak d V){v:Nat}(hf:okE (Aa d) f)(hv:v<d.vars.length)(hl:levN d v<=lvE d.vars.length (levN d) (Aa d) f) :
 okE (Aa d) (cofs d f v).1/\okE (Aa d) (cofs d f v).2/\levN d v<lvE d.vars.length (levN d) (Aa d) (cofs d f v).1/\levN d v<lvE d.vars.length (levN d) (Aa d) (cofs d f v).2 /\
  ∀ ρ,ef V f ρ=if ρ v then ef V (cofs d f v).2 ρ else ef V (cofs d f v).1 ρ:=by
 unfold cofs;cases hb:Aa d (f/2) with
 | none =>
   have g0:levN d v<lvE d.vars.length (levN d) (Aa d) f:=by unfold lvE;rw[hb];exact hk.dag.lt v hv
   exact⟨hf,hf,g0,g0,fun ρ=>by simp⟩
 | some b =>
   by_cases e:(b.v:Int)=v
   ·have e':b.v=v:=by omega
    simp only[Vs e];refine⟨Dq (hk.dag.okLo _ _ hb),Dq (hk.dag.okHi _ _ hb),?_,?_,fun ρ=>?_⟩
    . rw[D2,<- e'];exact hk.dag.lvLo _ _ hb
    . rw[D2,<- e'];exact hk.dag.lvHi _ _ hb
    . rw[C2,C2];have h1:=hk.dag.eqn _ _ hb;unfold eneg;have h2:ef V f ρ=((f%2 == 1) != V (f/2) ρ):=rfl;rw[h2,h1];simp only[iteF,e'];split<;>rfl
   ·simp only[Vn e];have g0:levN d v<lvE d.vars.length (levN d) (Aa d) f:=by
     rcases Nat.lt_or_eq_of_le hl with h|h
     . exact h
     . exfalso;unfold lvE at h;rw[hb] at h;have:=hk.dag.inj _ _ hv (hk.dag.var _ _ hb) h;exact e (by omega)
    exact⟨hf,hf,g0,g0,fun ρ=>by simp⟩
theorem P6 (hk:Ak d V)(f g h:Nat):minL d f g h<=d.vars.length:=by unfold minL;have:=hk.dag.lvE_le f;omega
theorem Ip (h1:k<=lvE d.vars.length (levN d) (Aa d) f)(h2:k<=lvE d.vars.length (levN d) (Aa d) g)(h3:k<=lvE d.vars.length (levN d) (Aa d) h):k<=minL d f g h:=by unfold minL;omega
theorem BU.ok (hk:Ak d V)(hi:BU e f g h)(hf:okE (Aa d) f)(hg:okE (Aa d) g)(hh:okE (Aa d) h) :
 okE (Aa d) e/\minL d f g h<=lvE d.vars.length (levN d) (Aa d) e:=by
 rcases hi with e0|e0|e0|e0
 . exact⟨.inl e0,by rw[Im hk e0];exact P6 hk f g h⟩
 . exact⟨Io e0 hf,by rw[FN e0];unfold minL;omega⟩
 . exact⟨Io e0 hg,by rw[FN e0];unfold minL;omega⟩
 . exact⟨Io e0 hh,by rw[FN e0];unfold minL;omega⟩
structure IteS (d:Ae)(V:Nat->BF)(f0 g0 h0:Nat)(f g h:Nat)(nt:Bool):Prop where
 okF:okE (Aa d) f
 okG:okE (Aa d) g
 okH:okE (Aa d) h
 lev:minL d f0 g0 h0<=minL d f g h
 val:∀ ρ,iteB (ef V f0 ρ) (ef V g0 ρ) (ef V h0 ρ)=(nt != iteB (ef V f ρ) (ef V g ρ) (ef V h ρ))
theorem IteS.start (hf:okE (Aa d) f)(hg:okE (Aa d) g)(hh:okE (Aa d) h):IteS d V f g h f g h false:=⟨hf,hg,hh,Vo _,fun ρ=>by simp⟩
theorem IteS.next (hk:Ak d V)(s:IteS d V f0 g0 h0 f g h nt)(hd:(iteR f g h).dn=false) :
 IteS d V f0 g0 h0 (iteR f g h).a (iteR f g h).b (iteR f g h).c (nt != (iteR f g h).n)/\(iteR f g h).a/2≠0:=by
 obtain⟨ha,hb,hc,hn,hv⟩:=P2 hd;obtain⟨a1,a2⟩:=ha.ok hk s.okF s.okG s.okH;obtain⟨b1,b2⟩:=hb.ok hk s.okF s.okG s.okH;obtain⟨c1,c2⟩:=hc.ok hk s.okF s.okG s.okH;refine⟨⟨a1,b1,c1,Vx s.lev (Ip a2 b2 c2),fun ρ=>?_⟩,hn⟩;rw[s.val,hv hk.dag.one];cases nt<;>cases (iteR f g h).n<;>simp
theorem IteS.answer {r:Nat}(s:IteS d V f0 g0 h0 f g h nt)(h1:okE (Aa d) f0)(h2:okE (Aa d) g0)(h3:okE (Aa d) h0)(hr:okE (Aa d) r)(hl:minL d f g h<=lvE d.vars.length (levN d) (Aa d) r)
 (hv:∀ ρ,ef V r ρ=iteB (ef V f ρ) (ef V g ρ) (ef V h ρ)):IteP d V f0 g0 h0 (eflip r nt) :=
 ⟨h1,h2,h3,Dq hr,fun ρ=>by rw[C2,hv,<- s.val];rfl,by rw[D2];exact Vx s.lev hl⟩
theorem IteS.done (hk:Ak d V)(s:IteS d V f0 g0 h0 f g h nt)(h1:okE (Aa d) f0)(h2:okE (Aa d) g0)(h3:okE (Aa d) h0)(hd:(iteR f g h).dn=true):IteP d V f0 g0 h0 (eflip (iteR f g h).r nt):=by
 obtain⟨hh,hv⟩:=Kv hd;obtain⟨q1,q2⟩:=hh.ok hk s.okF s.okG s.okH;exact s.answer h1 h2 h3 q1 q2 (hv hk.dag.one)
theorem Ext.minL (x:Ext d V d' V')(hk:Ak d V)(hk':Ak d' V'){f g h:Nat}(hf:okE (Aa d) f)(hg:okE (Aa d) g)(hh:okE (Aa d) h):minL d' f g h=Go.Proofs.YtkidaindpahefaaGreat.minL d f g h:=by
 unfold Go.Proofs.YtkidaindpahefaaGreat.minL;rw[x.vars,x.lvE hf hk.dag.none0 hk'.dag.none0,x.lvE hg hk.dag.none0 hk'.dag.none0,x.lvE hh hk.dag.none0 hk'.dag.none0]
theorem IteS.ext (s:IteS d V f0 g0 h0 f g h nt)(x:Ext d V d' V')(hk:Ak d V)(hk':Ak d' V')(h1:okE (Aa d) f0)(h2:okE (Aa d) g0)(h3:okE (Aa d) h0):IteS d' V' f0 g0 h0 f g h nt :=
 ⟨x.ok s.okF,x.ok s.okG,x.ok s.okH,by rw[x.minL hk hk' h1 h2 h3,x.minL hk hk' s.okF s.okG s.okH];exact s.lev,fun ρ=>by rw[x.ef s.okF,x.ef s.okG,x.ef s.okH,x.ef h1,x.ef h2,x.ef h3];exact s.val ρ⟩
theorem IteP.ext {r:Nat}(s:IteP d V f g h r)(x:Ext d V d' V')(hk:Ak d V)(hk':Ak d' V'):IteP d' V' f g h r :=
 ⟨x.ok s.okA,x.ok s.okB,x.ok s.okC,x.ok s.okR,fun ρ=>by rw[x.ef s.okA,x.ef s.okB,x.ef s.okC,x.ef s.okR];exact s.val ρ,
  by rw[x.minL hk hk' s.okA s.okB s.okC,x.vars,x.lvE s.okR hk.dag.none0 hk'.dag.none0];exact s.lev⟩
theorem P7 (hk:Ak d V){v r:Nat}(hf:okE (Aa d) f)(hg:okE (Aa d) g)(hh:okE (Aa d) h)(hv:v<d.vars.length)(hl:levN d v<=minL d f g h)
 (c1:∀ ρ,ef V lo ρ=iteB (ef V (cofs d f v).1 ρ) (ef V (cofs d g v).1 ρ) (ef V (cofs d h v).1 ρ)) (c2:∀ ρ,ef V hi ρ=iteB (ef V (cofs d f v).2 ρ) (ef V (cofs d g v).2 ρ) (ef V (cofs d h v).2 ρ))
 (hr:ef V r=iteF v (ef V hi) (ef V lo)) (ρ:Nat->Bool):ef V r ρ=iteB (ef V f ρ) (ef V g ρ) (ef V h ρ):=by
 have lf:=(Cf hk hf hv (by unfold minL at hl;omega)).2.2.2.2 ρ;have lg:=(Cf hk hg hv (by unfold minL at hl;omega)).2.2.2.2 ρ;have lh:=(Cf hk hh hv (by unfold minL at hl;omega)).2.2.2.2 ρ;rw[hr,lf,lg,lh];simp only[iteF];cases ρ v
 . simpa using c1 ρ
 . simpa using c2 ρ
theorem Eo (x:Ext d V d' V')(h0:Aa d 0=none)(h0':Aa d' 0=none)(hf:okE (Aa d) f)(v:Int):cofs d' f v=cofs d f v:=by
 unfold cofs;rcases hf with h|⟨b,hb⟩
 . rw[h,h0,h0']
 . rw[hb,x.nodes _ _ hb]
end
def K0 (K:Law)(k:Nat)(o:Own)(w:Wd)(mb:Nat)(m:ManD)(V:Nat->BF)(f g h:Nat)(e:Ending)(w':Wd):Prop :=
 ∃ o' m' V',Step K o w mb m V o' w' m' V' /\
  ((∃ r:Nat,e=.returned (Iv r)/\IteP m'.d V' f g h r/\m'.waits=m.waits/\m'.d.pool.many+1<=m.d.pool.many+2^k) \/
   (e=AV 7 false ev0/\m'.waits=m.waits/\m'.d.pool.many=m'.d.pool.room/\m'.d.pool.many+2<=m.d.pool.many+2^k) \/
   (∃ ev,e=AV 0 true ev/\m.waits=ev::m'.waits))
def Iq (K:Law)(k:Nat):Prop:=∀ (o:Own) (w:Wd) (xb mb:Nat) (m:ManD) (V:Nat->BF) (f g h:Nat),Ba (K m.d V) o w mb m->Ab o w->BO o w xb mb->Ak m.d V ->
 okE (Aa m.d) f->okE (Aa m.d) g->okE (Aa m.d) h->m.d.vars.length<=minL m.d f g h+k ->
 Cl 147 #[Pt xb,Iv f,Iv g,Iv h] w (K0 K k o w mb m V f g h)
theorem P8 {o:Own}(hm:Ba (K m.d V) o w mb m)(hl:Ab o w)(hk:Ak m.d V)(hb:Bw w w'):Step K o w mb m V o w' m V:=by
 obtain⟨s,h⟩:=hm;exact⟨⟨s,h.below hl hb⟩,hl.mono hb.size,Chg.of_below hb _ _,hk,Ext.refl _ _,rfl,rfl⟩
theorem Step.below {o:Own}(h:Step K o w mb m V o' w' m' V')(hb:Bw w' w''):Step K o w mb m V o' w'' m' V':=h.trans (P8 h.is h.lt h.ok hb)
theorem top3 (hk:Ak d V)(hf:okE (Aa d) f)(hn:f/2≠0){top:Int}(ht:TopS d [f,g,h] top least) :
 ∃ v:Nat,top=v/\v<d.vars.length/\levN d v=minL d f g h/\levN d v<d.vars.length:=by
 rcases ht with ⟨_,_,h3⟩|⟨v,h1,_,h3,⟨e,he,b,hb,g0⟩,h5⟩
 ·exfalso;rcases hf with h0|⟨b,hb⟩
  . exact hn h0
  . rw[h3 f (by simp)] at hb;cases hb
 ·refine⟨v,h1,h3,?_,hk.dag.lt v h3⟩;have e0:lvE d.vars.length (levN d) (Aa d) e=levN d v:=by unfold lvE;rw[hb,<- g0]
  have a1:=h5 f (by simp);have a2:=h5 g (by simp);have a3:=h5 h (by simp);simp only[VX,XK,or_false] at he;unfold minL;rcases he with rfl|rfl|rfl<;>omega
abbrev Xn:=@Classical.choose_spec
abbrev WS:=@Nat.pow_succ
theorem K2 (hK:Bb K)(k:Nat)(IH:∀ k',k=k'+1->Iq K k'):Iq K k:=by
 intro o w xb mb m V f g h hm gT hx hk hf hg hh gF;obtain⟨st0,gO⟩:∃ s,Ao o w (Classical.choose hm).sb m.d s:=(Xn hm).store;have gq:Hq (∀ e,okE (Aa m.d) e->e<eMax):=Hd fun e he=>by have:=gO.edge_lt he;unfold eMax;omega
 have hq:=Hd hK;have HM:=Hd hm;have hb:=Hd gT;have HX:=Hd hx;have HK:=Hd hk;have HF:=Hd hf;have HG:=Hd hg;have HH:=Hd hh;have hY:=Hd gF;have h8:Hq (IteS m.d V f g h f g h false):=Hd (IteS.start hf hg hh);clear gO hm gT hx hk hf hg hh gF
 go_enter func147,ntmps147
 go_upto_block 0 with fail
 go_cut [1,2,3,9] from 27 (fun s1 s2 s3 s9 wx=>∃ (f' g' h':Nat) (nt:Bool),s1=Iv f'/\s2=Iv g'/\s3=Iv h'/\s9=.bool nt/\IteS m.d V f g h f' g' h' nt/\f'/2≠0/\wx=w)
 case first =>
  go_wp2_with fail
  go_loopw [1,2,3,9,27] (fun s1 s2 s3 s9 i wr=>∃ (f' g' h':Nat) (nt:Bool) (j:Nat),s1=Iv f'/\s2=Iv g'/\s3=Iv h'/\s9=.bool nt/\i=Iv j/\j<=3/\IteS m.d V f g h f' g' h' nt/\(0<j->f'/2≠0)/\wr=w) (fun _ _ _ _ i _=>3-(intOf i).toNat)
  case atStart=>exact⟨f,g,h,false,0,rfl,rfl,rfl,rfl,rfl,by omega,h8.o,by omega,rfl⟩
  case round =>
   obtain⟨f',g',h',nt,j,rfl,rfl,rfl,rfl,rfl,hj,hS,hn,rfl⟩:=hrel;clear h8
   by_cases gT:j<3
   ·have HI:=Hd (fun W:Wd=>P1 f' g' h' W (gq.o _ hS.okF) (gq.o _ hS.okG) (gq.o _ hS.okH));have gm:(iteR f' g' h').dn=true->(iteR f' g' h').r<eMax:=fun e=>gq.o _ (((Kv e).1.ok HK.o hS.okF hS.okG hS.okH).1)
    have go:=fun e=>hS.next HK.o (f:=f') (g:=g') (h:=h') e
    have gp:=fun e=>hS.done HK.o HF.o HG.o HH.o e
    have kk:(j:Int)<3:=by omega
    unfold iteV at HI;obtain⟨R,hR⟩:=Ex (iteR f' g' h');rw[<- hR] at HI gm go gp;clear hR hS hn;obtain⟨a,b,c,n,r,dn⟩:=R;dsimp only at HI gm go gp;cases dn with
    | true =>
      have gt:=Hd (fun W:Wd=>C4 r nt W (gm rfl));have kj:=Hd (gp rfl);clear gm go gp;go_wp2_with fail;refine(HI.o _).mono ?_;rintro x w' ⟨rfl,rfl⟩;go_wp2_with fail;refine(gt.o _).mono ?_;rintro x w' ⟨rfl,rfl⟩;go_wp2_with fail;go_ret;exact⟨o,m,V,⟨HM.o,hb.o,Chg.refl _ _ _,HK.o,Ext.refl _ _,rfl,rfl⟩,.inl ⟨_,rfl,kj.o,rfl,by have:=Nat.one_le_two_pow (n:=k);omega⟩⟩
    | false =>
      have hM:(nt != n)=(!nt == n):=by cases nt<;>cases n<;>rfl
      have g8:=Hd (go rfl);rw[hM] at g8;clear gm go gp hM
      by_cases hE:a=f'
      ·subst hE
       by_cases hp2:b=g'
       ·subst hp2
        by_cases hD:c=h'
        . subst hD;go_wp2_with fail;refine(HI.o _).mono ?_;rintro x w' ⟨rfl,rfl⟩;go_wp2_with fail;go_meet;exact⟨_,_,_,_,rfl,rfl,rfl,rfl,g8.o.1,g8.o.2,by trivial⟩
        ·have H3:(c == h')=false:=by simp[hD]
         go_wp2_with fail;refine(HI.o _).mono ?_;rintro x w' ⟨rfl,rfl⟩;go_wp2_with fail;go_roundw
         case rel=>exact⟨_,_,_,_,j+1,rfl,rfl,rfl,rfl,by simp,by omega,g8.o.1,fun _=>g8.o.2,by trivial⟩
         case measure=>simp[intOf];omega
       ·have H2:(b == g')=false:=by simp[hp2]
        go_wp2_with fail;refine(HI.o _).mono ?_;rintro x w' ⟨rfl,rfl⟩;go_wp2_with fail;go_roundw
        case rel=>exact⟨_,_,_,_,j+1,rfl,rfl,rfl,rfl,by simp,by omega,g8.o.1,fun _=>g8.o.2,by trivial⟩
        case measure=>simp[intOf];omega
      ·have H1:(a == f')=false:=by simp[hE]
       go_wp2_with fail;refine(HI.o _).mono ?_;rintro x w' ⟨rfl,rfl⟩;go_wp2_with fail;go_roundw
       case rel=>exact⟨_,_,_,_,j+1,rfl,rfl,rfl,rfl,by simp,by omega,g8.o.1,fun _=>g8.o.2,by trivial⟩
       case measure=>simp[intOf];omega
   ·obtain rfl:j=3:=by omega
    have HS:=Hd hS;have HN:=Hd (hn (by omega));clear hS hn;go_wp2_with fail;go_meet;exact⟨f',g',h',nt,rfl,rfl,rfl,rfl,HS.o,HN.o,rfl⟩
 case rest =>
  obtain⟨f',g',h',nt,rfl,rfl,rfl,rfl,hS,hn,rfl⟩:=hcut
  rename Wd=>w
  clear h8;obtain⟨s,gC⟩:=HM.o;obtain⟨c0,c1,c2,c3,c4,c5,f0⟩:=cells6 gC.blk;have cx:=HX.o.cell;have k9:=Hd (Oy o s.me (K m.d V) 1 f' g' h' w gC.memo hb.o);have kf:=Hd gC;have HS:=Hd hS;have HN:=Hd hn;clear gC hS hn;go_wp2_with fail;refine k9.o.mono ?_;rintro x w1 ⟨kd,gj,gn,gf⟩;have h4:A7 (K m.d V) o w1 mb m s:=kf.o.setMemo hb.o gj (gn.mono fun r e=>.inl e);have hQ:=HX.o.chg gn;have kr:=Hd gn.any;have kp:=Hd h4;have kn:=Hd hQ;have kq:=Hd gf;have gN:Step K o w mb m V o w1 m V:=⟨⟨s,h4⟩,gf,gn.any,HK.o,Ext.refl _ _,rfl,rfl⟩;have h7:=Hd gN;clear gj gn gf h4 hQ gN;rcases kd with rfl|⟨r,rfl,hH⟩
  ·clear c0 c1 c2 c3 c4 c5 f0 cx;go_upto_region 14 with fail;obtain⟨w2,gB⟩:=Ex (w1.alloc (.cells #[Iv f',Iv g',Iv h'] 101));have hO:Bw w1 w2:=by rw[gB];exact Af w1 _
   have hz:w2.heap[w1.heap.size]?=some (.cells #[Iv f',Iv g',Iv h'] 101 (0,0)):=by rw[gB];exact Vq w1 _
   have gD:Au w2 (some (Av w1.heap.size)) ([f',g',h'].map Int.ofNat):=⟨by simp,fun j hj=>⟨w1.heap.size,0,rfl,by
    rw[Vp w2 w1.heap.size (0+j) _ _ _ hz];simp at hj
    match j,hj with
    | 0,_=>rfl
    | 1,_=>rfl
    | 2,_=>rfl⟩⟩
   have gd:=h7.o.below hO;have hP:=HX.o.chg gd.chg;have h5:Hq (Cl 169 #[Pt xb,.slice (some (Av w1.heap.size)) 3 3] w2 fun x w'=>∃ top least,x=.returned (Iv top)/\TopS m.d [f',g',h'] top least/\Bw w2 w') :=
    Hd (Ky gd.is gd.lt hP HK.o [f',g',h'] (by simp;exact⟨HS.o.okF,HS.o.okG,HS.o.okH⟩) (some (Av w1.heap.size)) 3 gD)
   have h6:=Hd gd;have hU:=Hd gB;clear hO hz gD gd hP gB;go_wp2_with fail;rw[<- hU.o];refine h5.o.mono ?_;rintro x w3 ⟨top,least,rfl,gJ,hN⟩;obtain⟨v,rfl,hv,gl,kb⟩:=top3 HK.o HS.o.okF HN.o gJ;have k6:=Hd (h6.o.below hN);have HV:=Hd hv;have hW:=Hd gl;obtain⟨k',gX⟩:∃ k',k=k'+1:=⟨k-1,by have h1:=hY.o;have h2:=HS.o.lev;omega⟩;have hX:=Hd (IH k' gX);have cf:=Cf HK.o HS.o.okF hv (by rw[gl];unfold minL;omega);have cg:=Cf HK.o HS.o.okG hv (by rw[gl];unfold minL;omega);have ch:=Cf HK.o HS.o.okH hv (by rw[gl];unfold minL;omega);have gf:levN m.d v+1<=minL m.d (cofs m.d f' v).1 (cofs m.d g' v).1 (cofs m.d h' v).1:=Ip cf.2.2.1 cg.2.2.1 ch.2.2.1;have hG:levN m.d v+1<=minL m.d (cofs m.d f' v).2 (cofs m.d g' v).2 (cofs m.d h' v).2:=Ip cf.2.2.2.1 cg.2.2.2.1 ch.2.2.2.1;have hJ:m.d.vars.length<=levN m.d v+1+k':=by have h1:=hY.o;have h2:=HS.o.lev;omega
   have gw:=Hd cf;have gv:=Hd cg;have gu:=Hd ch;have ho:=Hd gf;have hd:=Hd hG;have ht:=Hd hJ;have HKK:=Hd gX;have h9:Hq (∀ (W:Wd) (e:Nat),okE (Aa m.d) e->Step K o w mb m V o W m V->Cl 170 #[Pt xb,Iv e,Iv v] W fun x w'=>x=.returned (.tuple #[Iv (cofs m.d e v).1,Iv (cofs m.d e v).2])/\Step K o w mb m V o w' m V) :=
    Hd fun W e he st=>(Kw st.is st.lt (HX.o.chg st.chg) HK.o e he v).mono fun x w' ⟨h1,h2⟩=>⟨h1,st.below h2⟩
   clear gJ hN hv gl kb cf cg ch gf hG hJ gX h5 hU h6;go_wp2_with fail;refine(h9.o _ _ HS.o.okF k6.o).mono ?_;rintro x w4 ⟨rfl,gM⟩;have k5:=Hd gM;clear gM;go_wp2_with fail;refine(h9.o _ _ HS.o.okG k5.o).mono ?_;rintro x w5 ⟨rfl,gL⟩;have k4:=Hd gL;clear gL;go_wp2_with fail;refine(h9.o _ _ HS.o.okH k4.o).mono ?_;rintro x w6 ⟨rfl,gK⟩;have ga:=Hd gK;clear gK;go_wp2_with fail;refine(hX.o o w6 xb mb m V _ _ _ ga.o.is ga.o.lt (HX.o.chg ga.o.chg) HK.o gw.o.1 gv.o.1 gu.o.1 (by have h1:=ht.o;have h2:=ho.o;omega)).mono ?_;have gH:Hq (2^k=2^k'+2^k'):=by show _=_;rw[HKK.o,WS];omega
   have ha:Hq (1<=2^k'):=Hd Nat.one_le_two_pow;rintro x w7 ⟨o7,m7,V7,st7,(⟨lo,rfl,hF,g5,gi⟩|⟨rfl,g5,gQ,gi⟩|⟨ev,rfl,g5⟩)⟩
   ·have g2:=Hd (ga.o.trans st7);have gI:=Hd st7.ok;have g7:=Hd st7.ext;have gr:=Hd hF;have ge:=Hd g5;have gA:=Hd gi;have hI:m7.d.vars.length<=minL m7.d (cofs m.d f' v).2 (cofs m.d g' v).2 (cofs m.d h' v).2+k':=by
     rw[st7.ext.minL HK.o st7.ok gw.o.2.1 gv.o.2.1 gu.o.2.1,st7.ext.vars];have h1:=ht.o;have h2:=hd.o;omega
    have ki:=Hd hI;clear st7 hF g5 gi hI;go_wp2_with fail;refine(hX.o o7 w7 xb mb m7 V7 _ _ _ g2.o.is g2.o.lt (HX.o.chg g2.o.chg) gI.o (g7.o.ok gw.o.2.1) (g7.o.ok gv.o.2.1) (g7.o.ok gu.o.2.1) ki.o).mono ?_;rintro x w8 ⟨o8,m8,V8,st8,(⟨hi,rfl,gZ,g4,gh⟩|⟨rfl,g4,gP,gh⟩|⟨ev,rfl,g4⟩)⟩
    ·have g1:=Hd (g2.o.trans st8);have hp:=Hd st8.ok;have g6:=Hd st8.ext;have hr:=Hd gZ;have gz:=Hd g4;have hc:=Hd gh;have hT:=Kz hq.o g1.o.is g1.o.lt (HX.o.chg g1.o.chg) st8.ok v lo hi (st8.ext.ok gr.o.okR) gZ.okR;have kg:=Hd hT;clear st8 gZ g4 gh hT;go_wp2_with fail;refine kg.o.mono ?_;have gU:levN m8.d v<lvE m8.d.vars.length (levN m8.d) (Aa m8.d) lo:=by
      have e1:=g6.o.lvE (n:=m8.d.vars.length) gr.o.okR gI.o.dag.none0 hp.o.dag.none0;have e2:=gr.o.lev;have e3:=g7.o.minL HK.o gI.o gw.o.1 gv.o.1 gu.o.1;have e4:=ho.o;have e5:=g7.o.lev;have e6:=g6.o.lev;have e7:=g6.o.vars;rw[e1,e6,e5,e7];rw[e5] at e2;omega
     have gY:levN m8.d v<lvE m8.d.vars.length (levN m8.d) (Aa m8.d) hi:=by
      have e2:=hr.o.lev;have x78:=g7.o.trans g6.o;have e3:=x78.minL HK.o hp.o gw.o.2.1 gv.o.2.1 gu.o.2.1;have e4:=hd.o;have e5:=x78.lev;rw[e5] at e2 ⊢;omega
     have hA:v<m8.d.vars.length:=by rw[(g7.o.trans g6.o).vars];exact HV.o
     have h0:∀ er,D3 m8.d v lo hi er->er=7/\m8.d.pool.many=m8.d.pool.room:=by
      rintro er (⟨_,h1⟩|⟨_,_,_,h1⟩|h1)
      . exact absurd ⟨by omega,by omega⟩ h1
      . simp only[Int.toNat_natCast] at h1;omega
      . exact h1
     have kl:=Hd gU;have km:=Hd gY;have ko:=Hd hA;have ka:=Hd h0;clear gU gY hA h0;rintro x w9 ⟨o9,m9,V9,st9,(⟨ev,hy,_,_,gG,h3,rfl⟩|⟨gg,_,_,(⟨er,hL,gG,h3,rfl⟩|⟨_,_,r,rfl,hC,hB,gS,k0⟩)⟩)⟩
     . have g0:=Hd (g1.o.trans st9);have ke:=Hd hy;clear st9 hy gG h3;unfold AV;go_wp2_with fail;exact⟨rfl,o9,m9,V9,g0.o,.inr (.inr ⟨ev,rfl,by rw[<- ge.o,<- gz.o];exact ke.o⟩)⟩
     . have g0:=Hd (g1.o.trans st9);obtain⟨rfl,gE⟩:=ka.o er hL;have hw:=Hd gE;have hZ:=Hd gG;have gy:=Hd gg;clear st9 hL gG h3 gg gE;unfold AV;go_wp2_with fail;exact⟨rfl,o9,m9,V9,g0.o,.inr (.inl ⟨rfl,by rw[gy.o,gz.o,ge.o],by rw[hZ.o];exact hw.o,by rw[hZ.o];have a1:=gA.o;have a2:=hc.o;have a3:=gH.o;have a4:=ha.o;omega⟩)⟩
     ·have g9:=g1.o.trans st9;have x09:=g9.ext;have gc:=st9.ok;have x79:=g6.o.trans st9.ext;have a0:=HK.o.dag.none0;have a9:=gc.dag.none0;have g3:IteP m9.d V9 f' g' h' r:=by
       refine⟨x09.ok HS.o.okF,x09.ok HS.o.okG,x09.ok HS.o.okH,hC,fun ρ=>?_,?_⟩
       ·refine P7 (lo:=lo) (hi:=hi) (v:=v) gc (x09.ok HS.o.okF) (x09.ok HS.o.okG) (x09.ok HS.o.okH) (by rw[x09.vars];exact HV.o) (by rw[x09.lev,x09.minL HK.o gc HS.o.okF HS.o.okG HS.o.okH,hW.o];exact Vo _) ?_ ?_ ?_ ρ
        . intro ρ;rw[Eo x09 a0 a9 HS.o.okF,Eo x09 a0 a9 HS.o.okG,Eo x09 a0 a9 HS.o.okH];exact(gr.o.ext x79 gI.o gc).val ρ
        . intro ρ;rw[Eo x09 a0 a9 HS.o.okF,Eo x09 a0 a9 HS.o.okG,Eo x09 a0 a9 HS.o.okH];exact(hr.o.ext st9.ext hp.o gc).val ρ
        . rw[hB,st9.ext.ef hr.o.okR,st9.ext.ef (g6.o.ok gr.o.okR)];rfl
       . rw[x09.minL HK.o gc HS.o.okF HS.o.okG HS.o.okH,<- hW.o];have e1:=(g7.o.trans g6.o).lev;have e2:=(g7.o.trans g6.o).vars;rw[e1,e2] at gS;rw[x09.vars];exact gS
      have hu:=Hd ((HS.o.ext x09 HK.o gc HF.o HG.o HH.o).answer (x09.ok HF.o) (x09.ok HG.o) (x09.ok HH.o) g3.okR g3.lev g3.val);obtain⟨s9,gk⟩:=g9.is;have k7:=Hd (O8 o9 s9.me (K m9.d V9) 1 f' g' h' r w9 gk.memo g9.lt ((hq.o.ite _ _ _ _ _ _).2 g3));have gR:r<eMax:=by
       obtain⟨ss,kc⟩:=gk.store;have:=kc.edge_lt g3.okR;unfold eMax;omega
      have gt:=Hd (fun W:Wd=>C4 r nt W gR);obtain⟨c0,c1,c2,c3,c4,c5,f0⟩:=cells6 gk.blk;have cx:=(HX.o.chg g9.chg).cell;have kh:=Hd gk;have g0:=Hd g9;have gy:=Hd (gg.trans (gz.o.trans ge.o));have k8:Hq (m9.d.pool.many+1<=m.d.pool.many+2^k):=Hd (by have a1:=gA.o;have a2:=hc.o;have a3:=gH.o;omega);clear st9 g9 x09 gc x79 a0 a9 g3 gk gR gg hC hB gS k0;go_wp2_with fail;refine k7.o.mono ?_;rintro x w10 ⟨rfl,o10,gj,gx,gV⟩;have k3:Hq (Step K o w mb m V o10 w10 m9 V9):=Hd ⟨⟨s9,kh.o.setMemo g0.o.lt gj gx⟩,gV,g0.o.chg.trans gx.any,g0.o.ok,g0.o.ext,g0.o.hs,g0.o.next⟩;clear gj gx gV c0 c1 c2 c3 c4 c5 f0 cx;go_wp2_with fail;refine(gt.o _).mono ?_;rintro x w' ⟨rfl,rfl⟩;go_wp2_with fail;go_ret;exact⟨o10,m9,V9,k3.o,.inl ⟨_,rfl,hu.o,gy.o,k8.o⟩⟩
    . have g1:=Hd (g2.o.trans st8);have HQ:Hq (m8.waits=m.waits/\m8.d.pool.many=m8.d.pool.room/\m8.d.pool.many+2<=m.d.pool.many+2^k):=Hd ⟨g4.trans ge.o,gP,by have a1:=gA.o;have a3:=gH.o;have a4:=ha.o;omega⟩;clear st8 g4 gP gh;unfold AV;go_wp2_with fail;exact⟨rfl,o8,m8,V8,g1.o,.inr (.inl ⟨rfl,HQ.o.1,HQ.o.2.1,HQ.o.2.2⟩)⟩
    . have g1:=Hd (g2.o.trans st8);have HQ:=Hd g4;clear st8 g4;unfold AV;go_wp2_with fail;exact⟨rfl,o8,m8,V8,g1.o,.inr (.inr ⟨ev,rfl,by rw[<- ge.o];exact HQ.o⟩)⟩
   . have g2:=Hd (ga.o.trans st7);have HQ:Hq (m7.waits=m.waits/\m7.d.pool.many=m7.d.pool.room/\m7.d.pool.many+2<=m.d.pool.many+2^k):=Hd ⟨g5,gQ,by have a3:=gH.o;have a4:=ha.o;omega⟩;clear st7 g5 gQ gi;unfold AV;go_wp2_with fail;exact⟨rfl,o7,m7,V7,g2.o,.inr (.inl ⟨rfl,HQ.o.1,HQ.o.2.1,HQ.o.2.2⟩)⟩
   . have g2:=Hd (ga.o.trans st7);have HQ:=Hd g5;clear st7 g5;unfold AV;go_wp2_with fail;exact⟨rfl,o7,m7,V7,g2.o,.inr (.inr ⟨ev,rfl,HQ.o⟩)⟩
  . have g3:IteP m.d V f' g' h' r:=(hq.o.ite _ _ _ _ _ _).1 hH;have hu:=Hd (HS.o.answer HF.o HG.o HH.o g3.okR g3.lev g3.val);have gt:=Hd (fun W:Wd=>C4 r nt W (gq.o _ g3.okR));clear hH g3 c0 c1 c2 c3 c4 c5 f0 cx;go_wp2_with fail;refine(gt.o _).mono ?_;rintro x w' ⟨rfl,rfl⟩;go_wp2_with fail;go_ret;exact⟨o,m,V,h7.o,.inl ⟨_,rfl,hu.o,rfl,by have:=Nat.one_le_two_pow (n:=k);omega⟩⟩
theorem P9 (hK:Bb K):∀ k,Iq K k:=by
 intro k
 induction k with
 | zero=>exact K2 hK 0 (fun k' e=>absurd e (by omega))
 | succ k ih =>
   refine K2 hK (k+1) (fun k' e=>?_);have e2:k'=k:=by omega
   rw[e2];exact ih
open Go.RowKit Go.Shelf
structure Wr (M:Nat->Prop)(w w':Wd):Prop where
 os:w'.os=w.os
 tape:w'.tape=w.tape
 output:w'.output=w.output
 size:w.heap.size<=w'.heap.size
 keep:∀ k,k<w.heap.size->¬ M k->w'.heap[k]?=w.heap[k]?
theorem Wr.refl (M:Nat->Prop)(w:Wd):Wr M w w:=⟨rfl,rfl,rfl,Vo _,fun _ _ _=>rfl⟩
theorem Wr.trans {M M' N:Nat->Prop}{w w' w'':Wd}(h:Wr M w w')(h':Wr M' w' w'')(hM:∀ k,k<w.heap.size->M k->N k)(hM':∀ k,k<w.heap.size->M' k->N k):Wr N w w'' :=
 ⟨h'.os.trans h.os,h'.tape.trans h.tape,h'.output.trans h.output,Vx h.size h'.size,fun k hk hn=>(h'.keep k (VH hk h.size) (fun e=>hn (hM' k hk e))).trans (h.keep k hk (fun e=>hn (hM k hk e)))⟩
theorem Wr.mono {N:Nat->Prop}(h:Wr M w w')(hM:∀ k,M k->N k):Wr N w w':=⟨h.os,h.tape,h.output,h.size,fun k hk hn=>h.keep k hk (fun e=>hn (hM k e))⟩
theorem Wr.drew {M:Nat->Prop}{w w':Wd}(h:Wr M w w'):Wr M w w'.drew:=⟨h.os,h.tape,h.output,h.size,h.keep⟩
abbrev Wv:=@Below.heap_alloc
theorem Wr.alloc {M:Nat->Prop}{w w':Wd}(h:Wr M w w')(o:Obj):Wr M w (w'.alloc o) :=
 ⟨h.os,h.tape,h.output,by simp;have:=h.size;omega,fun k hk hn=>(Wv w' o k (VH hk h.size)).trans (h.keep k hk hn)⟩
theorem Wr.setCell {M:Nat->Prop}{w w':Wd}(h:Wr M w w'){p:Addr}(hp:M p.block\/w.heap.size<=p.block)(u:Value):Wr M w (w'.setCell p u) :=
 ⟨h.os,h.tape,h.output,by simp[World.setCell];exact h.size,fun k hk hn=>(XU _ _ _ _ (by rintro rfl;rcases hp with hp|hp;exact hn hp;omega)).trans (h.keep k hk hn)⟩
abbrev Ww:=@World.putObj_heap_other
theorem Wr.putObj {M:Nat->Prop}{w w':Wd}(h:Wr M w w'){l:Nat}(hl:M l\/w.heap.size<=l)(o:Obj):Wr M w (w'.putObj l o) :=
 ⟨h.os,h.tape,h.output,by simp;exact h.size,fun k hk hn=>(Ww (by rintro rfl;rcases hl with hl|hl;exact hn hl;omega)).trans (h.keep k hk hn)⟩
theorem Wr.of_below (h:Bw w w')(M:Nat->Prop):Wr M w w':=⟨h.os,h.tape,h.output,h.size,fun k hk _=>h.block k hk⟩
theorem Wr.below (h:Wr M w w')(hM:∀ k,M k->n₀<=k)(hn:n₀<=w.heap.size):Below n₀ w w' :=
 ⟨h.os,h.tape,h.output,h.size,fun k hk=>h.keep k (by omega) (fun e=>by have:=hM k e;omega)⟩
theorem Wr.of_grown (h:w.grownBy w' row)(M:Nat->Prop)(hM:∀ k,row=some k->M k):Wr M w w' :=
 ⟨h.os,h.tape,h.output,h.size,fun k hk hn=>h.block k hk (fun e=>hn (hM k e.symm))⟩
section
variable {F:Fence}{α:Type}
def FO (n₀:Nat)(J:List α->(Nat->Prop)->Wd->Prop):Prop:=∀ pre M W,J pre M W->∀ k,M k->n₀<=k/\k<W.heap.size
def Minds (n₀:Nat)(J:List α->(Nat->Prop)->Wd->Prop):Prop:=∀ pre M W W',J pre M W->Wr (fun k=>n₀<=k/\¬ M k) W W'->J pre M W'
def Gives (F:Fence)(n d:Nat)(P:Program)(g:Nat)(lb:Array Value)(encs:α->Array Value)(n₀:Nat)(Bx:Nat->Prop)(xs:List α)(w:Wd):Prop :=
 ∀ (l:Nat) (J:List α->(Nat->Prop)->Wd->Prop) (M:Nat->Prop) (W:Wd),FO n₀ J->Minds n₀ J->Wr (fun k=>n₀<=k/\¬ Bx k) w W->(∀ k,Bx k->¬ M k) ->
  (∀ pre x M W1,J pre M W1->(∃ suf,pre++x::suf=xs)->YieldAt F (n-1-d) P l (encs x) W1 fun e W' =>
   e=.returned (.bool true)/\∃ M',J (pre++[x]) M' W'/\Wr M W1 W'/\∀ k,M' k->M k\/W1.heap.size<=k) ->
  J [] M W ->
  CallsIn F n P g (#[.func (.yield l) #[] #[]]++lb) W fun e W'=>(∃ v,e=.returned v)/\∃ M',J xs M' W'/\Wr (fun k=>n₀<=k) W W'/\∀ k,M' k->M k\/W.heap.size<=k
abbrev Yb:=@World.putObj_heap_same
theorem K3 {g:Operand}{ps:Array Tmp}{assign body:Code}(hro:F.round=none)(h1:1<=n){lb:Array Value}(hg:a.eval g=.func (.func gf) #[] lb)
 (hFg:F.fn gf) (eg:∀ args w,(callFunc gf args).run P w=.ok (.enter gf args) w) {encs:α->Array Value} {n₀:Nat} {Bx:Nat->Prop} {xs:List α} {d:Nat} (hseq:Gives F (n-1) d P gf lb encs n₀ Bx xs w) (hn0:n₀<=w.heap.size)
 (hBx:∀ k,Bx k->k<w.heap.size) (hps:∀ x,(encs x).size=ps.size) (I:List α->(Nat->Prop)->Wd->Prop) (hOw:FO n₀ I) (hMi:Minds n₀ I) (M0:Nat->Prop) (hM0:∀ k,Bx k->¬ M0 k) (h0:I [] M0 w)
 (Ax:α->Act->Wd->Wd->Prop) (hAx:∀ x a' W W1 W2 l,l<W.heap.size->Ax x a' W W1->Wr (· = l) W1 W2->Ax x a' W W2)
 (hassign:∀ (l:Nat) (pre:List α) (x:α) (M:Nat->Prop) (W:Wd) (K:Act->Wd->Prop),I pre M W->(∀ a' W',Wr (fun _=>False) W W'->Ax x a' W W'->K a' W') ->
  assign.wpIn (F.inRound l) (n-1-1-d) P (Exit.then K (fun _ _ _=>False)) { tmps:=(ps.zip (encs x)).foldl (fun t (p,v)=>t.setIfInBounds p v) a.tmps,defers:=[] } W)
 (hbody:∀ (l:Nat) (pre:List α) (x:α) (a':Act) (M:Nat->Prop) (W0 W:Wd),I pre M W->Ax x a' W0 W->W0.heap.size<=W.heap.size->w.heap.size<=W0.heap.size->(∃ suf,pre++x::suf=xs)->body.wpIn (F.inRound l) (n-1-1-d) P
  (fun e _ W'=>match e with|.normal=>∃ M',I (pre++[x]) M' W'/\Wr (fun k=>M k\/W0.heap.size<=k) W W'/\(∀ k,M' k->M k\/W0.heap.size<=k)|_=>False) a' W)
 (hdone:∀ (D:Nat) (M:Nat->Prop) (W:Wd),w.heap.size<=D->¬ M D->I xs M W->(∀ k,M k->M0 k\/w.heap.size<=k)->Wr (fun k=>n₀<=k) w W->W.heap[D]?=some (.deferred (some []))->Q .normal { a with defers:={ target:=.collected D,args:=#[] }::a.defers } W) :
 (Code.rangeFunc g ps assign body).wpIn F n P Q a w:=by
 refine wpIn_rangeFunc ?_;intro fn gn;rw[hro]
 let rec0:LoopState->Loop:=fun st=>{ state:=st,pending:=none,fn,tmps:=a.tmps,params:=ps,assign,body,defers:=w.heap.size }
 obtain⟨W1,g1⟩:=Ex ((w.alloc (.deferred (some []))).alloc (.loop (rec0 .ready)));have gt:W1.heap[w.heap.size+1]?=some (.loop (rec0 .ready)):=by
  rw[g1];have:=World.alloc_heap_new (w.alloc (.deferred (some []))) (.loop (rec0 .ready))
  rwa [VO] at this
 have gv:W1.heap[w.heap.size]?=some (.deferred (some [])):=by
  rw[g1];exact(Wv _ _ _ (by simp)).trans (World.alloc_heap_new w _)
 have g5:∀ N:Nat->Prop,Wr N w W1:=fun N=>by rw[g1];exact((Wr.refl N w).alloc _).alloc _
 have g2:=hOw [] M0 w h0;have gu:I [] M0 W1:=hMi _ _ _ _ h0 (g5 _)
 refine⟨w.heap.size+1,[{ target:=.collected w.heap.size,args:=#[] }],W1,{ target:=.fn (.func gf) lb,args:=#[.func (.yield (w.heap.size+1)) #[] #[]] },W1,gf,
  #[.func (.yield (w.heap.size+1)) #[] #[]]++lb,W1,?_,?_,?_,?_,fun _=>h1,?_⟩
 . rw[g1];exact run_enterLoop_outer _ _ _ _ _
 . simp only[resolve,hg];simp[go_sem]
 . intro f' gc;simp[Target.leads] at gc;subst gc;exact hFg
 . simp[invoke,go_sem,eg]
 refine(hseq (w.heap.size+1)
  (fun pre N W=>∃ M,I pre M W/\(∀ k,N k↔(M k\/k=w.heap.size+1\/k=w.heap.size))/\¬ M (w.heap.size+1)/\¬ M w.heap.size/\(∀ k,M k->M0 k\/w.heap.size<=k) /\
   W.heap[w.heap.size+1]?=some (.loop (rec0 .ready))/\W.heap[w.heap.size]?=some (.deferred (some [])))
  (fun k=>M0 k\/k=w.heap.size+1\/k=w.heap.size) W1 ?_ ?_ (g5 _) ?_ ?_ ?_).mono ?_
 ·rintro pre N W ⟨M,hi,hN,_,_,_,hl,hd⟩ k hk;rcases(hN k).1 hk with hk|hk|hk
  . exact hOw _ _ _ hi k hk
  . subst hk;exact⟨by omega,(Vm.1 hl).1⟩
  . subst hk;exact⟨hn0,(Vm.1 hd).1⟩
 ·rintro pre N W W' ⟨M,hi,hN,h2,h3,h4,hl,hd⟩ hw;refine⟨M,hMi _ _ _ _ hi ?_,hN,h2,h3,h4,?_,?_⟩
  . exact⟨hw.os,hw.tape,hw.output,hw.size,fun k hk hn=>hw.keep k hk (fun⟨a,b⟩=>hn ⟨a,fun e=>b ((hN k).2 (.inl e))⟩)⟩
  . exact(hw.keep _ (Vm.1 hl).1 (fun⟨_,b⟩=>b ((hN _).2 (.inr (.inl rfl))))).trans hl
  . exact(hw.keep _ (Vm.1 hd).1 (fun⟨_,b⟩=>b ((hN _).2 (.inr (.inr rfl))))).trans hd
 ·intro k hk hm;have:=hBx k hk;rcases hm with hm|hm|hm
  . exact hM0 k hk hm
  . omega
  . omega
 ·rintro pre x N W ⟨M,hi,hN,h2,h3,h4,hl,hd⟩ gd;have g9:w.heap.size+1<W.heap.size:=(Vm.1 hl).1;have hy:=run_yield (P:=P) (args:=encs x) hl (hps x);refine⟨fn,_,assign,body,hy,roundIn_of_wpIn gn (hassign _ pre x M W _ hi ?_)⟩;intro a' Wa g0 gr;have gj:=(g0.keep _ g9 (fun h=>h)).trans hl;have gp:=(g0.keep _ (by omega) (fun h=>h)).trans hd;have g6:w.heap.size+1<Wa.heap.size:=by have:=g0.size;omega
  refine⟨_,run_beginRound gj rfl,?_⟩;have gl:I pre M Wa:=hMi _ _ _ _ hi (g0.mono (fun _ h=>h.elim));have g7:Wr (· = w.heap.size+1) Wa (Wa.putObj (w.heap.size+1) (.loop { rec0 .ready with state:=.busy })):=(Wr.refl (· = w.heap.size+1) Wa).putObj (l:=w.heap.size+1) (.inl rfl) _;have gk:I pre M (Wa.putObj (w.heap.size+1) (.loop { rec0 .ready with state:=.busy })):=hMi _ _ _ _ gl (g7.mono (fun k e=>by have e':k=w.heap.size+1:=e;subst e';exact⟨by omega,h2⟩));have gi:(Wa.putObj (w.heap.size+1) (.loop { rec0 .ready with state:=.busy })).heap[w.heap.size+1]?=some (.loop { rec0 .ready with state:=.busy }):=Yb g6;have go:(Wa.putObj (w.heap.size+1) (.loop { rec0 .ready with state:=.busy })).heap[w.heap.size]?=some (.deferred (some [])):=(Ww (by omega)).trans gp;refine wpIn_mono (hbody _ pre x a' M W _ gk (hAx _ _ _ _ _ _ g9 gr g7) (by simp;exact g0.size) (by omega) gd) ?_;intro e a3 W3 hp;cases e with
  | normal =>
    obtain⟨M',gm,g4,g3⟩:=hp;have ga:=(g4.keep _ (by simp;exact g6) (fun e=>by rcases e with e|e;exact h2 e;omega)).trans gi;have gq:=(g4.keep _ (by simp;omega) (fun e=>by rcases e with e|e;exact h3 e;omega)).trans go;have ge:=(Vm.1 ga).1;have g8:¬ M' (w.heap.size+1):=fun e=>by rcases g3 _ e with h|h;exact h2 h;omega
    have gh:¬ M' w.heap.size:=fun e=>by rcases g3 _ e with h|h;exact h3 h;omega
    refine⟨_,_,run_endRound (P:=P) none ga,rfl,fun k=>M' k\/k=w.heap.size+1\/k=w.heap.size,⟨M',?_,fun k=>Iff.rfl,g8,gh,?_,Yb ge,(Ww (by omega)).trans gq⟩,?_,?_⟩
    . exact hMi _ _ _ _ gm ((Wr.refl _ _).putObj (.inl ⟨by omega,g8⟩) _)
    ·intro k hk;rcases g3 k hk with h|h
     . exact h4 k h
     . right;omega
    ·refine((((g0.mono (N:=N) (fun _ h=>h.elim)).putObj (l:=w.heap.size+1) (.inl ((hN _).2 (.inr (.inl rfl)))) _).trans (N:=N) g4 (fun k _ h=>h) (fun k hk h=>?_)).putObj (l:=w.heap.size+1) (.inl ((hN _).2 (.inr (.inl rfl)))) _);rcases h with h|h
     . exact(hN k).2 (.inl h)
     . omega
    ·rintro k (hk|hk)
     ·rcases g3 k hk with h|h
      . exact .inl ((hN k).2 (.inl h))
      . exact .inr h
     . exact .inl ((hN k).2 (.inr hk))
  | ret=>exact hp.elim
  | exit id=>exact hp.elim
  | goto t=>exact hp.elim
  | panic ch=>exact hp.elim
  | outgrown=>exact hp.elim
 . exact⟨M0,gu,fun k=>Iff.rfl,fun e=>by have:=(g2 _ e).2;omega,fun e=>by have:=(g2 _ e).2;omega,fun k h=>.inl h,gt,gv⟩
 ·rintro e W2 ⟨⟨v,rfl⟩,N,⟨M,hi,hN,h2,h3,h4,hl,hd⟩,gg,_⟩;refine⟨none,_,run_endLoop (P:=P) hl (by simp[rec0]),hdone _ M _ (Vo _) h3 ?_ h4 ?_ ((Ww (by omega)).trans hd)⟩
  . exact hMi _ _ _ _ hi ((Wr.refl _ _).putObj (.inl ⟨by omega,h2⟩) _)
  . exact((g5 (fun k=>n₀<=k)).trans gg (fun _ _ h=>h) (fun _ _ h=>h)).putObj (.inl (by omega)) _
end
structure Caught (sb:Nat)(er:Int)(evt:Bool)(ev:Ev)(w w':Wd):Prop where
 size:w.heap.size<=w'.heap.size
 os:w'.os=w.os
 tape:w'.tape=w.tape
 output:w'.output=w.output
 keep:∀ k,k<w.heap.size->k≠sb->w'.heap[k]?=w.heap[k]?
 blk:w'.heap[sb]?=some (.cells #[Iv er,.bool evt,Iv ev.after,Iv ev.kind,Iv ev.level] 235 (0,0))
theorem K4 {er:Int}{evt:Bool}{a0 a1 a2 a3 a4:Value}(hs:w.heap[sb]?=some (.cells #[a0,a1,a2,a3,a4] 235 (0,0)))(ob:Obj) :
 Caught sb er evt ev w ((((((w.setCell (Av sb) (Iv er)).setCell (Aw sb 1) (.bool evt)).setCell (Aw sb 2) (Iv ev.after)).setCell (Aw sb 3) (Iv ev.kind)).setCell (Aw sb 4) (Iv ev.level)).alloc ob):=by
 have w1:=(Wr.refl (· = sb) w).setCell (p:=Av sb) (.inl rfl) (Iv er);have h1:(w.setCell (Av sb) (Iv er)).heap[sb]?=some (.cells #[Iv er,a1,a2,a3,a4] 235 (0,0)):=A5 hs _
 generalize w.setCell (Av sb) (Iv er)=W1 at *
 have w2:=w1.setCell (p:=Aw sb 1) (.inl rfl) (.bool evt);have h2:(W1.setCell (Aw sb 1) (.bool evt)).heap[sb]?=some (.cells #[Iv er,.bool evt,a2,a3,a4] 235 (0,0)):=A5 h1 _
 generalize W1.setCell (Aw sb 1) (.bool evt)=W2 at *
 have w3:=w2.setCell (p:=Aw sb 2) (.inl rfl) (Iv ev.after);have h3:(W2.setCell (Aw sb 2) (Iv ev.after)).heap[sb]?=some (.cells #[Iv er,.bool evt,Iv ev.after,a3,a4] 235 (0,0)):=A5 h2 _
 generalize W2.setCell (Aw sb 2) (Iv ev.after)=W3 at *
 have w4:=w3.setCell (p:=Aw sb 3) (.inl rfl) (Iv ev.kind);have h4:(W3.setCell (Aw sb 3) (Iv ev.kind)).heap[sb]?=some (.cells #[Iv er,.bool evt,Iv ev.after,Iv ev.kind,a4] 235 (0,0)):=A5 h3 _
 generalize W3.setCell (Aw sb 3) (Iv ev.kind)=W4 at *
 have w5:=w4.setCell (p:=Aw sb 4) (.inl rfl) (Iv ev.level);have h5:(W4.setCell (Aw sb 4) (Iv ev.level)).heap[sb]?=some (.cells #[Iv er,.bool evt,Iv ev.after,Iv ev.kind,Iv ev.level] 235 (0,0)):=A5 h4 _
 generalize W4.setCell (Aw sb 4) (Iv ev.level)=W5 at *
 have w6:=w5.alloc ob;exact⟨w6.size,w6.os,w6.tape,w6.output,fun k hk g0=>w6.keep k hk g0,(VL _ _ (Vm.1 h5).1).trans h5⟩
theorem PA (v:Value)(w:Wd):(Instr.typeAssert (.iface 235 v) 20 235 true).run prog w=.ok (.tuple #[v,.bool true]) w:=by
 simp[Instr.typeAssert,VP underlying235,go_sem,Result.andThen]
theorem PB (dn st:Addr)(w:Wd)(hd:w.cell? dn=some (.bool true)) :
 CallsD prog 263 #[.pointer (some dn),.pointer (some st)] .returning w fun e u' w'=>e=.returned (.tuple #[])/\u'=.returning/\w'=w:=by
 refine callsD_of_wpS func263 rfl fun c₀ cs hu=>?_
 apply wpS_seq;apply wpS_seq;apply wpS_region;simp[wpOpsS,go_sem,hd,ntmps263,Exit.thenS];refine wpS_cond (t:=true) (by simp[Act.eval,Array.replicate]) ?_;simp only[Ws];refine wpS_of_wp (wp_ret ?_);cases c₀
 simp_all [Exit.thenS,bodyPostS,results,Tryz.results263]
abbrev WZ:=@Array.replicate_succ
abbrev Xa:=@Array.replicate_zero
abbrev Xi:=@List.push_toArray
abbrev Xf:=@List.append_toArray
abbrev Xh:=@List.cons_append
abbrev Xy:=@Bool.false_eq_true
theorem PC (dn sb:Nat)(er:Int)(evt:Bool)(ev:Ev)(older:List PanicEntry)(w:Wd)(a0 a1 a2 a3 a4:Value)(hd:w.cell? (Av dn)=some (.bool false))(hs:w.heap[sb]?=some (.cells #[a0,a1,a2,a3,a4] 235 (0,0))) :
 CallsD prog 263 #[Pt dn,Pt sb] (.panicking ({ v:=.iface 235 (.agg #[Iv er,.bool evt,Iv ev.after,Iv ev.kind,Iv ev.level]),recovered:=false }::older)) w fun e u' w' =>
  e=.returned (.tuple #[])/\u'=.panicking ({ v:=.iface 235 (.agg #[Iv er,.bool evt,Iv ev.after,Iv ev.kind,Iv ev.level]),recovered:=true }::older) /\
  Caught sb er evt ev w w':=by
 refine callsD_of_wpS func263 rfl fun c₀ cs hu=>?_
 simp only[ntmps263,WJ,VG,WI,Nat.reduceAdd,Nat.reduceSub,WZ,Xa,Xi,Xf,Wz,Xh];apply wpS_seq;apply wpS_seq;apply wpS_region;simp[wpOpsS,go_sem,hd,Exit.thenS];refine wpS_cond (t:=false) (by simp[Act.eval]) ?_;simp only[Xy,if_false];refine wpS_of_wp (wp_skip ?_);simp only[Exit.thenS];apply wpS_seq;apply wpS_region;simp[wpOpsS,go_sem,recoverD,hu,Exit.thenS];have lsb:sb<w.heap.size:=(Vm.1 hs).1;obtain⟨c0,c1,c2,c3,c4,f0⟩:=cells5 hs;refine wpS_of_wp (wp_mono (Q:=fun e a' w'=>e=.normal/\a'.defers=[]/\Caught sb er evt ev w w') ?_ ?_)
 ·have HS:=Hd hs;have g0:=fun v=>PA v w
  clear hs;go_wp2_with fail
  first|exact⟨rfl,rfl,K4 HS.o _⟩|exact K4 HS.o _
 . rintro e a' w' ⟨rfl,h1,h2⟩;refine⟨h1,_,rfl,_,Xr rfl _ _ _,?_⟩;exact⟨rfl,rfl,h2⟩
abbrev Stop:=Int×Bool×Ev
def Ir (r:Option Stop):Value :=
 match r with
 | some (er,evt,ev)=>.agg #[.int .i64 er,.bool evt,.int .i64 ev.after,.int .i64 ev.kind,.int .i64 ev.level]
 | none=>.agg #[.int .i64 0,.bool false,.int .i64 0,.int .i64 0,.int .i64 0]
def tryW (mb:Nat)(w:Wd):Wd :=
 ((w.alloc (.cells #[Iv 0,.bool false,Iv 0,Iv 0,Iv 0] 235)).alloc (.cells #[.bool false] 4)).alloc (.cells #[Pt mb] 233)
def PD (w:Wd)(R:Option Stop->Wd->Prop)(x:Ending)(w':Wd):Prop :=
 ∃ r W',R r W'/\Wr (fun k=>k=w.heap.size\/k=w.heap.size+1) W' w'/\x=.returned (.tuple #[Ir r,.bool r.isNone])
def ER (gf:Nat)(lb:Array Value)(mb:Nat)(w:Wd)(R:Option Stop->Wd->Prop):Prop :=
 Calls prog gf (#[Pt (w.heap.size+2)]++lb) (tryW mb w) fun e W' =>
  (tryW mb w).heap.size<=W'.heap.size/\W'.heap[w.heap.size]?=(tryW mb w).heap[w.heap.size]?/\W'.heap[w.heap.size+1]?=(tryW mb w).heap[w.heap.size+1]? /\
   ((e=.returned (.tuple #[])/\R none W')\/∃ er evt ev,e=AV er evt ev/\R (some (er,evt,ev)) W')
theorem PE {s:Nat}(h0:W.heap[s]?=some (.cells #[Iv 0,.bool false,Iv 0,Iv 0,Iv 0] 235 (0,0)))(h1:W.heap[s+1]?=some (.cells #[.bool false] 4 (0,0))){W2:Wd}
 (hW:W2=(((((W.setCell (Av s) (Iv 0)).setCell (Aw s 1) (.bool false)).setCell (Aw s 2) (Iv 0)).setCell (Aw s 3) (Iv 0)).setCell (Aw s 4) (Iv 0)).setCell (Av (s+1)) (.bool true)) :
 Wr (fun k=>k=s\/k=s+1) W W2/\W2.heap[s]?=some (.cells #[Iv 0,.bool false,Iv 0,Iv 0,Iv 0] 235 (0,0))/\W2.heap[s+1]?=some (.cells #[.bool true] 4 (0,0)):=by
 have n1:s+1≠s:=by omega
 have w1:=(Wr.refl (fun k=>k=s\/k=s+1) W).setCell (p:=Av s) (.inl (.inl rfl)) (Iv 0);have a1:(W.setCell (Av s) (Iv 0)).heap[s]?=some (.cells #[Iv 0,.bool false,Iv 0,Iv 0,Iv 0] 235 (0,0)):=A5 h0 _;have b1:=(A0 (p:=Av s) (w:=W) n1 (Iv 0)).trans h1
 generalize W.setCell (Av s) (Iv 0)=W1 at *
 have w2:=w1.setCell (p:=Aw s 1) (.inl (.inl rfl)) (.bool false);have a2:(W1.setCell (Aw s 1) (.bool false)).heap[s]?=some (.cells #[Iv 0,.bool false,Iv 0,Iv 0,Iv 0] 235 (0,0)):=A5 a1 _;have b2:=(A0 (p:=Aw s 1) (w:=W1) n1 (.bool false)).trans b1
 generalize W1.setCell (Aw s 1) (.bool false)=W3 at *
 have w3:=w2.setCell (p:=Aw s 2) (.inl (.inl rfl)) (Iv 0);have a3:(W3.setCell (Aw s 2) (Iv 0)).heap[s]?=some (.cells #[Iv 0,.bool false,Iv 0,Iv 0,Iv 0] 235 (0,0)):=A5 a2 _;have b3:=(A0 (p:=Aw s 2) (w:=W3) n1 (Iv 0)).trans b2
 generalize W3.setCell (Aw s 2) (Iv 0)=W4 at *
 have w4:=w3.setCell (p:=Aw s 3) (.inl (.inl rfl)) (Iv 0);have a4:(W4.setCell (Aw s 3) (Iv 0)).heap[s]?=some (.cells #[Iv 0,.bool false,Iv 0,Iv 0,Iv 0] 235 (0,0)):=A5 a3 _;have b4:=(A0 (p:=Aw s 3) (w:=W4) n1 (Iv 0)).trans b3
 generalize W4.setCell (Aw s 3) (Iv 0)=W5 at *
 have w5:=w4.setCell (p:=Aw s 4) (.inl (.inl rfl)) (Iv 0);have a5:(W5.setCell (Aw s 4) (Iv 0)).heap[s]?=some (.cells #[Iv 0,.bool false,Iv 0,Iv 0,Iv 0] 235 (0,0)):=A5 a4 _;have b5:=(A0 (p:=Aw s 4) (w:=W5) n1 (Iv 0)).trans b4
 generalize W5.setCell (Aw s 4) (Iv 0)=W6 at *
 subst hW;exact⟨w5.setCell (p:=(Av (s+1))) (.inl (.inr rfl)) _,(A0 (Wi n1) _).trans a5,A5 b5 _⟩
theorem PF (mb gf:Nat)(lb:Array Value)(w:Wd)(R:Option Stop->Wd->Prop)(eg:∀ args w,(callFunc gf args).run prog w=.ok (.enter gf args) w)(hop:ER gf lb mb w R) :
 Cl 242 #[Pt mb,.func (.func gf) #[] lb] w (PD w R):=by
 have gg:∀ (fn:Fn) (first cap:Array Value) (w:Wd),(Instr.makeFunc fn first cap).run prog w=.ok (.func fn first cap) w:=fun _ _ _ _=>rfl
 unfold ER at hop;obtain⟨W,hW⟩:=Ex (tryW mb w);have HW:Hq (_=W):=Hd hW.symm;rw[<- hW] at hop;have g8:=Hd hop;clear hop hW
 go_enter_defers func242,ntmps242
 go_wp2_with fail
 change Calls _ _ _ (tryW mb w) _
 have g4:(tryW mb w).heap[w.heap.size]?=some (.cells #[Iv 0,.bool false,Iv 0,Iv 0,Iv 0] 235 (0,0)):=by
  unfold tryW;exact(VL _ _ (by simp;omega)).trans ((VL _ _ (by simp)).trans (Vq w _))
 have g3:(tryW mb w).heap[w.heap.size+1]?=some (.cells #[.bool false] 4 (0,0)):=by
  unfold tryW;refine(VL _ _ (by simp)).trans ?_;have:=Vq (w.alloc (.cells #[Iv 0,.bool false,Iv 0,Iv 0,Iv 0] 235)) (.cells #[.bool false] 4)
  rwa [VO] at this
 rw[HW.o] at g4 g3 ⊢;have gc:W.heap.size=w.heap.size+3:=by rw[<- HW.o];simp[tryW]
 refine g8.o.mono ?_;rintro e W' ⟨gd,g7,g6,g5⟩;have g1:=g7.trans g4;have g0:=g6.trans g3;obtain⟨c0,c1,c2,c3,c4,f0⟩:=cells5 g1;have c5:W'.cell? (Av (w.heap.size+1))=some (.bool false):=by rw[Vp W' _ 0 _ _ _ g0];rfl
 have f1:∀ k,W'.frozen? ⟨w.heap.size+1,k,none⟩=false:=fun k=>by simp[World.frozen?,g0]
 obtain⟨s,hs⟩:=Ex w.heap.size;rw[<- hs] at g1 g0 c0 c1 c2 c3 c4 f0 c5 f1 ⊢;have hs1:s<W'.heap.size:=by omega
 have ge:s+1<W'.heap.size:=by omega
 have ga:=Hd g1;have g9:=Hd g0;have HS:=Hd hs;clear g4 g3 g7 g6 g1 g0 hs gc gd g8 HW;rcases g5 with ⟨rfl,hr⟩|⟨er,evt,ev,rfl,hr⟩
 ·have HR:=Hd hr;clear hr;go_wp2_with fail;obtain⟨W2,g2⟩:=Ex ((((((W'.setCell (Av s) (Iv 0)).setCell (Aw s 1) (.bool false)).setCell (Aw s 2) (Iv 0)).setCell (Aw s 3) (Iv 0)).setCell (Aw s 4) (Iv 0)).setCell (Av (s+1)) (.bool true));obtain⟨q1,q2,q3⟩:=PE ga.o g9.o g2;rw[<- g2];clear g2 c0 c1 c2 c3 c4 f0 c5 f1;obtain⟨c0,c1,c2,c3,c4,f0⟩:=cells5 q2;have c5:W2.cell? (Av (s+1))=some (.bool true):=by rw[Vp W2 _ 0 _ _ _ q3];rfl
  refine leaves_cons (f:=263) (args:=#[Pt (s+1),Pt s]) (by simp) (by simp[go_sem]) ?_;refine(PB (Av (s+1)) (Av s) _ c5).mono ?_;rintro e u' w'' ⟨rfl,rfl,rfl⟩;simp[Leaves,settle,results,Tryz.results242,go_sem,c0,c1,c2,c3,c4,c5];exact⟨none,W',HR.o,by rw[<- HS.o];exact q1,rfl⟩
 ·have HR:=Hd hr;clear hr;unfold AV;go_wp2_with fail;refine leaves_cons (f:=263) (args:=#[Pt (s+1),Pt s]) (by simp) (by simp[go_sem]) ?_;refine(PC (s+1) s er evt ev [] _ _ _ _ _ _ c5 ga.o).mono ?_;rintro e u' w'' ⟨rfl,rfl,hc⟩;have q3:=(hc.keep (s+1) ge (by omega)).trans g9.o;clear c0 c1 c2 c3 c4 f0 c5 f1;obtain⟨c0,c1,c2,c3,c4,f0⟩:=cells5 hc.blk;have c5:w''.cell? (Av (s+1))=some (.bool false):=by rw[Vp w'' _ 0 _ _ _ q3];rfl
  simp[Leaves,settle,results,Tryz.results242,go_sem,c0,c1,c2,c3,c4,c5];exact⟨some (er,evt,ev),W',HR.o,⟨hc.os,hc.tape,hc.output,hc.size,fun k hk hn=>hc.keep k hk (fun e=>hn (.inl (e.trans HS.o)))⟩,rfl⟩
abbrev Ali (s:Nat)(W W':Wd):Prop:=Wr (fun k=>k=s\/k=s+1) W W'
structure PG (gf:Nat)(lb:Array Value)(mb:Nat)(I:Nat->Bool->Wd->Prop)(Fin:Int->Wd->Prop)(n:Nat)(room:Bool)(W:Wd)(R:Option Stop->Wd->Prop):Prop where
 op:ER gf lb mb W R
 fin:∀ W1 W2,R none W1->Ali W.heap.size W1 W2->Fin 0 W2
 event:∀ er ev W1 W2,R (some (er,true,ev)) W1->Ali W.heap.size W1 W2->Cl 243 #[Pt mb,evA ev] W2 fun x w'=>x=.returned (.tuple #[])/\∃ n',n'<n/\I n' false w'
 full:∀ ev W1 W2,R (some (7,false,ev)) W1->Ali W.heap.size W1 W2->room=false->Cl 244 #[Pt mb] W2 fun x w'=>(∃ v,x=.returned v)/\I n true w'
 err:∀ er ev W1 W2,R (some (er,false,ev)) W1->Ali W.heap.size W1 W2->¬ (er=7/\room=false)->Fin er W2
theorem K5 (mb gf:Nat)(lb:Array Value)(w:Wd)(eg:∀ args w,(callFunc gf args).run prog w=.ok (.enter gf args) w)(I:Nat->Bool->Wd->Prop)(Fin:Int->Wd->Prop)
 (hI:∀ n room W,I n room W->∃ R,PG gf lb mb I Fin n room W R) (n0:Nat) (h0:I n0 false w) :
 Cl 196 #[Pt mb,.func (.func gf) #[] lb] w fun x w'=>∃ er,x=.returned (Iv er)/\Fin er w':=by
 have HI:=Hd hI;clear hI
 go_enter func196,ntmps196
 go_wp2_with fail
 go_loopg [5] (2*n0+1) (fun gk s5 wx=>∃ (n:Nat) (room:Bool),s5=.bool room/\I n room wx/\gk=2*n+(if room then 0 else 1))
 case atStart=>exact⟨n0,false,rfl,h0,rfl⟩
 case round =>
  obtain⟨n,room,rfl,hi,g4⟩:=hrel;obtain⟨R,hR⟩:=HI.o n room wr hi;have g6:=Hd (PF mb gf lb wr R eg hR.op);have HR:=Hd hR;have g5:=Hd g4;clear hi hR g4 h0;go_wp2_with fail;refine g6.o.mono ?_;rintro x w2 ⟨r,W1,hr,hw,rfl⟩;obtain⟨bx,g8⟩:=Ex w2.heap.size;cases r with
  | none =>
    have HF:=Hd fun W2 (h:Wr (fun _=>False) w2 W2)=>HR.o.fin W1 W2 hr (hw.trans h (fun _ _ e=>e) (fun _ _ e=>e.elim))
    clear hr hw;unfold Ir;go_wp2_with fail;go_ret;exact⟨0,rfl,HF.o _ ((Wr.refl _ w2).alloc _)⟩
  | some st =>
    obtain⟨er,evt,ev⟩:=st;unfold Ir;cases evt with
    | true =>
      have HF:=Hd fun W2 (h:Wr (fun _=>False) w2 W2)=>HR.o.event er ev W1 W2 hr (hw.trans h (fun _ _ e=>e) (fun _ _ e=>e.elim))
      clear hr hw;go_wp2_with fail;refine(HF.o _ ((Wr.refl _ w2).alloc _)).mono ?_;rintro x w3 ⟨rfl,n',g3,g0⟩;have g7:=Hd g3;have g2:=Hd g0;clear g3 g0;go_wp2_with fail
      go_roundg (2*n'+1)
      case rel=>exact⟨n',false,rfl,g2.o,rfl⟩
      case measure=>have h1:=g7.o;have h2:=g5.o;omega
    | false =>
      have HW:=Hd fun W2 (h:Wr (fun _=>False) w2 W2)=>hw.trans h (N:=fun k=>k=wr.heap.size\/k=wr.heap.size+1) (fun _ _ e=>e) (fun _ _ e=>e.elim)
      have g1:=Hd hr;clear hr hw
      by_cases h7:er=7
      ·subst h7;cases room with
       | false =>
         have HF:=Hd fun W2 (h:Wr (fun _=>False) w2 W2)=>HR.o.full ev W1 W2 g1.o (HW.o W2 h) rfl
         go_wp2_with fail;refine(HF.o _ ((Wr.refl _ w2).alloc _)).mono ?_;rintro x w3 ⟨⟨vv,rfl⟩,g0⟩;have g2:=Hd g0;clear g0;go_wp2_with fail
         go_roundg (2*n)
         case rel=>exact⟨n,true,rfl,g2.o,rfl⟩
         case measure=>have h2:=g5.o;simp at h2;omega
       | true =>
         have HF:=Hd fun W2 (h:Wr (fun _=>False) w2 W2)=>HR.o.err 7 ev W1 W2 g1.o (HW.o W2 h) (by simp)
         go_wp2_with fail;go_ret;exact⟨_,rfl,HF.o _ ((Wr.refl _ w2).alloc _)⟩
      ·have H7:((er:Int) == 7)=false:=by simpa using h7
       have HF:=Hd fun W2 (h:Wr (fun _=>False) w2 W2)=>HR.o.err er ev W1 W2 g1.o (HW.o W2 h) (fun e=>h7 e.1)
       go_wp2_with fail;go_ret;exact⟨_,rfl,HF.o _ ((Wr.refl _ w2).alloc _)⟩
theorem K6 (hk:Ak d V):Acy (Aa d) (fun i=>d.vars.length-lvE d.vars.length (levN d) (Aa d) (2*i)):=by
 have e2:∀ i:Nat,2*i/2=i:=fun i=>by omega
 have hl:∀ i b,Aa d i=some b->lvE d.vars.length (levN d) (Aa d) (2*i)=levN d b.v:=fun i b h=>by unfold lvE;rw[e2,h]
 have hh:∀ e,lvE d.vars.length (levN d) (Aa d) (2*(e/2))=lvE d.vars.length (levN d) (Aa d) e:=fun e=>FN (e2 _)
 refine⟨hk.dag.none0,hk.dag.okLo,hk.dag.okHi,fun i b c h1 h2=>?_,fun i b c h1 h2=>?_⟩
 . have a1:=hk.dag.lvLo _ _ h1;have a2:=hk.dag.lt _ (hk.dag.var _ _ h1);have a3:=hh b.lo;rw[hl i b h1];omega
 . have a1:=hk.dag.lvHi _ _ h1;have a2:=hk.dag.lt _ (hk.dag.var _ _ h1);have a3:=hh b.hi;rw[hl i b h1];omega
theorem PH {o:Own}(h:A2 o w sb d)(hlt:Ab o w)(hk:Ak d V)(f:Nat)(hf:okE (Aa d) f)(htop:∀ y b,Aa d y=some b->Aj d y<1099511627776) :
 Cl 227 #[Pt sb,Iv f] w fun x w'=>x=.returned (Iv 0)/\∃ d',A2 o w' sb d'/\Ab o w'/\D0 d d' f 1/\Chg Al o o w w':=by
 obtain⟨s,h⟩:=h;have g0:=h.edge_lt hf;rcases hf with h0|⟨b,hb⟩
 . refine(Pc h hlt hk.live f (by unfold eMax;omega) h0).mono ?_;rintro e w' ⟨d',h1,h2,h3,h4,h5⟩;exact⟨h1,d',⟨s,h2⟩,h3,h4,h5⟩
 . refine(Pd h hlt hk.live (K6 hk) f (b:=b) hb htop).mono ?_;rintro e w' ⟨d',h1,h2,h3,h4,h5⟩;exact⟨h1,d',⟨s,h2⟩,h3,h4,h5⟩
theorem D0.ok {sg:Int}(r:D0 d d' f sg)(hk:Ak d V):Ak d' V:=by
 have hl:levN d'=levN d:=by funext v;unfold levN;rw[r.level]
 exact⟨by rw[r.vars,hl,r.nodes];exact hk.dag,r.live,by rw[r.vars,r.nodes,r.tab];exact hk.tab,by rw[r.clen];exact hk.clen,by rw[r.vars];exact hk.small,by rw[r.vars,hl];exact hk.inv,by rw[r.vars,hl];exact hk.vlt⟩
abbrev Wl:=@List.filter_append
theorem PI (hs:List (Int×Nat))(n:Int)(f i:Nat)(hn:1<n):AP (hs++[(n,f)]) i=AP hs i+(if f/2=i then 1 else 0):=by
 unfold AP;rw[Wl,Vr];congr 1
 by_cases e:f/2=i
 . simp[e,hn]
 ·have:(f/2 == i)=false:=by simp[e]
  simp[e,this,List.filter]
abbrev Wk:=@List.length_filter_le
theorem PJ (hs:List (Int×Nat))(i:Nat):AP hs i<=hs.length:=Wk _ _
structure Gave (K:Law)(o:Own)(w:Wd)(mb:Nat)(m:ManD)(V:Nat->BF)(f:Nat)(o':Own)(w':Wd)(m':ManD):Prop where
 is:Ba (K m'.d V) o' w' mb m'
 lt:Ab o' w'
 chg:Chg (fun _=>True) o o' w w'
 ok:El m' V
 hs:m'.hs=m.hs++[(m.next,f)]
 next:m'.next=m.next+1
 waits:m'.waits=m.waits
 calls:m'.calls=m.calls
 nodes:Aa m'.d=Aa m.d
 vars:m'.d.vars=m.d.vars
 level:m'.d.level=m.d.level
 room:m'.d.pool.room=m.d.pool.room
 many:m'.d.pool.many=m.d.pool.many
theorem PK (h:Ck m)(r:D0 m.d d' f 1)(hf:okE (Aa m.d) f)(h0:Aa m.d 0=none):Ck { m with d:=d',hs:=m.hs++[(m.next,f)],next:=m.next+1 }:=by
 have hn:=h.next
 refine⟨?_,by simp[h.zero],by simp[h.one],?_,by dsimp only;omega,?_,?_,?_⟩
 . dsimp only;rw[VK,Wg];refine⟨h.nodup,by simp,fun a ha b hb=>?_⟩;simp at hb;subst hb;rintro rfl;obtain⟨p,hp,e⟩:=Vz.1 ha;have:=(h.lt p hp).2;omega
 ·intro p hp;rcases Vy.1 hp with hp|hp
  . have:=h.lt p hp;dsimp only;omega
  . simp at hp;subst hp;dsimp only;omega
 ·intro p hp;dsimp only;rw[r.nodes];rcases Vy.1 hp with hp|hp
  . exact h.ok p hp
  . simp at hp;subst hp;exact hf
 . have:=h.len;simp;omega
 ·intro i b hb;dsimp only at hb ⊢;rw[r.nodes] at hb;have hi:i≠0:=by rintro rfl;rw[h0] at hb;cases hb
  rw[r.ext i hi,h.refs i b hb,PI _ _ _ _ (by omega)];unfold toE;split<;>simp
theorem PL {k:Int}{l:List (Int×Value)}(h:∀ p∈l,p.1≠k):putL k v l=l++[(k,v)]:=by
 have h1:=Dh.2 h;unfold getL at h1;unfold putL;cases e:AE k l 0 with
 | none=>rfl
 | some p=>rw[e] at h1;cases h1
theorem A7.setMap {F:Phi}{o:Own}{s:ManW}(h:A7 F o w mb m s)(hlt:Ab o w){hs':List (Int×Nat)}(hm:A1 w' s.hb (Value.int .i64) (encH hs'))(hg:w.grownBy w' (some s.hb)):A7 F o w' mb { m with hs:=hs' } s:=by
 have k:∀ {g r},o g=some r->r ≠ .handles->w'.heap[g]?=w.heap[g]?:=fun hq hr=>hg.block _ (hlt _ _ hq) (fun e=>by cases e;have:=h.ownh;rw[hq] at this;cases this;exact hr rfl)
 exact⟨h.own,(k h.own (by simp)).trans h.blk,h.store.keepR (fun g r hq hr=>k hq (by rintro rfl;simp[Al,Bt] at hr)) (fun _ _ h=>h),h.memo.keep (fun g r hq hr=>k hq (by rintro rfl;rcases hr with e|e<;>cases e)) (fun _ _ h=>h),h.ownh,hm,
  h.waits.keep (fun g hq=>k hq (by simp)) (fun _ h=>h)⟩
theorem kI:Df prog 3 (Value.int .i64):=JR underlying3
theorem Is (hK:Bb K){o:Own}(hm:Ba (K m.d V) o w mb m)(hlt:Ab o w)(hk:El m V)(f:Nat)(hf:okE (Aa m.d) f)(hb:m.next<1099511627776) :
 Cl 161 #[Pt mb,Iv f] w fun x w'=>x=.returned (Iv m.next)/\∃ o' m',Gave K o w mb m V f o' w' m':=by
 obtain⟨s,hm⟩:=hm;obtain⟨c0,c1,c2,c3,c4,c5,f0⟩:=cells6 hm.blk
 have gh:=Hd (PH hm.store hlt hk.store f hf (fun y b hy=>by
  rw[hk.handles.refs y b hy];have h1:=PJ m.hs y;have h2:=hk.handles.len;omega))
 have gl:=hk.handles.next
 have HM:=Hd hm;have HL:=Hd hlt;have HK:=Hd hk;have HF:=Hd hf;have ge:=Hd hK;clear hm hlt hk hf hK
 go_enter func161,ntmps161
 go_wp2_with fail;refine gh.o.mono ?_;rintro x w1 ⟨rfl,d',g8,ga,hr,g3⟩;have g5:=HM.o.setStore HL.o g8 g3;have g0:∀ p∈encH m.hs,p.1≠m.next:=by
  intro p hp e0;obtain⟨q,hq,rfl⟩:=Vz.1 hp;have h1:=HK.o.handles.lt q hq;have h2:q.1<m.next:=h1.2
  have h3:q.1=m.next:=e0
  omega
 have gi:=Hd g0;have g7:=Hd g5;have gd:=Hd ga;have HR:=Hd hr;have gk:=Hd g3;clear g8 ga hr g3 g0 c0 c1 c2 c3 c4 c5 f0;obtain⟨c0,c1,c2,c3,c4,c5,f0⟩:=cells6 g5.blk;clear g5;go_upto_region 3 with fail
 go_wp2_with (refine JS (l := encH m.hs) rfl _ _ _ rfl kI underlying98 m.next (Iv (f : Nat)) rfl rfl rfl g7.o.map ?_
              intro w2 g2 g1;have g9:Ab o w2:=gd.o.mono g1.size;rw[PL gi.o] at g2;have g4:=g7.o.setMap gd.o (hs':=m.hs++[(m.next,f)]) (by simpa [encH] using g2) g1;have gc:Chg (fun _=>True) o o w w2:=gk.o.any.grown g1 (fun g hg=>by cases hg;exact⟨_,g7.o.ownh,trivial⟩);have g6:=Hd g4;have gg:=Hd g9;have gj:=Hd gc;clear c0 c1 c2 c3 c4 c5 f0 g2 g1 g9 gc;obtain⟨c0,c1,c2,c3,c4,c5,f0⟩:=cells6 g4.blk;clear g4)
 go_ret;have hr:=HR.o;have gf:A7 (K m.d V) o (w2.setCell (Aw mb 3) (Iv (m.next+1))) mb { m with d:=d',hs:=m.hs++[(m.next,f)],next:=m.next+1 } s:=g6.o.field rfl rfl rfl rfl rfl g6.o.waits rfl;refine⟨rfl,o,_,⟨⟨s,gf.mono fun op a b c r h=>ge.o.same _ _ _ _ _ _ _ _ hr.vars hr.level hr.nodes h⟩,gg.o.mono (by simp[World.setCell]),gj.o.setCell (p:=Aw mb 3) g6.o.own trivial _,⟨hr.ok HK.o.store,PK HK.o.handles hr HF.o HK.o.store.dag.none0⟩,rfl,rfl,rfl,rfl,hr.nodes,hr.vars,hr.level,hr.room,hr.many⟩⟩
def doW (gop:Nat)(lop:Array Value)(w:Wd):Wd:=(w.alloc (.cells #[.func (.func gop) #[] lop] 182)).alloc (.cells #[Iv 0] 101)
abbrev XQ:=@enters_of
theorem PM:∀ args w,(callFunc 197 args).run prog w=.ok (.enter 197 args) w:=XQ func197 (by kernel_rfl) rfl
theorem PN (w:Wd)(g:Fn)(fs cs:Array Value):(binOp .eql 182 (.func g fs cs) .nilFunc).run prog w=.ok (.bool false) w:=by
 have hd:Op.maxDepth=9999+1:=rfl;have h:(Op.equal 182 (.func g fs cs) .nilFunc).run prog w=.ok false w:=by
  unfold Op.equal;rw[hd];unfold Op.equalIn;simp only[WG,VP underlying182,VZ];simp
 simp only[binOp];simp[h]
def varF (v:Nat):BF:=fun ρ=>ρ v
theorem PO:∀ args w,(callFunc 144 args).run prog w=.ok (.enter 144 args) w:=XQ func144 (by kernel_rfl) rfl
theorem K7 (w:Wd):(zeroValue 101).run prog w=.ok (Iv 0) w:=by
 have s:(prog.info? 101).map (fun i=>i.zero)=some (some (Iv 0)):=by kernel_rfl
 cases hi:prog.info? 101 with
 | none=>rw[hi] at s;cases s
 | some i =>
   rw[hi] at s;simp only[WC,VY] at s;simp[zeroValue,typeInfo,hi,s]
theorem Ep {hs:List (Int×Nat)}(h:(hs.map Prod.fst).Nodup):((encH hs).map Prod.fst).Nodup:=by
 have:(encH hs).map Prod.fst=hs.map Prod.fst:=by simp[encH]
 rw[this];exact h
section
variable {F:Phi}{o:Own}{s:ManW}
theorem Er (h:A7 F o w mb m s)(hn:(m.hs.map Prod.fst).Nodup){k:Int}(hk:(k,f)∈m.hs) :
 (Instr.lookup 98 (.map (some s.hb)) (Iv k) true).run prog w=.ok (.tuple #[Iv f,.bool true]) w:=by
 have h1:=h.map.lookup kI underlying98 K7 k true;have h2:getL (encH m.hs) k=some (Iv (f:Nat)):=DK (Ep hn) (Vz.2 ⟨(k,f),hk,rfl⟩);rw[h1,h2];rfl
theorem PQ (h:A7 F o w mb m s){k:Int}(hk:∀ f,(k,f)∉m.hs) :
 (Instr.lookup 98 (.map (some s.hb)) (Iv k) true).run prog w=.ok (.tuple #[Iv 0,.bool false]) w:=by
 have h1:=h.map.lookup kI underlying98 K7 k true
 have h2:getL (encH m.hs) k=none:=Dh.2 (by
  rintro p hp rfl;obtain⟨q,hq,rfl⟩:=Vz.1 hp;exact hk q.2 hq)
 rw[h1,h2];rfl
end
theorem FP {F:Phi}{o:Own}(h:Ba F o w mb m)(hx:BO o w xb mb)(hn:(m.hs.map Prod.fst).Nodup){k:Int}(hk:(k,f)∈m.hs) :
 Cl 148 #[Pt xb,Iv k] w (Sm (Iv f) w):=by
 obtain⟨s,h⟩:=h;obtain⟨c0,c1,c2,c3,c4,c5,f0⟩:=cells6 h.blk;have cx:=hx.cell;have hl:=Er h hn hk;clear h hx hn hk
 go_enter func148,ntmps148
 go_wp2_with fail;go_ret;exact⟨rfl,rfl⟩
theorem Vk {F:Phi}{o:Own}(h:Ba F o w mb m) :
 Cl 73 #[Pt mb] w (Sm (Iv m.hs.length) w):=by
 obtain⟨s,h⟩:=h;obtain⟨c0,c1,c2,c3,c4,c5,f0⟩:=cells6 h.blk;have hl:=h.map.size (P:=prog) underlying98 3;have e:(encH m.hs).length=m.hs.length:=by simp[encH]
 rw[e] at hl;clear h e
 go_enter func73,ntmps73
 go_wp2_with fail;go_ret;exact⟨rfl,rfl⟩
theorem PR:∀ args w,(callFunc 146 args).run prog w=.ok (.enter 146 args) w:=XQ func146 (by kernel_rfl) rfl
def box3 (a b c:Int)(w:Wd):Wd:=((w.alloc (.cells #[Iv a] 3)).alloc (.cells #[Iv b] 3)).alloc (.cells #[Iv c] 3)
theorem PS (a b c:Int)(w:Wd):Bw w (box3 a b c w)/\(box3 a b c w).cell? (Av w.heap.size)=some (Iv a)/\(box3 a b c w).cell? (Av (w.heap.size+1))=some (Iv b)/\(box3 a b c w).cell? (Av (w.heap.size+2))=some (Iv c):=by
 have h0:=Vq w (.cells #[Iv a] 3);have h1:=Vq (w.alloc (.cells #[Iv a] 3)) (.cells #[Iv b] 3);have h2:=Vq ((w.alloc (.cells #[Iv a] 3)).alloc (.cells #[Iv b] 3)) (.cells #[Iv c] 3);rw[VO] at h1;rw[VO,VO] at h2;have a0:(box3 a b c w).heap[w.heap.size]?=some (.cells #[Iv a] 3 (0,0)):=(VL _ _ (by simp;omega)).trans ((VL _ _ (by simp)).trans h0);have a1:(box3 a b c w).heap[w.heap.size+1]?=some (.cells #[Iv b] 3 (0,0)):=(VL _ _ (by simp)).trans h1;have a2:(box3 a b c w).heap[w.heap.size+2]?=some (.cells #[Iv c] 3 (0,0)):=h2;exact⟨((Af w _).alloc (by simp) _).alloc (by simp;omega) _,by rw[Vp _ _ 0 _ _ _ a0];rfl,by rw[Vp _ _ 0 _ _ _ a1];rfl,by rw[Vp _ _ 0 _ _ _ a2];rfl⟩
def man0 (n room:Nat):ManD:=⟨store0 n room,[(0,1),(1,0)],2,[],0⟩
theorem nodes0 (n room:Nat):Aa (store0 n room)=fun _=>none:=by
 funext i;have ht:(pool0 room).tk i=false:=by
  unfold Ad.tk pool0;cases i with
  | zero=>rfl
  | succ i=>rfl
 unfold Aa store0 Ad.get;simp[ht]
theorem It (n v:Nat)(h:v<n):(List.range n).getD v 0=v:=by simp[List.getD,h]
theorem PT (n room:Nat)(hn:n<=64):Ak (store0 n room) (fun _ _=>true):=by
 have hl:∀ v,v<n->levN (store0 n room) v=v:=fun v hv=>It n v hv
 have g1:(store0 n room).vars.length=n:=by simp[store0]
 have g0:∀ i b,Aa (store0 n room) i=some b->False:=fun i b h=>by rw[nodes0] at h;cases h
 refine⟨⟨fun _=>rfl,by rw[nodes0],fun i b h=>(g0 i b h).elim,fun u v hu hv e=>?_,fun v hv=>?_,fun i b h=>(g0 i b h).elim,fun i b h=>(g0 i b h).elim,fun i b h=>(g0 i b h).elim,fun i b h=>(g0 i b h).elim,fun i b h=>(g0 i b h).elim,fun i b h=>(g0 i b h).elim,fun i j b h=>(g0 i b h).elim,fun i b h=>(g0 i b h).elim⟩,
  ?_,fun v hv lo hi id=>⟨fun h=>absurd (show (none:Option Nat)=some id from h) (by simp),fun h=>(g0 _ _ h).elim⟩,by simp[store0],by rw[g1];exact hn,fun v hv=>?_,fun i hi=>?_⟩
 . rw[g1] at hu hv;rw[hl u hu,hl v hv] at e;exact e
 . rw[g1] at hv ⊢;rw[hl v hv];exact hv
 ·refine⟨⟨fun i b h=>(g0 i b h).elim,fun i b h=>(g0 i b h).elim⟩,?_,fun i b h=>(g0 i b h).elim⟩;have h1:Bc (store0 n room).pool.at_.length (Aa (store0 n room)) (Ai (store0 n room))=Ag (store0 n room).pool.at_.length (dead1 (Aa (store0 n room)) (Ai (store0 n room))):=rfl;rw[h1,nodes0];have h2:dead1 (fun _=>none) (Ai (store0 n room)) 0=0:=rfl
  show (0:Int)=Ag 1 _
  simp[Ag,h2]
 . rw[g1] at hv;rw[hl v hv];exact It n v hv
 . rw[g1] at hi ⊢;have e:(store0 n room).vars.getD i 0=i:=It n i hi;rw[e];exact⟨hi,hl i hi⟩
theorem K8 (n room:Nat)(hn:n<=64):El (man0 n room) (fun _ _=>true) :=
 ⟨PT n room hn,⟨by simp[man0],by simp[man0],by simp[man0],by simp[man0],by simp[man0],fun p hp=>by simp[man0] at hp;rcases hp with rfl|rfl<;>exact .inl rfl,by simp[man0],fun i b h=>by rw[show (man0 n room).d=store0 n room from rfl,nodes0] at h;cases h⟩⟩
def D4:Law:=fun d V op a b c r=>op=1->IteP d V a b c r
theorem PU:Bb D4:=⟨fun d V a b c r=>⟨fun h=>h rfl,fun h _=>h⟩,fun d V d' V' op a b c r hk hk' x h e=>(h e).ext x hk hk',fun d d' V op a b c r h1 h2 h3 h e=>by
 have q:=h e;have hl:levN d'=levN d:=by funext v;unfold levN;rw[h2]
 have hm:minL d' a b c=minL d a b c:=by unfold minL;rw[h1,hl,h3]
 exact⟨by rw[h3];exact q.okA,by rw[h3];exact q.okB,by rw[h3];exact q.okC,by rw[h3];exact q.okR,q.val,by rw[hm,h1,hl,h3];exact q.lev⟩⟩
theorem K9 {F:Phi}(o:Own)(n room:Nat)(w:Wd)(hlt:Ab o w)(hn:n<=64)(h1:1<=room)(h2:room<=1048576) :
 Cl 39 #[Iv n,Iv room] w fun x w'=>∃ mb o',x=.returned (.tuple #[Pt mb,Iv 0])/\Ba F o' w' mb (man0 n room)/\Chg (fun _=>True) o o' w w'/\Ab o' w'/\w.heap.size<=mb:=by
 have HS:=Hd (Py o n room w hlt hn h1 h2);clear hlt hn h1 h2
 go_enter func39,ntmps39
 go_wp2_with fail;refine HS.o.mono ?_;rintro x w1 ⟨sb,o1,rfl,gf,gl,gi,gt⟩;have go:=Hd gf;have gr:=Hd gl;have g3:=Hd gi;clear gf gl gi;have gw:=EK (P:=prog) w1 98;obtain⟨wA,gv,gh,g2⟩:=(FF w1 (Value.int .i64)).update (P:=prog) kI underlying98 0 (Iv 1);obtain⟨wB,gu,gc,g6⟩:=gh.update (P:=prog) kI underlying98 1 (Iv 0);have gj:=g3.o.allocR (.map #[] 0) .handles;have gk:Chg (fun _=>True) o (AH o1 w1.heap.size .handles) w wB :=
  ((gr.o.any.allocR (r:=.handles) g3.o (.map #[] 0) trivial).grown g2 (fun g hg=>by cases hg;exact⟨_,B5 _ _ _,trivial⟩)).grown g6 (fun g hg=>by cases hg;exact⟨_,B5 _ _ _,trivial⟩)
 have gd:Ab (AH o1 w1.heap.size .handles) wB:=gj.mono (Vx g2.size g6.size);have ga:∀ g r,o1 g=some r->g≠w1.heap.size:=fun g r hg e=>by have:=g3.o g r hg;omega
 have g5:∀ g r,o1 g=some r->wB.heap[g]?=w1.heap[g]?:=fun g r hg=>by
  have a0:=g3.o g r hg;have a1:g<(w1.alloc (.map #[] 0)).heap.size:=by simp;omega
  rw[g6.block g (VH a1 g2.size) (by intro e;cases e;exact ga _ _ hg rfl),g2.block g a1 (by intro e;cases e;exact ga _ _ hg rfl)];exact VL _ _ a0
 have gp:=Hd (go.o.keepR (o':=AH o1 w1.heap.size .handles) (fun g r hg _=>g5 g r hg) (fun g r hg=>CR g3.o (Vo _) hg));have gq:Hq (A1 wB w1.heap.size (Value.int .i64) [(0,Iv 1),(1,Iv 0)]):=Hd gc;have gn:=Hd gk;have gm:=Hd gd;have HME:=Hd (OG (AH o1 w1.heap.size .handles) F wB gd);have gx:w1.heap.size<wB.heap.size:=gc.lt;clear gh g2 gc g6 gj gk gd ga g5;go_wp2_with fail;refine HME.o.mono ?_;rintro x w2 ⟨me,o2,rfl,gg,g0,g1,gy⟩;have g7:=gp.o.keepR (o':=o2) (w':=w2) (fun g r hg hr=>g0.same gm.o hg (by rintro rfl;simp[Al,Bt] at hr)) g0.ext;have g4:=gq.o.keepB (g0.same gm.o (B5 o1 w1.heap.size .handles) (by simp));have g8:=g0.ext _ _ (B5 o1 w1.heap.size .handles);have HF:Hq (∀ w3,w3=w2.alloc (.cells #[Pt sb,Pt me,.map (some w1.heap.size),Iv 2,.slice none 0 0,Iv 0] 100)->Ba F (AH o2 w2.heap.size .man) w3 w2.heap.size (man0 n room)/\Chg (fun _=>True) o (AH o2 w2.heap.size .man) w w3/\Ab (AH o2 w2.heap.size .man) w3/\w.heap.size<=w2.heap.size):=by
  refine Hd ?_;rintro w3 rfl;have ge:∀ g r,o2 g=some r->(w2.alloc (.cells #[Pt sb,Pt me,.map (some w1.heap.size),Iv 2,.slice none 0 0,Iv 0] 100)).heap[g]?=w2.heap[g]?:=fun g r hg=>VL _ _ (g1 g r hg)
  have g9:∀ g r,o2 g=some r->AH o2 w2.heap.size .man g=some r:=fun g r hg=>CR g1 (Vo _) hg
  exact⟨⟨⟨sb,me,w1.heap.size,.slice none 0 0⟩,B5 _ _ _,Vq w2 _,g7.keepR (fun g r hg _=>ge g r hg) g9,gg.keep (fun g r hg _=>ge g r hg) g9,g9 _ _ g8,g4.keepB (ge _ _ g8),Bh.nil _ _⟩,
   (gn.o.trans g0.any).allocR g1 _ trivial,g1.allocR _ _,(gn.o.trans g0.any).size⟩
 clear g7 g4 g8 gg g0 g1;go_wp2_with fail
 go_ret2
 obtain⟨a1,a2,a3,a4⟩:=HF.o _ rfl;exact⟨_,_,rfl,a1,a2,a3,a4⟩
section
variable {F:Phi}{o:Own}
theorem PV (h:A2 o w sb d):Cl 121 #[Pt sb] w (Sm (Iv d.vars.length) w):=by
 obtain⟨s,h⟩:=h;obtain⟨c0,c1,c2,c3,c4,f0⟩:=cells5 h.blk;obtain⟨d0,d1,_⟩:=cells2 h.lev;obtain⟨a,cap,hv,_⟩:=h.vars.slice;rw[hv] at d0;clear h hv
 go_enter func121,ntmps121
 go_wp2_with fail;go_ret;exact⟨rfl,rfl⟩
theorem KA (h:Ba F o w mb m):Cl 62 #[Pt mb] w (Sm (Iv m.d.vars.length) w):=by
 obtain⟨s,h⟩:=h;obtain⟨c0,c1,c2,c3,c4,c5,f0⟩:=cells6 h.blk;have HP:=Hd (PV h.store);clear h
 go_enter func62,ntmps62
 go_wp2_with fail;refine HP.o.mono ?_;rintro x w' ⟨rfl,rfl⟩;go_wp2_with fail;go_ret;exact⟨rfl,rfl⟩
end
structure BB (w:Wd)(a:Option Addr)(bs:List Bool):Prop where
 len:bs.length<=1000000
 cells:∀ k,k<bs.length->∃ b off,a=some (Aw b off)/\w.cell? (Aw b (off+k))=some (.bool (bs.getD k false))
theorem BB.below {a:Option Addr}(h:BB w a bs)(hb:Bw w w'):BB w' a bs :=
 ⟨h.len,fun k hk=>by
  obtain⟨b,off,rfl,hc⟩:=h.cells k hk;exact⟨b,off,rfl,(Cq hb hc)⟩⟩
def AF (bs:List Bool):Nat->Bool:=fun v=>bs.getD v false
theorem PW {F:Phi}{o:Own}(h:Ba F o w mb m)(hlt:Ab o w)(hk:El m V){k:Int}(hkf:(k,f)∈m.hs)(a:Option Addr)(c:Nat)(bs:List Bool)(hbs:BB w a bs) :
 Cl 125 #[Pt mb,Iv k,.slice a bs.length c] w (Bl (.tuple #[.bool (ef V f (AF bs)),Iv 0]) w):=by
 obtain⟨s,h⟩:=h;obtain⟨c0,c1,c2,c3,c4,c5,f0⟩:=cells6 h.blk;have gq:=Er h hk.handles.nodup hkf;have HM:=Hd h;have gj:=Hd hlt;have HK:=Hd hk.store;have gn:=Hd (hk.handles.ok _ hkf);have gu:=Hd hbs;have gv:=hbs.len;clear h hlt hk hkf hbs
 go_enter func125,ntmps125
 go_wp2_with fail
 go_loopg [8] (m.d.vars.length-lvE m.d.vars.length (levN m.d) (Aa m.d) f) (fun gk s8 wx=>∃ e:Nat,s8=Iv e/\okE (Aa m.d) e/\ef V e (AF bs)=ef V f (AF bs)/\Bw w wx/\gk=m.d.vars.length-lvE m.d.vars.length (levN m.d) (Aa m.d) e)
 case atStart=>exact⟨f,rfl,gn.o,rfl,VA _ _,rfl⟩
 case round =>
  obtain⟨e,rfl,g0,gd,hB,gc⟩:=hrel;clear c0 c1 c2 c3 c4 c5 f0 gq;have hm:=HM.o.below gj.o hB;obtain⟨c0,c1,c2,c3,c4,c5,f0⟩:=cells6 hm.blk;have ge:e<eMax:=by
   obtain⟨ss,gp⟩:=hm.store;have:=gp.edge_lt g0;unfold eMax;omega
  have HC:=Hd (fun W=>GF e W ge);have HA:=Hd (FL hm.store (gj.o.mono hB.size) HK.o e g0);have g5:=Hd gd;have HB:=Hd hB;have g4:=Hd gc;clear hm ge gd hB gc;cases hb:Aa m.d (e/2) with
  | none =>
    have h0:e/2=0:=by
     rcases g0 with h|⟨b,gi⟩
     . exact h
     . rw[hb] at gi;cases gi
    have he:decide (enode e=0)=true:=by simp[enode,h0]
    rw[he] at HC;have HR:Hq (ef V f (AF bs)=((e:Int) == 0)):=by
     show _=_
     rw[<- g5.o];have h1:=HK.o.dag.one (AF bs);have h2:e=0\/e=1:=by omega
     rcases h2 with rfl|rfl<;>simp[ef,h1]
    clear g0 hb h0 he;go_wp2_with fail;refine(HC.o _).mono ?_;rintro x w' ⟨rfl,rfl⟩;go_wp2_with fail
    go_ret2
    exact⟨by rw[HR.o];rfl,HB.o⟩
  | some b =>
    have g8:=HK.o.dag.var _ _ hb;have g6:lvE m.d.vars.length (levN m.d) (Aa m.d) e=levN m.d b.v:=by unfold lvE;rw[hb]
    have gf:=Cf HK.o g0 g8 (by rw[g6];exact Vo _);have gg:cofs m.d e b.v=(eflip b.lo (eneg e),eflip b.hi (eneg e)):=by unfold cofs;rw[hb];simp
    rw[gg] at gf;obtain⟨k1,k2,k3,k4,k5⟩:=gf;have k5:=k5 (AF bs);dsimp only at k1 k2 k3 k4 k5;have g7:=HK.o.dag.lt _ g8;have ga:decide (enode e=0)=false:=by
     have:enode e≠0:=by rintro h0;have h1:e/2=0:=h0;rw[h1,HK.o.dag.none0] at hb;cases hb
     simp[this]
    rw[ga] at HC;unfold atV at HA;rw[hb] at HA;obtain⟨L,hL⟩:=Ex (eflip b.lo (eneg e));obtain⟨H,hH⟩:=Ex (eflip b.hi (eneg e));rw[<- hL,<- hH] at k5;rw[<- hL] at k1 k3;rw[<- hH] at k2 k4;dsimp only at HA;rw[<- hL,<- hH] at HA;rw[g6] at g4;have gm:=Hd k1;have gt:=Hd k2;have gl:=Hd k3;have gr:=Hd k4;have g1:=Hd k5;have g9:=Hd g7;clear g0 hb g8 g6 gg k1 k2 k3 k4 k5 g7 ga hL hH;go_wp2_with fail;refine(HC.o _).mono ?_;rintro x w' ⟨rfl,rfl⟩;go_wp2_with fail;refine HA.o.mono ?_;rintro x w2 ⟨rfl,gh⟩;have HB2:=Hd (HB.o.trans (gh.mono HB.o.size));clear gh c0 c1 c2 c3 c4 c5 f0
    by_cases hv:b.v<bs.length
    ·obtain⟨b0,off,ha,g2⟩:=(gu.o.below HB2.o).cells b.v hv;subst ha;have go:(b.v:Int)<bs.length:=by omega
     have hx:AF bs b.v=bs.getD b.v false:=rfl;rw[<- hx] at g2;cases g3:AF bs b.v with
     | true =>
       rw[g3] at g2 g1;clear g3 hx;go_wp2_with fail
       go_roundg (m.d.vars.length-lvE m.d.vars.length (levN m.d) (Aa m.d) H)
       case rel=>exact⟨H,rfl,gt.o,by rw[<- g5.o,g1.o];rfl,HB2.o,rfl⟩
       case measure=>have h1:=g4.o;have h2:=gr.o;have h3:=g9.o;omega
     | false =>
       rw[g3] at g2 g1;clear g3 hx;go_wp2_with fail
       go_roundg (m.d.vars.length-lvE m.d.vars.length (levN m.d) (Aa m.d) L)
       case rel=>exact⟨L,rfl,gm.o,by rw[<- g5.o,g1.o];rfl,HB2.o,rfl⟩
       case measure=>have h1:=g4.o;have h2:=gl.o;have h3:=g9.o;omega
    ·have go:¬ (b.v:Int)<bs.length:=by omega
     have hx:AF bs b.v=false:=by unfold AF;simp[List.getD,VE (Nat.le_of_not_lt hv)]
     rw[hx] at g1;clear hx;go_wp2_with fail
     go_roundg (m.d.vars.length-lvE m.d.vars.length (levN m.d) (Aa m.d) L)
     case rel=>exact⟨L,rfl,gm.o,by rw[<- g5.o,g1.o];rfl,HB2.o,rfl⟩
     case measure=>have h1:=g4.o;have h2:=gl.o;have h3:=g9.o;omega
structure D5 (T ST:TypeId)(z:Value)(b:Nat):Prop where
 under:prog.underlying ST=some (.slice T)
 info:(prog.info? T).map (fun i=>(i.zero,i.size,i.bytes))=some (some z,1,b)
 one:z.cells=#[z]
 small:b<=100
theorem FQ:D5 3 22 (Iv 0) 8:=⟨underlying22,by kernel_rfl,rfl,by omega⟩
theorem CK:D5 4 90 (.bool false) 1:=⟨underlying90,by kernel_rfl,rfl,by omega⟩
theorem Iu:D5 90 33 (.slice none 0 0) 24:=⟨underlying33,by kernel_rfl,rfl,by omega⟩
def OwnC (T:TypeId)(w:Wd)(base:Nat)(v:Value)(xs:List Value):Prop:=w.ownsRow base T 1 v xs.length xs
section
variable {ST:TypeId}{b:Nat}
theorem OwnC.alloc (h:OwnC T w base v xs)(o:Obj):OwnC T (w.alloc o) base v xs:=World.ownsRow.alloc h o
theorem OwnC.lt (h:OwnC T w base v xs):∀ k,v.ownBlock=some k->base<=k/\k<w.heap.size:=World.ownsRow.lt h
theorem OwnC.keep (h:OwnC T w base v xs)(hk:CG row w w')(hne:∀ k,v.ownBlock=some k->some k≠row):OwnC T w' base v xs:=by
 refine⟨h.1,?_⟩;rcases h.2 with hn|⟨g,cap,cur,rfl,hb,g0,rest⟩
 . exact .inl hn
 . refine .inr ⟨g,cap,cur,rfl,hb,?_,rest⟩;rw[hk g (Vm.1 g0).1 (hne g rfl)];exact g0
theorem OwnC.same (h:OwnC T w base v xs)(hk:∀ k,v.ownBlock=some k->w'.heap[k]?=w.heap[k]?):OwnC T w' base v xs:=by
 refine⟨h.1,?_⟩;rcases h.2 with hn|⟨g,cap,cur,rfl,hb,g0,rest⟩
 . exact .inl hn
 . refine .inr ⟨g,cap,cur,rfl,hb,?_,rest⟩;rw[hk g rfl];exact g0
theorem OwnC.below (h:OwnC T w base v xs)(hb:Bw w w'):OwnC T w' base v xs:=h.same fun k hk=>hb.block k (h.lt k hk).2
theorem OwnC.shape (h:OwnC T w base v xs)(hp:0<xs.length):∃ g cap,v=.slice (some (Av g)) xs.length cap/\base<=g/\g<w.heap.size:=by
 rcases h.2 with ⟨_,h0⟩|⟨g,cap,cur,hv,hg,hh,_⟩
 . omega
 . exact⟨g,cap,hv,hg,(Vm.1 hh).1⟩
theorem OwnC.slice (h:OwnC T w base v xs):∃ a cap,v=.slice a xs.length cap/\(a=none->cap=0):=by
 rcases h.2 with ⟨hv,h0⟩|⟨g,cap,cur,hv,hg,hh,_⟩
 . exact⟨none,0,by rw[hv,h0],fun _=>rfl⟩
 . exact⟨_,cap,hv,by simp⟩
theorem OwnC.cell {g cap n:Nat}(h:OwnC T w base (.slice (some (Av g)) n cap) xs)(k:Nat)(hk:k<xs.length):w.cell? (Aw g k)=xs[k]?:=by
 have hn:n=xs.length:=by
  rcases h.2 with ⟨hv,_⟩|⟨_,_,_,hv,_⟩
  . cases hv
  . cases hv;rfl
 subst hn;exact World.ownsRow.cellAt h k (by omega)
theorem OwnC.frozen {g cap n:Nat}(h:OwnC T w base (.slice (some (Av g)) n cap) xs)(k:Nat):w.frozen? (Aw g k)=false:=by
 rcases h.2 with ⟨hv,_⟩|⟨_,_,_,hv,_⟩
 . cases hv
 . cases hv;exact World.ownsRow.frozenAt h k
theorem OwnC.stored {g cap n:Nat}(h:OwnC T w base (.slice (some (Av g)) n cap) xs)(k:Nat)(y:Value):OwnC T (w.setCell (Aw g k) y) base (.slice (some (Av g)) n cap) (xs.set k y):=by
 rcases h.2 with ⟨hv,_⟩|⟨_,_,_,hv,_⟩
 . cases hv
 . cases hv;have:=(World.ownsRow.stored h k y).1;unfold OwnC;rw[VM];exact this
theorem OwnC.typed (h:OwnC T w base v xs):∀ k,v.ownBlock=some k->∃ cur,w.heap[k]?=some (.cells cur T (0,0)):=by
 intro k hk;rcases h.2 with ⟨rfl,_⟩|⟨g,cap,cur,rfl,_,hg,_⟩
 . cases hk
 . cases hk;exact⟨cur,hg⟩
theorem Cv (T:TypeId)(w:Wd)(base:Nat)(hb:base<=w.heap.size):OwnC T (w.alloc (.cells #[] T)) base (.slice (some (Av w.heap.size)) 0 0) [] :=
 World.ownsRow_made w #[] 0 hb (by unfold maxLen;omega) (by simp)
theorem Iw (T:TypeId)(w:Wd)(base:Nat):OwnC T w base (.slice none 0 0) []:=World.ownsRow_nil w base T 1
theorem BC (E:D5 T ST z b)(wr:Wd){o:Oper}(hgd:o.guard=none)(s x:Operand)
 (ho:o.op=.call { callee:=.builtin .append,args:=#[s,x],argTypes:=#[ST,ST] })
 (base:Nat) (v:Value) (xs:List Value) (y:Value) (hs:a.eval s=v) {N:Nat} (hx:a.eval x=.slice (some (Av N)) 1 1)
 (hW:W=wr.alloc (.cells #[y] T)) (hN:N=wr.heap.size) (hy:y.oneCell'=true)
 (hown:OwnC T wr base v xs) (hlen:xs.length<1099511627776) (hbase:base<=wr.heap.size)
 (h:∀ v' w',OwnC T w' base v' (xs++[y])->w'.os=wr.os->w'.tape=wr.tape->w'.output=wr.output->wr.heap.size<=w'.heap.size->BT v v' wr w'->wpList prog ops Q rest (a.put o.dst v') w') :
 wpList prog ops Q (o::rest) a W:=by
 obtain⟨i,hi,hz,g1,g3⟩:=Xv E.info;subst hN;subst hW
 have g2:=E.small;refine wpList_append_own_at (w:=wr.alloc (.cells #[y] T)) hgd s x ST ho base T i z 1 b E.under hi hz g1 g3 (by rw[E.one];rfl) (by decide)
  v xs.length xs hs (hown.alloc _) (Av wr.heap.size) 1 1 [y] hx rfl (cell_one_new _ _ _) (by intro u hu;simp at hu;subst hu;exact hy) (by unfold maxLen;omega) (by
   have h1:(xs.length+1)*b<=1099511627776*100:=Xx (by omega) g2;omega) (by simp;omega) ?_
 intro v' w' h1 h2 _ g0;refine h v' w' ?_ h2.os h2.tape h2.output ?_ ⟨GA h2,g0.imp id fun e=>⟨_,e,by simp⟩⟩
 . unfold OwnC;rw[Vr];exact h1
 . have:=h2.size;simp at this;omega
theorem CA (hb:Below base w0 wr)(hown:OwnC T wr base v xs)(h1:w'.os=wr.os)(h2:w'.tape=wr.tape)(h3:w'.output=wr.output)(h4:wr.heap.size<=w'.heap.size)(hk:BT v v' wr w')(hbase:base<=wr.heap.size):Below base w0 w' :=
 ⟨h1.trans hb.os,h2.trans hb.tape,h3.trans hb.output,Vx hb.size h4,fun k hkb=>(hk.keep k (by omega) (fun e=>by have:=(hown.lt k e.symm).1;omega)).trans (hb.block k hkb)⟩
theorem KB (E:D5 T ST z b){o:Oper}(hgd:o.guard=none)(l c:Operand)
 (ho:o.op=.makeSlice ST l c) (base:Nat) (w0:Wd) (L:Int) (n:Nat) (hl:a.eval l=Iv L) (hc:a.eval c=Iv L) (hL:L=n) (hn:n<1099511627776)
 (hbase:base<=wr.heap.size) (hb:Below base w0 wr)
 (h:∀ g w',OwnC T w' base (.slice (some (Av g)) n n) (List.replicate n z)->Below base w0 w'->base<=w'.heap.size->CG none wr w'->base<=g->g=wr.heap.size ->
  wpList prog ops Q rest (a.put o.dst (.slice (some (Av g)) n n)) w') :
 wpList prog ops Q (o::rest) a wr:=by
 obtain⟨i,hi,hz,g0,g2⟩:=Xv E.info;have g1:=E.small
 refine wpList_make_full wr hgd l c ST ho base T i z 1 E.under hi hz g0 .i64 .i64 L L n hl hc hL hL (by
  have h1:i.bytes*n<=100*1099511627776:=Xx (by omega) (by omega);omega) (by unfold maxLen;omega) hbase ?_
 intro w' h1 h2;refine h wr.heap.size w' ?_ (hb.grown h2 hbase (by simp)) (by have:=h2.size;omega) (EA h2) hbase rfl;unfold OwnC;have e1:List.replicate n z=(madeCells z.cells (n*1)).toList:=by
  rw[E.one];simp[madeCells];apply WT
  . simp
  . intro j h3 h4;simp[Nat.mod_one]
 rw[WV,e1];exact h1
end
def A8 (bs:List Bool):List Value:=bs.map Value.bool
theorem FS (bs:List Bool):(A8 bs).length=bs.length:=by simp[A8]
theorem getElem?_boolsV (h:k<bs.length):(A8 bs)[k]?=some (.bool (bs.getD k false)):=by
 simp[A8,List.getD,h]
abbrev OwnB (w:Wd)(base:Nat)(v:Value)(bs:List Bool):Prop:=OwnC 4 w base v (A8 bs)
def BQ (w:Wd)(v:Value)(bs:List Bool):Prop:=∃ a c,v=.slice a bs.length c/\BB w a bs/\(a=none->c=0)
theorem BQ.below {w w':Wd}{v:Value}{bs:List Bool}(h:BQ w v bs)(hb:Bw w w'):BQ w' v bs:=by
 obtain⟨a,c,rfl,h1,h2⟩:=h;exact⟨a,c,rfl,h1.below hb,h2⟩
theorem BQ.same (h:BQ w v bs)(hk:∀ k,v.ownBlock=some k->w'.heap[k]?=w.heap[k]?):BQ w' v bs:=by
 obtain⟨a,c,rfl,h1,h2⟩:=h;refine⟨a,c,rfl,⟨h1.len,fun k g0=>?_⟩,h2⟩;obtain⟨g,off,rfl,hc⟩:=h1.cells k g0;exact⟨g,off,rfl,Co hc (hk g rfl)⟩
theorem OwnC.boolsIs (h:OwnB w base v bs)(hl:bs.length<=1000000):BQ w v bs:=by
 obtain⟨a,c,hv,hn⟩:=h.slice;have g1:=hv;rw[FS] at g1;refine⟨a,c,g1,⟨hl,fun k hk=>?_⟩,hn⟩;obtain⟨g,cap,g0,hb,hg⟩:=h.shape (by rw[FS];omega);have ea:a=some (Av g):=by rw[hv] at g0;injection g0
 subst ea;refine⟨g,0,rfl,?_⟩;subst hv;rw[VJ,h.cell k (by rw[FS];exact hk),getElem?_boolsV hk]
theorem OwnC.setB (h:OwnB w base (.slice (some (Av g)) n cap) bs)(k:Nat)(y:Bool):OwnB (w.setCell (Aw g k) (.bool y)) base (.slice (some (Av g)) n cap) (bs.set k y):=by
 have:=h.stored k (.bool y);unfold OwnB;rw[show A8 (bs.set k y)=(A8 bs).set k (.bool y) by simp[A8,X2]];exact this
theorem OwnC.cellB (h:OwnB w base (.slice (some (Av g)) n cap) bs)(k:Nat)(hk:k<bs.length):w.cell? (Aw g k)=some (.bool (bs.getD k false)):=by
 rw[h.cell k (by rw[FS];exact hk),getElem?_boolsV hk]
def grp (gs:List (List Int))(i:Nat):List Int:=gs.getD i []
abbrev VW:=@List.mem_cons_self
abbrev WP:=@List.mem_cons_of_mem
theorem KC {α:Type}(key:α->Nat):∀ {l r:List α},l.Pairwise (fun a b=>key a<key b)->r.Pairwise (fun a b=>key a<key b)->(∀ x,x∈l↔x∈r)->l=r
 | [],[],_,_,_=>rfl
 | [],y::r,_,_,h=>by have:=(h y).2 (VW ..);simp at this
 | x::l,[],_,_,h=>by have:=(h x).1 (VW ..);simp at this
 | x::l,y::r,hl,hr,h=>by
   rw[List.pairwise_cons] at hl hr;have e:x=y:=by
    rcases VX.1 ((h x).1 (VW ..)) with e|e
    . exact e
    ·rcases VX.1 ((h y).2 (VW ..)) with e2|e2
     . exact e2.symm
     . have:=hr.1 x e;have:=hl.1 y e2;omega
   subst e;have:l=r:=KC key hl.2 hr.2 fun z=>by
    constructor
    ·intro hz;rcases VX.1 ((h z).1 (WP _ hz)) with e|e
     . have:=hl.1 z hz;rw[e] at this;omega
     . exact e
    ·intro hz;rcases VX.1 ((h z).2 (WP _ hz)) with e|e
     . have:=hr.1 z hz;rw[e] at this;omega
     . exact e
   rw[this]
structure Placed (gs:List (List Int))(lev:Int->Nat)(l:List Nat):Prop where
 mem:∀ i,i∈l↔i<gs.length/\grp gs i≠[]
 inc:l.Pairwise fun i j=>lev ((grp gs i).headD 0)<lev ((grp gs j).headD 0)
theorem Placed.uniq {lev:Int->Nat}{l r:List Nat}(h:Placed gs lev l)(h':Placed gs lev r):l=r :=
 KC (fun i=>lev ((grp gs i).headD 0)) h.inc h'.inc fun i=>(h.mem i).trans (h'.mem i).symm
def gather (gs:List (List Int))(l:List Nat):List Int:=l.flatMap (grp gs)
def headed (gs:List (List Int))(v:Int):List Nat:=(List.range gs.length).filter fun k=>decide ((grp gs k).head?=some v)
def AT (gs:List (List Int))(ord:List Int):List Nat:=ord.flatMap (headed gs)
abbrev WD:=@List.mem_filter
theorem Es {v:Int}:k∈headed gs v↔k<gs.length/\(grp gs k).head?=some v:=by simp[headed,WD]
def ES (gs:List (List Int)):Prop:=(gs.flatten).Nodup
theorem CL (h:i<gs.length):grp gs i=gs[i]:=by simp[grp,List.getD,h]
abbrev VV:=@List.pairwise_iff_getElem
theorem FT (h:ES gs){v:Int}(hi:i<gs.length)(hj:j<gs.length)(h1:v∈grp gs i)(h2:v∈grp gs j):i=j:=by
 have hp:=(List.pairwise_flatten.1 h).2;rw[CL hi] at h1;rw[CL hj] at h2;rcases X3 i j with c|c|c
 . exact(VV.1 hp i j hi hj c v h1 v h2 rfl).elim
 . exact c
 . exact(VV.1 hp j i hj hi c v h2 v h1 rfl).elim
theorem KD {l:List Int}{v:Int}(h:l.head?=some v):v∈l:=List.mem_of_mem_head? (by rw[h];rfl)
theorem KE {l:List Int}{v:Int}(h:l.head?=some v):l.headD 0=v:=by
 cases l with
 | nil=>cases h
 | cons a r=>simpa using h
abbrev Yg:=@List.nodup_range
theorem PX (ha:ES gs){ord:List Int}{lev:Int->Nat}(hinc:ord.Pairwise fun a b=>lev a<lev b)(hall:∀ i v,v∈grp gs i->v∈ord):Placed gs lev (AT gs ord):=by
 refine⟨fun i=>?_,?_⟩
 ·unfold AT;rw[XP];constructor
  . rintro⟨v,hv,hk⟩;obtain⟨h1,h2⟩:=Es.1 hk;exact⟨h1,fun e=>by rw[e] at h2;cases h2⟩
  ·rintro⟨h1,h2⟩;cases hg:grp gs i with
   | nil=>exact(h2 hg).elim
   | cons v r=>exact⟨v,hall i v (by rw[hg];exact VW ..),Es.2 ⟨h1,by rw[hg];rfl⟩⟩
 ·unfold AT;rw[List.pairwise_flatMap];refine⟨fun v _=>?_,?_⟩
  ·refine VV.2 fun a b h1 h2 g0=>?_
   exfalso;obtain⟨q1,q2⟩:=Es.1 (Vv h1);obtain⟨q3,q4⟩:=Es.1 (Vv h2);have e:=FT ha q1 q3 (KD q2) (KD q4);have g1:(headed gs v).Nodup:=List.Nodup.sublist List.filter_sublist Yg;exact(VV.1 g1 a b h1 h2 g0) e
  . refine hinc.imp ?_;intro a b g0 x hx y hy;rw[KE (Es.1 hx).2,KE (Es.1 hy).2];exact g0
theorem SliceIs.same (h:SliceIs w v zs)(hk:∀ k,v.ownBlock=some k->w'.heap[k]?=w.heap[k]?):SliceIs w' v zs:=by
 obtain⟨a,c,rfl,⟨h1,h2⟩,h3⟩:=h;refine⟨a,c,rfl,⟨h1,fun k g0=>?_⟩,h3⟩;obtain⟨b,off,rfl,hc⟩:=h2 k g0;exact⟨b,off,rfl,Co hc (hk b rfl)⟩
theorem ET:D5 22 27 (.slice none 0 0) 24:=⟨underlying27,by kernel_rfl,rfl,by omega⟩
structure AW (W:Wd)(xs:List Value)(gs:List (List Int)):Prop where
 len:xs.length=gs.length
 at_:∀ i (h:i<xs.length) (h2:i<gs.length),SliceIs W xs[i] gs[i]
def AL (W:Wd)(v:Value)(gs:List (List Int)):Prop:=∃ a c xs,v=.slice a gs.length c/\(a=none->c=0)/\gs.length<=9223372036854775807/\AW W xs gs/\∀ i (h:i<xs.length),∃ b off,a=some (Aw b off)/\W.cell? (Aw b (off+i))=some xs[i]
section
theorem AW.same (h:AW W xs gs)(hk:∀ x∈xs,∀ k,x.ownBlock=some k->W'.heap[k]?=W.heap[k]?):AW W' xs gs:=⟨h.len,fun i h1 h2=>(h.at_ i h1 h2).same fun k e=>hk _ (Vv h1) k e⟩
theorem AW.below (h:AW W xs gs)(hb:Bw W W'):AW W' xs gs:=⟨h.len,fun i h1 h2=>(h.at_ i h1 h2).below hb⟩
theorem AL.below (h:AL W v gs)(hb:Bw W W'):AL W' v gs:=by
 obtain⟨a,c,xs,e,hn,hl,hs,hc⟩:=h;refine⟨a,c,xs,e,hn,hl,hs.below hb,fun i hi=>?_⟩;obtain⟨b,off,ea,hc⟩:=hc i hi;exact⟨b,off,ea,(Cq hb hc)⟩
theorem AL.elem (h:AL W v gs)(hi:i<gs.length):∃ b off c a2 c2,v=.slice (some (Aw b off)) gs.length c/\W.cell? (Aw b (off+i))=some (.slice a2 (gs.getD i []).length c2)/\Au W a2 (gs.getD i [])/\(a2=none->c2=0):=by
 obtain⟨a,c,xs,e,hn,hl,hs,hc⟩:=h;have hx:i<xs.length:=by rw[hs.len];exact hi
 obtain⟨b,off,ea,h1⟩:=hc i hx;obtain⟨a2,c2,e2,h2,h3⟩:=hs.at_ i hx hi;subst ea;rw[e2] at h1;have eg:gs.getD i []=gs[i]:=by simp[List.getD,hi]
 rw[eg];exact⟨b,off,c,a2,c2,e,h1,h2,h3⟩
theorem AL.slice (h:AL W v gs):∃ a c,v=.slice a gs.length c/\(a=none->c=0):=by
 obtain⟨a,c,xs,e,hn,_⟩:=h;exact⟨a,c,e,hn⟩
theorem AW.nil (W:Wd):AW W [] []:=⟨rfl,fun i h=>by simp at h⟩
abbrev Wp:=@List.getElem_append_left
abbrev W9:=@List.getElem_append_right
theorem AW.snoc (h:AW W xs gs){x:Value}{g:List Int}(hx:SliceIs W x g):AW W (xs++[x]) (gs++[g]):=by
 have hl:=h.len;refine⟨by simp[hl],fun i h1 h2=>?_⟩;rcases VB i xs.length with h3|h3
 . rw[Wp h3,Wp (by omega)];exact h.at_ i h3 (by omega)
 ·have e:i=xs.length:=by simp at h1;omega
  subst e;rw[W9 (Vo _),W9 (by omega)];simpa using hx
theorem AL.of_own (h:OwnC 22 W base v xs)(hs:AW W xs gs)(hl:gs.length<=9223372036854775807):AL W v gs:=by
 obtain⟨a,c,e,hn⟩:=h.slice;refine⟨a,c,xs,by rw[e,hs.len],hn,hl,hs,fun i hi=>?_⟩;obtain⟨g,cap,e2,_,_⟩:=h.shape (by omega);rw[e] at e2;injection e2 with e2 _ _
 subst e2;rw[e] at h;refine⟨g,0,rfl,?_⟩;rw[VJ,h.cell i hi];simp[hi]
end
def KF (gs:List (List Int))(n:Nat):List Nat:=(List.range n).filter fun v=>decide ((v:Int)∉gs.flatten)
def AY (gs:List (List Int))(n:Nat):List (List Int):=gs++(KF gs n).map fun(v:Nat)=>[(v:Int)]
def InG (gs:List (List Int))(n:Nat):Prop:=∀ x∈gs.flatten,0<=x/\x<(n:Int)
def Cg (gs:List (List Int))(n:Nat)(e:Int):Prop:=(e=9/\¬ InG gs n)\/(e=6/\InG gs n/\¬ gs.flatten.Nodup)\/(e=0/\InG gs n/\gs.flatten.Nodup)
theorem Cg.uniq {e e':Int}(h:Cg gs n e)(h':Cg gs n e'):e=e':=by
 rcases h with ⟨rfl,h1⟩|⟨rfl,h1,h2⟩|⟨rfl,h1,h2⟩<;>rcases h' with ⟨rfl,k1⟩|⟨rfl,k1,k2⟩|⟨rfl,k1,k2⟩<;>first|rfl|exact absurd ‹InG gs n› ‹¬ InG gs n› | exact absurd ‹gs.flatten.Nodup› ‹¬ gs.flatten.Nodup›
theorem Cg.ok (h:Cg gs n 0):InG gs n/\gs.flatten.Nodup:=by
 rcases h with ⟨h,_⟩|⟨h,_⟩|⟨_,h⟩
 . cases h
 . cases h
 . exact h
theorem KG {x:Int}(h:x∈gs.flatten)(hx:x<0\/x>=(n:Int)):¬ InG gs n:=fun hh=>by have:=hh x h;omega
abbrev Vt:=@List.take_succ_eq_append_getElem
theorem Et (hi:i<gs.length):(gs.take (i+1)).flatten=(gs.take i).flatten++gs.getD i []:=by
 rw[Vt hi,List.flatten_append];simp[List.getD,hi]
theorem Ix (gs:List (List Int)):(gs.take gs.length).flatten=gs.flatten:=by rw[VI]
abbrev Wy:=@List.take_append_drop
theorem Iy (hi:i<gs.length):(gs.take i).flatten.length+(gs.getD i []).length<=gs.flatten.length:=by
 have h1:=Et hi;have h2:gs.flatten=(gs.take (i+1)).flatten++(gs.drop (i+1)).flatten:=by rw[<- List.flatten_append,Wy]
 rw[h2,h1];simp only[Vr];omega
def AB (fl:List Int)(k:Nat):List Int:=((List.range k).filter fun(v:Nat)=>decide ((v:Int)∉fl)).map Int.ofNat
theorem KH (h:(k:Int)∈fl):AB fl (k+1)=AB fl k:=by
 unfold AB;rw[Xl,Wl];simp[h]
theorem KI (h:(k:Int)∉fl):AB fl (k+1)=AB fl k++[(k:Int)]:=by
 unfold AB;rw[Xl,Wl];simp[h]
theorem Eu (fl:List Int)(k:Nat):(AB fl k).length<=k:=by
 unfold AB;rw[Vw];refine Vx (Wk _ _) (by simp)
abbrev Xe:=@List.map_map
theorem DP (gs:List (List Int))(n:Nat):AY gs n=gs++(AB gs.flatten n).map fun v=>[v]:=by
 unfold AY KF AB;rw[Xe];rfl
def ofFn (n:Nat)(F:Nat->Int):List Int:=(List.range n).map F
theorem D6 (n:Nat)(F:Nat->Int):(ofFn n F).length=n:=by simp[ofFn]
theorem EU {F:Nat->Int}(h:j<n):at0 (ofFn n F) j=F j:=by
 rw[Az (by rw[D6];exact h)];simp[ofFn]
theorem PY {F:Nat->Int}(hl:zs.length=n)(h:∀ j,j<n->at0 zs j=F j):zs=ofFn n F :=
 CH (by rw[D6,hl]) fun k hk=>by rw[EU (by omega),h k (by omega)]
theorem DQ {xs:List Int}(h:j<xs.length):at0 (xs++ys) j=at0 xs j:=by simp[at0,List.getD,VN h]
theorem EV {xs:List Int}(h:xs.length<=j):at0 (xs++ys) j=at0 ys (j-xs.length):=by simp[at0,List.getD,Wh h]
theorem FU {xs:List Int}(h:j<i):at0 (xs.take i) j=at0 xs j:=by simp[at0,List.getD,h]
theorem Iz {xs:List Int}:at0 (xs.drop i) j=at0 xs (i+j):=by simp[at0,List.getD,XC]
theorem I0 {xs:List Int}{y:Int}(h:i<xs.length):at0 (xs.set i y) j=if i=j then y else at0 xs j:=by
 simp only[at0,List.getD,VR]
 by_cases e:i=j
 . subst e;simp[h]
 . simp[e]
theorem EW (h:k+1<zs.length):at0 (AZ zs (k:Int)) j=if j=k then at0 zs (k+1) else if j=k+1 then at0 zs k else at0 zs j:=by
 rw[J6 h,I0 (by simp;omega),I0 (by omega)]
 by_cases e1:j=k
 . subst e1;simp
 ·by_cases e2:j=k+1
  . subst e2;simp
  ·have e3:¬ k=j:=fun e=>e1 e.symm
   have e4:¬ k+1=j:=fun e=>e2 e.symm
   simp[e1,e2,e3,e4]
def DR (F:Nat->Int)(f t j:Nat):Int :=
 if j=t then F f else if f<=j/\j<t then F (j+1) else if t<j/\j<=f then F (j-1) else F j
def Cw (zs:List Int)(f t:Int):List Int :=
 if (0<=f/\f<zs.length)/\(0<=t/\t<zs.length) then ofFn zs.length (DR (at0 zs) f.toNat t.toNat) else zs
theorem I1 (zs:List Int)(f t:Int):(Cw zs f t).length=zs.length:=by unfold Cw;split<;>simp[D6]
theorem PZ (hf:f<zs.length)(ht:t<zs.length):Cw zs (f:Int) (t:Int)=ofFn zs.length (DR (at0 zs) f t):=by
 unfold Cw;rw[Vs (by omega)];simp
theorem Qa {f t:Int}(h:¬ ((0<=f/\f<zs.length)/\(0<=t/\t<zs.length))):Cw zs f t=zs:=by unfold Cw;rw[Vn h]
theorem KJ (hf:f<zs.length)(ht:t<zs.length)(hj:j<zs.length):at0 (Cw zs (f:Int) (t:Int)) j=DR (at0 zs) f t j:=by
 rw[PZ hf ht,EU hj]
theorem Qb (hf:f<zs.length):Cw zs (f:Int) (f:Int)=zs:=by
 refine CH (I1 _ _ _) fun j hj=>?_
 rw[I1] at hj;rw[KJ hf hf hj];unfold DR
 by_cases e:j=f
 . subst e;simp
 . rw[Vn e,Vn (by omega),Vn (by omega)]
theorem KK (hf:f<zs.length)(ht:t<zs.length) :
 (zs.take f++zs.drop (f+1)).take t++[at0 zs f]++(zs.take f++zs.drop (f+1)).drop t=Cw zs (f:Int) (t:Int):=by
 have hm:(zs.take f++zs.drop (f+1)).length=zs.length-1:=by simp;omega
 have g0:∀ j,at0 (zs.take f++zs.drop (f+1)) j=if j<f then at0 zs j else at0 zs (j+1):=by
  intro j
  by_cases h:j<f
  . rw[Vs h,DQ (by simp;omega),FU h]
  . rw[Vn h,EV (by simp;omega),Iz];congr 1;simp;omega
 generalize zs.take f++zs.drop (f+1)=m at hm g0 ⊢
 refine CH (by rw[I1];simp;omega) fun j hj=>?_
 have g3:j<zs.length:=by simp at hj;omega
 rw[KJ hf ht g3];have g1:(m.take t).length=t:=by simp;omega
 have g2:(m.take t++[at0 zs f]).length=t+1:=by simp;omega
 by_cases e1:j<t
 ·rw[DQ (by omega),DQ (by omega),FU e1,g0];unfold DR
  repeat' split
  all_goals first|rfl|omega|(congr 1;omega)
 ·by_cases e2:j=t
  . subst e2;rw[DQ (by omega),EV (by omega),g1,Nat.sub_self];unfold DR;rw[Vs rfl];rfl
  ·rw[EV (by omega),Iz,g0,g2];unfold DR
   repeat' split
   all_goals first|rfl|omega|(congr 1;omega)
theorem Qc (n:Nat):∀ l:List Nat,l.Nodup->(∀ x∈l,x<n)->l.length<=n:=by
 induction n with
 | zero =>
   intro l _ h;cases l with
   | nil=>simp
   | cons x l=>have:=h x (by simp);omega
 | succ n ih =>
   intro l hn h
   by_cases hm:n∈l
   ·have h1:=ih (l.erase n) (hn.erase n) (fun x hx=>by
     have h2:=(hn.mem_erase_iff).1 hx;have:=h x h2.2;have:=h2.1;omega)
    rw[List.length_erase_of_mem hm] at h1;omega
   ·have h1:=ih l hn (fun x hx=>by
     have:=h x hx;have:x≠n:=fun e=>hm (e ▸ hx)
     omega)
    omega
abbrev Xm:=@List.nodup_cons
theorem Qd {l:List Nat}(hn:l.Nodup)(h:∀ x∈l,x<n)(hl:l.length=n)(hx:x<n):x∈l:=by
 rcases Classical.em (x∈l) with h1|h1
 . exact h1
 ·have:=Qc n (x::l) (Xm.2 ⟨h1,hn⟩) (fun y hy=>by
   rcases VX.1 hy with rfl|hy
   . exact hx
   . exact h y hy)
  simp at this;omega
abbrev Xz:=@List.nodup_iff_pairwise_ne
theorem CT (h:Ay zs=true)(hx:x<zs.length):∃ k,k<zs.length/\at0 zs k=(x:Int):=by
 obtain⟨h1,h2⟩:=(BI zs).1 h;have g0:(zs.map Int.toNat).Nodup:=by
  rw[Xz,VV];intro i j hi hj g1;simp only[Vw] at hi hj;simp only[XN];have a:=h2 j hj i g1;have b:=(h1 i hi).1;have c:=(h1 j hj).1;rw[Az hi] at a b;rw[Az hj] at a c;omega
 have hb:∀ y∈zs.map Int.toNat,y<zs.length:=by
  intro y hy;obtain⟨z,hz,rfl⟩:=Vz.1 hy;obtain⟨k,hk,rfl⟩:=WX.1 hz;have:=h1 k hk;rw[Az hk] at this;omega
 have hm:=Qd g0 hb (by simp) hx;obtain⟨z,hz,g2⟩:=Vz.1 hm;obtain⟨k,hk,rfl⟩:=WX.1 hz;refine⟨k,hk,?_⟩;have:=(h1 k hk).1;rw[Az hk] at this ⊢;omega
theorem Cm (h:Ay zs=true)(hk:k<zs.length):Ar zs (at0 zs k)=k :=
 GB hk rfl fun j hj=>((BI zs).1 h).2 k hk j hj
def Cx (zs:List Int)(k:Nat):List Int:=ofFn zs.length fun x=>if Ar zs (x:Int)<k then max (Ar zs (x:Int)) 0 else 0
theorem Qe (zs:List Int):Cx zs 0=List.replicate zs.length 0:=by
 symm;refine PY (by simp) fun j hj=>?_
 have:at0 (List.replicate zs.length 0) j=0:=by rw[Az (by simpa using hj)];simp
 rw[this];split<;>omega
theorem Qf (h:Ay zs=true)(hk:k<zs.length):(Cx zs k).set (at0 zs k).toNat (k:Int)=Cx zs (k+1):=by
 have hr:=((BI zs).1 h).1 k hk;have hp:=Cm h hk;refine CH (by simp[Cx,D6]) fun j hj=>?_
 have g0:j<zs.length:=by simpa [Cx,D6] using hj
 rw[I0 (by simp[Cx,D6];omega)];unfold Cx;rw[EU g0,EU g0]
 by_cases e:(at0 zs k).toNat=j
 ·have ej:(j:Int)=at0 zs k:=by omega
  rw[Vs e,ej,hp,Vs (by omega)];omega
 ·rw[Vn e];obtain⟨q,hq,g2⟩:=CT h g0;have g1:=Cm h hq;rw[g2] at g1;rw[g1];have:q≠k:=by rintro rfl;omega
  by_cases c:(q:Int)<k
  . rw[Vs c,Vs (by omega)]
  . rw[Vn c,Vn (by omega)]
theorem Qg (h:Ay zs=true):Cx zs zs.length=Da zs:=by
 unfold Da;rw[Vs h];refine CH (by simp[Cx,D6,Do]) fun j hj=>?_
 have g0:j<zs.length:=by simpa [Cx,D6] using hj
 unfold Cx;rw[EU g0,Az (by simpa [Do] using g0)];obtain⟨q,hq,g2⟩:=CT h g0;have g1:=Cm h hq;rw[g2] at g1;simp[iota,g1];omega
theorem DS (h:Ay zs=true)(hi:i<zs.length)(hj:j<zs.length)(he:at0 zs i=at0 zs j):i=j:=by
 have h2:=((BI zs).1 h).2;rcases X3 i j with g0|e|g0
 . exact(h2 j hj i g0 he).elim
 . exact e
 . exact(h2 i hi j g0 he.symm).elim
theorem Qh (h:Ay zs=true)(hl:ys.length=zs.length)(p:Nat->Nat)(hp:∀ j,j<zs.length->p j<zs.length)
 (hinj:∀ i j,i<zs.length->j<zs.length->p i=p j->i=j) (hy:∀ j,j<zs.length->at0 ys j=at0 zs (p j)):Ay ys=true:=by
 rw[BI,hl];have h1:=((BI zs).1 h).1;refine⟨fun k hk=>by rw[hy k hk];exact h1 _ (hp k hk),fun i hi k hk he=>?_⟩;rw[hy i hi,hy k (by omega)] at he;have:=hinj k i (by omega) hi (DS h (hp k (by omega)) (hp i hi) he);omega
theorem Qi (h:Ay zs=true)(i:Int):Ay (AZ zs i)=true:=by
 by_cases g0:0<=i/\i+1<zs.length
 ·obtain⟨k,rfl⟩:=X9 g0.1;have hk:k+1<zs.length:=by omega
  refine Qh h (EB _ _) (fun j=>if j=k then k+1 else if j=k+1 then k else j) ?_ ?_ ?_
  ·intro j hj;repeat' split
   all_goals omega
  ·intro i j hi hj;repeat' split
   all_goals omega
  ·intro j hj;rw[EW hk];repeat' split
   all_goals rfl
 . rw[NL g0];exact h
theorem I2 (h:Ay zs=true):(Da zs).length=zs.length:=by unfold Da;rw[Vs h];simp[Do]
theorem FW (h:Ay zs=true)(hx:x<zs.length):at0 (Da zs) x=Ar zs (x:Int):=by
 rw[Az (by rw[I2 h];exact hx)];simp only[Da,h,Ws];simp[iota]
def invs (f:Int->Int):List Int->Nat
 | []=>0
 | x::xs=>xs.countP (fun y=>decide (f x>f y))+invs f xs
theorem Qj (f:Int->Int)(l:List Int)(x y:Int)(r:List Int)(h:f x>f y):invs f (l++x::y::r)=invs f (l++y::x::r)+1:=by
 induction l with
 | nil =>
   simp only[Wz,invs,List.countP_cons];have h2:¬ f y>f x:=by omega
   simp only[h,h2,decide_true,decide_false,Ws,Xy,if_false];omega
 | cons a l ih =>
   simp only[Xh,invs,ih,List.countP_append,List.countP_cons];omega
theorem Qk (h:k+1<zs.length):zs=zs.take k++at0 zs k::at0 zs (k+1)::zs.drop (k+2):=by
 have h1:=Wy k zs;rw[Fy (by omega),Fy h] at h1;exact h1.symm
theorem Ql (h:k+1<zs.length):AZ zs (k:Int)=zs.take k++at0 zs (k+1)::at0 zs k::zs.drop (k+2):=by
 refine CH (by rw[EB];simp;omega) fun j hj=>?_
 rw[EW h];have hk:(zs.take k).length=k:=by simp;omega
 by_cases e1:j<k
 . rw[DQ (by omega),FU e1,Vn (by omega),Vn (by omega)]
 ·rw[EV (by omega),hk]
  by_cases e2:j=k
  . subst e2;rw[Vs rfl,Nat.sub_self];rfl
  ·by_cases e3:j=k+1
   . subst e3;rw[Vn e2,Vs rfl,show k+1-k=1 by omega];rfl
   ·rw[Vn e2,Vn e3,show j-k=(j-k-2)+2 by omega]
    show _=at0 (zs.drop (k+2)) (j-k-2)
    rw[Iz];congr 1;omega
theorem Qm {f:Int->Int}(h:k+1<zs.length)(hf:f (at0 zs k)>f (at0 zs (k+1))):invs f zs=invs f (AZ zs (k:Int))+1:=by
 rw[Ql h]
 conv=>lhs;rw[Qk h]
 exact Qj f _ _ _ _ hf
structure Upto (bs cur:List Int)(i:Nat):Prop where
 len:cur.length=bs.length
 right:Ay cur=true
 pre:∀ j,j<i->at0 cur j=at0 bs j
theorem Qn {bs:List Int}(hb:Ay bs=true)(hi:i<bs.length)(d:Nat):∀ cur:List Int,Upto bs cur i->i+d<bs.length->at0 cur (i+d)=at0 bs i ->
 Upto bs (bub cur i d).1 (i+1)/\invs (Ar bs) cur=invs (Ar bs) (bub cur i d).1+d/\(∀ s∈(bub cur i d).2,0<=s/\s+1<bs.length)/\(bub cur i d).2.foldl AZ cur=(bub cur i d).1:=by
 induction d with
 | zero =>
   intro cur hu hd hx;refine⟨⟨hu.len,hu.right,fun j hj=>?_⟩,rfl,by simp[bub],rfl⟩
   by_cases e:j=i
   . subst e;exact hx
   . exact hu.pre j (by omega)
 | succ d ih =>
   intro cur hu hd hx;have hk:(i+d)+1<cur.length:=by rw[hu.len];omega
   have g1:Upto bs (AZ cur ((i+d:Nat):Int)) i:=by
    refine⟨by rw[EB,hu.len],Qi hu.right _,fun j hj=>?_⟩;rw[EW hk,Vn (by omega),Vn (by omega)];exact hu.pre j hj
   have g0:at0 (AZ cur ((i+d:Nat):Int)) (i+d)=at0 bs i:=by
    rw[EW hk,Vs rfl];exact hx
   obtain⟨h1,h2,h3,h4⟩:=ih _ g1 (by omega) g0;refine⟨h1,?_,?_,?_⟩
   ·have g2:Ar bs (at0 cur (i+d))>Ar bs (at0 cur (i+d+1)):=by
     have e1:at0 cur (i+d+1)=at0 bs i:=hx;rw[e1,Cm hb hi];have hr:=((BI cur).1 hu.right).1 (i+d) (by omega);obtain⟨q,hq,g3⟩:=CT hb (x:=(at0 cur (i+d)).toNat) (by rw[<- hu.len];omega);have e2:at0 bs q=at0 cur (i+d):=by omega
     rw[<- e2,Cm hb hq];rcases VB i q with g4|g5
     . omega
     ·exfalso
      by_cases e3:q=i
      . subst e3;have:=DS hu.right (i:=q+d) (j:=q+d+1) (by omega) (by omega) (by rw[<- e2,e1]);omega
      . have h5:=hu.pre q (by omega);rw[e2] at h5;have:=DS hu.right (i:=q) (j:=i+d) (by omega) (by omega) h5;omega
    rw[Qm hk g2,h2]
    show _=invs _ (bub (AZ cur ((i+d:Nat):Int)) i d).1+(d+1)
    omega
   ·intro s hs;rw[bub] at hs;rcases VX.1 hs with rfl|hs
    . omega
    . exact h3 s hs
   . exact h4
theorem Qo {bs cur:List Int}(h:Upto bs cur bs.length):cur=bs:=CH h.len fun k hk=>h.pre k (by rw[<- h.len];exact hk)
abbrev Xj:=@Nat.add_zero
theorem Qp {bs:List Int}(hb:Ay bs=true):invs (Ar bs) bs=0:=by
 have key:∀ n k,n+k=bs.length->invs (Ar bs) (bs.drop k)=0:=by
  intro n
  induction n with
  | zero=>intro k hk;rw[WL (by omega)];rfl
  | succ n ih =>
    intro k hk;rw[Fy (by omega)];simp only[invs];rw[ih (k+1) (by omega),Xj,List.countP_eq_zero];intro y hy;obtain⟨j,hj,rfl⟩:=WX.1 hy;simp only[XL] at hj;have e:(bs.drop (k+1))[j]'(by simpa using hj)=at0 bs (k+1+j):=by rw[Az (by omega),List.getElem_drop]
    rw[e,Cm hb (by omega),Cm hb (by omega)];simp;omega
 have:=key bs.length 0 (by omega);simpa using this
theorem Qq {bs:List Int}(hb:Ay bs=true)(n:Nat):∀ (k:Nat) (cur:List Int),n+k=bs.length->Upto bs cur k ->
 (Ct cur (bs.drop k) k).length=invs (Ar bs) cur/\(∀ s∈Ct cur (bs.drop k) k,0<=s/\s+1<bs.length)/\(Ct cur (bs.drop k) k).foldl AZ cur=bs:=by
 induction n with
 | zero =>
   intro k cur hk hu;obtain rfl:k=bs.length:=by omega
   obtain rfl:=Qo hu;rw[WL (Vo _)];exact⟨(Qp hb).symm,by simp[Ct],rfl⟩
 | succ n ih =>
   intro k cur hk hu;have g0:k<bs.length:=by omega
   rw[J9 cur bs k g0];obtain⟨q,hq,g5⟩:=CT hu.right (x:=(at0 bs k).toNat) (by rw[hu.len];have:=((BI bs).1 hb).1 k g0;omega);have g4:=((BI bs).1 hb).1 k g0;have e1:at0 cur q=at0 bs k:=by omega
   have hp:Ar cur (at0 bs k)=q:=by rw[<- e1];exact Cm hu.right hq
   have g6:k<=q:=by
    rcases VB q k with g1|g2
    . have:=hu.pre q g1;rw[e1] at this;have:=DS hb (i:=k) (j:=q) g0 (by omega) this;omega
    . exact g2
   have hd:∃ d,q=k+d:=⟨q-k,by omega⟩;obtain⟨d,rfl⟩:=hd;have g3:DC cur (at0 bs k) k=bub cur k d:=by unfold DC;rw[hp];congr 1;omega
   rw[g3];obtain⟨h1,h2,h3,h4⟩:=Qn hb g0 d cur hu (by rw[<- hu.len];exact hq) e1;obtain⟨i1,i2,i3⟩:=ih (k+1) _ (by omega) h1;refine⟨?_,?_,?_⟩
   . rw[Vr,i1,NN,h2];omega
   ·intro s hs;rcases Vy.1 hs with hs|hs
    . exact h3 s hs
    . exact i2 s hs
   . rw[X4,h4];exact i3
theorem Qr {as_ bs:List Int}(ha:Ay as_=true)(hb:Ay bs=true)(hl:as_.length=bs.length) :
 (Ca as_ bs).length=invs (Ar bs) as_/\(∀ s∈Ca as_ bs,0<=s/\s+1<bs.length)/\(Ca as_ bs).foldl AZ as_=bs:=by
 have:=Qq hb bs.length 0 as_ (by omega) ⟨hl,ha,by omega⟩;unfold Ca;rw[Vs ⟨ha,hb,hl⟩];simpa using this
def levZ (zs:List Int)(x:Int):Nat:=(Ar zs x).toNat
def AdjP (gs:List (List Int))(zs:List Int):Prop:=∀ g∈gs,∀ t,t+1<g.length->Ar zs (at0 g (t+1))=Ar zs (at0 g t)+1
def BV (gs:List (List Int))(zs:List Int)(n:Nat):Prop:=zs.length=n/\Ay zs=true/\AdjP gs zs
structure Cn (gs:List (List Int))(n:Nat):Prop where
 ap:ES gs
 mem:∀ x,x∈gs.flatten↔0<=x/\x<(n:Int)
abbrev Xb:=@List.mem_range
theorem KL {x:Int}:x∈AB fl n↔(0<=x/\x<(n:Int))/\x∉fl:=by
 unfold AB;rw[Vz];constructor
 . rintro⟨v,hv,rfl⟩;obtain⟨h1,h2⟩:=WD.1 hv;have h3:=Xb.1 h1;refine⟨⟨Int.natCast_nonneg v,Int.ofNat_lt.2 h3⟩,Ya h2⟩
 . rintro⟨⟨h1,h2⟩,h3⟩;refine⟨x.toNat,WD.2 ⟨Xb.2 (by omega),We ?_⟩,Int.toNat_of_nonneg h1⟩;rw[Int.toNat_of_nonneg h1];exact h3
abbrev Xk:=@List.pairwise_map
theorem Qs (fl:List Int)(n:Nat):(AB fl n).Nodup:=by
 unfold AB;refine Xk.2 ?_;have h:((List.range n).filter fun(v:Nat)=>decide ((v:Int)∉fl)).Nodup:=List.Nodup.sublist List.filter_sublist Yg;exact h.imp fun g0 e=>g0 (Int.ofNat.inj e)
theorem Qt (l:List Int):(l.map fun v=>[v]).flatten=l:=by
 induction l with
 | nil=>rfl
 | cons a l ih=>simp[ih]
theorem KM (h:Cg gs n 0):Cn (AY gs n) n:=by
 obtain⟨h1,h2⟩:=h.ok;have e:(AY gs n).flatten=gs.flatten++AB gs.flatten n:=by rw[DP,List.flatten_append,Qt]
 refine⟨?_,fun x=>?_⟩
 . unfold ES;rw[e];exact Wg.2 ⟨h2,Qs _ _,fun a ha b hb g0=>(KL.1 hb).2 (g0 ▸ ha)⟩
 ·rw[e,Vy,KL];constructor
  ·rintro(hx|hx)
   . exact h1 x hx
   . exact hx.1
  ·intro hx
   by_cases hm:x∈gs.flatten
   . exact .inl hm
   . exact .inr ⟨hx,hm⟩
theorem I3 (hi:i<pl.length):gather gs pl=gather gs (pl.take i)++(grp gs pl[i]++gather gs (pl.drop (i+1))):=by
 have e:pl=pl.take i++pl[i]::pl.drop (i+1):=by rw[<- VT hi,Wy]
 unfold gather;rw[<- WO,<- WU,<- e]
theorem Qu {A g B:List Int}(h:t<g.length):at0 (A++(g++B)) (A.length+t)=at0 g t:=by
 rw[EV (by omega),Nat.add_sub_cancel_left,DQ h]
section
variable {lev:Int->Nat}
theorem Placed.nodup (h:Placed gs lev pl):pl.Nodup:=h.inc.imp fun hab e=>by subst e;omega
abbrev Yh:=@List.mem_flatten
abbrev Wj:=@List.getElem_of_mem
theorem Qv (h:Placed gs lev pl)(x:Int):x∈gather gs pl↔x∈gs.flatten:=by
 unfold gather;rw[XP,Yh];constructor
 . rintro⟨i,hi,hx⟩;have:=(h.mem i).1 hi;exact⟨grp gs i,by rw[CL this.1];exact Vv _,hx⟩
 . rintro⟨g,hg,hx⟩;obtain⟨i,hi,rfl⟩:=Wj hg;exact⟨i,(h.mem i).2 ⟨hi,by rw[CL hi];intro e;rw[e] at hx;simp at hx⟩,by rw[CL hi];exact hx⟩
theorem Qw (hw:ES gs)(h:Placed gs lev pl):(gather gs pl).Nodup:=by
 unfold gather;rw[List.Nodup,List.pairwise_flatMap];refine⟨fun i hi=>?_,?_⟩
 . have h1:=(h.mem i).1 hi;rw[CL h1.1];exact(List.pairwise_flatten.1 hw).1 _ (Vv _)
 ·refine h.nodup.imp_of_mem fun {a b} ha hb g0 x hx y hy e=>?_
  subst e;exact g0 (FT hw ((h.mem a).1 ha).1 ((h.mem b).1 hb).1 hx hy)
abbrev XJ:=@List.perm_ext_iff_of_nodup
theorem Qx (hn:zs.Nodup)(hm:∀ x,x∈zs↔0<=x/\x<(n:Int)):zs.length=n/\Ay zs=true:=by
 have hl:zs.length=n:=by
  have hp:zs.Perm (iota n):=(XJ hn (by
   unfold iota;exact Xk.2 (Yg.imp fun g0 e=>g0 (Int.ofNat.inj e)))).2 fun x=>by
    rw[hm];unfold iota;rw[Vz];constructor
    . rintro⟨h1,h2⟩;exact⟨x.toNat,Xb.2 (by omega),Int.toNat_of_nonneg h1⟩
    . rintro⟨v,hv,rfl⟩;exact⟨Int.natCast_nonneg v,Int.ofNat_lt.2 (Xb.1 hv)⟩
  rw[hp.length_eq,Do]
 refine⟨hl,(BI zs).2 ⟨fun k hk=>?_,fun i hi k hk e=>?_⟩⟩
 . rw[Az hk];have:=(hm _).1 (Vv hk);omega
 . rw[Az hi,Az (show k<zs.length by omega)] at e;exact(VV.1 hn k i (by omega) hi hk) e
theorem FX (hw:Cn gs n)(h:Placed gs lev pl):(gather gs pl).length=n/\Ay (gather gs pl)=true :=
 Qx (Qw hw.ap h) fun x=>(Qv h x).trans (hw.mem x)
theorem FY (hw:Cn gs n)(h:Placed gs lev pl)(hi:i<pl.length)(ht:t<(grp gs pl[i]).length):Ar (gather gs pl) (at0 (grp gs pl[i]) t)=((gather gs (pl.take i)).length+t:Nat):=by
 have hr:=(FX hw h).2;have e:=I3 (gs:=gs) hi;have h1:at0 (gather gs pl) ((gather gs (pl.take i)).length+t)=at0 (grp gs pl[i]) t:=by
  conv=>lhs;rw[e]
  exact Qu ht
 rw[<- h1];refine Cm hr ?_
 conv=>rhs;rw[e]
 simp only[Vr];omega
theorem KN (hw:Cn gs n)(h:Placed gs lev pl):BV gs (gather gs pl) n:=by
 obtain⟨h1,h2⟩:=FX hw h;refine⟨h1,h2,fun g hg t ht=>?_⟩;obtain⟨j,hj,rfl⟩:=Wj hg;obtain⟨i,hi,e⟩:=Wj ((h.mem j).2 ⟨hj,by rw[CL hj];intro e;rw[e] at ht;simp at ht⟩);have eg:grp gs pl[i]=gs[j]:=by rw[e,CL hj]
 have a1:=FY hw h hi (t:=t) (by rw[eg];omega);have a2:=FY hw h hi (t:=t+1) (by rw[eg];omega);rw[eg] at a1 a2;rw[a1,a2];omega
theorem FZ {g:List Int}(h:g≠[]):g.headD 0=at0 g 0:=by
 cases g with
 | nil=>exact(h rfl).elim
 | cons a r=>rfl
abbrev X5:=@List.length_pos_iff
theorem Qy (hw:Cn gs n)(h:Placed gs lev pl):Placed gs (levZ (gather gs pl)) pl:=by
 refine⟨h.mem,VV.2 fun i j hi hj g0=>?_⟩;have ne:∀ k (hk:k<pl.length),grp gs pl[k]≠[]:=fun k hk=>((h.mem _).1 (Vv hk)).2
 have lp:∀ k (hk:k<pl.length),0<(grp gs pl[k]).length:=fun k hk=>X5.2 (ne k hk)
 have a1:=FY hw h hi (t:=0) (lp i hi);have a2:=FY hw h hj (t:=0) (lp j hj);unfold levZ;rw[FZ (ne i hi),FZ (ne j hj),a1,a2];have hs:(gather gs (pl.take i)).length+(grp gs pl[i]).length<=(gather gs (pl.take j)).length:=by
  have e:=I3 (gs:=gs) (pl:=pl.take j) (i:=i) (by rw[VQ];omega);have e1:(pl.take j)[i]'(by rw[VQ];omega)=pl[i]:=List.getElem_take;rw[List.take_take,Nat.min_eq_left (by omega),e1] at e;rw[e];simp only[Vr];omega
 have:=lp i hi;omega
theorem Qz (h:Ay zs=true):zs.Pairwise fun a b=>levZ zs a<levZ zs b:=by
 refine VV.2 fun i j hi hj g0=>?_
 unfold levZ;rw[<- Az hi,<- Az hj,Cm h hi,Cm h hj];omega
theorem KO (h:Ay zs=true)(hl:zs.length=n){x:Int}(hx:0<=x/\x<(n:Int)):x∈zs:=by
 obtain⟨k,hk,e⟩:=CT h (x:=x.toNat) (by omega);rw[Az hk] at e;have:zs[k]=x:=by rw[e];omega
 rw[<- this];exact Vv _
theorem I4 (hw:Cn gs n)(h:Ay zs=true)(hl:zs.length=n):Placed gs (levZ zs) (AT gs zs) :=
 PX hw.ap (Qz h) fun i v hv=>KO h hl ((hw.mem v).1 (by
  have hi:i<gs.length:=by
   rcases VB i gs.length with c|c
   . exact c
   . unfold grp at hv;simp[List.getD,VE c] at hv
  rw[CL hi] at hv;exact Yh.2 ⟨_,Vv hi,hv⟩))
abbrev WQ:=@List.mem_append_left
theorem Q0 :AdjP (AY gs n) zs↔AdjP gs zs:=by
 constructor
 . exact fun h g hg=>h g (by unfold AY;exact WQ _ hg)
 ·intro h g hg t ht;unfold AY at hg;rcases Vy.1 hg with hg|hg
  . exact h g hg t ht
  . obtain⟨v,_,rfl⟩:=Vz.1 hg;simp at ht
end
def okI (z:Int):Prop:=-9223372036854775808<=z/\z<=9223372036854775807
inductive ExT where
 | nil
 | mk (op v:Int) (n:Nat) (kid:Nat->ExT)
def sumN:Nat->(Nat->Nat)->Nat
 | 0,_=>0
 | k+1,f=>sumN k f+f k
theorem KP {f:Nat->Nat}{j:Nat}:∀ (k:Nat),j<k->f j<=sumN k f
 | 0,h=>by omega
 | k+1,h=>by
   unfold sumN
   by_cases e:j=k
   . subst e;omega
   . have:=KP (f:=f) k (show j<k by omega);omega
def ExT.size:ExT->Nat
 | .nil=>1
 | .mk _ _ n kid=>1+sumN n fun i=>(kid i).size
theorem ExT.size_pos (e:ExT):1<=e.size:=by cases e<;>unfold ExT.size<;>omega
instance:Inhabited ExT:=⟨.nil⟩
theorem ExT.kid_size {v:Int}{kid:Nat->ExT}(h:i<n):(kid i).size<(ExT.mk op v n kid).size:=by
 have h1:(kid i).size<=sumN n fun i=>(kid i).size:=KP (f:=fun i=>(kid i).size) n h
 show (kid i).size<1+sumN n fun i=>(kid i).size
 omega
def A3 (w:Wd):ExT->Value->Prop
 | .nil,_=>False
 | .mk op v n kid,x=>∃ a c,x=.agg #[.int .i64 op,.int .i64 v,.slice a n c]/\okI op/\okI v/\n<=9223372036854775807 /\
  ∀ k,k<n->∃ b off x0 x1 x2,a=some (Aw b off)/\w.cell? (Aw b (off+k*3))=some x0/\w.cell? (Aw b (off+k*3+1))=some x1/\w.cell? (Aw b (off+k*3+2))=some x2/\A3 w (kid k) (.agg #[x0,x1,x2])
theorem A3.below {w w':Wd}(hb:Bw w w'):∀ (e:ExT) {x:Value},A3 w e x->A3 w' e x
 | .nil,_,h=>by unfold A3 at h;exact h.elim
 | .mk op v n kid,x,h=>by
   unfold A3 at h ⊢;obtain⟨a,c,h1,h2,h3,h4,h5⟩:=h;refine⟨a,c,h1,h2,h3,h4,fun k hk=>?_⟩;obtain⟨b,off,x0,x1,x2,rfl,c0,c1,c2,hx⟩:=h5 k hk;exact⟨b,off,x0,x1,x2,rfl,(Cq hb c0),(Cq hb c1),(Cq hb c2),A3.below hb (kid k) hx⟩
theorem KQ:∀ (e:ExT) (x:Value) (q:Nat) (w:Wd),q<=1000->A3 w e x ->
 Cl 50 #[x,Iv q] w fun y w'=>(∃ r:Nat,y=.returned (Iv r)/\1<=r/\r<=q+1/\(r<=q->r=e.size))/\Bw w w'
 | .nil,x,q,w,hq,h=>by unfold A3 at h;exact h.elim
 | .mk op v n kid,x,q,w,hq,h=>by
   unfold A3 at h;obtain⟨a,c,rfl,h2,h3,h4,h5⟩:=h;have H5:=Hd h5;have HSZ:Hq ((ExT.mk op v n kid).size=1+sumN n fun i=>(kid i).size):=Hd rfl;have IH:Hq (∀ (i:Nat) (x:Value) (z:Int) (q:Nat) (W:Wd),z=(q:Int)->q<=1000->A3 W (kid i) x->Cl 50 #[x,Iv z] W fun y w'=>(∃ r:Nat,y=.returned (Iv r)/\1<=r/\r<=q+1/\(r<=q->r=(kid i).size))/\Bw W w') :=
    Hd fun i x z q W hz h1 h2=>by subst hz;exact KQ (kid i) x q W h1 h2
   obtain⟨E,hE⟩:=Ex (ExT.mk op v n kid);rw[<- hE] at HSZ ⊢;obtain⟨w1,hw1⟩:=Ex (w.alloc (.cells #[Iv op,Iv v,.slice a n c] 79));have HW1:Hq (_=w1):=Hd hw1.symm;have HB1:Hq (Bw w w1):=by rw[hw1];exact Hd (Af _ _)
   have g6:w1.heap[w.heap.size]?=some (.cells #[Iv op,Iv v,.slice a n c] 79 (0,0)):=by rw[hw1];exact Vq _ _
   have hs1:w1.heap.size=w.heap.size+1:=by rw[hw1];simp
   have d2:w1.cell? (Aw w.heap.size 2)=some (.slice a n c):=by rw[Vp _ _ 2 _ _ _ g6];rfl
   clear h5 hE hw1 g6 h2 h3
   go_enter func50,ntmps50
   go_upto_region 1 with fail;rw[HW1.o];go_wp2_with fail
   go_loopw [5,6] (fun s5 s6 wr=>∃ i r:Nat,i<=n/\1<=r/\i<r/\r<=q+1/\s5=Iv r/\s6=Iv i/\Bw w1 wr/\Hq (r<=q->r=1+sumN i fun i=>(kid i).size)) (fun _ s6 _=>n-(intOf s6).toNat)
   case atStart=>exact⟨0,1,by omega,by omega,by omega,by omega,rfl,rfl,VA _ _,Hd fun _=>rfl⟩
   case round =>
    obtain⟨i,r,hi,g8,gg,g7,rfl,rfl,g5,HR⟩:=hrel;have d2':=Cq g5 d2;have g0:=Hd g5;clear g5
    by_cases gc:i<n
    ·by_cases gf:r<=q
     ·obtain⟨b,off,x0,x1,x2,rfl,c0,c1,c2,hx⟩:=H5.o i gc;have g4:=HB1.o.trans (g0.o.mono HB1.o.size);have e0:=Cq g4 c0;have e1:=Cq g4 c1;have e2:=Cq g4 c2;have HX:=Hd (hx.below g4);clear c0 c1 c2 hx g4;have g9:(i:Int)<n:=by omega
      go_wp2_with fail;refine(IH.o i _ _ (q-r) _ (by omega) (by omega) HX.o).mono ?_;rintro y w3 ⟨⟨r2,rfl,g1,g2,g3⟩,ga⟩;have ge:=Hd (g0.o.trans (ga.mono g0.o.size));have gd:Hq (r+r2<=q->r+r2=1+sumN (i+1) fun i=>(kid i).size):=Hd fun hh=>by
       have e1:=HR.o (by omega);have e2:=g3 (by omega)
       show _=1+(sumN i (fun i=>(kid i).size)+(kid i).size)
       omega
      clear ga g3 e0 e1 e2;go_wp2_with fail;go_roundw
      case rel=>exact⟨i+1,r+r2,by omega,by omega,by omega,by omega,by go_num,by go_num,ge.o,gd⟩
      case measure=>simp[intOf];omega
     ·have g9:(i:Int)<n:=by omega
      have HF:Hq ((∃ r':Nat,Ending.returned (Iv (r:Nat))=.returned (Iv r')/\1<=r'/\r'<=q+1/\(r'<=q->r'=E.size))/\Bw w wr) :=
       Hd ⟨⟨r,rfl,g8,g7,fun hh=>by omega⟩,HB1.o.trans (g0.o.mono HB1.o.size)⟩
      go_wp2_with fail;go_ret;exact HF.o
    ·have he:i=n:=by omega
     have HF:Hq ((∃ r':Nat,Ending.returned (Iv (r:Nat))=.returned (Iv r')/\1<=r'/\r'<=q+1/\(r'<=q->r'=E.size))/\Bw w wr) :=
      Hd ⟨⟨r,rfl,g8,g7,fun hh=>by rw[HSZ.o,HR.o hh,he]⟩,HB1.o.trans (g0.o.mono HB1.o.size)⟩
     have g9:¬ (i:Int)<n:=by omega
     go_wp2_with fail;go_ret;exact HF.o
theorem DT {f:Nat->Nat}{i:Nat}:∀ {n:Nat},i<n->sumN i f+f i<=sumN n f
 | 0,h=>by omega
 | k+1,h=>by
   rcases VB i k with h'|h'
   ·have:=DT (f:=f) h'
    show _<=sumN k f+f k
    omega
   ·obtain rfl:i=k:=by omega
    exact Vo _
def Bi (op:Int):Int×Int :=
 if op=1\/op=2\/op=3 then (0,0) else if op=4 then (1,1) else if op=5\/op=6\/op=7 then (0,64) else if op=8\/op=9 then (2,2) else if op=10 then (3,3) else (-1,-1)
def okT:ExT->Nat->Prop
 | .nil,_=>False
 | .mk op v n kid,deep=>deep<=64/\0<=(Bi op).1/\(op=3->0<=v/\v<64)/\(op≠3->v=0)/\(Bi op).1<=n/\(n:Int)<=(Bi op).2/\∀ i,i<n->okT (kid i) (deep+1)
def Ga:ExT->Prop
 | .nil=>False
 | .mk op v n kid=>0<=(Bi op).1/\(op=3->0<=v/\v<64)/\(op≠3->v=0)/\(Bi op).1<=n/\(n:Int)<=(Bi op).2/\∀ i,i<n->Ga (kid i)
theorem okT.valid:∀ {e:ExT} {deep:Nat},okT e deep->Ga e
 | .nil,_,h=>h.elim
 | .mk op v n kid,deep,h=>by
   obtain⟨_,h1,h2,h3,h4,h5,h6⟩:=h;exact⟨h1,h2,h3,h4,h5,fun i hi=>(h6 i hi).valid⟩
theorem Q1 (op:Int)(w:Wd):Cl 157 #[Iv op] w (Sm (.tuple #[Iv (Bi op).1,Iv (Bi op).2]) w):=by
 obtain⟨p,hp⟩:=Ex (Bi op);rw[<- hp];unfold Bi at hp;rcases(by omega:op=1\/op=2\/op=3\/op=4\/op=5\/op=6\/op=7\/op=8\/op=9\/op=10\/(op<1\/10<op)) with rfl|rfl|rfl|rfl|rfl|rfl|rfl|rfl|rfl|rfl|h
 all_goals
  first
  | (simp at hp
     subst hp
     go_enter func157,ntmps157
     go_wp2_with fail
     go_ret2
     exact⟨rfl,rfl⟩)
  | (have h1 : (op == 1) = false := by simp; omega
     have h2:(op == 2)=false:=by simp;omega
     have h3:(op == 3)=false:=by simp;omega
     have h4:(op == 4)=false:=by simp;omega
     have h5:(op == 5)=false:=by simp;omega
     have h6:(op == 6)=false:=by simp;omega
     have h7:(op == 7)=false:=by simp;omega
     have h8:(op == 8)=false:=by simp;omega
     have h9:(op == 9)=false:=by simp;omega
     have g0:(op == 10)=false:=by simp;omega
     rw[Vn (by omega),Vn (by omega),Vn (by omega),Vn (by omega),Vn (by omega)] at hp;subst hp;clear h
     go_enter func157,ntmps157
     go_wp2_with fail
     go_ret2
     exact⟨rfl,rfl⟩)
def Ew (e:ExT)(deep parts:Nat)(w:Wd)(y:Ending)(w':Wd):Prop:=∃ err m:Int,y=.returned (.tuple #[Iv err,Iv m])/\okI m/\(err=0↔okT e deep)/\(err=0->m=(parts+e.size:Nat))/\Bw w w'
theorem KR:∀ (e:ExT) (x:Value) (deep parts:Nat) (w:Wd),deep<=65->parts+e.size<=4096->A3 w e x ->
 Cl 106 #[x,Iv deep,Iv parts] w (Ew e deep parts w)
 | .nil,x,deep,parts,w,hd,hp,h=>by unfold A3 at h;exact h.elim
 | .mk op v n kid,x,deep,parts,w,hd,hp,h=>by
   unfold A3 at h;obtain⟨a,c,rfl,h2,h3,h4,h5⟩:=h;have H5:=Hd h5;have HSZ:Hq ((ExT.mk op v n kid).size=1+sumN n fun i=>(kid i).size):=Hd rfl;have HKS:Hq (∀ i,i<n->(kid i).size<(ExT.mk op v n kid).size):=Hd fun i hi=>ExT.kid_size hi
   have HV:Hq (∀ l hh:Int,l=(Bi op).1->hh=(Bi op).2->(okT (ExT.mk op v n kid) deep↔deep<=64/\0<=l/\(op=3->0<=v/\v<64)/\(op≠3->v=0)/\l<=n/\(n:Int)<=hh/\∀ i,i<n->okT (kid i) (deep+1))):=by
    refine Hd ?_;rintro l hh rfl rfl;exact Iff.rfl
   have IH:Hq (∀ (i:Nat) (x:Value) (z1 z2:Int) (deep parts:Nat) (W:Wd),z1=(deep:Int)->z2=(parts:Int)->deep<=65->parts+(kid i).size<=4096->A3 W (kid i) x->Cl 106 #[x,Iv z1,Iv z2] W (Ew (kid i) deep parts W)) :=
    Hd fun i x z1 z2 deep parts W e1 e2 h1 h2 h3=>by subst e1;subst e2;exact KR (kid i) x deep parts W h1 h2 h3
   have HK:=Hd (fun W=>Q1 op W);obtain⟨E,hE⟩:=Ex (ExT.mk op v n kid);have gC:1<=E.size:=E.size_pos;rw[<- hE] at HSZ hp HV HKS ⊢;obtain⟨l,hl⟩:=Ex ((Bi op).1);obtain⟨hi,gq⟩:=Ex ((Bi op).2);rw[<- hl,<- gq] at HK;have g4:=Hd (HV.o l hi hl gq);obtain⟨w1,gl⟩:=Ex (w.alloc (.cells #[Iv op,Iv v,.slice a n c] 79));have HW1:Hq (_=w1):=Hd gl.symm;have g8:Hq (Bw w w1):=by rw[gl];exact Hd (Af _ _)
   have gj:w1.heap[w.heap.size]?=some (.cells #[Iv op,Iv v,.slice a n c] 79 (0,0)):=by rw[gl];exact Vq _ _
   have hs1:w1.heap.size=w.heap.size+1:=by rw[gl];simp
   have d0:w1.cell? (Av w.heap.size)=some (Iv op):=by rw[Vp _ _ 0 _ _ _ gj];rfl
   have d1:w1.cell? (Aw w.heap.size 1)=some (Iv v):=by rw[Vp _ _ 1 _ _ _ gj];rfl
   have d2:w1.cell? (Aw w.heap.size 2)=some (.slice a n c):=by rw[Vp _ _ 2 _ _ _ gj];rfl
   have g0:Hq (∀ (k m:Int) (W:Wd),k≠0->¬ okT E deep->okI m->Bw w1 W->Ew E deep parts w (.returned (.tuple #[Iv k,Iv m])) W) :=
    Hd fun k m W hk gw hm hb=>⟨k,m,rfl,hm,⟨fun e=>(hk e).elim,fun e=>(gw e).elim⟩,fun e=>(hk e).elim,g8.o.trans (hb.mono g8.o.size)⟩
   unfold okI at h2 h3;clear h5 hE gl gj HV hl gq
   go_enter func106,ntmps106
   go_upto_region 1 with fail;rw[HW1.o]
   by_cases gE:(deep:Int)>64
   ·go_wp2_with fail
    go_ret2
    exact g0.o 17 _ _ (by decide) (fun h=>by have:=(g4.o.1 h).1;omega) (by unfold okI;omega) (VA _ _)
   go_wp2_with fail;refine(HK.o _).mono ?_;rintro y w' ⟨rfl,rfl⟩
   by_cases gD:l<0
   ·go_wp2_with fail
    go_ret2
    exact g0.o 11 _ _ (by decide) (fun h=>by have:=(g4.o.1 h).2.1;omega) (by unfold okI;omega) (VA _ _)
   have gt:((op == 3)=true/\op=3)\/((op == 3)=false/\(op != 3)=true/\op≠3):=by
    by_cases e:op=3
    . exact .inl ⟨by simp[e],e⟩
    . exact .inr ⟨by simpa using e,by simpa using e,e⟩
   rcases gt with ⟨g1,g2⟩|⟨g1,g2,g3⟩
   ·subst g2
    by_cases gc:v<0
    ·go_wp2_with fail
     go_ret2
     exact g0.o 9 _ _ (by decide) (fun h=>by have:=(g4.o.1 h).2.2.1 (by trivial);omega) (by unfold okI;omega) (VA _ _)
    by_cases gu:v>=64
    ·go_wp2_with fail
     go_ret2
     exact g0.o 9 _ _ (by decide) (fun h=>by have:=(g4.o.1 h).2.2.1 (by trivial);omega) (by unfold okI;omega) (VA _ _)
    have HG:Hq ((3:Int)=3->0<=v/\v<64):=Hd fun _=>⟨by omega,by omega⟩
    have gr:Hq ((3:Int)≠3->v=0):=Hd fun e=>(e rfl).elim
    go_upto_region 9 with fail
    by_cases gx:(n:Int)<l
    ·go_wp2_with fail
     go_ret2
     exact g0.o 3 _ _ (by decide) (fun h=>by have:=(g4.o.1 h).2.2.2.2.1;omega) (by unfold okI;omega) (VA _ _)
    by_cases gy:(n:Int)>hi
    ·go_wp2_with fail
     go_ret2
     exact g0.o 3 _ _ (by decide) (fun h=>by have:=(g4.o.1 h).2.2.2.2.2.1;omega) (by unfold okI;omega) (VA _ _)
    go_wp2_with fail
    go_loopw [2,10,11,12] (fun s2 s10 s11 s12 wr=>∃ i p:Nat,i<=n/\p<=4096/\s2=Iv p/\s10=Iv i/\Bw w1 wr/\Hq (p=parts+(1+sumN i fun i=>(kid i).size))/\Hq (∀ j,j<i->okT (kid j) (deep+1))) (fun _ s10 _ _ _=>n-(intOf s10).toNat)
    case atStart=>exact⟨0,parts+1,by omega,by omega,by go_num,rfl,VA _ _,Hd rfl,Hd fun j hj=>by omega⟩
    case round =>
     obtain⟨i,p,gA,gv,rfl,rfl,g9,HP,gh⟩:=hrel;have d2':=Cq g9 d2;have g5:=Hd g9;clear g9
     by_cases ge:i<n
     ·obtain⟨b,off,x0,x1,x2,rfl,c0,c1,c2,hx⟩:=H5.o i ge;have g7:=g8.o.trans (g5.o.mono g8.o.size);have e0:=Cq g7 c0;have e1:=Cq g7 c1;have e2:=Cq g7 c2;have HX:=Hd (hx.below g7);have gd:p+(kid i).size<=4096:=by
       have s1:(kid i).size+sumN i (fun i=>(kid i).size)<=sumN n fun i=>(kid i).size:=by
        have:=DT (f:=fun i=>(kid i).size) ge;omega
       have s2:=HP.o;have s3:=HSZ.o;omega
      have gi:Hq (p+(kid i).size=parts+(1+sumN (i+1) fun i=>(kid i).size)):=Hd (by
       have s2:=HP.o
       show _=parts+(1+(sumN i (fun i=>(kid i).size)+(kid i).size))
       omega)
      have gp:(i:Int)<n:=by omega
      clear c0 c1 c2 hx g7;go_wp2_with fail;refine(IH.o i _ _ _ (deep+1) p _ (by go_num) rfl (by omega) gd HX.o).mono ?_;rintro y w3 ⟨err,m,rfl,hm,gf,gm,gn⟩;have go:=Hd (g5.o.trans (gn.mono g5.o.size));have gg:=Hd gm;have ga:=Hd gf;clear gn gm gf e0 e1 e2;unfold okI at hm
      by_cases g6:err=0
      ·subst g6;have q1:=ga.o.1 rfl;have q2:=gg.o rfl;obtain⟨p2,hp2⟩:=Ex (p+(kid i).size);have gk:Hq (∀ j,j<i+1->okT (kid j) (deep+1)):=Hd fun j hj=>by
        rcases VB j i with h|h
        . exact gh.o j h
        ·obtain rfl:j=i:=by omega
         exact q1
       rw[<- hp2] at q2 gd gi;subst q2;clear hp2 q1 gg ga;go_wp2_with fail;go_roundw
       case rel=>exact⟨i+1,p2,by omega,by omega,rfl,by go_num,go.o,gi,gk⟩
       case measure=>simp[intOf];omega
      ·have gz:(err != 0)=true:=by simpa using g6
       have HF:=Hd (g0.o err m w3 g6 (fun h=>g6 (ga.o.2 ((g4.o.1 h).2.2.2.2.2.2 i ge))) hm go.o);clear g6 gg ga;go_wp2_with fail
       go_ret2
       exact HF.o
     ·have he:i=n:=by omega
      have gp:¬ (i:Int)<n:=by omega
      have HF:Hq (Ew E deep parts w (.returned (.tuple #[Iv 0,Iv (p:Nat)])) wr):=Hd ⟨0,p,rfl,by unfold okI;omega,⟨fun _=>g4.o.2 ⟨by omega,by omega,HG.o,gr.o,by omega,by omega,fun j hj=>gh.o j (by omega)⟩,fun _=>rfl⟩,fun _=>by rw[HP.o,HSZ.o,he],g8.o.trans (g5.o.mono g8.o.size)⟩;go_wp2_with fail
      go_ret2
      exact HF.o
   ·by_cases gc:v=0
    ·have gu:(v != 0)=false:=by simp[gc]
     have HG:Hq (op=3->0<=v/\v<64):=Hd fun e=>(g3 e).elim
     have gr:Hq (op≠3->v=0):=Hd fun _=>gc
     clear gc g3;go_upto_region 9 with fail
     by_cases gx:(n:Int)<l
     ·go_wp2_with fail
      go_ret2
      exact g0.o 3 _ _ (by decide) (fun h=>by have:=(g4.o.1 h).2.2.2.2.1;omega) (by unfold okI;omega) (VA _ _)
     by_cases gy:(n:Int)>hi
     ·go_wp2_with fail
      go_ret2
      exact g0.o 3 _ _ (by decide) (fun h=>by have:=(g4.o.1 h).2.2.2.2.2.1;omega) (by unfold okI;omega) (VA _ _)
     go_wp2_with fail
     go_loopw [2,10,11,12] (fun s2 s10 s11 s12 wr=>∃ i p:Nat,i<=n/\p<=4096/\s2=Iv p/\s10=Iv i/\Bw w1 wr/\Hq (p=parts+(1+sumN i fun i=>(kid i).size))/\Hq (∀ j,j<i->okT (kid j) (deep+1))) (fun _ s10 _ _ _=>n-(intOf s10).toNat)
     case atStart=>exact⟨0,parts+1,by omega,by omega,by go_num,rfl,VA _ _,Hd rfl,Hd fun j hj=>by omega⟩
     case round =>
      obtain⟨i,p,gA,gv,rfl,rfl,g9,HP,gh⟩:=hrel;have d2':=Cq g9 d2;have g5:=Hd g9;clear g9
      by_cases ge:i<n
      ·obtain⟨b,off,x0,x1,x2,rfl,c0,c1,c2,hx⟩:=H5.o i ge;have g7:=g8.o.trans (g5.o.mono g8.o.size);have e0:=Cq g7 c0;have e1:=Cq g7 c1;have e2:=Cq g7 c2;have HX:=Hd (hx.below g7);have gd:p+(kid i).size<=4096:=by
        have s1:(kid i).size+sumN i (fun i=>(kid i).size)<=sumN n fun i=>(kid i).size:=by
         have:=DT (f:=fun i=>(kid i).size) ge;omega
        have s2:=HP.o;have s3:=HSZ.o;omega
       have gi:Hq (p+(kid i).size=parts+(1+sumN (i+1) fun i=>(kid i).size)):=Hd (by
        have s2:=HP.o
        show _=parts+(1+(sumN i (fun i=>(kid i).size)+(kid i).size))
        omega)
       have gp:(i:Int)<n:=by omega
       clear c0 c1 c2 hx g7;go_wp2_with fail;refine(IH.o i _ _ _ (deep+1) p _ (by go_num) rfl (by omega) gd HX.o).mono ?_;rintro y w3 ⟨err,m,rfl,hm,gf,gm,gn⟩;have go:=Hd (g5.o.trans (gn.mono g5.o.size));have gg:=Hd gm;have ga:=Hd gf;clear gn gm gf e0 e1 e2;unfold okI at hm
       by_cases g6:err=0
       ·subst g6;have q1:=ga.o.1 rfl;have q2:=gg.o rfl;obtain⟨p2,hp2⟩:=Ex (p+(kid i).size);have gk:Hq (∀ j,j<i+1->okT (kid j) (deep+1)):=Hd fun j hj=>by
         rcases VB j i with h|h
         . exact gh.o j h
         ·obtain rfl:j=i:=by omega
          exact q1
        rw[<- hp2] at q2 gd gi;subst q2;clear hp2 q1 gg ga;go_wp2_with fail;go_roundw
        case rel=>exact⟨i+1,p2,by omega,by omega,rfl,by go_num,go.o,gi,gk⟩
        case measure=>simp[intOf];omega
       ·have gz:(err != 0)=true:=by simpa using g6
        have HF:=Hd (g0.o err m w3 g6 (fun h=>g6 (ga.o.2 ((g4.o.1 h).2.2.2.2.2.2 i ge))) hm go.o);clear g6 gg ga;go_wp2_with fail
        go_ret2
        exact HF.o
      ·have he:i=n:=by omega
       have gp:¬ (i:Int)<n:=by omega
       have HF:Hq (Ew E deep parts w (.returned (.tuple #[Iv 0,Iv (p:Nat)])) wr):=Hd ⟨0,p,rfl,by unfold okI;omega,⟨fun _=>g4.o.2 ⟨by omega,by omega,HG.o,gr.o,by omega,by omega,fun j hj=>gh.o j (by omega)⟩,fun _=>rfl⟩,fun _=>by rw[HP.o,HSZ.o,he],g8.o.trans (g5.o.mono g8.o.size)⟩;go_wp2_with fail
       go_ret2
       exact HF.o
    ·have gu:(v != 0)=true:=by simpa using gc
     have gB:Hq (¬ okT E deep):=Hd fun h=>gc ((g4.o.1 h).2.2.2.1 g3)
     clear gc g3;go_wp2_with fail
     go_ret2
     exact g0.o 9 _ _ (by decide) gB.o (by unfold okI;omega) (VA _ _)
theorem I5 (e:ExT)(x:Value)(w:Wd)(hs:e.size<=4096)(h:A3 w e x) :
 Cl 51 #[x] w fun y w'=>∃ err:Int,y=.returned (Iv err)/\(err=0↔okT e 1)/\Bw w w':=by
 have HC:Hq (∀ W,Bw w W->∀ u,u=x->Cl 106 #[u,Iv 1,Iv 0] W (Ew e 1 0 W)):=Hd fun W hb u hu=>by subst hu;exact KR e _ 1 0 W (by omega) (by omega) (h.below hb)
 obtain⟨x0,x1,x2,hx⟩:∃ x0 x1 x2,x=.agg #[x0,x1,x2]:=by
  cases e with
  | nil=>unfold A3 at h;exact h.elim
  | mk op v n kid =>
    unfold A3 at h;obtain⟨a,c,rfl,_⟩:=h;exact⟨_,_,_,rfl⟩
 subst hx;obtain⟨w1,g1⟩:=Ex (w.alloc (.cells #[x0,x1,x2] 79));have HW1:Hq (_=w1):=Hd g1.symm;have g2:Hq (Bw w w1):=by rw[g1];exact Hd (Af _ _)
 have g0:w1.heap[w.heap.size]?=some (.cells #[x0,x1,x2] 79 (0,0)):=by rw[g1];exact Vq _ _
 have d0:w1.cell? (Av w.heap.size)=some x0:=by rw[Vp _ _ 0 _ _ _ g0];rfl
 have d1:w1.cell? (Aw w.heap.size 1)=some x1:=by rw[Vp _ _ 1 _ _ _ g0];rfl
 have d2:w1.cell? (Aw w.heap.size 2)=some x2:=by rw[Vp _ _ 2 _ _ _ g0];rfl
 have g3:x0.cells=#[x0]/\x1.cells=#[x1]/\x2.cells=#[x2]:=by
  cases e with
  | nil=>unfold A3 at h;exact h.elim
  | mk op v n kid =>
    unfold A3 at h;obtain⟨a,c,h1,_⟩:=h;cases h1;exact⟨rfl,rfl,rfl⟩
 obtain⟨o0,o1,o2⟩:=g3;clear h g1 g0
 go_enter func51,ntmps51
 go_upto_region 1 with fail;rw[HW1.o];go_wp2_with fail;refine(HC.o _ g2.o _ rfl).mono ?_;rintro y w2 ⟨err,m,rfl,hm,hv,_,hb⟩;have HF:Hq (∃ err':Int,Ending.returned (Iv err)=.returned (Iv err')/\(err'=0↔okT e 1)/\Bw w w2):=Hd ⟨err,rfl,hv,g2.o.trans (hb.mono g2.o.size)⟩;clear hv hb;go_wp2_with fail;go_ret;exact HF.o
def BW:Nat->(Nat->List Int)->List Int
 | 0,_=>[]
 | k+1,f=>BW k f++f k
def AI:ExT->List Int
 | .nil=>[]
 | .mk op v n kid=>(if op=3 then [v] else [])++BW n fun i=>AI (kid i)
theorem Gb {f:Nat->List Int}{g:Nat->Nat}:∀ (n:Nat),(∀ i,i<n->(f i).length<=g i)->(BW n f).length<=sumN n g
 | 0,_=>Vo _
 | k+1,h=>by
   show (BW k f++f k).length<=sumN k g+g k
   rw[Vr];have:=Gb (f:=f) (g:=g) k (fun i hi=>h i (by omega));have:=h k (by omega);omega
theorem Ey:∀ e:ExT,(AI e).length<=e.size
 | .nil=>by simp[AI]
 | .mk op v n kid=>by
   show ((if op=3 then [v] else [])++BW n fun i=>AI (kid i)).length<=1+sumN n fun i=>(kid i).size
   rw[Vr];have h1:=Gb (f:=fun i=>AI (kid i)) (g:=fun i=>(kid i).size) n (fun i _=>Ey (kid i));have h2:(if op=3 then [v] else []:List Int).length<=1:=by split<;>simp
   omega
theorem OwnI.lower {b:Nat}(h:OwnI w base v zs)(hb:b<=base):OwnI w b v zs:=by
 refine⟨h.1,?_⟩;rcases h.2 with hn|⟨g,cap,cur,rfl,g0,rest⟩
 . exact .inl hn
 . exact .inr ⟨g,cap,cur,rfl,by omega,rest⟩
abbrev Vu:=@Nat.zero_le
theorem KS:∀ (e:ExT) (x:Value) (w:Wd),e.size<=4096->A3 w e x ->
 Cl 107 #[x] w fun y w'=>∃ u,y=.returned u/\OwnI w' w.heap.size u (AI e)/\Bw w w'
 | .nil,x,w,hp,h=>by unfold A3 at h;exact h.elim
 | .mk op v n kid,x,w,hp,h=>by
   unfold A3 at h;obtain⟨a,c,rfl,h2,h3,h4,h5⟩:=h;have H5:=Hd h5;have HSZ:Hq ((ExT.mk op v n kid).size=1+sumN n fun i=>(kid i).size):=Hd rfl;have HKS:Hq (∀ i,i<n->(kid i).size<(ExT.mk op v n kid).size):=Hd fun i hi=>ExT.kid_size hi
   have HVT:Hq (AI (ExT.mk op v n kid)=(if op=3 then [v] else [])++BW n fun i=>AI (kid i)):=Hd rfl;have IH:Hq (∀ (i:Nat) (x:Value) (W:Wd),(kid i).size<=4096->A3 W (kid i) x->Cl 107 #[x] W fun y w'=>∃ u,y=.returned u/\OwnI w' W.heap.size u (AI (kid i))/\Bw W w') :=
    Hd fun i x W h1 h2=>KS (kid i) x W h1 h2
   obtain⟨E,hE⟩:=Ex (ExT.mk op v n kid);rw[<- hE] at HSZ hp HVT HKS ⊢;obtain⟨w1,hw1⟩:=Ex (w.alloc (.cells #[Iv op,Iv v,.slice a n c] 79));have HW1:Hq (_=w1):=Hd hw1.symm;have HB1:Hq (Bw w w1):=by rw[hw1];exact Hd (Af _ _)
   have g9:w1.heap[w.heap.size]?=some (.cells #[Iv op,Iv v,.slice a n c] 79 (0,0)):=by rw[hw1];exact Vq _ _
   have hs1:w1.heap.size=w.heap.size+1:=by rw[hw1];simp
   have d0:w1.cell? (Av w.heap.size)=some (Iv op):=by rw[Vp _ _ 0 _ _ _ g9];rfl
   have d1:w1.cell? (Aw w.heap.size 1)=some (Iv v):=by rw[Vp _ _ 1 _ _ _ g9];rfl
   have d2:w1.cell? (Aw w.heap.size 2)=some (.slice a n c):=by rw[Vp _ _ 2 _ _ _ g9];rfl
   unfold okI at h2 h3;obtain⟨w2,ge⟩:=Ex (w1.alloc (.cells #[] 3));have gr:Hq (_=w2):=Hd ge.symm;have HB2:Hq (Bw w1 w2):=by rw[ge];exact Hd (Af _ _)
   have gj:Hq (OwnI w2 w1.heap.size (.slice (some (Av (w.heap.size+1))) 0 0) []):=by rw[ge,<- hs1];exact Hd (Ec _ _ (Vo _))
   clear h5 hE hw1 ge g9
   go_enter func107,ntmps107
   go_upto_region 1 with fail;rw[HW1.o];go_upto_region 2 with fail;obtain⟨Z,hZ⟩:=Ex (if op=3 then [v] else []:List Int)
   have HZ:=Hd hZ;have gm:Hq (Z.length<=1):=Hd (by rw[hZ];split<;>simp);rw[gr.o];have gl:w1.heap.size<=w2.heap.size:=HB2.o.size;have d0':=Cq HB2.o d0;have d1':=Cq HB2.o d1
   by_cases h3:op=3
   ·rw[Vs h3] at hZ;subst h3;clear h2;go_wp2_with (at_builtin;refine CQ _ rfl _ _ rfl w1.heap.size w1 _ [] _ rfl rfl rfl rfl (by exact gj.o) (by simp) gl HB2.o ?_;intro v3 w3 gk g7 go _)
    go_loopw [3,4] (fun s3 s4 wr=>∃ i:Nat,i<=n/\s4=Iv i/\Bw w1 wr/\OwnI wr w1.heap.size s3 (Z++BW i fun i=>AI (kid i))/\w1.heap.size<=wr.heap.size) (fun _ s4 _=>n-(intOf s4).toNat)
    case atStart=>exact⟨0,Vu _,rfl,g7,by rw[hZ];simpa [BW] using gk,go⟩
    case round =>
     obtain⟨i,gq,rfl,g2,g5,gn⟩:=hrel;have d2':=Cq g2 d2;have g0:=Hd g2;have gc:=Hd g5;clear g2 g5
     by_cases g6:i<n
     ·obtain⟨b,off,x0,x1,x2,rfl,c0,c1,c2,hx⟩:=H5.o i g6;have g1:=HB1.o.trans (g0.o.mono HB1.o.size);have e0:=Cq g1 c0;have e1:=Cq g1 c1;have e2:=Cq g1 c2;have HX:=Hd (hx.below g1);have gh:(i:Int)<n:=by omega
      have gp:=HKS.o i g6
      have gd:Hq ((Z++BW i fun i=>AI (kid i)).length+(AI (kid i)).length<=4096):=Hd (by
       have s1:=DT (f:=fun i=>(kid i).size) g6;have s2:=HSZ.o;have s3:=Gb (f:=fun i=>AI (kid i)) (g:=fun i=>(kid i).size) i (fun i _=>Ey (kid i));have s4:=Ey (kid i);have s5:=gm.o;rw[Vr];omega)
      clear c0 c1 c2 hx g1;go_upto_region 7 with fail
      go_wp2_with (first
       | (go_at_call 107;refine(IH.o i _ _ (by omega) HX.o).mono ?_;rintro y w3 ⟨u,rfl,hu,g7⟩;obtain⟨au,cu,rfl,ga,gf⟩:=hu.sliceIs (by have:=gd.o;omega);have HU:=Hd ga;have g8:=Hd g7;clear hu ga g7)
       | (at_builtin;refine Dn rfl _ _ rfl w1.heap.size w1 _ (Z++BW i fun i=>AI (kid i)) (AI (kid i)) au cu rfl rfl (by exact gc.o.below g8.o) (by exact HU.o) (by have:=gd.o;omega) (by have:=g8.o.size;omega) (by exact g0.o.trans (g8.o.mono g0.o.size)) gf ?_;intro v4 w4 g4 gi gg _))
      go_roundw
      case rel=>exact⟨i+1,by omega,by go_num,gi,by rw[VC] at g4;exact g4,gg⟩
      case measure=>simp[intOf];omega
     ·have he:i=n:=by omega
      have gh:¬ (i:Int)<n:=by omega
      have HF:Hq (∃ u,Ending.returned u3=.returned u/\OwnI wr w.heap.size u (AI E)/\Bw w wr):=Hd ⟨u3,rfl,by rw[HVT.o,<- HZ.o,<- he];exact gc.o.lower (by omega),HB1.o.trans (g0.o.mono HB1.o.size)⟩;go_wp2_with fail;go_ret;exact HF.o
   ·rw[Vn h3] at hZ;have g3:(op == 3)=false:=by simpa using h3
    clear h3;go_wp2_with fail
    go_loopw [3,4] (fun s3 s4 wr=>∃ i:Nat,i<=n/\s4=Iv i/\Bw w1 wr/\OwnI wr w1.heap.size s3 (Z++BW i fun i=>AI (kid i))/\w1.heap.size<=wr.heap.size) (fun _ s4 _=>n-(intOf s4).toNat)
    case atStart=>exact⟨0,Vu _,rfl,HB2.o,by rw[hZ];simpa [BW] using gj.o,gl⟩
    case round =>
     obtain⟨i,gq,rfl,g2,g5,gn⟩:=hrel;have d2':=Cq g2 d2;have g0:=Hd g2;have gc:=Hd g5;clear g2 g5
     by_cases g6:i<n
     ·obtain⟨b,off,x0,x1,x2,rfl,c0,c1,c2,hx⟩:=H5.o i g6;have g1:=HB1.o.trans (g0.o.mono HB1.o.size);have e0:=Cq g1 c0;have e1:=Cq g1 c1;have e2:=Cq g1 c2;have HX:=Hd (hx.below g1);have gh:(i:Int)<n:=by omega
      have gp:=HKS.o i g6
      have gd:Hq ((Z++BW i fun i=>AI (kid i)).length+(AI (kid i)).length<=4096):=Hd (by
       have s1:=DT (f:=fun i=>(kid i).size) g6;have s2:=HSZ.o;have s3:=Gb (f:=fun i=>AI (kid i)) (g:=fun i=>(kid i).size) i (fun i _=>Ey (kid i));have s4:=Ey (kid i);have s5:=gm.o;rw[Vr];omega)
      clear c0 c1 c2 hx g1;go_upto_region 7 with fail
      go_wp2_with (first
       | (go_at_call 107;refine(IH.o i _ _ (by omega) HX.o).mono ?_;rintro y w3 ⟨u,rfl,hu,g7⟩;obtain⟨au,cu,rfl,ga,gf⟩:=hu.sliceIs (by have:=gd.o;omega);have HU:=Hd ga;have g8:=Hd g7;clear hu ga g7)
       | (at_builtin;refine Dn rfl _ _ rfl w1.heap.size w1 _ (Z++BW i fun i=>AI (kid i)) (AI (kid i)) au cu rfl rfl (by exact gc.o.below g8.o) (by exact HU.o) (by have:=gd.o;omega) (by have:=g8.o.size;omega) (by exact g0.o.trans (g8.o.mono g0.o.size)) gf ?_;intro v4 w4 g4 gi gg _))
      go_roundw
      case rel=>exact⟨i+1,by omega,by go_num,gi,by rw[VC] at g4;exact g4,gg⟩
      case measure=>simp[intOf];omega
     ·have he:i=n:=by omega
      have gh:¬ (i:Int)<n:=by omega
      have HF:Hq (∃ u,Ending.returned u3=.returned u/\OwnI wr w.heap.size u (AI E)/\Bw w wr):=Hd ⟨u3,rfl,by rw[HVT.o,<- HZ.o,<- he];exact gc.o.lower (by omega),HB1.o.trans (g0.o.mono HB1.o.size)⟩;go_wp2_with fail;go_ret;exact HF.o
theorem KT (a:Option Addr)(c:Nat)(zs:List Int)(v:Int)(w:Wd)(hl:zs.length<=1000000)(h:Au w a zs) :
 Cl 108 #[.slice a zs.length c,Iv v] w (Sm (.bool (decide (v∈zs))) w):=by
 have HI:=Hd h;clear h;have g4:Hq ((∀ j,j<zs.length->at0 zs j≠v)->decide (v∈zs)=false):=Hd fun hh=>VU fun hm=>by
  obtain⟨j,hj,e⟩:=Wj hm;exact hh j hj (by rw[Az hj];exact e)
 have g2:Hq (∀ j,j<zs.length->at0 zs j=v->decide (v∈zs)=true):=Hd fun j hj e=>We (by rw[Az hj] at e;rw[<- e];exact Vv hj)
 go_enter func108,ntmps108
 go_wp2_with fail
 go_loopw [5] (fun s5 wr=>∃ i:Nat,i<=zs.length/\s5=Iv i/\w=wr/\Hq (∀ j,j<i->at0 zs j≠v)) (fun s5 _=>zs.length-(intOf s5).toNat)
 case atStart=>exact⟨0,Vu _,rfl,rfl,Hd fun j hj=>by omega⟩
 case round =>
  obtain⟨i,hi,rfl,rfl,HN⟩:=hrel
  by_cases g1:i<zs.length
  ·obtain⟨b,off,rfl,hc⟩:=HI.o.cells i g1;have g3:(i:Int)<zs.length:=by omega
   obtain⟨z,hz⟩:=Ex (at0 zs i);rw[<- hz] at hc
   by_cases he:z=v
   . have HY:=Hd (g2.o i g1 (by rw[<- hz,he]));subst he;clear hz;go_wp2_with fail;go_ret;exact⟨by rw[HY.o];rfl,rfl⟩
   ·have g5:(z == v)=false:=by simpa using he
    have g0:Hq (∀ j,j<i+1->at0 zs j≠v):=Hd fun j hj=>by
     rcases VB j i with h|h
     . exact HN.o j h
     ·obtain rfl:j=i:=by omega
      rw[<- hz];exact he
    clear hz he;go_wp2_with fail;go_roundw
    case rel=>exact⟨i+1,by omega,by go_num,by simp,g0⟩
    case measure=>simp[intOf];omega
  ·have g0:=Hd (g4.o fun j hj=>HN.o j (by omega));have g3:¬ (i:Int)<zs.length:=by omega
   go_wp2_with fail;go_ret;exact⟨by rw[g0.o];rfl,rfl⟩
structure PutS (zs:List Int)(v:Int)(i:Nat)(d:Bool)(os:List Int):Prop where
 mem:∀ x,x∈os↔x∈zs.take i\/(d=true/\x=v)
 len:os.length=i+if d then 1 else 0
 srt:os.Pairwise (· < ·)
 low:d=false->∀ x∈os,x<v
 up:d=true->∀ x∈os,∀ y∈zs.drop i,x<y
theorem KU {os:List Int}{z:Int}(h:os.Pairwise (· < ·))(hz:∀ x∈os,x<z):(os++[z]).Pairwise (· < ·) :=
 List.pairwise_append.2 ⟨h,List.pairwise_singleton ..,fun x hx y hy=>by rw[VF.1 hy];exact hz x hx⟩
theorem KV (hs:zs.Pairwise (· < ·))(hi:i<zs.length):(∀ y∈zs.drop i,at0 zs i<=y)/\(∀ y∈zs.drop (i+1),at0 zs i<y)/\(∀ x∈zs.take i,x<at0 zs i):=by
 have e:zs.drop i=at0 zs i::zs.drop (i+1):=by rw[Az hi];exact(VT hi)
 have hd:(zs.drop i).Pairwise (· < ·):=hs.sublist (List.drop_sublist ..);rw[e,List.pairwise_cons] at hd;have h2:=hs;rw[<- Wy i zs,List.pairwise_append] at h2;refine⟨fun y hy=>?_,hd.1,fun x hx=>h2.2.2 x hx _ (by rw[e];exact VW ..)⟩;rw[e] at hy;rcases VX.1 hy with h|h
 . omega
 . have:=hd.1 y h;omega
theorem PutS.here {v:Int}{os:List Int}(h:PutS zs v i false os)(hu:∀ y∈zs.drop i,v<y):PutS zs v i true (os++[v]):=by
 refine⟨fun x=>?_,by simp[h.len],KU h.srt (h.low rfl),by simp,fun _ x hx y hy=>?_⟩
 . have:=h.mem x;simp only[Xy,false_and,or_false] at this;simp[this]
 ·rcases Vy.1 hx with h1|h1
  . have:=h.low rfl x h1;have:=hu y hy;omega
  . rw[VF.1 h1];exact hu y hy
theorem PutS.next {v:Int}{d:Bool}{os:List Int}(h:PutS zs v i d os)(hs:zs.Pairwise (· < ·))(hi:i<zs.length)(hd:d=false->at0 zs i<v):PutS zs v (i+1) d (os++[at0 zs i]):=by
 obtain⟨q1,q2,q3⟩:=KV hs hi;have g0:∀ x∈os,x<at0 zs i:=fun x hx=>by
  cases d with
  | true=>exact h.up rfl x hx _ (by rw[VT hi,Az hi];exact VW ..)
  | false =>
    rcases(h.mem x).1 hx with h1|⟨h1,_⟩
    . exact q3 x h1
    . cases h1
 refine⟨fun x=>?_,by have:=h.len;simp[this];omega,KU h.srt g0,fun e x hx=>?_,fun e x hx y hy=>?_⟩
 ·rw[Vt hi,Vy,Vy,h.mem x,Az hi];simp only[VF];constructor
  ·rintro((h1|h1)|h1)
   . exact .inl (.inl h1)
   . exact .inr h1
   . exact .inl (.inr h1)
  ·rintro((h1|h1)|h1)
   . exact .inl (.inl h1)
   . exact .inr h1
   . exact .inl (.inr h1)
 ·rcases Vy.1 hx with h1|h1
  . exact h.low e x h1
  . rw[VF.1 h1];exact hd e
 ·have g1:=q2 y hy;rcases Vy.1 hx with h1|h1
  . have:=g0 x h1;omega
  . rw[VF.1 h1];exact g1
theorem Q2 (a:Option Addr)(c:Nat)(zs:List Int)(v:Int)(w:Wd)(hl:zs.length<=1000000)(h:Au w a zs)(hsr:zs.Pairwise (· < ·))(hnm:v∉zs) :
 Cl 109 #[.slice a zs.length c,Iv v] w fun y w'=>∃ u os,y=.returned u/\OwnI w' w.heap.size u os/\((∀ x,x∈os↔x∈zs\/x=v)/\os.Pairwise (· < ·))/\os.length=zs.length+1/\Bw w w':=by
 have HI:=Hd h;have g9:=Hd hsr;have gi:Hq (∀ i,i<zs.length->at0 zs i≠v):=Hd fun i hi e=>hnm (by rw[<- e,Az hi];exact Vv hi)
 clear h hsr hnm;have ga:Hq (∀ os,PutS zs v zs.length true os->((∀ x,x∈os↔x∈zs\/x=v)/\os.Pairwise (· < ·))/\os.length=zs.length+1):=Hd fun os h=>⟨⟨fun x=>by have:=h.mem x;rw[VI] at this;simpa using this,h.srt⟩,by simpa using h.len⟩
 go_enter func109,ntmps109
 go_wp2_with fail
 go_loopw [5,6,7] (fun s5 s6 s7 wr=>∃ (i:Nat) (d:Bool) (os:List Int),i<=zs.length/\s6=.bool d/\s7=Iv i/\OwnI wr w.heap.size s5 os/\w.heap.size<=wr.heap.size/\Bw w wr/\Hq (PutS zs v i d os)) (fun _ _ s7 _=>zs.length-(intOf s7).toNat)
 case atStart=>exact⟨0,false,[],Vu _,rfl,rfl,Ec w _ (Vo _),by simp,Af w _,Hd ⟨fun x=>by simp,by simp,List.Pairwise.nil,by simp,by simp⟩⟩
 case round =>
  obtain⟨i,d,os,hi,rfl,rfl,g7,g8,g5,HP⟩:=hrel;have gk:os.length<=i+1:=by rw[HP.o.len];split<;>omega
  by_cases g4:i<zs.length
  ·obtain⟨b,off,rfl,hc⟩:=(HI.o.below g5).cells i g4;have g6:=Hd g7;have g3:=Hd g5;have gg:(i:Int)<zs.length:=by omega
   obtain⟨z,hz⟩:=Ex (at0 zs i);rw[<- hz] at hc;have HZ:=Hd hz;clear g7 g5 hz;cases d with
   | true =>
     go_wp2_with (at_builtin;refine CQ _ rfl _ _ rfl w.heap.size w _ os _ rfl rfl rfl rfl (by exact g6.o) (by omega) g8 g3.o ?_;intro v1 w1 g1 g0 g2 _);go_roundw
     case rel=>exact⟨i+1,true,_,by omega,rfl,by go_num,g1,g2,g0,Hd (by rw[HZ.o];exact HP.o.next g9.o g4 (by simp))⟩
     case measure=>simp[intOf];omega
   | false =>
     by_cases gl:z>v
     ·have cne:∀ W:Wd,Bw wr W->W.cell? (Aw b (off+i))=some (Iv z):=fun W hb=>(Cq hb hc)
      have gf:b<w.heap.size:=by
       obtain⟨b',o',e,c'⟩:=HI.o.cells i g4;cases e;exact Ah c'
      go_upto_region 8 with (at_builtin;refine CQ _ rfl _ _ rfl w.heap.size w _ os _ rfl rfl rfl rfl (by exact g6.o) (by omega) g8 g3.o ?_;intro v1 w1 g1 g0 g2 _)
      have gm:w1.cell? (Aw b (off+i))=some (Iv z):=by
       obtain⟨b',o',e,c'⟩:=HI.o.cells i g4;cases e;rw[(g0.cell (p:=(Aw b (off+i))) gf),HZ.o];exact c'
      have gh:=Hd g1;have gj:=Hd g0;clear g1 g0 hc cne;go_wp2_with (at_builtin;refine CQ _ rfl _ _ rfl w.heap.size w _ (os++[v]) _ rfl rfl rfl rfl (by exact gh.o) (by simp;omega) g2 gj.o ?_;intro v2 w2 gc gd ge _);go_roundw
      case rel=>exact⟨i+1,true,_,by omega,rfl,by go_num,gc,ge,gd,Hd (by rw[HZ.o];exact(HP.o.here fun y hy=>by have:=(KV g9.o g4).1 y hy;have:=HZ.o;omega).next g9.o g4 (by simp))⟩
      case measure=>simp[intOf];omega
     ·go_wp2_with (at_builtin;refine CQ _ rfl _ _ rfl w.heap.size w _ os _ rfl rfl rfl rfl (by exact g6.o) (by omega) g8 g3.o ?_;intro v1 w1 g1 g0 g2 _);go_roundw
      case rel=>exact⟨i+1,false,_,by omega,rfl,by go_num,g1,g2,g0,Hd (by rw[HZ.o];exact HP.o.next g9.o g4 fun _=>by have:=gi.o i g4;have:=HZ.o;omega)⟩
      case measure=>simp[intOf];omega
  ·have he:i=zs.length:=by omega
   have gg:¬ (i:Int)<zs.length:=by omega
   have g6:=Hd g7;have g3:=Hd g5;have HE:=Hd he;clear g7 g5 he;cases d with
   | true =>
     have HF:=ga.o os (by rw[<- HE.o];exact HP.o);go_wp2_with fail;go_ret;exact⟨_,rfl,os,g6.o,HF.1,HF.2,g3.o⟩
   | false =>
     have HF:=Hd (ga.o (os++[v]) (by rw[<- HE.o];exact HP.o.here (by rw[HE.o];simp)));go_wp2_with (at_builtin;refine CQ _ rfl _ _ rfl w.heap.size w _ os _ rfl rfl rfl rfl (by exact g6.o) (by omega) g8 g3.o ?_;intro v1 w1 g1 g0 g2 _);go_ret;exact⟨_,rfl,_,g1,HF.o.1,HF.o.2,g0⟩
theorem KW (hi:i<zs.length)(x:Int):x∈zs.take (i+1)↔x∈zs.take i\/x=at0 zs i:=by
 rw[Vt hi,Vy,Az hi,VF]
theorem KX (a:Option Addr)(c:Nat)(zs:List Int)(w:Wd)(hl:zs.length<=900000)(h:Au w a zs) :
 Cl 53 #[.slice a zs.length c] w fun y w'=>∃ u os,y=.returned u/\OwnI w' w.heap.size u os/\((∀ x,x∈os↔x∈zs)/\os.Pairwise (· < ·))/\os.length<=zs.length/\Bw w w':=by
 have HI:=Hd h;clear h
 go_enter func53,ntmps53
 go_wp2_with fail
 go_loopw [3,4] (fun s3 s4 wr=>∃ (i:Nat) (os:List Int),i<=zs.length/\s4=Iv i/\OwnI wr w.heap.size s3 os/\w.heap.size<=wr.heap.size/\Bw w wr/\os.length<=i/\Hq ((∀ x,x∈os↔x∈zs.take i)/\os.Pairwise (· < ·))) (fun _ s4 _=>zs.length-(intOf s4).toNat)
 case atStart=>exact⟨0,[],Vu _,rfl,Ec w _ (Vo _),by simp,Af w _,by simp,Hd ⟨fun x=>by simp,List.Pairwise.nil⟩⟩
 case round =>
  obtain⟨i,os,hi,rfl,g0,g6,g1,gk,HP⟩:=hrel
  by_cases gd:i<zs.length
  ·obtain⟨b,off,rfl,hc⟩:=(HI.o.below g1).cells i gd;have gg:(i:Int)<zs.length:=by omega
   obtain⟨z,hz⟩:=Ex (at0 zs i);rw[<- hz] at hc;obtain⟨ao,co,rfl,g8,gj⟩:=g0.sliceIs (by omega);have g4:=Hd (KT ao co os z wr (by omega) g8);have g3:Hq (z∉os->_):=Hd fun h=>Q2 ao co os z wr (by omega) g8 HP.o.2 h
   have ga:=Hd g0;have g5:=Hd g1;have HT:=Hd (KW gd);have HZ:=Hd hz;clear g0 g1 hz g8
   by_cases hm:z∈os
   ·have hb:decide (z∈os)=true:=by simp[hm]
    rw[hb] at g4
    have gc:Hq ((∀ x,x∈os↔x∈zs.take (i+1))/\os.Pairwise (· < ·)):=Hd ⟨fun x=>by
     rw[HT.o x,<- HZ.o];constructor
     . intro h;exact .inl ((HP.o.1 x).1 h)
     ·rintro(h|rfl)
      . exact(HP.o.1 x).2 h
      . exact hm,HP.o.2⟩
    clear hm hb g3;go_wp2_with fail;refine g4.o.mono ?_;rintro y w' ⟨rfl,rfl⟩;go_wp2_with fail;go_roundw
    case rel=>exact⟨i+1,os,by omega,by go_num,ga.o,g6,g5.o,by omega,gc⟩
    case measure=>simp[intOf];omega
   ·have hb:decide (z∈os)=false:=by simp[hm]
    rw[hb] at g4;have g3:=Hd (g3.o hm);clear hm hb;go_wp2_with fail;refine g4.o.mono ?_;rintro y w' ⟨rfl,rfl⟩;go_wp2_with fail;refine g3.o.mono ?_;rintro y w2 ⟨u,os2,rfl,g7,g2,gi,g9⟩
    have gc:Hq ((∀ x,x∈os2↔x∈zs.take (i+1))/\os2.Pairwise (· < ·)):=Hd ⟨fun x=>by
     rw[g2.1 x,HT.o x,<- HZ.o,HP.o.1 x],g2.2⟩
    have gh:Hq (OwnI w2 w.heap.size u os2):=Hd (g7.lower g6);have HB2:=Hd (g5.o.trans (g9.mono g6));have gf:w.heap.size<=w2.heap.size:=Vx g6 g9.size;clear g7 g2 g9;go_wp2_with fail;go_roundw
    case rel=>exact⟨i+1,os2,by omega,by go_num,gh.o,gf,HB2.o,by omega,gc⟩
    case measure=>simp[intOf];omega
  ·have he:i=zs.length:=by omega
   have gg:¬ (i:Int)<zs.length:=by omega
   have ga:=Hd g0;have g5:=Hd g1;have HM:Hq ((∀ x,x∈os↔x∈zs)/\os.Pairwise (· < ·)):=Hd ⟨fun x=>by have:=HP.o.1 x;rw[he,VI] at this;exact this,HP.o.2⟩;have ge:os.length<=zs.length:=by omega
   clear g0 g1 he;go_wp2_with fail;go_ret;exact⟨_,rfl,os,ga.o,HM.o,ge,g5.o⟩
theorem A3.agg {w:Wd}{e:ExT}{x:Value}(h:A3 w e x):∃ x0 x1 x2,x=.agg #[x0,x1,x2]/\x0.cells=#[x0]/\x1.cells=#[x1]/\x2.cells=#[x2]:=by
 cases e with
 | nil=>unfold A3 at h;exact h.elim
 | mk op v n kid =>
   unfold A3 at h;obtain⟨a,c,rfl,_⟩:=h;exact⟨_,_,_,rfl,rfl,rfl,rfl⟩
theorem Q3 (e:ExT)(x:Value)(w:Wd)(hs:e.size<=4096)(h:A3 w e x) :
 Cl 52 #[x] w fun y w'=>∃ u os,y=.returned u/\SliceIs w' u os/\os.length<=4096/\(okT e 1->(∀ v,v∈os↔v∈AI e)/\os.Pairwise (· < ·))/\Bw w w':=by
 have HC:Hq (∀ W,Bw w W->∀ u,u=x->Cl 51 #[u] W fun y w'=>∃ err:Int,y=.returned (Iv err)/\(err=0↔okT e 1)/\Bw W w'):=Hd fun W hb u hu=>by subst hu;exact I5 e _ W hs (h.below hb)
 have HV:Hq (∀ W,Bw w W->∀ u,u=x->Cl 107 #[u] W fun y w'=>∃ u,y=.returned u/\OwnI w' W.heap.size u (AI e)/\Bw W w'):=Hd fun W hb u hu=>by subst hu;exact KS e _ W hs (h.below hb)
 have ge:=Ey e;obtain⟨x0,x1,x2,hx,o0,o1,o2⟩:=h.agg;subst hx;obtain⟨w1,g2⟩:=Ex (w.alloc (.cells #[x0,x1,x2] 79));have HW1:Hq (_=w1):=Hd g2.symm;have g6:Hq (Bw w w1):=by rw[g2];exact Hd (Af _ _)
 have g0:w1.heap[w.heap.size]?=some (.cells #[x0,x1,x2] 79 (0,0)):=by rw[g2];exact Vq _ _
 have d0:w1.cell? (Av w.heap.size)=some x0:=by rw[Vp _ _ 0 _ _ _ g0];rfl
 have d1:w1.cell? (Aw w.heap.size 1)=some x1:=by rw[Vp _ _ 1 _ _ _ g0];rfl
 have d2:w1.cell? (Aw w.heap.size 2)=some x2:=by rw[Vp _ _ 2 _ _ _ g0];rfl
 clear h g2 g0
 go_enter func52,ntmps52
 go_upto_region 1 with fail;rw[HW1.o];go_wp2_with fail;refine(HC.o _ g6.o _ rfl).mono ?_;rintro y w2 ⟨err,rfl,g5,g1⟩;have HB2:=Hd (g6.o.trans (g1.mono g6.o.size));have gd:=Hd g5;have e0:=Cq g1 d0;have e1:=Cq g1 d1;have e2:=Cq g1 d2;clear g1 g5 d0 d1 d2
 by_cases he:err=0
 . subst he;go_wp2_with fail;refine(HV.o _ HB2.o _ rfl).mono ?_;rintro y w3 ⟨u,rfl,hu,g9⟩;obtain⟨au,cu,rfl,g7,gf⟩:=hu.sliceIs (by omega);have HO:=Hd (KX au cu (AI e) w3 (by omega) g7);have ga:=Hd (HB2.o.trans (g9.mono HB2.o.size));clear hu g7 g9 e0 e1 e2;go_wp2_with fail;refine HO.o.mono ?_;rintro y w4 ⟨u4,os,rfl,g3,g4,gc,g8⟩;have HF:Hq (∃ u os,Ending.returned u4=.returned u/\SliceIs w4 u os/\os.length<=4096/\(okT e 1->(∀ v,v∈os↔v∈AI e)/\os.Pairwise (· < ·))/\Bw w w4):=Hd ⟨u4,os,rfl,g3.sliceIs (by omega),by omega,fun _=>g4,ga.o.trans (g8.mono ga.o.size)⟩;clear g3 g4 gc g8;go_wp2_with fail;go_ret;exact HF.o
 ·have gg:(err != 0)=true:=by simpa using he
  have HF:Hq (∃ u os,Ending.returned (.slice none 0 0)=.returned u/\SliceIs w2 u os/\os.length<=4096/\(okT e 1->(∀ v,v∈os↔v∈AI e)/\os.Pairwise (· < ·))/\Bw w w2):=Hd ⟨_,[],rfl,Fx w2,by simp,fun h=>(he (gd.o.2 h)).elim,HB2.o⟩;clear he e0 e1 e2;go_wp2_with fail;go_ret;exact HF.o
theorem Q4 (e:ExT)(x:Value)(w:Wd)(hs:e.size<=4096)(h:A3 w e x) :
 Cl 52 #[x] w fun y w'=>∃ u os,y=.returned u/\SliceIs w' u os/\os.length<=4096/\(okT e 1->∀ v∈AI e,v∈os)/\Bw w w' :=
 (Q3 e x w hs h).mono fun _ _ ⟨u,os,h1,h2,h3,h4,h5⟩=>⟨u,os,h1,h2,h3,fun hk v hv=>((h4 hk).1 v).2 hv,h5⟩
section
def Gc (K:Act->Wd->Prop):Exit->Act->Wd->Prop:=fun x a w=>x=.normal/\K a w
theorem KY {K:Act->Wd->Prop}:¬ LetsOut (Gc K):=fun⟨_,_,h,_⟩=>by cases h
theorem Q5 {o:Oper}{K:Act->Wd->Prop}(h:o.wp P a w (fun a w=>Gc K .normal a w) (Gc K)):o.wp P a w K Q:=by
 unfold Oper.wp at *
 generalize (execOp a.eval o).run P w=r at *
 cases r with
 | ok n w' =>
   cases n<;>simp only[Oper.upon] at h⊢<;>
    first
     | exact h.2
     | exact Calls.mono h (fun e w'' he=>by cases e<;>first|exact he.2|exact absurd he KY|cases he.1)
     | exact Rows.mono h (fun _ _ he=>he.2)
 | halt x w'=>cases x<;>simp only[Oper.upon] at h⊢<;> first|exact h|cases h.1
theorem I6 {o:Oper}(hg:o.guard=none)
 (h:wpList P ops (Gc fun a' w'=>S w'/\A6 P ops Q S last r a' w') [o] a w):A6 P ops Q S last ((some o,true)::r) a w:=by
 refine EG hg fun K hK=>?_
 have hw:Region.wanted o (yielded ops a.tmps)=true:=by simp[Region.wanted,hg]
 unfold wpList at h;rw[Vs hw] at h;rcases h with h|⟨_,h⟩
 . refine Oper.wp_mono (K:=fun a' w'=>S w'/\A6 P ops Q S last r a' w') (fun a' w' hh=>hK a' w' hh.1 hh.2) (Q5 h)
 . exact absurd h KY
end
theorem Q6 {o:Oper}{f:FuncId}{R:Value->Wd->Prop}(hw:Region.wanted o (yielded ops a.tmps)=true)
 (he:(execOp a.eval o).run P w=.ok (.enter f args) w) (hc:Calls P f args w fun e w'=>∃ v,e=.returned v/\S w'/\R v w')
 (h:∀ v w',S w'->R v w'->A6 P ops Q S last r (a.put o.dst v) w'):A6 P ops Q S last ((some o,true)::r) a w:=by
 unfold A6;simp only[hw,Ws,Oper.wp,he,Oper.upon];exact hc.mono fun e w' ⟨v,h1,h2,h3⟩=>by subst h1;exact⟨.inr h2,h v w' h2 h3⟩
end Go.Proofs.YtkidaindpahefaaGreat
