/- Several texts in one file: contracts of the program's functions and what follows from them. -/
import Derived.Test.YtkidaindpahefaaGreatC2
import Derived.RangeFuncNested
import Derived.RangeFuncBound
import Derived.RangeFuncCalls
import Derived.RangeFuncLeaves
import Derived.RangeFuncWrites
import Derived.Shelf.Abstract
import Derived.Shelf.RegionOpen
import Derived.OwnWalkIn
import Derived.TacticsInMore
import Derived.LoopNIn
import Derived.LoopIn
import Derived.Recover
import Derived.Defers
set_option linter.unusedSimpArgs false
set_option linter.unusedVariables false
set_option linter.unusedSectionVars false
set_option linter.unnecessarySimpa false
set_option maxRecDepth 100000
set_option maxHeartbeats 8000000
namespace Go.Proofs.YtkidaindpahefaaGreat
open Go.Proofs.Tryz
open Go.RowKit
variable {Bp b base cap e f f0 g g0 gf h h0 hi i k lo mb n n₀ pb room sb x xb:Nat}{C M M':Nat->Prop}{F:BF}{K:Law}{N:Nat->Option BN}{Od:List Nat->Prop}{P:Program}{Q:Exit->Act->Wd->Prop}{R:Role->Prop}{S:Wd->Prop}{T:TypeId}{V V':Nat->BF}{W W' W0 W1 w w' w'' w0:Wd}{a:Option Addr}{bs:List Bool}{d d':Ae}{ev:Ev}{fs:List (Int×BF)}{least nx:Int}{m m':ManD}{nt:Bool}{o' o'' oG:Own}{ops:Array Oper}{p:Ad}{pre:List Nat}{rest:List Oper}{row:Option Nat}{v v' z:Value}{ws:List Ev}{xs:List Value}
def atV (d:Ae)(f:Nat):Value :=
 match Aa d (f/2) with
 | some b=>.tuple #[.int .i64 b.v,.int .i64 (eflip b.lo (eneg f):Nat),.int .i64 (eflip b.hi (eneg f):Nat),.bool true]
 | none=>.tuple #[.int .i64 (-1),.int .i64 0,.int .i64 0,.bool false]
theorem Gh {o:Own}(h:A2 o w sb d)(hlt:Ac o w)(hk:Aj d V)(f:Nat)(hf:okE (Aa d) f) :
 Cl 175 #[Pt sb,Iv f] w (Bl (atV d f) w):=by
 obtain⟨s,h⟩:=h;have lt:∀ e,okE (Aa d) e->e<eMax:=fun e he=>by have:=h.edge_lt he;unfold eMax;omega
 cases hb:Aa d (f/2) with
 | none =>
   have ht:d.pool.tk (enode f)=false:=Iu hb;have hz:d.pool.has (enode f)=rn0:=by unfold Ad.has;rw[ht];rfl
   refine(K4 h hlt f (lt f hf) (by rw[hz];decide) (by rw[hz];decide)).mono ?_;rintro x w' ⟨rfl,g1⟩;exact⟨by simp[ht,atV,hb],g1⟩
 | some b =>
   have hn:=BY hb;have ht:d.pool.tk (enode f)=true:=hn.1;have g0:bnOf (d.pool.has (enode f))=b:=hn.2.2;have e1:(d.pool.has (enode f)).v=b.v:=by rw[<- g0];rfl
   have e2:(d.pool.has (enode f)).lo=b.lo:=by rw[<- g0];rfl
   have e3:(d.pool.has (enode f)).hi=b.hi:=by rw[<- g0];rfl
   refine(K4 h hlt f (lt f hf) (by rw[e2];exact lt _ (hk.dag.okLo _ _ hb)) (by rw[e3];exact lt _ (hk.dag.okHi _ _ hb))).mono ?_;rintro x w' ⟨rfl,g1⟩;exact⟨by simp[ht,atV,hb,e1,e2,e3],g1⟩
theorem A2.below {o:Own}{w w':Wd}{sb:Nat}{d:Ae}(h:A2 o w sb d)(hlt:Ac o w)(hb:Bw w w'):A2 o w' sb d:=by
 obtain⟨s,h⟩:=h;exact⟨s,h.below hlt hb⟩
theorem PH {F:Phi}{o:Own}(h:AW F o w mb m)(hx:Bs o w xb mb)(hk:Aj m.d V)(v:Int) :
 Cl 229 #[Pt xb,Iv v] w (Sm (Iv (CL m.d v)) w):=by
 obtain⟨s,h⟩:=h;obtain⟨st,g0⟩:=h.store;obtain⟨c0,c1,c2,c3,c4,c5,f0⟩:=cells6 h.blk;have HL:=Hd (I1 g0 v (by rw[g0.len];have:=hk.small;omega));have cx:=hx.cell;clear h g0 hx hk
 go_enter func229,ntmps229
 go_wp2_with fail;refine HL.o.mono ?_;rintro x w' ⟨rfl,rfl⟩;go_wp2_with fail;go_ret;exact⟨rfl,rfl⟩
def cofs (d:Ae)(f:Nat)(v:Int):Nat×Nat :=
 match Aa d (f/2) with
 | some b=>if (b.v:Int)=v then (eflip b.lo (eneg f),eflip b.hi (eneg f)) else (f,f)
 | none=>(f,f)
theorem KK {F:Phi}{o:Own}(h:AW F o w mb m)(hlt:Ac o w)(hx:Bs o w xb mb)(hk:Aj m.d V)(f:Nat)(hf:okE (Aa m.d) f)(v:Int) :
 Cl 170 #[Pt xb,Iv f,Iv v] w (Bl (.tuple #[Iv (cofs m.d f v).1,Iv (cofs m.d f v).2]) w):=by
 obtain⟨s,h⟩:=h;obtain⟨c0,c1,c2,c3,c4,c5,f0⟩:=cells6 h.blk;have HA:=Hd (Gh h.store hlt hk f hf);have cx:=hx.cell;clear h hx hk hlt hf;unfold atV at HA;unfold cofs;cases hb:Aa m.d (f/2) with
 | none =>
   rw[hb] at HA;clear hb
   go_enter func170,ntmps170
   go_wp2_with fail;refine HA.o.mono ?_;rintro x w' ⟨rfl,hb⟩;have HB:=Hd hb;clear hb;go_wp2_with fail
   go_ret2
   exact⟨rfl,HB.o⟩
 | some b =>
   rw[hb] at HA;clear hb
   by_cases e:(b.v:Int)=v
   ·subst e;have HE:Hq ((if (b.v:Int)=b.v then (eflip b.lo (eneg f),eflip b.hi (eneg f)) else (f,f))=(eflip b.lo (eneg f),eflip b.hi (eneg f))):=by show _=_;rw[VW rfl]
    go_enter func170,ntmps170
    go_wp2_with fail;refine HA.o.mono ?_;rintro x w' ⟨rfl,hb⟩;have HB:=Hd hb;clear hb;go_wp2_with fail
    go_ret2
    exact⟨by first|rfl|(rw[HE.o];rfl),HB.o⟩
   ·have HE:Hq ((if (b.v:Int)=v then (eflip b.lo (eneg f),eflip b.hi (eneg f)) else (f,f))=(f,f)):=by show _=_;rw[VS e]
    have H1:((b.v:Int) == v)=false:=by simpa using e
    go_enter func170,ntmps170
    go_wp2_with fail;refine HA.o.mono ?_;rintro x w' ⟨rfl,hb⟩;have HB:=Hd hb;clear hb;go_wp2_with fail
    go_ret2
    exact⟨by first|rfl|(rw[HE.o];rfl),HB.o⟩
def TopS (d:Ae)(zs:List Nat)(top least:Int):Prop :=
 (top = -1/\least=0/\∀ e∈zs,Aa d (e/2)=none) \/
 ∃ v:Nat,top=v/\least=(levN d v:Nat)/\v<d.vars.length/\(∃ e∈zs,∃ b,Aa d (e/2)=some b/\b.v=v)/\∀ e∈zs,levN d v<=lvE d.vars.length (levN d) (Aa d) e
theorem TopS.none {d:Ae}{zs:List Nat}{top least:Int}{e:Nat}(h:TopS d zs top least)(hl:∀ v,v<d.vars.length->levN d v<d.vars.length)(he:Aa d (e/2)=none):TopS d (zs++[e]) top least:=by
 rcases h with ⟨h1,h2,h3⟩|⟨v,h1,h2,h3,⟨e0,g0,hb⟩,h5⟩
 ·refine .inl ⟨h1,h2,fun x hx=>?_⟩;rcases Wj.1 hx with hx|hx
  . exact h3 x hx
  . simp at hx;subst hx;exact he
 ·refine .inr ⟨v,h1,h2,h3,⟨e0,by simp[g0],hb⟩,fun x hx=>?_⟩;rcases Wj.1 hx with hx|hx
  . exact h5 x hx
  . simp at hx;subst hx;unfold lvE;rw[he];exact Nat.le_of_lt (hl v h3)
theorem TopS.keep {zs:List Nat}{v:Nat}{b:BN}(h:TopS d zs v least)(he:Aa d (e/2)=some b)(hle:¬ ((levN d b.v:Nat):Int)<least):TopS d (zs++[e]) v least:=by
 rcases h with ⟨h1,h2,h3⟩|⟨u,h1,h2,h3,⟨e0,g0,hb⟩,h5⟩
 . omega
 ·obtain rfl:v=u:=by omega
  refine .inr ⟨v,rfl,h2,h3,⟨e0,by simp[g0],hb⟩,fun x hx=>?_⟩;rcases Wj.1 hx with hx|hx
  . exact h5 x hx
  . simp at hx;subst hx;unfold lvE;rw[he];dsimp only;omega
theorem TopS.take {zs:List Nat}{top:Int}{b:BN}(h:TopS d zs top least)(hv:b.v<d.vars.length)(hl:∀ v,v<d.vars.length->levN d v<d.vars.length)(he:Aa d (e/2)=some b)(hle:top<0\/((levN d b.v:Nat):Int)<least):TopS d (zs++[e]) b.v (levN d b.v:Nat):=by
 refine .inr ⟨b.v,rfl,rfl,hv,⟨e,by simp,b,he,rfl⟩,fun x hx=>?_⟩;rcases Wj.1 hx with hx|hx
 ·rcases h with ⟨h1,h2,h3⟩|⟨u,h1,h2,h3,⟨e0,g0,hb⟩,h5⟩
  . unfold lvE;rw[h3 x hx];exact Nat.le_of_lt (hl _ hv)
  . have:=h5 x hx;omega
 . simp at hx;subst hx;unfold lvE;rw[he];exact VQ _
theorem KL {v:Nat}(h:v<d.level.length):CL d v=(levN d v:Nat):=by unfold CL;rw[VW ⟨by omega,by omega⟩];rfl
abbrev Wn:=@List.length_map
abbrev Wh:=@List.getElem_mem
abbrev W9:=@List.take_length
theorem KM {F:Phi}{o:Own}(h:AW F o w mb m)(hlt:Ac o w)(hx:Bs o w xb mb)(hk:Aj m.d V)(zs:List Nat)(hz:∀ e∈zs,okE (Aa m.d) e)(a:Option Addr)(c:Nat)(hzs:Am w a (zs.map Int.ofNat)) :
 Cl 169 #[Pt xb,.slice a zs.length c] w fun x w'=>∃ top least,x=.returned (Iv top)/\TopS m.d zs top least/\Bw w w':=by
 obtain⟨s,h⟩:=h;obtain⟨st,gd⟩:=h.store;have gi:m.d.level.length=m.d.vars.length:=gd.len;have HM:=Hd h;have HX:=Hd hx;have g5:=Hd hlt;have HK:=Hd hk;have HZ:=Hd hz;have gl:=Hd hzs;have gj:=hzs.len;simp only[Wn] at gj;clear h gd hx hlt hk hz hzs
 go_enter func169,ntmps169
 go_wp2_with fail
 go_loopw [5,6,15] (fun s5 s6 i wr=>∃ (k:Nat) (top least:Int),k<=zs.length/\i=Iv k/\s5=Iv top/\s6=Iv least/\TopS m.d (zs.take k) top least/\Bw w wr) (fun _ _ i _=>zs.length-(intOf i).toNat)
 case atStart=>exact⟨0,-1,0,by omega,rfl,rfl,rfl,.inl ⟨rfl,rfl,by simp⟩,VZ _ _⟩
 case round =>
  obtain⟨k,top,least,hk,rfl,rfl,rfl,hT,hB⟩:=hrel
  by_cases g2:k<zs.length
  ·obtain⟨b0,off,ha,g3⟩:=(gl.o.below hB).cells k (by simpa using g2);subst ha;have he:at0 (zs.map Int.ofNat) k=(zs[k]:Int):=by rw[Au (by simpa using g2)];simp
   rw[he] at g3;have g8:zs[k]∈zs:=Wh g2;have g6:zs.take (k+1)=zs.take k++[zs[k]]:=by rw[List.take_add_one,We g2];rfl
   have g7:=HZ.o _ g8;obtain⟨f,hf⟩:=Ex (zs[k]);rw[<- hf] at g3 g7 g6;obtain⟨c0,c1,c2,c3,c4,c5,f0⟩:=cells6 ((HM.o.below g5.o hB).blk);have cx:wr.cell? (Av xb)=_:=(hB.cell (p:=Av xb) (Ag HX.o.cell)).trans HX.o.cell;have HA:=Hd (Gh ((HM.o.below g5.o hB).store) (g5.o.mono hB.size) HK.o f g7);have g4:=Hd g6;have HT:=Hd hT;have HB:=Hd hB;have gn:(k:Int)<zs.length:=by omega
   clear hf g8 he hT hB g7 g6;unfold atV at HA;have ga:Hq (∀ v,v<m.d.vars.length->levN m.d v<m.d.vars.length):=Hd HK.o.dag.lt;have gg:=Hd (fun W hb v=>PH ⟨s,HM.o.below g5.o hb⟩ (o:=o) (w:=W) (xb:=xb) (mb:=mb) ⟨(hb.cell (p:=Av xb) (Ag HX.o.cell)).trans HX.o.cell,HX.o.own⟩ HK.o v);cases hb:Aa m.d (f/2) with
   | none =>
     rw[hb] at HA;have HN:=Hd hb;clear hb;go_wp2_with fail;refine HA.o.mono ?_;rintro x w' ⟨rfl,g0⟩;have HB2:=Hd (HB.o.trans (g0.mono HB.o.size));clear g0;go_wp2_with fail;go_roundw
     case rel=>exact⟨k+1,top,least,by omega,by simp,rfl,rfl,by rw[g4.o];exact HT.o.none ga.o HN.o,HB2.o⟩
     case measure=>simp[intOf];omega
   | some b =>
     rw[hb] at HA;have HN:=Hd hb;have g9:=HK.o.dag.var _ _ hb;have ge:CL m.d b.v=(levN m.d b.v:Nat):=KL (by rw[gi];exact g9);have gh:=Hd g9;have g1:=Hd (fun W hb=>gg.o W hb b.v);rw[ge] at g1;clear hb g9 ge gg
     by_cases ht:top<0
     ·have gm:=Hd ht;go_wp2_with fail;refine HA.o.mono ?_;rintro x w' ⟨rfl,g0⟩;have HB2:=Hd (HB.o.trans (g0.mono HB.o.size));clear g0;go_wp2_with fail;refine(g1.o _ HB2.o).mono ?_;rintro x w'' ⟨rfl,rfl⟩;go_wp2_with fail;go_roundw
      case rel=>exact⟨k+1,_,_,by omega,by simp,rfl,rfl,by rw[g4.o];exact HT.o.take gh.o ga.o HN.o (.inl gm.o),HB2.o⟩
      case measure=>simp[intOf];omega
     ·by_cases gf:((levN m.d b.v:Nat):Int)<least
      ·have gc:=Hd gf;go_wp2_with fail;refine HA.o.mono ?_;rintro x w' ⟨rfl,g0⟩;have HB2:=Hd (HB.o.trans (g0.mono HB.o.size));clear g0;go_wp2_with fail;refine(g1.o _ HB2.o).mono ?_;rintro x w'' ⟨rfl,rfl⟩;go_wp2_with fail;refine(g1.o _ HB2.o).mono ?_;rintro x w'' ⟨rfl,rfl⟩;go_wp2_with fail;go_roundw
       case rel=>exact⟨k+1,_,_,by omega,by simp,rfl,rfl,by rw[g4.o];exact HT.o.take gh.o ga.o HN.o (.inr gc.o),HB2.o⟩
       case measure=>simp[intOf];omega
      ·obtain⟨tn,gk⟩:∃ tn:Nat,top=tn:=⟨top.toNat,by omega⟩;subst gk;have gc:=Hd gf;go_wp2_with fail;refine HA.o.mono ?_;rintro x w' ⟨rfl,g0⟩;have HB2:=Hd (HB.o.trans (g0.mono HB.o.size));clear g0;go_wp2_with fail;refine(g1.o _ HB2.o).mono ?_;rintro x w'' ⟨rfl,rfl⟩;go_wp2_with fail;go_roundw
       case rel=>exact⟨k+1,_,_,by omega,by simp,rfl,rfl,by rw[g4.o];exact HT.o.keep HN.o (by have:=gc.o;omega),HB2.o⟩
       case measure=>simp[intOf];omega
  ·obtain rfl:k=zs.length:=by omega
   have HT:=Hd hT;have HB:=Hd hB;clear hT hB;go_wp2_with fail;go_ret;exact⟨top,least,rfl,by have:=HT.o;rwa [W9] at this,HB.o⟩
def AQ (er:Int)(event:Bool)(ev:Ev):Ending:=.panicked [{ v:=.iface 235 (.agg #[Iv er,.bool event,Iv ev.after,Iv ev.kind,Iv ev.level]),recovered:=false }]
def ev0:Ev:=⟨0,0,0⟩
def BZ (c:Int):Int:=wrap64 (c+1)
def DF (d:Ae)(v:Int)(lo hi:Nat)(er:Int):Prop :=
 (er=9/\¬ (0<=v/\v<d.vars.length)) \/
 (er=10/\0<=v/\v<d.vars.length/\(lvE d.vars.length (levN d) (Aa d) lo<=levN d v.toNat\/lvE d.vars.length (levN d) (Aa d) hi<=levN d v.toNat)) \/
 (er=7/\d.pool.many=d.pool.room)
def Gi (K:Law)(o:Own)(w:Wd)(mb:Nat)(m:ManD)(V:Nat->BF)(v:Int)(lo hi:Nat)(e:Ending)(w':Wd):Prop :=
 ∃ o' m' V',Step K o w mb m V o' w' m' V' /\
  ((∃ ev,m.waits=ev::m'.waits/\ev.after<=BZ m.calls/\m'.calls=0/\m'.d=m.d/\V'=V/\e=AQ 0 true ev) \/
   (m'.waits=m.waits/\m'.calls=BZ m.calls/\(∀ ev ws,m.waits=ev::ws->BZ m.calls<ev.after) /\
    ((∃ er,DF m.d v lo hi er/\m'.d=m.d/\V'=V/\e=AQ er false ev0) \/
     (0<=v/\v<m.d.vars.length/\∃ r:Nat,e=.returned (Iv r)/\okE (Aa m'.d) r/\ef V' r=iteF v.toNat (ef V hi) (ef V lo) /\
      levN m.d v.toNat<=lvE m.d.vars.length (levN m'.d) (Aa m'.d) r/\m'.d.pool.many<=m.d.pool.many+1))))
theorem Chg.ofDrewN {o:Own}(h:Chg R o o' (w.drewN n) w'):Chg R o o' w w':=⟨h.os,h.tape,h.output,h.size,h.block,h.ext,h.new⟩
theorem Ec (h:Below (w.drewN n).heap.size (w.drewN n) w'):Bw w w':=⟨h.os,h.tape,h.output,h.size,h.block⟩
theorem Chg.any {o:Own}(h:Chg R o o' w w'):Chg (fun _=>True) o o' w w':=h.mono fun _ _=>trivial
theorem PI {o:Own}(hK:AE K)(h:AW (K m.d V) o w mb m)(hlt:Ac o w)(hx:Bs o w xb mb)(hk:Aj m.d V)(v:Int)(lo hi:Nat)(hlo:okE (Aa m.d) lo)(hhi:okE (Aa m.d) hi)
 (hdue:∀ ev ws,m.waits=ev::ws->BZ m.calls<ev.after) :
 Cl 145 #[Pt xb,Iv v,Iv lo,Iv hi] w (Gi K o w mb m V v lo hi):=by
 obtain⟨s,h⟩:=h;obtain⟨c0,c1,c2,c3,c4,c5,f0⟩:=cells6 h.blk;have cx:=hx.cell;obtain⟨W,hW⟩:=Ex (w.setCell (Aw mb 5) (Iv (BZ m.calls)));have g2:A8 (K m.d V) o W mb { m with calls:=BZ m.calls } s:=by rw[hW];exact h.field rfl rfl rfl rfl rfl h.waits rfl
 have g5:Chg (fun _=>True) o o w W:=by rw[hW];exact(Chg.refl _ o w).setCell (p:=Aw mb 5) h.own trivial _
 have g4:Ac o W:=hlt.mono g5.size;have gg:=hx.chg g5;obtain⟨d0,d1,d2,d3,d4,d5,g0⟩:=cells6 g2.blk;have dx:=gg.cell;obtain⟨aw,cw,g9,ga⟩:=g2.waits.slice;have gj:(m.waits=[]/\True)\/∃ ev ws,m.waits=ev::ws:=by cases m.waits with
  | nil=>exact .inl ⟨rfl,trivial⟩
  | cons ev ws=>exact .inr ⟨ev,ws,rfl⟩
 have HK:=Hd hK;have ge:=Hd g5;have g7:=Hd g4;have g6:=Hd g2;have gd:=Hd hk;have gh:Hq (∀ n,Cl 199 #[Pt s.sb,Iv v,Iv lo,Iv hi] (W.drewN n) (I2 o (W.drewN n) s.sb m.d V v lo hi)) :=
  Hd fun n=>P9 (g2.store.below g4 (Aq W n)) (g4.mono (Aq W n).size) hk v lo hi hlo hhi
 have g1:=Hd hdue;have HW:Hq (w.setCell (Aw mb 5) (Iv (wrap64 (m.calls+1)))=W):=Hd hW.symm;have gi:5≠4:=by decide
 clear h hlt hx hk hlo hhi g2 g5 g4 gg hW hdue
 go_enter func145,ntmps145
 go_upto_region 3 with fail;rw[HW.o];obtain⟨cu,g3⟩:=Ex (wrap64 (m.calls+1));have d5':W.cell? (Aw mb 5)=some (Iv cu):=by rw[g3];exact d5
 have gl:Hq (BZ m.calls=cu):=Hd g3.symm;rw[<- g3];clear c0 c1 c2 c3 c4 c5 f0 cx gi d5 g3;have STE:Hq (∀ w',Bw W w'->Step K o w mb m V o w' { m with calls:=BZ m.calls } V) :=
  Hd fun w' hb=>⟨⟨s,g6.o.below g7.o hb⟩,g7.o.mono hb.size,ge.o.trans (Chg.of_below hb _ _),gd.o,Ext.refl _ _,rfl,rfl⟩
 rcases gj with ⟨hw0,_⟩|⟨ev,ws,g8⟩
 ·rw[g9] at d4;dsimp only at d4;rw[hw0] at d4;have d4':W.cell? (Aw mb 4)=some (.slice aw 0 cw):=d4;clear d4 hw0 g9 ga
  go_quiet (fail)
  go_wp2_with fail;refine(gh.o nq).mono ?_;rintro x w' (⟨q1,rfl,q2⟩|⟨q1,q2,q3,rfl,q4⟩|⟨q1,rfl,q2⟩|⟨q1,q2,r,d',V',o',rfl,q4,q5,q6,q7,q8,q9,q10,q11,q12⟩)
  . have H1:=Hd (STE.o w' (Ec q2));have H2:Hq (DF m.d v lo hi 9):=Hd (.inl ⟨rfl,q1⟩);clear q1 q2;go_wp2_with fail;refine⟨rfl,o,_,V,H1.o,.inr ⟨rfl,rfl,g1.o,.inl ⟨9,H2.o,rfl,rfl,rfl⟩⟩⟩
  . have H1:=Hd (STE.o w' (Ec q4));have H2:Hq (DF m.d v lo hi 10):=Hd (.inr (.inl ⟨rfl,q1,q2,q3⟩));clear q1 q2 q3 q4;go_wp2_with fail;refine⟨rfl,o,_,V,H1.o,.inr ⟨rfl,rfl,g1.o,.inl ⟨10,H2.o,rfl,rfl,rfl⟩⟩⟩
  . have H1:=Hd (STE.o w' (Ec q2));have H2:Hq (DF m.d v lo hi 7):=Hd (.inr (.inr ⟨rfl,q1⟩));clear q1 q2;go_wp2_with fail;refine⟨rfl,o,_,V,H1.o,.inr ⟨rfl,rfl,g1.o,.inl ⟨7,H2.o,rfl,rfl,rfl⟩⟩⟩
  . have H1:Hq (Step K o w mb m V o' w' { m with calls:=BZ m.calls,d:=d' } V'):=Hd ⟨⟨s,(g6.o.setStore g7.o q4 q12.ofDrewN).mono fun op a b c r h=>HK.o.ext _ _ _ _ _ _ _ _ _ gd.o q6 q7 h⟩,q5,ge.o.trans q12.ofDrewN.any,q6,q7,rfl,rfl⟩;have H2:Hq (_/\_/\_/\_/\_/\_):=Hd ⟨q1,q2,q8,q9,q10,q11⟩;clear q1 q2 q4 q5 q6 q7 q8 q9 q10 q11 q12;go_wp2_with fail;go_ret;obtain⟨a1,a2,a3,a4,a5,a6⟩:=H2.o;exact⟨o',_,V',H1.o,.inr ⟨rfl,rfl,g1.o,.inr ⟨a1,a2,r,rfl,a3,a4,a5,a6⟩⟩⟩
 ·have gc:=g6.o.waits;have e0:({ m with calls:=BZ m.calls }:ManD).waits=ev::ws:=g8;rw[e0] at gc;obtain⟨g,off,cap,gf,gk,gm,gn,k0,k1,k2,_⟩:=gc.first
  have hlt:¬ ev.after<=cu:=by have:=g1.o ev ws g8;rw[gl.o] at this;omega
  rw[gf] at d4;have hp:(0:Int)<((ws.length+1:Nat):Int):=by omega
  clear g9 gf ga gc e0 g8 gk
  go_quiet (fail)
  go_wp2_with fail;refine(gh.o nq).mono ?_;rintro x w' (⟨q1,rfl,q2⟩|⟨q1,q2,q3,rfl,q4⟩|⟨q1,rfl,q2⟩|⟨q1,q2,r,d',V',o',rfl,q4,q5,q6,q7,q8,q9,q10,q11,q12⟩)
  . have H1:=Hd (STE.o w' (Ec q2));have H2:Hq (DF m.d v lo hi 9):=Hd (.inl ⟨rfl,q1⟩);clear q1 q2;go_wp2_with fail;refine⟨rfl,o,_,V,H1.o,.inr ⟨rfl,rfl,g1.o,.inl ⟨9,H2.o,rfl,rfl,rfl⟩⟩⟩
  . have H1:=Hd (STE.o w' (Ec q4));have H2:Hq (DF m.d v lo hi 10):=Hd (.inr (.inl ⟨rfl,q1,q2,q3⟩));clear q1 q2 q3 q4;go_wp2_with fail;refine⟨rfl,o,_,V,H1.o,.inr ⟨rfl,rfl,g1.o,.inl ⟨10,H2.o,rfl,rfl,rfl⟩⟩⟩
  . have H1:=Hd (STE.o w' (Ec q2));have H2:Hq (DF m.d v lo hi 7):=Hd (.inr (.inr ⟨rfl,q1⟩));clear q1 q2;go_wp2_with fail;refine⟨rfl,o,_,V,H1.o,.inr ⟨rfl,rfl,g1.o,.inl ⟨7,H2.o,rfl,rfl,rfl⟩⟩⟩
  . have H1:Hq (Step K o w mb m V o' w' { m with calls:=BZ m.calls,d:=d' } V'):=Hd ⟨⟨s,(g6.o.setStore g7.o q4 q12.ofDrewN).mono fun op a b c r h=>HK.o.ext _ _ _ _ _ _ _ _ _ gd.o q6 q7 h⟩,q5,ge.o.trans q12.ofDrewN.any,q6,q7,rfl,rfl⟩;have H2:Hq (_/\_/\_/\_/\_/\_):=Hd ⟨q1,q2,q8,q9,q10,q11⟩;clear q1 q2 q4 q5 q6 q7 q8 q9 q10 q11 q12;go_wp2_with fail;go_ret;obtain⟨a1,a2,a3,a4,a5,a6⟩:=H2.o;exact⟨o',_,V',H1.o,.inr ⟨rfl,rfl,g1.o,.inr ⟨a1,a2,r,rfl,a3,a4,a5,a6⟩⟩⟩
theorem PJ {o:Own}(h:AW (K m.d V) o w mb m)(hlt:Ac o w)(hx:Bs o w xb mb)(hk:Aj m.d V)(v:Int)(lo hi:Nat)
 (hw1:m.waits=ev::ws) (hdue:ev.after<=BZ m.calls) :
 Cl 145 #[Pt xb,Iv v,Iv lo,Iv hi] w (Gi K o w mb m V v lo hi):=by
 obtain⟨s,h⟩:=h;obtain⟨c0,c1,c2,c3,c4,c5,f0⟩:=cells6 h.blk;have cx:=hx.cell;obtain⟨W,hW⟩:=Ex (w.setCell (Aw mb 5) (Iv (BZ m.calls)));have ge:A8 (K m.d V) o W mb { m with calls:=BZ m.calls } s:=by rw[hW];exact h.field rfl rfl rfl rfl rfl h.waits rfl
 have gj:Chg (fun _=>True) o o w W:=by rw[hW];exact(Chg.refl _ o w).setCell (p:=Aw mb 5) h.own trivial _
 have gv:Ac o W:=hlt.mono gj.size;obtain⟨d0,d1,d2,d3,d4,d5,g0⟩:=cells6 ge.blk;have gg:mb<W.heap.size:=Ag d0;have gh:=ge.waits;have e0:({ m with calls:=BZ m.calls }:ManD).waits=ev::ws:=hw1;rw[e0] at gh;obtain⟨g,off,cap,gp,gB,gE,gG,k0,k1,k2,g8⟩:=gh.first
 rw[gp] at d4;have hp:(0:Int)<((ws.length+1:Nat):Int):=by omega
 have gA:=Hd gj;have gf:=Hd gv;have gz:=Hd ge;have gD:=Hd hk;have gy:=Hd g8;have HW1:=Hd hw1;have HD:=Hd hdue;have HW:Hq (w.setCell (Aw mb 5) (Iv (wrap64 (m.calls+1)))=W):=Hd hW.symm;clear h hlt hx hk ge gj gv hW g8 gh e0 gp gB hw1
 go_enter func145,ntmps145
 go_upto_region 3 with fail;rw[HW.o];obtain⟨cu,ga⟩:=Ex (wrap64 (m.calls+1));have d5':W.cell? (Aw mb 5)=some (Iv cu):=by rw[ga];exact d5
 have gF:ev.after<=cu:=by rw[ga];exact hdue
 rw[<- ga];clear c0 c1 c2 c3 c4 c5 f0 cx d5 ga hdue
 go_quiet (fail)
 obtain⟨W2,gi⟩:=Ex (W.drewN nq);have g1:Bw W W2:=by rw[gi];exact Aq W nq
 rw[<- gi];have g6:=Hd (gz.o.below gf.o g1);have g3:=Hd (gf.o.mono g1.size);have go:=Hd (gA.o.trans (Chg.of_below g1 _ _));have d4':W2.cell? (Aw mb 4)=_:=(g1.cell (p:=Aw mb 4) gg).trans d4;have g9:g<W.heap.size:=Ag k0;have l0:W2.cell? (Aw g off)=_:=(g1.cell (p:=Aw g off) g9).trans k0;have l1:W2.cell? (Aw g (off+1))=_:=(g1.cell (p:=(Aw g (off+1))) g9).trans k1;have l2:W2.cell? (Aw g (off+2))=_:=(g1.cell (p:=(Aw g (off+2))) g9).trans k2;have gl:=Hd (gy.o.keep (w':=W2) (o':=o) (fun q hq=>g1.block q (gf.o q _ hq)) (fun _ h=>h));clear gi k0 k1 k2 d0 d1 d2 d3 d4 d5' g0 g1 gz gf gA gy HW;obtain⟨d0,d1,d2,d3,_,d5,g0⟩:=cells6 g6.o.blk;have gg:mb<W2.heap.size:=Ag d0;have g9:g<W2.heap.size:=Ag l0;go_upto_region 5 with fail;obtain⟨bx,gc⟩:=Ex W2.heap.size;obtain⟨W3,gd⟩:=Ex (W2.alloc (.cells #[Iv ev.after,Iv ev.kind,Iv ev.level] 77));have g4:Bw W2 W3:=by rw[gd];exact Af W2 _
 have gt:o bx=none:=by rw[gc];exact g3.o.none (VQ _)
 have x3:W3.heap[bx]?=some (.cells #[Iv ev.after,Iv ev.kind,Iv ev.level] 77 (0,0)):=by rw[gd,gc];exact VT W2 _
 rw[<- gd,<- gc];have g2:=Hd (g6.o.below g3.o g4);have gm:=Hd (g3.o.mono g4.size);have gn:=Hd (go.o.trans (Chg.of_below g4 _ _));have d4:W3.cell? (Aw mb 4)=_:=(g4.cell (p:=Aw mb 4) gg).trans d4';have gk:=Hd (gl.o.keep (w':=W3) (o':=o) (fun q hq=>g4.block q (g3.o q _ hq)) (fun _ h=>h));clear gd gc l0 l1 l2 d0 d1 d2 d3 d4' d5 g0 g4 g6 g3 go gl;obtain⟨d0,d1,d2,d3,_,d5,g0⟩:=cells6 g2.o.blk;have gr:bx≠mb:=by rintro rfl;rw[g2.o.own] at gt;cases gt
 obtain⟨W4,g5⟩:=Ex ((W3.setCell (Aw mb 4) (.slice (if cap=1 then some (Aw g off) else some (Aw g (off+3))) ws.length (cap-1))).setCell (Aw mb 5) (Iv 0));have gu:A8 (K m.d V) o W4 mb { m with calls:=0,waits:=ws } { s with vw:=.slice (if cap=1 then some (Aw g off) else some (Aw g (off+3))) ws.length (cap-1) }:=by
  have a1:=g2.o.field (k:=4) (u:=.slice (if cap=1 then some (Aw g off) else some (Aw g (off+3))) ws.length (cap-1)) (m':={ m with calls:=BZ m.calls,waits:=ws }) (s':={ s with vw:=.slice (if cap=1 then some (Aw g off) else some (Aw g (off+3))) ws.length (cap-1) }) rfl rfl rfl rfl rfl gk.o rfl;have a2:=a1.field (k:=5) (u:=Iv 0) (m':={ m with calls:=0,waits:=ws }) (s':={ s with vw:=.slice (if cap=1 then some (Aw g off) else some (Aw g (off+3))) ws.length (cap-1) }) rfl rfl rfl rfl rfl a1.waits rfl;rw[g5];exact a2
 have gw:Chg (fun _=>True) o o w W4:=by rw[g5];exact(gn.o.setCell (p:=Aw mb 4) g2.o.own trivial _).setCell (p:=Aw mb 5) g2.o.own trivial _
 have g7:W4.heap[bx]?=some (.cells #[Iv ev.after,Iv ev.kind,Iv ev.level] 77 (0,0)):=by rw[g5];exact(A0 gr _).trans ((A0 gr _).trans x3)
 have gq:Step K o w mb m V o W4 { m with calls:=0,waits:=ws } V:=⟨⟨_,gu⟩,gm.o.mono (by rw[g5];simp[World.setCell]),gw,gD.o,Ext.refl _ _,rfl,rfl⟩;have gC:=Hd gq;have y0:W4.cell? (Av bx)=some (Iv ev.after):=by rw[VR W4 bx 0 _ _ _ g7];rfl
 have y1:W4.cell? (Aw bx 1)=some (Iv ev.kind):=by rw[VR W4 bx 1 _ _ _ g7];rfl
 have y2:W4.cell? (Aw bx 2)=some (Iv ev.level):=by rw[VR W4 bx 2 _ _ _ g7];rfl
 have gx:=Hd g5;clear gu gw g7 gq g5;go_upto_region 6 with fail;rw[<- gx.o];clear gx d0 d1 d2 d3 d4 d5 g0 x3 g2 gm gn gk;go_wp2_with fail
 all_goals exact⟨rfl,o,_,V,gC.o,.inl ⟨ev,HW1.o,HD.o,rfl,rfl,rfl,rfl⟩⟩
theorem KN {o:Own}(hK:AE K)(h:AW (K m.d V) o w mb m)(hlt:Ac o w)(hx:Bs o w xb mb)(hk:Aj m.d V)(v:Int)(lo hi:Nat)(hlo:okE (Aa m.d) lo)(hhi:okE (Aa m.d) hi) :
 Cl 145 #[Pt xb,Iv v,Iv lo,Iv hi] w (Gi K o w mb m V v lo hi):=by
 by_cases hd:∀ ev ws,m.waits=ev::ws->BZ m.calls<ev.after
 . exact PI hK h hlt hx hk v lo hi hlo hhi hd
 ·cases hw:m.waits with
  | nil=>exact absurd (fun ev ws e=>by rw[hw] at e;cases e) hd
  | cons ev ws=>exact PJ h hlt hx hk v lo hi hw (Int.not_lt.1 fun hl=>hd fun ev' ws' e=>by rw[hw] at e;cases e;exact hl)
section
theorem I3 (hk:Aj d V)(h:e/2=0):lvE d.vars.length (levN d) (Aa d) e=d.vars.length:=by unfold lvE;rw[h,hk.dag.none0]
theorem Gj (h:e/2=f/2):lvE d.vars.length (levN d) (Aa d) e=lvE d.vars.length (levN d) (Aa d) f:=by unfold lvE;rw[h]
theorem I4 (h:e/2=f/2)(hf:okE N f):okE N e:=by unfold okE;rw[h];exact hf
theorem Cu (hk:Aj d V){v:Nat}(hf:okE (Aa d) f)(hv:v<d.vars.length)(hl:levN d v<=lvE d.vars.length (levN d) (Aa d) f) :
 okE (Aa d) (cofs d f v).1/\okE (Aa d) (cofs d f v).2/\levN d v<lvE d.vars.length (levN d) (Aa d) (cofs d f v).1/\levN d v<lvE d.vars.length (levN d) (Aa d) (cofs d f v).2 /\
  ∀ ρ,ef V f ρ=if ρ v then ef V (cofs d f v).2 ρ else ef V (cofs d f v).1 ρ:=by
 unfold cofs;cases hb:Aa d (f/2) with
 | none =>
   have g0:levN d v<lvE d.vars.length (levN d) (Aa d) f:=by unfold lvE;rw[hb];exact hk.dag.lt v hv
   exact⟨hf,hf,g0,g0,fun ρ=>by simp⟩
 | some b =>
   by_cases e:(b.v:Int)=v
   ·have e':b.v=v:=by omega
    simp only[VW e];refine⟨D3 (hk.dag.okLo _ _ hb),D3 (hk.dag.okHi _ _ hb),?_,?_,fun ρ=>?_⟩
    . rw[DE,<- e'];exact hk.dag.lvLo _ _ hb
    . rw[DE,<- e'];exact hk.dag.lvHi _ _ hb
    . rw[CG,CG];have h1:=hk.dag.eqn _ _ hb;unfold eneg;have h2:ef V f ρ=((f%2 == 1) != V (f/2) ρ):=rfl;rw[h2,h1];simp only[iteF,e'];split<;>rfl
   ·simp only[VS e];have g0:levN d v<lvE d.vars.length (levN d) (Aa d) f:=by
     rcases Nat.lt_or_eq_of_le hl with h|h
     . exact h
     . exfalso;unfold lvE at h;rw[hb] at h;have:=hk.dag.inj _ _ hv (hk.dag.var _ _ hb) h;exact e (by omega)
    exact⟨hf,hf,g0,g0,fun ρ=>by simp⟩
theorem PK (hk:Aj d V)(f g h:Nat):minL d f g h<=d.vars.length:=by unfold minL;have:=hk.dag.lvE_le f;omega
theorem I5 (h1:k<=lvE d.vars.length (levN d) (Aa d) f)(h2:k<=lvE d.vars.length (levN d) (Aa d) g)(h3:k<=lvE d.vars.length (levN d) (Aa d) h):k<=minL d f g h:=by unfold minL;omega
theorem Ci.ok (hk:Aj d V)(hi:Ci e f g h)(hf:okE (Aa d) f)(hg:okE (Aa d) g)(hh:okE (Aa d) h) :
 okE (Aa d) e/\minL d f g h<=lvE d.vars.length (levN d) (Aa d) e:=by
 rcases hi with e0|e0|e0|e0
 . exact⟨.inl e0,by rw[I3 hk e0];exact PK hk f g h⟩
 . exact⟨I4 e0 hf,by rw[Gj e0];unfold minL;omega⟩
 . exact⟨I4 e0 hg,by rw[Gj e0];unfold minL;omega⟩
 . exact⟨I4 e0 hh,by rw[Gj e0];unfold minL;omega⟩
structure IteS (d:Ae)(V:Nat->BF)(f0 g0 h0:Nat)(f g h:Nat)(nt:Bool):Prop where
 okF:okE (Aa d) f
 okG:okE (Aa d) g
 okH:okE (Aa d) h
 lev:minL d f0 g0 h0<=minL d f g h
 val:∀ ρ,iteB (ef V f0 ρ) (ef V g0 ρ) (ef V h0 ρ)=(nt != iteB (ef V f ρ) (ef V g ρ) (ef V h ρ))
theorem IteS.start (hf:okE (Aa d) f)(hg:okE (Aa d) g)(hh:okE (Aa d) h):IteS d V f g h f g h false:=⟨hf,hg,hh,VQ _,fun ρ=>by simp⟩
theorem IteS.next (hk:Aj d V)(s:IteS d V f0 g0 h0 f g h nt)(hd:(iteR f g h).dn=false) :
 IteS d V f0 g0 h0 (iteR f g h).a (iteR f g h).b (iteR f g h).c (nt != (iteR f g h).n)/\(iteR f g h).a/2≠0:=by
 obtain⟨ha,hb,hc,hn,hv⟩:=PG hd;obtain⟨a1,a2⟩:=ha.ok hk s.okF s.okG s.okH;obtain⟨b1,b2⟩:=hb.ok hk s.okF s.okG s.okH;obtain⟨c1,c2⟩:=hc.ok hk s.okF s.okG s.okH;refine⟨⟨a1,b1,c1,VU s.lev (I5 a2 b2 c2),fun ρ=>?_⟩,hn⟩;rw[s.val,hv hk.dag.one];cases nt<;>cases (iteR f g h).n<;>simp
theorem IteS.answer {r:Nat}(s:IteS d V f0 g0 h0 f g h nt)(h1:okE (Aa d) f0)(h2:okE (Aa d) g0)(h3:okE (Aa d) h0)(hr:okE (Aa d) r)(hl:minL d f g h<=lvE d.vars.length (levN d) (Aa d) r)
 (hv:∀ ρ,ef V r ρ=iteB (ef V f ρ) (ef V g ρ) (ef V h ρ)):IteP d V f0 g0 h0 (eflip r nt) :=
 ⟨h1,h2,h3,D3 hr,fun ρ=>by rw[CG,hv,<- s.val];rfl,by rw[DE];exact VU s.lev hl⟩
theorem IteS.done (hk:Aj d V)(s:IteS d V f0 g0 h0 f g h nt)(h1:okE (Aa d) f0)(h2:okE (Aa d) g0)(h3:okE (Aa d) h0)(hd:(iteR f g h).dn=true):IteP d V f0 g0 h0 (eflip (iteR f g h).r nt):=by
 obtain⟨hh,hv⟩:=KJ hd;obtain⟨q1,q2⟩:=hh.ok hk s.okF s.okG s.okH;exact s.answer h1 h2 h3 q1 q2 (hv hk.dag.one)
theorem Ext.minL (x:Ext d V d' V')(hk:Aj d V)(hk':Aj d' V'){f g h:Nat}(hf:okE (Aa d) f)(hg:okE (Aa d) g)(hh:okE (Aa d) h):minL d' f g h=Go.Proofs.YtkidaindpahefaaGreat.minL d f g h:=by
 unfold Go.Proofs.YtkidaindpahefaaGreat.minL;rw[x.vars,x.lvE hf hk.dag.none0 hk'.dag.none0,x.lvE hg hk.dag.none0 hk'.dag.none0,x.lvE hh hk.dag.none0 hk'.dag.none0]
theorem IteS.ext (s:IteS d V f0 g0 h0 f g h nt)(x:Ext d V d' V')(hk:Aj d V)(hk':Aj d' V')(h1:okE (Aa d) f0)(h2:okE (Aa d) g0)(h3:okE (Aa d) h0):IteS d' V' f0 g0 h0 f g h nt :=
 ⟨x.ok s.okF,x.ok s.okG,x.ok s.okH,by rw[x.minL hk hk' h1 h2 h3,x.minL hk hk' s.okF s.okG s.okH];exact s.lev,fun ρ=>by rw[x.ef s.okF,x.ef s.okG,x.ef s.okH,x.ef h1,x.ef h2,x.ef h3];exact s.val ρ⟩
theorem IteP.ext {r:Nat}(s:IteP d V f g h r)(x:Ext d V d' V')(hk:Aj d V)(hk':Aj d' V'):IteP d' V' f g h r :=
 ⟨x.ok s.okA,x.ok s.okB,x.ok s.okC,x.ok s.okR,fun ρ=>by rw[x.ef s.okA,x.ef s.okB,x.ef s.okC,x.ef s.okR];exact s.val ρ,
  by rw[x.minL hk hk' s.okA s.okB s.okC,x.vars,x.lvE s.okR hk.dag.none0 hk'.dag.none0];exact s.lev⟩
theorem PL (hk:Aj d V){v r:Nat}(hf:okE (Aa d) f)(hg:okE (Aa d) g)(hh:okE (Aa d) h)(hv:v<d.vars.length)(hl:levN d v<=minL d f g h)
 (c1:∀ ρ,ef V lo ρ=iteB (ef V (cofs d f v).1 ρ) (ef V (cofs d g v).1 ρ) (ef V (cofs d h v).1 ρ)) (c2:∀ ρ,ef V hi ρ=iteB (ef V (cofs d f v).2 ρ) (ef V (cofs d g v).2 ρ) (ef V (cofs d h v).2 ρ))
 (hr:ef V r=iteF v (ef V hi) (ef V lo)) (ρ:Nat->Bool):ef V r ρ=iteB (ef V f ρ) (ef V g ρ) (ef V h ρ):=by
 have lf:=(Cu hk hf hv (by unfold minL at hl;omega)).2.2.2.2 ρ;have lg:=(Cu hk hg hv (by unfold minL at hl;omega)).2.2.2.2 ρ;have lh:=(Cu hk hh hv (by unfold minL at hl;omega)).2.2.2.2 ρ;rw[hr,lf,lg,lh];simp only[iteF];cases ρ v
 . simpa using c1 ρ
 . simpa using c2 ρ
theorem E3 (x:Ext d V d' V')(h0:Aa d 0=none)(h0':Aa d' 0=none)(hf:okE (Aa d) f)(v:Int):cofs d' f v=cofs d f v:=by
 unfold cofs;rcases hf with h|⟨b,hb⟩
 . rw[h,h0,h0']
 . rw[hb,x.nodes _ _ hb]
end
def KO (K:Law)(k:Nat)(o:Own)(w:Wd)(mb:Nat)(m:ManD)(V:Nat->BF)(f g h:Nat)(e:Ending)(w':Wd):Prop :=
 ∃ o' m' V',Step K o w mb m V o' w' m' V' /\
  ((∃ r:Nat,e=.returned (Iv r)/\IteP m'.d V' f g h r/\m'.waits=m.waits/\m'.d.pool.many+1<=m.d.pool.many+2^k) \/
   (e=AQ 7 false ev0/\m'.waits=m.waits/\m'.d.pool.many=m'.d.pool.room/\m'.d.pool.many+2<=m.d.pool.many+2^k) \/
   (∃ ev,e=AQ 0 true ev/\m.waits=ev::m'.waits))
def I6 (K:Law)(k:Nat):Prop:=∀ (o:Own) (w:Wd) (xb mb:Nat) (m:ManD) (V:Nat->BF) (f g h:Nat),AW (K m.d V) o w mb m->Ac o w->Bs o w xb mb->Aj m.d V ->
 okE (Aa m.d) f->okE (Aa m.d) g->okE (Aa m.d) h->m.d.vars.length<=minL m.d f g h+k ->
 Cl 147 #[Pt xb,Iv f,Iv g,Iv h] w (KO K k o w mb m V f g h)
theorem PM {o:Own}(hm:AW (K m.d V) o w mb m)(hl:Ac o w)(hk:Aj m.d V)(hb:Bw w w'):Step K o w mb m V o w' m V:=by
 obtain⟨s,h⟩:=hm;exact⟨⟨s,h.below hl hb⟩,hl.mono hb.size,Chg.of_below hb _ _,hk,Ext.refl _ _,rfl,rfl⟩
theorem Step.below {o:Own}(h:Step K o w mb m V o' w' m' V')(hb:Bw w' w''):Step K o w mb m V o' w'' m' V':=h.trans (PM h.is h.lt h.ok hb)
theorem top3 (hk:Aj d V)(hf:okE (Aa d) f)(hn:f/2≠0){top:Int}(ht:TopS d [f,g,h] top least) :
 ∃ v:Nat,top=v/\v<d.vars.length/\levN d v=minL d f g h/\levN d v<d.vars.length:=by
 rcases ht with ⟨_,_,h3⟩|⟨v,h1,_,h3,⟨e,he,b,hb,g0⟩,h5⟩
 ·exfalso;rcases hf with h0|⟨b,hb⟩
  . exact hn h0
  . rw[h3 f (by simp)] at hb;cases hb
 ·refine⟨v,h1,h3,?_,hk.dag.lt v h3⟩;have e0:lvE d.vars.length (levN d) (Aa d) e=levN d v:=by unfold lvE;rw[hb,<- g0]
  have a1:=h5 f (by simp);have a2:=h5 g (by simp);have a3:=h5 h (by simp);simp only[WT,Yc,or_false] at he;unfold minL;rcases he with rfl|rfl|rfl<;>omega
abbrev Y9:=@Classical.choose_spec
abbrev X2:=@Nat.pow_succ
theorem KP (hK:AE K)(k:Nat)(IH:∀ k',k=k'+1->I6 K k'):I6 K k:=by
 intro o w xb mb m V f g h hm gT hx hk hf hg hh gF;obtain⟨st0,gO⟩:∃ s,Ap o w (Classical.choose hm).sb m.d s:=(Y9 hm).store;have gq:Hq (∀ e,okE (Aa m.d) e->e<eMax):=Hd fun e he=>by have:=gO.edge_lt he;unfold eMax;omega
 have hq:=Hd hK;have HM:=Hd hm;have hb:=Hd gT;have HX:=Hd hx;have HK:=Hd hk;have HF:=Hd hf;have HG:=Hd hg;have HH:=Hd hh;have hY:=Hd gF;have h8:Hq (IteS m.d V f g h f g h false):=Hd (IteS.start hf hg hh);clear gO hm gT hx hk hf hg hh gF
 go_enter func147,ntmps147
 go_upto_block 0 with fail
 go_cut [1,2,3,9] from 27 (fun s1 s2 s3 s9 wx=>∃ (f' g' h':Nat) (nt:Bool),s1=Iv f'/\s2=Iv g'/\s3=Iv h'/\s9=.bool nt/\IteS m.d V f g h f' g' h' nt/\f'/2≠0/\wx=w)
 case first =>
  go_wp2_with fail
  go_loopw [1,2,3,9,27] (fun s1 s2 s3 s9 i wr=>∃ (f' g' h':Nat) (nt:Bool) (j:Nat),s1=Iv f'/\s2=Iv g'/\s3=Iv h'/\s9=.bool nt/\i=Iv j/\j<=3/\IteS m.d V f g h f' g' h' nt/\(0<j->f'/2≠0)/\wr=w) (fun _ _ _ _ i _=>3-(intOf i).toNat)
  case atStart=>exact⟨f,g,h,false,0,rfl,rfl,rfl,rfl,rfl,by omega,h8.o,by omega,rfl⟩
  case round =>
   obtain⟨f',g',h',nt,j,rfl,rfl,rfl,rfl,rfl,hj,hS,hn,rfl⟩:=hrel;clear h8
   by_cases gT:j<3
   ·have HI:=Hd (fun W:Wd=>PF f' g' h' W (gq.o _ hS.okF) (gq.o _ hS.okG) (gq.o _ hS.okH));have gm:(iteR f' g' h').dn=true->(iteR f' g' h').r<eMax:=fun e=>gq.o _ (((KJ e).1.ok HK.o hS.okF hS.okG hS.okH).1)
    have go:=fun e=>hS.next HK.o (f:=f') (g:=g') (h:=h') e
    have gp:=fun e=>hS.done HK.o HF.o HG.o HH.o e
    have kk:(j:Int)<3:=by omega
    unfold iteV at HI;obtain⟨R,hR⟩:=Ex (iteR f' g' h');rw[<- hR] at HI gm go gp;clear hR hS hn;obtain⟨a,b,c,n,r,dn⟩:=R;dsimp only at HI gm go gp;cases dn with
    | true =>
      have gt:=Hd (fun W:Wd=>CH r nt W (gm rfl));have kj:=Hd (gp rfl);clear gm go gp;go_wp2_with fail;refine(HI.o _).mono ?_;rintro x w' ⟨rfl,rfl⟩;go_wp2_with fail;refine(gt.o _).mono ?_;rintro x w' ⟨rfl,rfl⟩;go_wp2_with fail;go_ret;exact⟨o,m,V,⟨HM.o,hb.o,Chg.refl _ _ _,HK.o,Ext.refl _ _,rfl,rfl⟩,.inl ⟨_,rfl,kj.o,rfl,by have:=Nat.one_le_two_pow (n:=k);omega⟩⟩
    | false =>
      have hM:(nt != n)=(!nt == n):=by cases nt<;>cases n<;>rfl
      have g8:=Hd (go rfl);rw[hM] at g8;clear gm go gp hM
      by_cases hE:a=f'
      ·subst hE
       by_cases hp2:b=g'
       ·subst hp2
        by_cases hD:c=h'
        . subst hD;go_wp2_with fail;refine(HI.o _).mono ?_;rintro x w' ⟨rfl,rfl⟩;go_wp2_with fail;go_meet;exact⟨_,_,_,_,rfl,rfl,rfl,rfl,g8.o.1,g8.o.2,by trivial⟩
        ·have H3:(c == h')=false:=by simp[hD]
         go_wp2_with fail;refine(HI.o _).mono ?_;rintro x w' ⟨rfl,rfl⟩;go_wp2_with fail;go_roundw
         case rel=>exact⟨_,_,_,_,j+1,rfl,rfl,rfl,rfl,by simp,by omega,g8.o.1,fun _=>g8.o.2,by trivial⟩
         case measure=>simp[intOf];omega
       ·have H2:(b == g')=false:=by simp[hp2]
        go_wp2_with fail;refine(HI.o _).mono ?_;rintro x w' ⟨rfl,rfl⟩;go_wp2_with fail;go_roundw
        case rel=>exact⟨_,_,_,_,j+1,rfl,rfl,rfl,rfl,by simp,by omega,g8.o.1,fun _=>g8.o.2,by trivial⟩
        case measure=>simp[intOf];omega
      ·have H1:(a == f')=false:=by simp[hE]
       go_wp2_with fail;refine(HI.o _).mono ?_;rintro x w' ⟨rfl,rfl⟩;go_wp2_with fail;go_roundw
       case rel=>exact⟨_,_,_,_,j+1,rfl,rfl,rfl,rfl,by simp,by omega,g8.o.1,fun _=>g8.o.2,by trivial⟩
       case measure=>simp[intOf];omega
   ·obtain rfl:j=3:=by omega
    have HS:=Hd hS;have HN:=Hd (hn (by omega));clear hS hn;go_wp2_with fail;go_meet;exact⟨f',g',h',nt,rfl,rfl,rfl,rfl,HS.o,HN.o,rfl⟩
 case rest =>
  obtain⟨f',g',h',nt,rfl,rfl,rfl,rfl,hS,hn,rfl⟩:=hcut
  rename Wd=>w
  clear h8;obtain⟨s,gC⟩:=HM.o;obtain⟨c0,c1,c2,c3,c4,c5,f0⟩:=cells6 gC.blk;have cx:=HX.o.cell;have k9:=Hd (OF o s.me (K m.d V) 1 f' g' h' w gC.memo hb.o);have kf:=Hd gC;have HS:=Hd hS;have HN:=Hd hn;clear gC hS hn;go_wp2_with fail;refine k9.o.mono ?_;rintro x w1 ⟨kd,gj,gn,gf⟩;have h4:A8 (K m.d V) o w1 mb m s:=kf.o.setMemo hb.o gj (gn.mono fun r e=>.inl e);have hQ:=HX.o.chg gn;have kr:=Hd gn.any;have kp:=Hd h4;have kn:=Hd hQ;have kq:=Hd gf;have gN:Step K o w mb m V o w1 m V:=⟨⟨s,h4⟩,gf,gn.any,HK.o,Ext.refl _ _,rfl,rfl⟩;have h7:=Hd gN;clear gj gn gf h4 hQ gN;rcases kd with rfl|⟨r,rfl,hH⟩
  ·clear c0 c1 c2 c3 c4 c5 f0 cx;go_upto_region 14 with fail;obtain⟨w2,gB⟩:=Ex (w1.alloc (.cells #[Iv f',Iv g',Iv h'] 101));have hO:Bw w1 w2:=by rw[gB];exact Af w1 _
   have hz:w2.heap[w1.heap.size]?=some (.cells #[Iv f',Iv g',Iv h'] 101 (0,0)):=by rw[gB];exact VT w1 _
   have gD:Am w2 (some (Av w1.heap.size)) ([f',g',h'].map Int.ofNat):=⟨by simp,fun j hj=>⟨w1.heap.size,0,rfl,by
    rw[VR w2 w1.heap.size (0+j) _ _ _ hz];simp at hj
    match j,hj with
    | 0,_=>rfl
    | 1,_=>rfl
    | 2,_=>rfl⟩⟩
   have gd:=h7.o.below hO;have hP:=HX.o.chg gd.chg;have h5:Hq (Cl 169 #[Pt xb,.slice (some (Av w1.heap.size)) 3 3] w2 fun x w'=>∃ top least,x=.returned (Iv top)/\TopS m.d [f',g',h'] top least/\Bw w2 w') :=
    Hd (KM gd.is gd.lt hP HK.o [f',g',h'] (by simp;exact⟨HS.o.okF,HS.o.okG,HS.o.okH⟩) (some (Av w1.heap.size)) 3 gD)
   have h6:=Hd gd;have hU:=Hd gB;clear hO hz gD gd hP gB;go_wp2_with fail;rw[<- hU.o];refine h5.o.mono ?_;rintro x w3 ⟨top,least,rfl,gJ,hN⟩;obtain⟨v,rfl,hv,gl,kb⟩:=top3 HK.o HS.o.okF HN.o gJ;have k6:=Hd (h6.o.below hN);have HV:=Hd hv;have hW:=Hd gl;obtain⟨k',gX⟩:∃ k',k=k'+1:=⟨k-1,by have h1:=hY.o;have h2:=HS.o.lev;omega⟩;have hX:=Hd (IH k' gX);have cf:=Cu HK.o HS.o.okF hv (by rw[gl];unfold minL;omega);have cg:=Cu HK.o HS.o.okG hv (by rw[gl];unfold minL;omega);have ch:=Cu HK.o HS.o.okH hv (by rw[gl];unfold minL;omega);have gf:levN m.d v+1<=minL m.d (cofs m.d f' v).1 (cofs m.d g' v).1 (cofs m.d h' v).1:=I5 cf.2.2.1 cg.2.2.1 ch.2.2.1;have hG:levN m.d v+1<=minL m.d (cofs m.d f' v).2 (cofs m.d g' v).2 (cofs m.d h' v).2:=I5 cf.2.2.2.1 cg.2.2.2.1 ch.2.2.2.1;have hJ:m.d.vars.length<=levN m.d v+1+k':=by have h1:=hY.o;have h2:=HS.o.lev;omega
   have gw:=Hd cf;have gv:=Hd cg;have gu:=Hd ch;have ho:=Hd gf;have hd:=Hd hG;have ht:=Hd hJ;have HKK:=Hd gX;have h9:Hq (∀ (W:Wd) (e:Nat),okE (Aa m.d) e->Step K o w mb m V o W m V->Cl 170 #[Pt xb,Iv e,Iv v] W fun x w'=>x=.returned (.tuple #[Iv (cofs m.d e v).1,Iv (cofs m.d e v).2])/\Step K o w mb m V o w' m V) :=
    Hd fun W e he st=>(KK st.is st.lt (HX.o.chg st.chg) HK.o e he v).mono fun x w' ⟨h1,h2⟩=>⟨h1,st.below h2⟩
   clear gJ hN hv gl kb cf cg ch gf hG hJ gX h5 hU h6;go_wp2_with fail;refine(h9.o _ _ HS.o.okF k6.o).mono ?_;rintro x w4 ⟨rfl,gM⟩;have k5:=Hd gM;clear gM;go_wp2_with fail;refine(h9.o _ _ HS.o.okG k5.o).mono ?_;rintro x w5 ⟨rfl,gL⟩;have k4:=Hd gL;clear gL;go_wp2_with fail;refine(h9.o _ _ HS.o.okH k4.o).mono ?_;rintro x w6 ⟨rfl,gK⟩;have ga:=Hd gK;clear gK;go_wp2_with fail;refine(hX.o o w6 xb mb m V _ _ _ ga.o.is ga.o.lt (HX.o.chg ga.o.chg) HK.o gw.o.1 gv.o.1 gu.o.1 (by have h1:=ht.o;have h2:=ho.o;omega)).mono ?_;have gH:Hq (2^k=2^k'+2^k'):=by show _=_;rw[HKK.o,X2];omega
   have ha:Hq (1<=2^k'):=Hd Nat.one_le_two_pow;rintro x w7 ⟨o7,m7,V7,st7,(⟨lo,rfl,hF,g5,gi⟩|⟨rfl,g5,gQ,gi⟩|⟨ev,rfl,g5⟩)⟩
   ·have g2:=Hd (ga.o.trans st7);have gI:=Hd st7.ok;have g7:=Hd st7.ext;have gr:=Hd hF;have ge:=Hd g5;have gA:=Hd gi;have hI:m7.d.vars.length<=minL m7.d (cofs m.d f' v).2 (cofs m.d g' v).2 (cofs m.d h' v).2+k':=by
     rw[st7.ext.minL HK.o st7.ok gw.o.2.1 gv.o.2.1 gu.o.2.1,st7.ext.vars];have h1:=ht.o;have h2:=hd.o;omega
    have ki:=Hd hI;clear st7 hF g5 gi hI;go_wp2_with fail;refine(hX.o o7 w7 xb mb m7 V7 _ _ _ g2.o.is g2.o.lt (HX.o.chg g2.o.chg) gI.o (g7.o.ok gw.o.2.1) (g7.o.ok gv.o.2.1) (g7.o.ok gu.o.2.1) ki.o).mono ?_;rintro x w8 ⟨o8,m8,V8,st8,(⟨hi,rfl,gZ,g4,gh⟩|⟨rfl,g4,gP,gh⟩|⟨ev,rfl,g4⟩)⟩
    ·have g1:=Hd (g2.o.trans st8);have hp:=Hd st8.ok;have g6:=Hd st8.ext;have hr:=Hd gZ;have gz:=Hd g4;have hc:=Hd gh;have hT:=KN hq.o g1.o.is g1.o.lt (HX.o.chg g1.o.chg) st8.ok v lo hi (st8.ext.ok gr.o.okR) gZ.okR;have kg:=Hd hT;clear st8 gZ g4 gh hT;go_wp2_with fail;refine kg.o.mono ?_;have gU:levN m8.d v<lvE m8.d.vars.length (levN m8.d) (Aa m8.d) lo:=by
      have e1:=g6.o.lvE (n:=m8.d.vars.length) gr.o.okR gI.o.dag.none0 hp.o.dag.none0;have e2:=gr.o.lev;have e3:=g7.o.minL HK.o gI.o gw.o.1 gv.o.1 gu.o.1;have e4:=ho.o;have e5:=g7.o.lev;have e6:=g6.o.lev;have e7:=g6.o.vars;rw[e1,e6,e5,e7];rw[e5] at e2;omega
     have gY:levN m8.d v<lvE m8.d.vars.length (levN m8.d) (Aa m8.d) hi:=by
      have e2:=hr.o.lev;have x78:=g7.o.trans g6.o;have e3:=x78.minL HK.o hp.o gw.o.2.1 gv.o.2.1 gu.o.2.1;have e4:=hd.o;have e5:=x78.lev;rw[e5] at e2 ⊢;omega
     have hA:v<m8.d.vars.length:=by rw[(g7.o.trans g6.o).vars];exact HV.o
     have h0:∀ er,DF m8.d v lo hi er->er=7/\m8.d.pool.many=m8.d.pool.room:=by
      rintro er (⟨_,h1⟩|⟨_,_,_,h1⟩|h1)
      . exact absurd ⟨by omega,by omega⟩ h1
      . simp only[Int.toNat_natCast] at h1;omega
      . exact h1
     have kl:=Hd gU;have km:=Hd gY;have ko:=Hd hA;have ka:=Hd h0;clear gU gY hA h0;rintro x w9 ⟨o9,m9,V9,st9,(⟨ev,hy,_,_,gG,h3,rfl⟩|⟨gg,_,_,(⟨er,hL,gG,h3,rfl⟩|⟨_,_,r,rfl,hC,hB,gS,k0⟩)⟩)⟩
     . have g0:=Hd (g1.o.trans st9);have ke:=Hd hy;clear st9 hy gG h3;unfold AQ;go_wp2_with fail;exact⟨rfl,o9,m9,V9,g0.o,.inr (.inr ⟨ev,rfl,by rw[<- ge.o,<- gz.o];exact ke.o⟩)⟩
     . have g0:=Hd (g1.o.trans st9);obtain⟨rfl,gE⟩:=ka.o er hL;have hw:=Hd gE;have hZ:=Hd gG;have gy:=Hd gg;clear st9 hL gG h3 gg gE;unfold AQ;go_wp2_with fail;exact⟨rfl,o9,m9,V9,g0.o,.inr (.inl ⟨rfl,by rw[gy.o,gz.o,ge.o],by rw[hZ.o];exact hw.o,by rw[hZ.o];have a1:=gA.o;have a2:=hc.o;have a3:=gH.o;have a4:=ha.o;omega⟩)⟩
     ·have g9:=g1.o.trans st9;have x09:=g9.ext;have gc:=st9.ok;have x79:=g6.o.trans st9.ext;have a0:=HK.o.dag.none0;have a9:=gc.dag.none0;have g3:IteP m9.d V9 f' g' h' r:=by
       refine⟨x09.ok HS.o.okF,x09.ok HS.o.okG,x09.ok HS.o.okH,hC,fun ρ=>?_,?_⟩
       ·refine PL (lo:=lo) (hi:=hi) (v:=v) gc (x09.ok HS.o.okF) (x09.ok HS.o.okG) (x09.ok HS.o.okH) (by rw[x09.vars];exact HV.o) (by rw[x09.lev,x09.minL HK.o gc HS.o.okF HS.o.okG HS.o.okH,hW.o];exact VQ _) ?_ ?_ ?_ ρ
        . intro ρ;rw[E3 x09 a0 a9 HS.o.okF,E3 x09 a0 a9 HS.o.okG,E3 x09 a0 a9 HS.o.okH];exact(gr.o.ext x79 gI.o gc).val ρ
        . intro ρ;rw[E3 x09 a0 a9 HS.o.okF,E3 x09 a0 a9 HS.o.okG,E3 x09 a0 a9 HS.o.okH];exact(hr.o.ext st9.ext hp.o gc).val ρ
        . rw[hB,st9.ext.ef hr.o.okR,st9.ext.ef (g6.o.ok gr.o.okR)];rfl
       . rw[x09.minL HK.o gc HS.o.okF HS.o.okG HS.o.okH,<- hW.o];have e1:=(g7.o.trans g6.o).lev;have e2:=(g7.o.trans g6.o).vars;rw[e1,e2] at gS;rw[x09.vars];exact gS
      have hu:=Hd ((HS.o.ext x09 HK.o gc HF.o HG.o HH.o).answer (x09.ok HF.o) (x09.ok HG.o) (x09.ok HH.o) g3.okR g3.lev g3.val);obtain⟨s9,gk⟩:=g9.is;have k7:=Hd (ON o9 s9.me (K m9.d V9) 1 f' g' h' r w9 gk.memo g9.lt ((hq.o.ite _ _ _ _ _ _).2 g3));have gR:r<eMax:=by
       obtain⟨ss,kc⟩:=gk.store;have:=kc.edge_lt g3.okR;unfold eMax;omega
      have gt:=Hd (fun W:Wd=>CH r nt W gR);obtain⟨c0,c1,c2,c3,c4,c5,f0⟩:=cells6 gk.blk;have cx:=(HX.o.chg g9.chg).cell;have kh:=Hd gk;have g0:=Hd g9;have gy:=Hd (gg.trans (gz.o.trans ge.o));have k8:Hq (m9.d.pool.many+1<=m.d.pool.many+2^k):=Hd (by have a1:=gA.o;have a2:=hc.o;have a3:=gH.o;omega);clear st9 g9 x09 gc x79 a0 a9 g3 gk gR gg hC hB gS k0;go_wp2_with fail;refine k7.o.mono ?_;rintro x w10 ⟨rfl,o10,gj,gx,gV⟩;have k3:Hq (Step K o w mb m V o10 w10 m9 V9):=Hd ⟨⟨s9,kh.o.setMemo g0.o.lt gj gx⟩,gV,g0.o.chg.trans gx.any,g0.o.ok,g0.o.ext,g0.o.hs,g0.o.next⟩;clear gj gx gV c0 c1 c2 c3 c4 c5 f0 cx;go_wp2_with fail;refine(gt.o _).mono ?_;rintro x w' ⟨rfl,rfl⟩;go_wp2_with fail;go_ret;exact⟨o10,m9,V9,k3.o,.inl ⟨_,rfl,hu.o,gy.o,k8.o⟩⟩
    . have g1:=Hd (g2.o.trans st8);have HQ:Hq (m8.waits=m.waits/\m8.d.pool.many=m8.d.pool.room/\m8.d.pool.many+2<=m.d.pool.many+2^k):=Hd ⟨g4.trans ge.o,gP,by have a1:=gA.o;have a3:=gH.o;have a4:=ha.o;omega⟩;clear st8 g4 gP gh;unfold AQ;go_wp2_with fail;exact⟨rfl,o8,m8,V8,g1.o,.inr (.inl ⟨rfl,HQ.o.1,HQ.o.2.1,HQ.o.2.2⟩)⟩
    . have g1:=Hd (g2.o.trans st8);have HQ:=Hd g4;clear st8 g4;unfold AQ;go_wp2_with fail;exact⟨rfl,o8,m8,V8,g1.o,.inr (.inr ⟨ev,rfl,by rw[<- ge.o];exact HQ.o⟩)⟩
   . have g2:=Hd (ga.o.trans st7);have HQ:Hq (m7.waits=m.waits/\m7.d.pool.many=m7.d.pool.room/\m7.d.pool.many+2<=m.d.pool.many+2^k):=Hd ⟨g5,gQ,by have a3:=gH.o;have a4:=ha.o;omega⟩;clear st7 g5 gQ gi;unfold AQ;go_wp2_with fail;exact⟨rfl,o7,m7,V7,g2.o,.inr (.inl ⟨rfl,HQ.o.1,HQ.o.2.1,HQ.o.2.2⟩)⟩
   . have g2:=Hd (ga.o.trans st7);have HQ:=Hd g5;clear st7 g5;unfold AQ;go_wp2_with fail;exact⟨rfl,o7,m7,V7,g2.o,.inr (.inr ⟨ev,rfl,HQ.o⟩)⟩
  . have g3:IteP m.d V f' g' h' r:=(hq.o.ite _ _ _ _ _ _).1 hH;have hu:=Hd (HS.o.answer HF.o HG.o HH.o g3.okR g3.lev g3.val);have gt:=Hd (fun W:Wd=>CH r nt W (gq.o _ g3.okR));clear hH g3 c0 c1 c2 c3 c4 c5 f0 cx;go_wp2_with fail;refine(gt.o _).mono ?_;rintro x w' ⟨rfl,rfl⟩;go_wp2_with fail;go_ret;exact⟨o,m,V,h7.o,.inl ⟨_,rfl,hu.o,rfl,by have:=Nat.one_le_two_pow (n:=k);omega⟩⟩
theorem KQ (hK:AE K):∀ k,I6 K k:=by
 intro k
 induction k with
 | zero=>exact KP hK 0 (fun k' e=>absurd e (by omega))
 | succ k ih =>
   refine KP hK (k+1) (fun k' e=>?_);have e2:k'=k:=by omega
   rw[e2];exact ih
open Go.RowKit Go.Shelf
structure Wr (M:Nat->Prop)(w w':Wd):Prop where
 os:w'.os=w.os
 tape:w'.tape=w.tape
 output:w'.output=w.output
 size:w.heap.size<=w'.heap.size
 keep:∀ k,k<w.heap.size->¬ M k->w'.heap[k]?=w.heap[k]?
theorem Wr.refl (M:Nat->Prop)(w:Wd):Wr M w w:=⟨rfl,rfl,rfl,VQ _,fun _ _ _=>rfl⟩
theorem Wr.trans {M M' N:Nat->Prop}{w w' w'':Wd}(h:Wr M w w')(h':Wr M' w' w'')(hM:∀ k,k<w.heap.size->M k->N k)(hM':∀ k,k<w.heap.size->M' k->N k):Wr N w w'' :=
 ⟨h'.os.trans h.os,h'.tape.trans h.tape,h'.output.trans h.output,VU h.size h'.size,fun k hk hn=>(h'.keep k (Wm hk h.size) (fun e=>hn (hM' k hk e))).trans (h.keep k hk (fun e=>hn (hM k hk e)))⟩
theorem Wr.mono {N:Nat->Prop}(h:Wr M w w')(hM:∀ k,M k->N k):Wr N w w':=⟨h.os,h.tape,h.output,h.size,fun k hk hn=>h.keep k hk (fun e=>hn (hM k e))⟩
theorem Wr.drew {M:Nat->Prop}{w w':Wd}(h:Wr M w w'):Wr M w w'.drew:=⟨h.os,h.tape,h.output,h.size,h.keep⟩
abbrev Xd:=@Below.heap_alloc
theorem Wr.alloc {M:Nat->Prop}{w w':Wd}(h:Wr M w w')(o:Obj):Wr M w (w'.alloc o) :=
 ⟨h.os,h.tape,h.output,by simp;have:=h.size;omega,fun k hk hn=>(Xd w' o k (Wm hk h.size)).trans (h.keep k hk hn)⟩
theorem Wr.setCell {M:Nat->Prop}{w w':Wd}(h:Wr M w w'){p:Addr}(hp:M p.block\/w.heap.size<=p.block)(u:Value):Wr M w (w'.setCell p u) :=
 ⟨h.os,h.tape,h.output,by simp[World.setCell];exact h.size,fun k hk hn=>(Y0 _ _ _ _ (by rintro rfl;rcases hp with hp|hp;exact hn hp;omega)).trans (h.keep k hk hn)⟩
abbrev WO:=@World.putObj_heap_other
theorem Wr.putObj {M:Nat->Prop}{w w':Wd}(h:Wr M w w'){l:Nat}(hl:M l\/w.heap.size<=l)(o:Obj):Wr M w (w'.putObj l o) :=
 ⟨h.os,h.tape,h.output,by simp;exact h.size,fun k hk hn=>(WO (by rintro rfl;rcases hl with hl|hl;exact hn hl;omega)).trans (h.keep k hk hn)⟩
theorem Wr.of_below (h:Bw w w')(M:Nat->Prop):Wr M w w':=⟨h.os,h.tape,h.output,h.size,fun k hk _=>h.block k hk⟩
theorem Wr.below (h:Wr M w w')(hM:∀ k,M k->n₀<=k)(hn:n₀<=w.heap.size):Below n₀ w w' :=
 ⟨h.os,h.tape,h.output,h.size,fun k hk=>h.keep k (by omega) (fun e=>by have:=hM k e;omega)⟩
theorem Wr.of_grown (h:w.grownBy w' row)(M:Nat->Prop)(hM:∀ k,row=some k->M k):Wr M w w' :=
 ⟨h.os,h.tape,h.output,h.size,fun k hk hn=>h.block k hk (fun e=>hn (hM k e.symm))⟩
section
variable {F:Fence}{α:Type}
def Gk (n₀:Nat)(J:List α->(Nat->Prop)->Wd->Prop):Prop:=∀ pre M W,J pre M W->∀ k,M k->n₀<=k/\k<W.heap.size
def Minds (n₀:Nat)(J:List α->(Nat->Prop)->Wd->Prop):Prop:=∀ pre M W W',J pre M W->Wr (fun k=>n₀<=k/\¬ M k) W W'->J pre M W'
def Gives (F:Fence)(n d:Nat)(P:Program)(g:Nat)(lb:Array Value)(encs:α->Array Value)(n₀:Nat)(Bx:Nat->Prop)(xs:List α)(w:Wd):Prop :=
 ∀ (l:Nat) (J:List α->(Nat->Prop)->Wd->Prop) (M:Nat->Prop) (W:Wd),Gk n₀ J->Minds n₀ J->Wr (fun k=>n₀<=k/\¬ Bx k) w W->(∀ k,Bx k->¬ M k) ->
  (∀ pre x M W1,J pre M W1->(∃ suf,pre++x::suf=xs)->YieldAt F (n-1-d) P l (encs x) W1 fun e W' =>
   e=.returned (.bool true)/\∃ M',J (pre++[x]) M' W'/\Wr M W1 W'/\∀ k,M' k->M k\/W1.heap.size<=k) ->
  J [] M W ->
  CallsIn F n P g (#[.func (.yield l) #[] #[]]++lb) W fun e W'=>(∃ v,e=.returned v)/\∃ M',J xs M' W'/\Wr (fun k=>n₀<=k) W W'/\∀ k,M' k->M k\/W.heap.size<=k
abbrev Y7:=@World.putObj_heap_same
theorem I7 {g:Operand}{ps:Array Tmp}{assign body:Code}{a:Act}(hro:F.round=none)(h1:1<=n){lb:Array Value}(hg:a.eval g=.func (.func gf) #[] lb)
 (hFg:F.fn gf) (eg:∀ args w,(callFunc gf args).run P w=.ok (.enter gf args) w) {encs:α->Array Value} {n₀:Nat} {Bx:Nat->Prop} {xs:List α} {d:Nat} (hseq:Gives F (n-1) d P gf lb encs n₀ Bx xs w) (hn0:n₀<=w.heap.size)
 (hBx:∀ k,Bx k->k<w.heap.size) (hps:∀ x,(encs x).size=ps.size) (I:List α->(Nat->Prop)->Wd->Prop) (hOw:Gk n₀ I) (hMi:Minds n₀ I) (M0:Nat->Prop) (hM0:∀ k,Bx k->¬ M0 k) (h0:I [] M0 w)
 (Ax:α->Act->Wd->Wd->Prop) (hAx:∀ x a' W W1 W2 l,l<W.heap.size->Ax x a' W W1->Wr (· = l) W1 W2->Ax x a' W W2)
 (hassign:∀ (l:Nat) (pre:List α) (x:α) (M:Nat->Prop) (W:Wd) (K:Act->Wd->Prop),I pre M W->(∀ a' W',Wr (fun _=>False) W W'->Ax x a' W W'->K a' W') ->
  assign.wpIn (F.inRound l) (n-1-1-d) P (Exit.then K (fun _ _ _=>False)) { tmps:=(ps.zip (encs x)).foldl (fun t (p,v)=>t.setIfInBounds p v) a.tmps,defers:=[] } W)
 (hbody:∀ (l:Nat) (pre:List α) (x:α) (a':Act) (M:Nat->Prop) (W0 W:Wd),I pre M W->Ax x a' W0 W->W0.heap.size<=W.heap.size->w.heap.size<=W0.heap.size->(∃ suf,pre++x::suf=xs)->body.wpIn (F.inRound l) (n-1-1-d) P
  (fun e _ W'=>match e with|.normal=>∃ M',I (pre++[x]) M' W'/\Wr (fun k=>M k\/W0.heap.size<=k) W W'/\(∀ k,M' k->M k\/W0.heap.size<=k)|_=>False) a' W)
 (hdone:∀ (D:Nat) (M:Nat->Prop) (W:Wd),w.heap.size<=D->¬ M D->I xs M W->(∀ k,M k->M0 k\/w.heap.size<=k)->Wr (fun k=>n₀<=k) w W->W.heap[D]?=some (.deferred (some []))->Q .normal { a with defers:={ target:=.collected D,args:=#[] }::a.defers } W) :
 (Code.rangeFunc g ps assign body).wpIn F n P Q a w:=by
 refine wpIn_rangeFunc ?_;intro fn gn;rw[hro]
 let rec0:LoopState->Loop:=fun st=>{ state:=st,pending:=none,fn,tmps:=a.tmps,params:=ps,assign,body,defers:=w.heap.size }
 obtain⟨W1,g1⟩:=Ex ((w.alloc (.deferred (some []))).alloc (.loop (rec0 .ready)));have gt:W1.heap[w.heap.size+1]?=some (.loop (rec0 .ready)):=by
  rw[g1];have:=World.alloc_heap_new (w.alloc (.deferred (some []))) (.loop (rec0 .ready))
  rwa [Wi] at this
 have gv:W1.heap[w.heap.size]?=some (.deferred (some [])):=by
  rw[g1];exact(Xd _ _ _ (by simp)).trans (World.alloc_heap_new w _)
 have g5:∀ N:Nat->Prop,Wr N w W1:=fun N=>by rw[g1];exact((Wr.refl N w).alloc _).alloc _
 have g2:=hOw [] M0 w h0;have gu:I [] M0 W1:=hMi _ _ _ _ h0 (g5 _)
 refine⟨w.heap.size+1,[{ target:=.collected w.heap.size,args:=#[] }],W1,{ target:=.fn (.func gf) lb,args:=#[.func (.yield (w.heap.size+1)) #[] #[]] },W1,gf,
  #[.func (.yield (w.heap.size+1)) #[] #[]]++lb,W1,?_,?_,?_,?_,fun _=>h1,?_⟩
 . rw[g1];exact run_enterLoop_outer _ _ _ _ _
 . simp only[resolve,hg];simp[go_sem]
 . intro f' gc;simp[Target.leads] at gc;subst gc;exact hFg
 . simp[invoke,go_sem,eg]
 refine(hseq (w.heap.size+1)
  (fun pre N W=>∃ M,I pre M W/\(∀ k,N k↔(M k\/k=w.heap.size+1\/k=w.heap.size))/\¬ M (w.heap.size+1)/\¬ M w.heap.size/\(∀ k,M k->M0 k\/w.heap.size<=k) /\
   W.heap[w.heap.size+1]?=some (.loop (rec0 .ready))/\W.heap[w.heap.size]?=some (.deferred (some [])))
  (fun k=>M0 k\/k=w.heap.size+1\/k=w.heap.size) W1 ?_ ?_ (g5 _) ?_ ?_ ?_).mono ?_
 ·rintro pre N W ⟨M,hi,hN,_,_,_,hl,hd⟩ k hk;rcases(hN k).1 hk with hk|hk|hk
  . exact hOw _ _ _ hi k hk
  . subst hk;exact⟨by omega,(VP.1 hl).1⟩
  . subst hk;exact⟨hn0,(VP.1 hd).1⟩
 ·rintro pre N W W' ⟨M,hi,hN,h2,h3,h4,hl,hd⟩ hw;refine⟨M,hMi _ _ _ _ hi ?_,hN,h2,h3,h4,?_,?_⟩
  . exact⟨hw.os,hw.tape,hw.output,hw.size,fun k hk hn=>hw.keep k hk (fun⟨a,b⟩=>hn ⟨a,fun e=>b ((hN k).2 (.inl e))⟩)⟩
  . exact(hw.keep _ (VP.1 hl).1 (fun⟨_,b⟩=>b ((hN _).2 (.inr (.inl rfl))))).trans hl
  . exact(hw.keep _ (VP.1 hd).1 (fun⟨_,b⟩=>b ((hN _).2 (.inr (.inr rfl))))).trans hd
 ·intro k hk hm;have:=hBx k hk;rcases hm with hm|hm|hm
  . exact hM0 k hk hm
  . omega
  . omega
 ·rintro pre x N W ⟨M,hi,hN,h2,h3,h4,hl,hd⟩ gd;have g9:w.heap.size+1<W.heap.size:=(VP.1 hl).1;have hy:=run_yield (P:=P) (args:=encs x) hl (hps x);refine⟨fn,_,assign,body,hy,roundIn_of_wpIn gn (hassign _ pre x M W _ hi ?_)⟩;intro a' Wa g0 gr;have gj:=(g0.keep _ g9 (fun h=>h)).trans hl;have gp:=(g0.keep _ (by omega) (fun h=>h)).trans hd;have g6:w.heap.size+1<Wa.heap.size:=by have:=g0.size;omega
  refine⟨_,run_beginRound gj rfl,?_⟩;have gl:I pre M Wa:=hMi _ _ _ _ hi (g0.mono (fun _ h=>h.elim));have g7:Wr (· = w.heap.size+1) Wa (Wa.putObj (w.heap.size+1) (.loop { rec0 .ready with state:=.busy })):=(Wr.refl (· = w.heap.size+1) Wa).putObj (l:=w.heap.size+1) (.inl rfl) _;have gk:I pre M (Wa.putObj (w.heap.size+1) (.loop { rec0 .ready with state:=.busy })):=hMi _ _ _ _ gl (g7.mono (fun k e=>by have e':k=w.heap.size+1:=e;subst e';exact⟨by omega,h2⟩));have gi:(Wa.putObj (w.heap.size+1) (.loop { rec0 .ready with state:=.busy })).heap[w.heap.size+1]?=some (.loop { rec0 .ready with state:=.busy }):=Y7 g6;have go:(Wa.putObj (w.heap.size+1) (.loop { rec0 .ready with state:=.busy })).heap[w.heap.size]?=some (.deferred (some [])):=(WO (by omega)).trans gp;refine wpIn_mono (hbody _ pre x a' M W _ gk (hAx _ _ _ _ _ _ g9 gr g7) (by simp;exact g0.size) (by omega) gd) ?_;intro e a3 W3 hp;cases e with
  | normal =>
    obtain⟨M',gm,g4,g3⟩:=hp;have ga:=(g4.keep _ (by simp;exact g6) (fun e=>by rcases e with e|e;exact h2 e;omega)).trans gi;have gq:=(g4.keep _ (by simp;omega) (fun e=>by rcases e with e|e;exact h3 e;omega)).trans go;have ge:=(VP.1 ga).1;have g8:¬ M' (w.heap.size+1):=fun e=>by rcases g3 _ e with h|h;exact h2 h;omega
    have gh:¬ M' w.heap.size:=fun e=>by rcases g3 _ e with h|h;exact h3 h;omega
    refine⟨_,_,run_endRound (P:=P) none ga,rfl,fun k=>M' k\/k=w.heap.size+1\/k=w.heap.size,⟨M',?_,fun k=>Iff.rfl,g8,gh,?_,Y7 ge,(WO (by omega)).trans gq⟩,?_,?_⟩
    . exact hMi _ _ _ _ gm ((Wr.refl _ _).putObj (.inl ⟨by omega,g8⟩) _)
    ·intro k hk;rcases g3 k hk with h|h
     . exact h4 k h
     . right;omega
    ·refine((((g0.mono (N:=N) (fun _ h=>h.elim)).putObj (l:=w.heap.size+1) (.inl ((hN _).2 (.inr (.inl rfl)))) _).trans (N:=N) g4 (fun k _ h=>h) (fun k hk h=>?_)).putObj (l:=w.heap.size+1) (.inl ((hN _).2 (.inr (.inl rfl)))) _);rcases h with h|h
     . exact(hN k).2 (.inl h)
     . omega
    ·rintro k (hk|hk)
     ·rcases g3 k hk with h|h
      . exact .inl ((hN k).2 (.inl h))
      . exact .inr h
     . exact .inl ((hN k).2 (.inr hk))
  | ret=>exact hp.elim
  | exit id=>exact hp.elim
  | goto t=>exact hp.elim
  | panic ch=>exact hp.elim
  | outgrown=>exact hp.elim
 . exact⟨M0,gu,fun k=>Iff.rfl,fun e=>by have:=(g2 _ e).2;omega,fun e=>by have:=(g2 _ e).2;omega,fun k h=>.inl h,gt,gv⟩
 ·rintro e W2 ⟨⟨v,rfl⟩,N,⟨M,hi,hN,h2,h3,h4,hl,hd⟩,gg,_⟩;refine⟨none,_,run_endLoop (P:=P) hl (by simp[rec0]),hdone _ M _ (VQ _) h3 ?_ h4 ?_ ((WO (by omega)).trans hd)⟩
  . exact hMi _ _ _ _ hi ((Wr.refl _ _).putObj (.inl ⟨by omega,h2⟩) _)
  . exact((g5 (fun k=>n₀<=k)).trans gg (fun _ _ h=>h) (fun _ _ h=>h)).putObj (.inl (by omega)) _
end
structure Caught (sb:Nat)(er:Int)(evt:Bool)(ev:Ev)(w w':Wd):Prop where
 size:w.heap.size<=w'.heap.size
 os:w'.os=w.os
 tape:w'.tape=w.tape
 output:w'.output=w.output
 keep:∀ k,k<w.heap.size->k≠sb->w'.heap[k]?=w.heap[k]?
 blk:w'.heap[sb]?=some (.cells #[Iv er,.bool evt,Iv ev.after,Iv ev.kind,Iv ev.level] 235 (0,0))
theorem KR {er:Int}{evt:Bool}{a0 a1 a2 a3 a4:Value}(hs:w.heap[sb]?=some (.cells #[a0,a1,a2,a3,a4] 235 (0,0)))(ob:Obj) :
 Caught sb er evt ev w ((((((w.setCell (Av sb) (Iv er)).setCell (Aw sb 1) (.bool evt)).setCell (Aw sb 2) (Iv ev.after)).setCell (Aw sb 3) (Iv ev.kind)).setCell (Aw sb 4) (Iv ev.level)).alloc ob):=by
 have w1:=(Wr.refl (· = sb) w).setCell (p:=Av sb) (.inl rfl) (Iv er);have h1:(w.setCell (Av sb) (Iv er)).heap[sb]?=some (.cells #[Iv er,a1,a2,a3,a4] 235 (0,0)):=A7 hs _
 generalize w.setCell (Av sb) (Iv er)=W1 at *
 have w2:=w1.setCell (p:=Aw sb 1) (.inl rfl) (.bool evt);have h2:(W1.setCell (Aw sb 1) (.bool evt)).heap[sb]?=some (.cells #[Iv er,.bool evt,a2,a3,a4] 235 (0,0)):=A7 h1 _
 generalize W1.setCell (Aw sb 1) (.bool evt)=W2 at *
 have w3:=w2.setCell (p:=Aw sb 2) (.inl rfl) (Iv ev.after);have h3:(W2.setCell (Aw sb 2) (Iv ev.after)).heap[sb]?=some (.cells #[Iv er,.bool evt,Iv ev.after,a3,a4] 235 (0,0)):=A7 h2 _
 generalize W2.setCell (Aw sb 2) (Iv ev.after)=W3 at *
 have w4:=w3.setCell (p:=Aw sb 3) (.inl rfl) (Iv ev.kind);have h4:(W3.setCell (Aw sb 3) (Iv ev.kind)).heap[sb]?=some (.cells #[Iv er,.bool evt,Iv ev.after,Iv ev.kind,a4] 235 (0,0)):=A7 h3 _
 generalize W3.setCell (Aw sb 3) (Iv ev.kind)=W4 at *
 have w5:=w4.setCell (p:=Aw sb 4) (.inl rfl) (Iv ev.level);have h5:(W4.setCell (Aw sb 4) (Iv ev.level)).heap[sb]?=some (.cells #[Iv er,.bool evt,Iv ev.after,Iv ev.kind,Iv ev.level] 235 (0,0)):=A7 h4 _
 generalize W4.setCell (Aw sb 4) (Iv ev.level)=W5 at *
 have w6:=w5.alloc ob;exact⟨w6.size,w6.os,w6.tape,w6.output,fun k hk g0=>w6.keep k hk g0,(Wk _ _ (VP.1 h5).1).trans h5⟩
theorem PN (v:Value)(w:Wd):(Instr.typeAssert (.iface 235 v) 20 235 true).run prog w=.ok (.tuple #[v,.bool true]) w:=by
 simp[Instr.typeAssert,WE underlying235,go_sem,Result.andThen]
theorem PO (dn st:Addr)(w:Wd)(hd:w.cell? dn=some (.bool true)) :
 CallsD prog 263 #[.pointer (some dn),.pointer (some st)] .returning w fun e u' w'=>e=.returned (.tuple #[])/\u'=.returning/\w'=w:=by
 refine callsD_of_wpS func263 rfl fun c₀ cs hu=>?_
 apply wpS_seq;apply wpS_seq;apply wpS_region;simp[wpOpsS,go_sem,hd,ntmps263,Exit.thenS];refine wpS_cond (t:=true) (by simp[Act.eval,Array.replicate]) ?_;simp only[Xb];refine wpS_of_wp (wp_ret ?_);cases c₀
 simp_all [Exit.thenS,bodyPostS,results,Tryz.results263]
abbrev Xq:=@Array.replicate_succ
abbrev Xr:=@Array.replicate_zero
abbrev X3:=@List.push_toArray
abbrev Xt:=@List.append_toArray
abbrev Xy:=@List.cons_append
abbrev XU:=@Bool.false_eq_true
theorem PQ (dn sb:Nat)(er:Int)(evt:Bool)(ev:Ev)(older:List PanicEntry)(w:Wd)(a0 a1 a2 a3 a4:Value)(hd:w.cell? (Av dn)=some (.bool false))(hs:w.heap[sb]?=some (.cells #[a0,a1,a2,a3,a4] 235 (0,0))) :
 CallsD prog 263 #[Pt dn,Pt sb] (.panicking ({ v:=.iface 235 (.agg #[Iv er,.bool evt,Iv ev.after,Iv ev.kind,Iv ev.level]),recovered:=false }::older)) w fun e u' w' =>
  e=.returned (.tuple #[])/\u'=.panicking ({ v:=.iface 235 (.agg #[Iv er,.bool evt,Iv ev.after,Iv ev.kind,Iv ev.level]),recovered:=true }::older) /\
  Caught sb er evt ev w w':=by
 refine callsD_of_wpS func263 rfl fun c₀ cs hu=>?_
 simp only[ntmps263,Xc,Wp,Xi,Nat.reduceAdd,Nat.reduceSub,Xq,Xr,X3,Xt,WQ,Xy];apply wpS_seq;apply wpS_seq;apply wpS_region;simp[wpOpsS,go_sem,hd,Exit.thenS];refine wpS_cond (t:=false) (by simp[Act.eval]) ?_;simp only[XU,if_false];refine wpS_of_wp (wp_skip ?_);simp only[Exit.thenS];apply wpS_seq;apply wpS_region;simp[wpOpsS,go_sem,recoverD,hu,Exit.thenS];have lsb:sb<w.heap.size:=(VP.1 hs).1;obtain⟨c0,c1,c2,c3,c4,f0⟩:=cells5 hs;refine wpS_of_wp (wp_mono (Q:=fun e a' w'=>e=.normal/\a'.defers=[]/\Caught sb er evt ev w w') ?_ ?_)
 ·have HS:=Hd hs;have g0:=fun v=>PN v w
  clear hs;go_wp2_with fail
  first|exact⟨rfl,rfl,KR HS.o _⟩|exact KR HS.o _
 . rintro e a' w' ⟨rfl,h1,h2⟩;refine⟨h1,_,rfl,_,Wy rfl _ _ _,?_⟩;exact⟨rfl,rfl,h2⟩
abbrev Stop:=Int×Bool×Ev
def I8 (r:Option Stop):Value :=
 match r with
 | some (er,evt,ev)=>.agg #[.int .i64 er,.bool evt,.int .i64 ev.after,.int .i64 ev.kind,.int .i64 ev.level]
 | none=>.agg #[.int .i64 0,.bool false,.int .i64 0,.int .i64 0,.int .i64 0]
def tryW (mb:Nat)(w:Wd):Wd :=
 ((w.alloc (.cells #[Iv 0,.bool false,Iv 0,Iv 0,Iv 0] 235)).alloc (.cells #[.bool false] 4)).alloc (.cells #[Pt mb] 233)
def PR (w:Wd)(R:Option Stop->Wd->Prop)(x:Ending)(w':Wd):Prop :=
 ∃ r W',R r W'/\Wr (fun k=>k=w.heap.size\/k=w.heap.size+1) W' w'/\x=.returned (.tuple #[I8 r,.bool r.isNone])
def Ff (gf:Nat)(lb:Array Value)(mb:Nat)(w:Wd)(R:Option Stop->Wd->Prop):Prop :=
 Calls prog gf (#[Pt (w.heap.size+2)]++lb) (tryW mb w) fun e W' =>
  (tryW mb w).heap.size<=W'.heap.size/\W'.heap[w.heap.size]?=(tryW mb w).heap[w.heap.size]?/\W'.heap[w.heap.size+1]?=(tryW mb w).heap[w.heap.size+1]? /\
   ((e=.returned (.tuple #[])/\R none W')\/∃ er evt ev,e=AQ er evt ev/\R (some (er,evt,ev)) W')
theorem PS {s:Nat}(h0:W.heap[s]?=some (.cells #[Iv 0,.bool false,Iv 0,Iv 0,Iv 0] 235 (0,0)))(h1:W.heap[s+1]?=some (.cells #[.bool false] 4 (0,0))){W2:Wd}
 (hW:W2=(((((W.setCell (Av s) (Iv 0)).setCell (Aw s 1) (.bool false)).setCell (Aw s 2) (Iv 0)).setCell (Aw s 3) (Iv 0)).setCell (Aw s 4) (Iv 0)).setCell (Av (s+1)) (.bool true)) :
 Wr (fun k=>k=s\/k=s+1) W W2/\W2.heap[s]?=some (.cells #[Iv 0,.bool false,Iv 0,Iv 0,Iv 0] 235 (0,0))/\W2.heap[s+1]?=some (.cells #[.bool true] 4 (0,0)):=by
 have n1:s+1≠s:=by omega
 have w1:=(Wr.refl (fun k=>k=s\/k=s+1) W).setCell (p:=Av s) (.inl (.inl rfl)) (Iv 0);have a1:(W.setCell (Av s) (Iv 0)).heap[s]?=some (.cells #[Iv 0,.bool false,Iv 0,Iv 0,Iv 0] 235 (0,0)):=A7 h0 _;have b1:=(A0 (p:=Av s) (w:=W) n1 (Iv 0)).trans h1
 generalize W.setCell (Av s) (Iv 0)=W1 at *
 have w2:=w1.setCell (p:=Aw s 1) (.inl (.inl rfl)) (.bool false);have a2:(W1.setCell (Aw s 1) (.bool false)).heap[s]?=some (.cells #[Iv 0,.bool false,Iv 0,Iv 0,Iv 0] 235 (0,0)):=A7 a1 _;have b2:=(A0 (p:=Aw s 1) (w:=W1) n1 (.bool false)).trans b1
 generalize W1.setCell (Aw s 1) (.bool false)=W3 at *
 have w3:=w2.setCell (p:=Aw s 2) (.inl (.inl rfl)) (Iv 0);have a3:(W3.setCell (Aw s 2) (Iv 0)).heap[s]?=some (.cells #[Iv 0,.bool false,Iv 0,Iv 0,Iv 0] 235 (0,0)):=A7 a2 _;have b3:=(A0 (p:=Aw s 2) (w:=W3) n1 (Iv 0)).trans b2
 generalize W3.setCell (Aw s 2) (Iv 0)=W4 at *
 have w4:=w3.setCell (p:=Aw s 3) (.inl (.inl rfl)) (Iv 0);have a4:(W4.setCell (Aw s 3) (Iv 0)).heap[s]?=some (.cells #[Iv 0,.bool false,Iv 0,Iv 0,Iv 0] 235 (0,0)):=A7 a3 _;have b4:=(A0 (p:=Aw s 3) (w:=W4) n1 (Iv 0)).trans b3
 generalize W4.setCell (Aw s 3) (Iv 0)=W5 at *
 have w5:=w4.setCell (p:=Aw s 4) (.inl (.inl rfl)) (Iv 0);have a5:(W5.setCell (Aw s 4) (Iv 0)).heap[s]?=some (.cells #[Iv 0,.bool false,Iv 0,Iv 0,Iv 0] 235 (0,0)):=A7 a4 _;have b5:=(A0 (p:=Aw s 4) (w:=W5) n1 (Iv 0)).trans b4
 generalize W5.setCell (Aw s 4) (Iv 0)=W6 at *
 subst hW;exact⟨w5.setCell (p:=(Av (s+1))) (.inl (.inr rfl)) _,(A0 (WP n1) _).trans a5,A7 b5 _⟩
theorem PT (mb gf:Nat)(lb:Array Value)(w:Wd)(R:Option Stop->Wd->Prop)(eg:∀ args w,(callFunc gf args).run prog w=.ok (.enter gf args) w)(hop:Ff gf lb mb w R) :
 Cl 242 #[Pt mb,.func (.func gf) #[] lb] w (PR w R):=by
 have gg:∀ (fn:Fn) (first cap:Array Value) (w:Wd),(Instr.makeFunc fn first cap).run prog w=.ok (.func fn first cap) w:=fun _ _ _ _=>rfl
 unfold Ff at hop;obtain⟨W,hW⟩:=Ex (tryW mb w);have HW:Hq (_=W):=Hd hW.symm;rw[<- hW] at hop;have g8:=Hd hop;clear hop hW
 go_enter_defers func242,ntmps242
 go_wp2_with fail
 change Calls _ _ _ (tryW mb w) _
 have g4:(tryW mb w).heap[w.heap.size]?=some (.cells #[Iv 0,.bool false,Iv 0,Iv 0,Iv 0] 235 (0,0)):=by
  unfold tryW;exact(Wk _ _ (by simp;omega)).trans ((Wk _ _ (by simp)).trans (VT w _))
 have g3:(tryW mb w).heap[w.heap.size+1]?=some (.cells #[.bool false] 4 (0,0)):=by
  unfold tryW;refine(Wk _ _ (by simp)).trans ?_;have:=VT (w.alloc (.cells #[Iv 0,.bool false,Iv 0,Iv 0,Iv 0] 235)) (.cells #[.bool false] 4)
  rwa [Wi] at this
 rw[HW.o] at g4 g3 ⊢;have gc:W.heap.size=w.heap.size+3:=by rw[<- HW.o];simp[tryW]
 refine g8.o.mono ?_;rintro e W' ⟨gd,g7,g6,g5⟩;have g1:=g7.trans g4;have g0:=g6.trans g3;obtain⟨c0,c1,c2,c3,c4,f0⟩:=cells5 g1;have c5:W'.cell? (Av (w.heap.size+1))=some (.bool false):=by rw[VR W' _ 0 _ _ _ g0];rfl
 have f1:∀ k,W'.frozen? ⟨w.heap.size+1,k,none⟩=false:=fun k=>by simp[World.frozen?,g0]
 obtain⟨s,hs⟩:=Ex w.heap.size;rw[<- hs] at g1 g0 c0 c1 c2 c3 c4 f0 c5 f1 ⊢;have hs1:s<W'.heap.size:=by omega
 have ge:s+1<W'.heap.size:=by omega
 have ga:=Hd g1;have g9:=Hd g0;have HS:=Hd hs;clear g4 g3 g7 g6 g1 g0 hs gc gd g8 HW;rcases g5 with ⟨rfl,hr⟩|⟨er,evt,ev,rfl,hr⟩
 ·have HR:=Hd hr;clear hr;go_wp2_with fail;obtain⟨W2,g2⟩:=Ex ((((((W'.setCell (Av s) (Iv 0)).setCell (Aw s 1) (.bool false)).setCell (Aw s 2) (Iv 0)).setCell (Aw s 3) (Iv 0)).setCell (Aw s 4) (Iv 0)).setCell (Av (s+1)) (.bool true));obtain⟨q1,q2,q3⟩:=PS ga.o g9.o g2;rw[<- g2];clear g2 c0 c1 c2 c3 c4 f0 c5 f1;obtain⟨c0,c1,c2,c3,c4,f0⟩:=cells5 q2;have c5:W2.cell? (Av (s+1))=some (.bool true):=by rw[VR W2 _ 0 _ _ _ q3];rfl
  refine leaves_cons (f:=263) (args:=#[Pt (s+1),Pt s]) (by simp) (by simp[go_sem]) ?_;refine(PO (Av (s+1)) (Av s) _ c5).mono ?_;rintro e u' w'' ⟨rfl,rfl,rfl⟩;simp[Leaves,settle,results,Tryz.results242,go_sem,c0,c1,c2,c3,c4,c5];exact⟨none,W',HR.o,by rw[<- HS.o];exact q1,rfl⟩
 ·have HR:=Hd hr;clear hr;unfold AQ;go_wp2_with fail;refine leaves_cons (f:=263) (args:=#[Pt (s+1),Pt s]) (by simp) (by simp[go_sem]) ?_;refine(PQ (s+1) s er evt ev [] _ _ _ _ _ _ c5 ga.o).mono ?_;rintro e u' w'' ⟨rfl,rfl,hc⟩;have q3:=(hc.keep (s+1) ge (by omega)).trans g9.o;clear c0 c1 c2 c3 c4 f0 c5 f1;obtain⟨c0,c1,c2,c3,c4,f0⟩:=cells5 hc.blk;have c5:w''.cell? (Av (s+1))=some (.bool false):=by rw[VR w'' _ 0 _ _ _ q3];rfl
  simp[Leaves,settle,results,Tryz.results242,go_sem,c0,c1,c2,c3,c4,c5];exact⟨some (er,evt,ev),W',HR.o,⟨hc.os,hc.tape,hc.output,hc.size,fun k hk hn=>hc.keep k hk (fun e=>hn (.inl (e.trans HS.o)))⟩,rfl⟩
abbrev Ali (s:Nat)(W W':Wd):Prop:=Wr (fun k=>k=s\/k=s+1) W W'
structure PU (gf:Nat)(lb:Array Value)(mb:Nat)(I:Nat->Bool->Wd->Prop)(Fin:Int->Wd->Prop)(n:Nat)(room:Bool)(W:Wd)(R:Option Stop->Wd->Prop):Prop where
 op:Ff gf lb mb W R
 fin:∀ W1 W2,R none W1->Ali W.heap.size W1 W2->Fin 0 W2
 event:∀ er ev W1 W2,R (some (er,true,ev)) W1->Ali W.heap.size W1 W2->Cl 243 #[Pt mb,evA ev] W2 fun x w'=>x=.returned (.tuple #[])/\∃ n',n'<n/\I n' false w'
 full:∀ ev W1 W2,R (some (7,false,ev)) W1->Ali W.heap.size W1 W2->room=false->Cl 244 #[Pt mb] W2 fun x w'=>(∃ v,x=.returned v)/\I n true w'
 err:∀ er ev W1 W2,R (some (er,false,ev)) W1->Ali W.heap.size W1 W2->¬ (er=7/\room=false)->Fin er W2
theorem KS (mb gf:Nat)(lb:Array Value)(w:Wd)(eg:∀ args w,(callFunc gf args).run prog w=.ok (.enter gf args) w)(I:Nat->Bool->Wd->Prop)(Fin:Int->Wd->Prop)
 (hI:∀ n room W,I n room W->∃ R,PU gf lb mb I Fin n room W R) (n0:Nat) (h0:I n0 false w) :
 Cl 196 #[Pt mb,.func (.func gf) #[] lb] w fun x w'=>∃ er,x=.returned (Iv er)/\Fin er w':=by
 have HI:=Hd hI;clear hI
 go_enter func196,ntmps196
 go_wp2_with fail
 go_loopg [5] (2*n0+1) (fun gk s5 wx=>∃ (n:Nat) (room:Bool),s5=.bool room/\I n room wx/\gk=2*n+(if room then 0 else 1))
 case atStart=>exact⟨n0,false,rfl,h0,rfl⟩
 case round =>
  obtain⟨n,room,rfl,hi,g4⟩:=hrel;obtain⟨R,hR⟩:=HI.o n room wr hi;have g6:=Hd (PT mb gf lb wr R eg hR.op);have HR:=Hd hR;have g5:=Hd g4;clear hi hR g4 h0;go_wp2_with fail;refine g6.o.mono ?_;rintro x w2 ⟨r,W1,hr,hw,rfl⟩;obtain⟨bx,g8⟩:=Ex w2.heap.size;cases r with
  | none =>
    have HF:=Hd fun W2 (h:Wr (fun _=>False) w2 W2)=>HR.o.fin W1 W2 hr (hw.trans h (fun _ _ e=>e) (fun _ _ e=>e.elim))
    clear hr hw;unfold I8;go_wp2_with fail;go_ret;exact⟨0,rfl,HF.o _ ((Wr.refl _ w2).alloc _)⟩
  | some st =>
    obtain⟨er,evt,ev⟩:=st;unfold I8;cases evt with
    | true =>
      have HF:=Hd fun W2 (h:Wr (fun _=>False) w2 W2)=>HR.o.event er ev W1 W2 hr (hw.trans h (fun _ _ e=>e) (fun _ _ e=>e.elim))
      clear hr hw;go_wp2_with fail;refine(HF.o _ ((Wr.refl _ w2).alloc _)).mono ?_;rintro x w3 ⟨rfl,n',g3,g0⟩;have g7:=Hd g3;have g2:=Hd g0;clear g3 g0;go_wp2_with fail
      go_roundg (2*n'+1)
      case rel=>exact⟨n',false,rfl,g2.o,rfl⟩
      case measure=>have h1:=g7.o;have h2:=g5.o;omega
    | false =>
      have HW:=Hd fun W2 (h:Wr (fun _=>False) w2 W2)=>hw.trans h (N:=fun k=>k=wr.heap.size\/k=wr.heap.size+1) (fun _ _ e=>e) (fun _ _ e=>e.elim)
      have g1:=Hd hr;clear hr hw
      by_cases h7:er=7
      ·subst h7;cases room with
       | false =>
         have HF:=Hd fun W2 (h:Wr (fun _=>False) w2 W2)=>HR.o.full ev W1 W2 g1.o (HW.o W2 h) rfl
         go_wp2_with fail;refine(HF.o _ ((Wr.refl _ w2).alloc _)).mono ?_;rintro x w3 ⟨⟨vv,rfl⟩,g0⟩;have g2:=Hd g0;clear g0;go_wp2_with fail
         go_roundg (2*n)
         case rel=>exact⟨n,true,rfl,g2.o,rfl⟩
         case measure=>have h2:=g5.o;simp at h2;omega
       | true =>
         have HF:=Hd fun W2 (h:Wr (fun _=>False) w2 W2)=>HR.o.err 7 ev W1 W2 g1.o (HW.o W2 h) (by simp)
         go_wp2_with fail;go_ret;exact⟨_,rfl,HF.o _ ((Wr.refl _ w2).alloc _)⟩
      ·have H7:((er:Int) == 7)=false:=by simpa using h7
       have HF:=Hd fun W2 (h:Wr (fun _=>False) w2 W2)=>HR.o.err er ev W1 W2 g1.o (HW.o W2 h) (fun e=>h7 e.1)
       go_wp2_with fail;go_ret;exact⟨_,rfl,HF.o _ ((Wr.refl _ w2).alloc _)⟩
theorem KT (hk:Aj d V):Acy (Aa d) (fun i=>d.vars.length-lvE d.vars.length (levN d) (Aa d) (2*i)):=by
 have e2:∀ i:Nat,2*i/2=i:=fun i=>by omega
 have hl:∀ i b,Aa d i=some b->lvE d.vars.length (levN d) (Aa d) (2*i)=levN d b.v:=fun i b h=>by unfold lvE;rw[e2,h]
 have hh:∀ e,lvE d.vars.length (levN d) (Aa d) (2*(e/2))=lvE d.vars.length (levN d) (Aa d) e:=fun e=>Gj (e2 _)
 refine⟨hk.dag.none0,hk.dag.okLo,hk.dag.okHi,fun i b c h1 h2=>?_,fun i b c h1 h2=>?_⟩
 . have a1:=hk.dag.lvLo _ _ h1;have a2:=hk.dag.lt _ (hk.dag.var _ _ h1);have a3:=hh b.lo;rw[hl i b h1];omega
 . have a1:=hk.dag.lvHi _ _ h1;have a2:=hk.dag.lt _ (hk.dag.var _ _ h1);have a3:=hh b.hi;rw[hl i b h1];omega
theorem PV {o:Own}(h:A2 o w sb d)(hlt:Ac o w)(hk:Aj d V)(f:Nat)(hf:okE (Aa d) f)(htop:∀ y b,Aa d y=some b->Ak d y<1099511627776) :
 Cl 227 #[Pt sb,Iv f] w fun x w'=>x=.returned (Iv 0)/\∃ d',A2 o w' sb d'/\Ac o w'/\DC d d' f 1/\Chg Al o o w w':=by
 obtain⟨s,h⟩:=h;have g0:=h.edge_lt hf;rcases hf with h0|⟨b,hb⟩
 . refine(Pq h hlt hk.live f (by unfold eMax;omega) h0).mono ?_;rintro e w' ⟨d',h1,h2,h3,h4,h5⟩;exact⟨h1,d',⟨s,h2⟩,h3,h4,h5⟩
 . refine(Pr h hlt hk.live (KT hk) f (b:=b) hb htop).mono ?_;rintro e w' ⟨d',h1,h2,h3,h4,h5⟩;exact⟨h1,d',⟨s,h2⟩,h3,h4,h5⟩
theorem DC.ok {sg:Int}(r:DC d d' f sg)(hk:Aj d V):Aj d' V:=by
 have hl:levN d'=levN d:=by funext v;unfold levN;rw[r.level]
 exact⟨by rw[r.vars,hl,r.nodes];exact hk.dag,r.live,by rw[r.vars,r.nodes,r.tab];exact hk.tab,by rw[r.clen];exact hk.clen,by rw[r.vars];exact hk.small,by rw[r.vars,hl];exact hk.inv,by rw[r.vars,hl];exact hk.vlt⟩
abbrev WB:=@List.filter_append
theorem PW (hs:List (Int×Nat))(n:Int)(f i:Nat)(hn:1<n):AS (hs++[(n,f)]) i=AS hs i+(if f/2=i then 1 else 0):=by
 unfold AS;rw[WB,VY];congr 1
 by_cases e:f/2=i
 . simp[e,hn]
 ·have:(f/2 == i)=false:=by simp[e]
  simp[e,this,List.filter]
abbrev WV:=@List.length_filter_le
theorem PX (hs:List (Int×Nat))(i:Nat):AS hs i<=hs.length:=WV _ _
structure Gave (K:Law)(o:Own)(w:Wd)(mb:Nat)(m:ManD)(V:Nat->BF)(f:Nat)(o':Own)(w':Wd)(m':ManD):Prop where
 is:AW (K m'.d V) o' w' mb m'
 lt:Ac o' w'
 chg:Chg (fun _=>True) o o' w w'
 ok:E0 m' V
 hs:m'.hs=m.hs++[(m.next,f)]
 next:m'.next=m.next+1
 waits:m'.waits=m.waits
 calls:m'.calls=m.calls
 nodes:Aa m'.d=Aa m.d
 vars:m'.d.vars=m.d.vars
 level:m'.d.level=m.d.level
 room:m'.d.pool.room=m.d.pool.room
 many:m'.d.pool.many=m.d.pool.many
theorem PY (h:C5 m)(r:DC m.d d' f 1)(hf:okE (Aa m.d) f)(h0:Aa m.d 0=none):C5 { m with d:=d',hs:=m.hs++[(m.next,f)],next:=m.next+1 }:=by
 have hn:=h.next
 refine⟨?_,by simp[h.zero],by simp[h.one],?_,by dsimp only;omega,?_,?_,?_⟩
 . dsimp only;rw[Wx,WJ];refine⟨h.nodup,by simp,fun a ha b hb=>?_⟩;simp at hb;subst hb;rintro rfl;obtain⟨p,hp,e⟩:=Wg.1 ha;have:=(h.lt p hp).2;omega
 ·intro p hp;rcases Wj.1 hp with hp|hp
  . have:=h.lt p hp;dsimp only;omega
  . simp at hp;subst hp;dsimp only;omega
 ·intro p hp;dsimp only;rw[r.nodes];rcases Wj.1 hp with hp|hp
  . exact h.ok p hp
  . simp at hp;subst hp;exact hf
 . have:=h.len;simp;omega
 ·intro i b hb;dsimp only at hb ⊢;rw[r.nodes] at hb;have hi:i≠0:=by rintro rfl;rw[h0] at hb;cases hb
  rw[r.ext i hi,h.refs i b hb,PW _ _ _ _ (by omega)];unfold toE;split<;>simp
theorem PZ {k:Int}{l:List (Int×Value)}(h:∀ p∈l,p.1≠k):putL k v l=l++[(k,v)]:=by
 have h1:=Dt.2 h;unfold getL at h1;unfold putL;cases e:AG k l 0 with
 | none=>rfl
 | some p=>rw[e] at h1;cases h1
theorem A8.setMap {F:Phi}{o:Own}{s:ManW}(h:A8 F o w mb m s)(hlt:Ac o w){hs':List (Int×Nat)}(hm:A1 w' s.hb (Value.int .i64) (encH hs'))(hg:w.grownBy w' (some s.hb)):A8 F o w' mb { m with hs:=hs' } s:=by
 have k:∀ {g r},o g=some r->r ≠ .handles->w'.heap[g]?=w.heap[g]?:=fun hq hr=>hg.block _ (hlt _ _ hq) (fun e=>by cases e;have:=h.ownh;rw[hq] at this;cases this;exact hr rfl)
 exact⟨h.own,(k h.own (by simp)).trans h.blk,h.store.keepR (fun g r hq hr=>k hq (by rintro rfl;simp[Al,Bv] at hr)) (fun _ _ h=>h),h.memo.keep (fun g r hq hr=>k hq (by rintro rfl;rcases hr with e|e<;>cases e)) (fun _ _ h=>h),h.ownh,hm,
  h.waits.keep (fun g hq=>k hq (by simp)) (fun _ h=>h)⟩
theorem kI:Dr prog 3 (Value.int .i64):=Km underlying3
theorem I9 (hK:AE K){o:Own}(hm:AW (K m.d V) o w mb m)(hlt:Ac o w)(hk:E0 m V)(f:Nat)(hf:okE (Aa m.d) f)(hb:m.next<1099511627776) :
 Cl 161 #[Pt mb,Iv f] w fun x w'=>x=.returned (Iv m.next)/\∃ o' m',Gave K o w mb m V f o' w' m':=by
 obtain⟨s,hm⟩:=hm;obtain⟨c0,c1,c2,c3,c4,c5,f0⟩:=cells6 hm.blk
 have gh:=Hd (PV hm.store hlt hk.store f hf (fun y b hy=>by
  rw[hk.handles.refs y b hy];have h1:=PX m.hs y;have h2:=hk.handles.len;omega))
 have gl:=hk.handles.next
 have HM:=Hd hm;have HL:=Hd hlt;have HK:=Hd hk;have HF:=Hd hf;have ge:=Hd hK;clear hm hlt hk hf hK
 go_enter func161,ntmps161
 go_wp2_with fail;refine gh.o.mono ?_;rintro x w1 ⟨rfl,d',g8,ga,hr,g3⟩;have g5:=HM.o.setStore HL.o g8 g3;have g0:∀ p∈encH m.hs,p.1≠m.next:=by
  intro p hp e0;obtain⟨q,hq,rfl⟩:=Wg.1 hp;have h1:=HK.o.handles.lt q hq;have h2:q.1<m.next:=h1.2
  have h3:q.1=m.next:=e0
  omega
 have gi:=Hd g0;have g7:=Hd g5;have gd:=Hd ga;have HR:=Hd hr;have gk:=Hd g3;clear g8 ga hr g3 g0 c0 c1 c2 c3 c4 c5 f0;obtain⟨c0,c1,c2,c3,c4,c5,f0⟩:=cells6 g5.blk;clear g5;go_upto_region 3 with fail
 go_wp2_with (refine Kn (l := encH m.hs) rfl _ _ _ rfl kI underlying98 m.next (Iv (f : Nat)) rfl rfl rfl g7.o.map ?_
              intro w2 g2 g1;have g9:Ac o w2:=gd.o.mono g1.size;rw[PZ gi.o] at g2;have g4:=g7.o.setMap gd.o (hs':=m.hs++[(m.next,f)]) (by simpa [encH] using g2) g1;have gc:Chg (fun _=>True) o o w w2:=gk.o.any.grown g1 (fun g hg=>by cases hg;exact⟨_,g7.o.ownh,trivial⟩);have g6:=Hd g4;have gg:=Hd g9;have gj:=Hd gc;clear c0 c1 c2 c3 c4 c5 f0 g2 g1 g9 gc;obtain⟨c0,c1,c2,c3,c4,c5,f0⟩:=cells6 g4.blk;clear g4)
 go_ret;have hr:=HR.o;have gf:A8 (K m.d V) o (w2.setCell (Aw mb 3) (Iv (m.next+1))) mb { m with d:=d',hs:=m.hs++[(m.next,f)],next:=m.next+1 } s:=g6.o.field rfl rfl rfl rfl rfl g6.o.waits rfl;refine⟨rfl,o,_,⟨⟨s,gf.mono fun op a b c r h=>ge.o.same _ _ _ _ _ _ _ _ hr.vars hr.level hr.nodes h⟩,gg.o.mono (by simp[World.setCell]),gj.o.setCell (p:=Aw mb 3) g6.o.own trivial _,⟨hr.ok HK.o.store,PY HK.o.handles hr HF.o HK.o.store.dag.none0⟩,rfl,rfl,rfl,rfl,hr.nodes,hr.vars,hr.level,hr.room,hr.many⟩⟩
def doW (gop:Nat)(lop:Array Value)(w:Wd):Wd:=(w.alloc (.cells #[.func (.func gop) #[] lop] 182)).alloc (.cells #[Iv 0] 101)
abbrev XH:=@enters_of
theorem Qa:∀ args w,(callFunc 197 args).run prog w=.ok (.enter 197 args) w:=XH func197 (by kernel_rfl) rfl
theorem Qb (w:Wd)(g:Fn)(fs cs:Array Value):(binOp .eql 182 (.func g fs cs) .nilFunc).run prog w=.ok (.bool false) w:=by
 have hd:Op.maxDepth=9999+1:=rfl;have h:(Op.equal 182 (.func g fs cs) .nilFunc).run prog w=.ok false w:=by
  unfold Op.equal;rw[hd];unfold Op.equalIn;simp only[Xl,WE underlying182,WD];simp
 simp only[binOp];simp[h]
def varF (v:Nat):BF:=fun ρ=>ρ v
theorem Qc:∀ args w,(callFunc 144 args).run prog w=.ok (.enter 144 args) w:=XH func144 (by kernel_rfl) rfl
theorem KU (w:Wd):(zeroValue 101).run prog w=.ok (Iv 0) w:=by
 have s:(prog.info? 101).map (fun i=>i.zero)=some (some (Iv 0)):=by kernel_rfl
 cases hi:prog.info? 101 with
 | none=>rw[hi] at s;cases s
 | some i =>
   rw[hi] at s;simp only[Xj,WI] at s;simp[zeroValue,typeInfo,hi,s]
theorem E4 {hs:List (Int×Nat)}(h:(hs.map Prod.fst).Nodup):((encH hs).map Prod.fst).Nodup:=by
 have:(encH hs).map Prod.fst=hs.map Prod.fst:=by simp[encH]
 rw[this];exact h
section
variable {F:Phi}{o:Own}{s:ManW}
theorem E5 (h:A8 F o w mb m s)(hn:(m.hs.map Prod.fst).Nodup){k:Int}(hk:(k,f)∈m.hs) :
 (Instr.lookup 98 (.map (some s.hb)) (Iv k) true).run prog w=.ok (.tuple #[Iv f,.bool true]) w:=by
 have h1:=h.map.lookup kI underlying98 KU k true;have h2:getL (encH m.hs) k=some (Iv (f:Nat)):=DY (E4 hn) (Wg.2 ⟨(k,f),hk,rfl⟩);rw[h1,h2];rfl
theorem Qd (h:A8 F o w mb m s){k:Int}(hk:∀ f,(k,f)∉m.hs) :
 (Instr.lookup 98 (.map (some s.hb)) (Iv k) true).run prog w=.ok (.tuple #[Iv 0,.bool false]) w:=by
 have h1:=h.map.lookup kI underlying98 KU k true
 have h2:getL (encH m.hs) k=none:=Dt.2 (by
  rintro p hp rfl;obtain⟨q,hq,rfl⟩:=Wg.1 hp;exact hk q.2 hq)
 rw[h1,h2];rfl
end
theorem Fg {F:Phi}{o:Own}(h:AW F o w mb m)(hx:Bs o w xb mb)(hn:(m.hs.map Prod.fst).Nodup){k:Int}(hk:(k,f)∈m.hs) :
 Cl 148 #[Pt xb,Iv k] w (Sm (Iv f) w):=by
 obtain⟨s,h⟩:=h;obtain⟨c0,c1,c2,c3,c4,c5,f0⟩:=cells6 h.blk;have cx:=hx.cell;have hl:=E5 h hn hk;clear h hx hn hk
 go_enter func148,ntmps148
 go_wp2_with fail;go_ret;exact⟨rfl,rfl⟩
theorem VN {F:Phi}{o:Own}(h:AW F o w mb m) :
 Cl 73 #[Pt mb] w (Sm (Iv m.hs.length) w):=by
 obtain⟨s,h⟩:=h;obtain⟨c0,c1,c2,c3,c4,c5,f0⟩:=cells6 h.blk;have hl:=h.map.size (P:=prog) underlying98 3;have e:(encH m.hs).length=m.hs.length:=by simp[encH]
 rw[e] at hl;clear h e
 go_enter func73,ntmps73
 go_wp2_with fail;go_ret;exact⟨rfl,rfl⟩
theorem Qe:∀ args w,(callFunc 146 args).run prog w=.ok (.enter 146 args) w:=XH func146 (by kernel_rfl) rfl
def box3 (a b c:Int)(w:Wd):Wd:=((w.alloc (.cells #[Iv a] 3)).alloc (.cells #[Iv b] 3)).alloc (.cells #[Iv c] 3)
theorem Qf (a b c:Int)(w:Wd):Bw w (box3 a b c w)/\(box3 a b c w).cell? (Av w.heap.size)=some (Iv a)/\(box3 a b c w).cell? (Av (w.heap.size+1))=some (Iv b)/\(box3 a b c w).cell? (Av (w.heap.size+2))=some (Iv c):=by
 have h0:=VT w (.cells #[Iv a] 3);have h1:=VT (w.alloc (.cells #[Iv a] 3)) (.cells #[Iv b] 3);have h2:=VT ((w.alloc (.cells #[Iv a] 3)).alloc (.cells #[Iv b] 3)) (.cells #[Iv c] 3);rw[Wi] at h1;rw[Wi,Wi] at h2;have a0:(box3 a b c w).heap[w.heap.size]?=some (.cells #[Iv a] 3 (0,0)):=(Wk _ _ (by simp;omega)).trans ((Wk _ _ (by simp)).trans h0);have a1:(box3 a b c w).heap[w.heap.size+1]?=some (.cells #[Iv b] 3 (0,0)):=(Wk _ _ (by simp)).trans h1;have a2:(box3 a b c w).heap[w.heap.size+2]?=some (.cells #[Iv c] 3 (0,0)):=h2;exact⟨((Af w _).alloc (by simp) _).alloc (by simp;omega) _,by rw[VR _ _ 0 _ _ _ a0];rfl,by rw[VR _ _ 0 _ _ _ a1];rfl,by rw[VR _ _ 0 _ _ _ a2];rfl⟩
def man0 (n room:Nat):ManD:=⟨store0 n room,[(0,1),(1,0)],2,[],0⟩
theorem nodes0 (n room:Nat):Aa (store0 n room)=fun _=>none:=by
 funext i;have ht:(pool0 room).tk i=false:=by
  unfold Ad.tk pool0;cases i with
  | zero=>rfl
  | succ i=>rfl
 unfold Aa store0 Ad.get;simp[ht]
theorem IA (n v:Nat)(h:v<n):(List.range n).getD v 0=v:=by simp[List.getD,h]
theorem Qg (n room:Nat)(hn:n<=64):Aj (store0 n room) (fun _ _=>true):=by
 have hl:∀ v,v<n->levN (store0 n room) v=v:=fun v hv=>IA n v hv
 have g1:(store0 n room).vars.length=n:=by simp[store0]
 have g0:∀ i b,Aa (store0 n room) i=some b->False:=fun i b h=>by rw[nodes0] at h;cases h
 refine⟨⟨fun _=>rfl,by rw[nodes0],fun i b h=>(g0 i b h).elim,fun u v hu hv e=>?_,fun v hv=>?_,fun i b h=>(g0 i b h).elim,fun i b h=>(g0 i b h).elim,fun i b h=>(g0 i b h).elim,fun i b h=>(g0 i b h).elim,fun i b h=>(g0 i b h).elim,fun i b h=>(g0 i b h).elim,fun i j b h=>(g0 i b h).elim,fun i b h=>(g0 i b h).elim⟩,
  ?_,fun v hv lo hi id=>⟨fun h=>absurd (show (none:Option Nat)=some id from h) (by simp),fun h=>(g0 _ _ h).elim⟩,by simp[store0],by rw[g1];exact hn,fun v hv=>?_,fun i hi=>?_⟩
 . rw[g1] at hu hv;rw[hl u hu,hl v hv] at e;exact e
 . rw[g1] at hv ⊢;rw[hl v hv];exact hv
 ·refine⟨⟨fun i b h=>(g0 i b h).elim,fun i b h=>(g0 i b h).elim⟩,?_,fun i b h=>(g0 i b h).elim⟩;have h1:Bg (store0 n room).pool.at_.length (Aa (store0 n room)) (Ai (store0 n room))=Ah (store0 n room).pool.at_.length (dead1 (Aa (store0 n room)) (Ai (store0 n room))):=rfl;rw[h1,nodes0];have h2:dead1 (fun _=>none) (Ai (store0 n room)) 0=0:=rfl
  show (0:Int)=Ah 1 _
  simp[Ah,h2]
 . rw[g1] at hv;rw[hl v hv];exact IA n v hv
 . rw[g1] at hi ⊢;have e:(store0 n room).vars.getD i 0=i:=IA n i hi;rw[e];exact⟨hi,hl i hi⟩
theorem Qh (n room:Nat)(hn:n<=64):E0 (man0 n room) (fun _ _=>true) :=
 ⟨Qg n room hn,⟨by simp[man0],by simp[man0],by simp[man0],by simp[man0],by simp[man0],fun p hp=>by simp[man0] at hp;rcases hp with rfl|rfl<;>exact .inl rfl,by simp[man0],fun i b h=>by rw[show (man0 n room).d=store0 n room from rfl,nodes0] at h;cases h⟩⟩
def Bd:Law:=fun d V op a b c r=>op=1->IteP d V a b c r
theorem Bz:AE Bd:=⟨fun d V a b c r=>⟨fun h=>h rfl,fun h _=>h⟩,fun d V d' V' op a b c r hk hk' x h e=>(h e).ext x hk hk',fun d d' V op a b c r h1 h2 h3 h e=>by
 have q:=h e;have hl:levN d'=levN d:=by funext v;unfold levN;rw[h2]
 have hm:minL d' a b c=minL d a b c:=by unfold minL;rw[h1,hl,h3]
 exact⟨by rw[h3];exact q.okA,by rw[h3];exact q.okB,by rw[h3];exact q.okC,by rw[h3];exact q.okR,q.val,by rw[hm,h1,hl,h3];exact q.lev⟩⟩
theorem Qi {F:Phi}(o:Own)(n room:Nat)(w:Wd)(hlt:Ac o w)(hn:n<=64)(h1:1<=room)(h2:room<=1048576) :
 Cl 39 #[Iv n,Iv room] w fun x w'=>∃ mb o',x=.returned (.tuple #[Pt mb,Iv 0])/\AW F o' w' mb (man0 n room)/\Chg (fun _=>True) o o' w w'/\Ac o' w'/\w.heap.size<=mb:=by
 have HS:=Hd (PC o n room w hlt hn h1 h2);clear hlt hn h1 h2
 go_enter func39,ntmps39
 go_wp2_with fail;refine HS.o.mono ?_;rintro x w1 ⟨sb,o1,rfl,gf,gl,gi,gt⟩;have go:=Hd gf;have gr:=Hd gl;have g3:=Hd gi;clear gf gl gi;have gw:=EY (P:=prog) w1 98;obtain⟨wA,gv,gh,g2⟩:=(Gb w1 (Value.int .i64)).update (P:=prog) kI underlying98 0 (Iv 1);obtain⟨wB,gu,gc,g6⟩:=gh.update (P:=prog) kI underlying98 1 (Iv 0);have gj:=g3.o.allocR (.map #[] 0) .handles;have gk:Chg (fun _=>True) o (AI o1 w1.heap.size .handles) w wB :=
  ((gr.o.any.allocR (r:=.handles) g3.o (.map #[] 0) trivial).grown g2 (fun g hg=>by cases hg;exact⟨_,BH _ _ _,trivial⟩)).grown g6 (fun g hg=>by cases hg;exact⟨_,BH _ _ _,trivial⟩)
 have gd:Ac (AI o1 w1.heap.size .handles) wB:=gj.mono (VU g2.size g6.size);have ga:∀ g r,o1 g=some r->g≠w1.heap.size:=fun g r hg e=>by have:=g3.o g r hg;omega
 have g5:∀ g r,o1 g=some r->wB.heap[g]?=w1.heap[g]?:=fun g r hg=>by
  have a0:=g3.o g r hg;have a1:g<(w1.alloc (.map #[] 0)).heap.size:=by simp;omega
  rw[g6.block g (Wm a1 g2.size) (by intro e;cases e;exact ga _ _ hg rfl),g2.block g a1 (by intro e;cases e;exact ga _ _ hg rfl)];exact Wk _ _ a0
 have gp:=Hd (go.o.keepR (o':=AI o1 w1.heap.size .handles) (fun g r hg _=>g5 g r hg) (fun g r hg=>Da g3.o (VQ _) hg));have gq:Hq (A1 wB w1.heap.size (Value.int .i64) [(0,Iv 1),(1,Iv 0)]):=Hd gc;have gn:=Hd gk;have gm:=Hd gd;have HME:=Hd (OV (AI o1 w1.heap.size .handles) F wB gd);have gx:w1.heap.size<wB.heap.size:=gc.lt;clear gh g2 gc g6 gj gk gd ga g5;go_wp2_with fail;refine HME.o.mono ?_;rintro x w2 ⟨me,o2,rfl,gg,g0,g1,gy⟩;have g7:=gp.o.keepR (o':=o2) (w':=w2) (fun g r hg hr=>g0.same gm.o hg (by rintro rfl;simp[Al,Bv] at hr)) g0.ext;have g4:=gq.o.keepB (g0.same gm.o (BH o1 w1.heap.size .handles) (by simp));have g8:=g0.ext _ _ (BH o1 w1.heap.size .handles);have HF:Hq (∀ w3,w3=w2.alloc (.cells #[Pt sb,Pt me,.map (some w1.heap.size),Iv 2,.slice none 0 0,Iv 0] 100)->AW F (AI o2 w2.heap.size .man) w3 w2.heap.size (man0 n room)/\Chg (fun _=>True) o (AI o2 w2.heap.size .man) w w3/\Ac (AI o2 w2.heap.size .man) w3/\w.heap.size<=w2.heap.size):=by
  refine Hd ?_;rintro w3 rfl;have ge:∀ g r,o2 g=some r->(w2.alloc (.cells #[Pt sb,Pt me,.map (some w1.heap.size),Iv 2,.slice none 0 0,Iv 0] 100)).heap[g]?=w2.heap[g]?:=fun g r hg=>Wk _ _ (g1 g r hg)
  have g9:∀ g r,o2 g=some r->AI o2 w2.heap.size .man g=some r:=fun g r hg=>Da g1 (VQ _) hg
  exact⟨⟨⟨sb,me,w1.heap.size,.slice none 0 0⟩,BH _ _ _,VT w2 _,g7.keepR (fun g r hg _=>ge g r hg) g9,gg.keep (fun g r hg _=>ge g r hg) g9,g9 _ _ g8,g4.keepB (ge _ _ g8),Bk.nil _ _⟩,
   (gn.o.trans g0.any).allocR g1 _ trivial,g1.allocR _ _,(gn.o.trans g0.any).size⟩
 clear g7 g4 g8 gg g0 g1;go_wp2_with fail
 go_ret2
 obtain⟨a1,a2,a3,a4⟩:=HF.o _ rfl;exact⟨_,_,rfl,a1,a2,a3,a4⟩
section
variable {F:Phi}{o:Own}
theorem Qj (h:A2 o w sb d):Cl 121 #[Pt sb] w (Sm (Iv d.vars.length) w):=by
 obtain⟨s,h⟩:=h;obtain⟨c0,c1,c2,c3,c4,f0⟩:=cells5 h.blk;obtain⟨d0,d1,_⟩:=cells2 h.lev;obtain⟨a,cap,hv,_⟩:=h.vars.slice;rw[hv] at d0;clear h hv
 go_enter func121,ntmps121
 go_wp2_with fail;go_ret;exact⟨rfl,rfl⟩
theorem KV (h:AW F o w mb m):Cl 62 #[Pt mb] w (Sm (Iv m.d.vars.length) w):=by
 obtain⟨s,h⟩:=h;obtain⟨c0,c1,c2,c3,c4,c5,f0⟩:=cells6 h.blk;have HP:=Hd (Qj h.store);clear h
 go_enter func62,ntmps62
 go_wp2_with fail;refine HP.o.mono ?_;rintro x w' ⟨rfl,rfl⟩;go_wp2_with fail;go_ret;exact⟨rfl,rfl⟩
end
structure B0 (w:Wd)(a:Option Addr)(bs:List Bool):Prop where
 len:bs.length<=1000000
 cells:∀ k,k<bs.length->∃ b off,a=some (Aw b off)/\w.cell? (Aw b (off+k))=some (.bool (bs.getD k false))
theorem B0.below (h:B0 w a bs)(hb:Bw w w'):B0 w' a bs :=
 ⟨h.len,fun k hk=>by
  obtain⟨b,off,rfl,hc⟩:=h.cells k hk;exact⟨b,off,rfl,(Cq hb hc)⟩⟩
def AF (bs:List Bool):Nat->Bool:=fun v=>bs.getD v false
theorem Qk {F:Phi}{o:Own}(h:AW F o w mb m)(hlt:Ac o w)(hk:E0 m V){k:Int}(hkf:(k,f)∈m.hs)(a:Option Addr)(c:Nat)(bs:List Bool)(hbs:B0 w a bs) :
 Cl 125 #[Pt mb,Iv k,.slice a bs.length c] w (Bl (.tuple #[.bool (ef V f (AF bs)),Iv 0]) w):=by
 obtain⟨s,h⟩:=h;obtain⟨c0,c1,c2,c3,c4,c5,f0⟩:=cells6 h.blk;have gq:=E5 h hk.handles.nodup hkf;have HM:=Hd h;have gj:=Hd hlt;have HK:=Hd hk.store;have gn:=Hd (hk.handles.ok _ hkf);have gu:=Hd hbs;have gv:=hbs.len;clear h hlt hk hkf hbs
 go_enter func125,ntmps125
 go_wp2_with fail
 go_loopg [8] (m.d.vars.length-lvE m.d.vars.length (levN m.d) (Aa m.d) f) (fun gk s8 wx=>∃ e:Nat,s8=Iv e/\okE (Aa m.d) e/\ef V e (AF bs)=ef V f (AF bs)/\Bw w wx/\gk=m.d.vars.length-lvE m.d.vars.length (levN m.d) (Aa m.d) e)
 case atStart=>exact⟨f,rfl,gn.o,rfl,VZ _ _,rfl⟩
 case round =>
  obtain⟨e,rfl,g0,gd,hB,gc⟩:=hrel;clear c0 c1 c2 c3 c4 c5 f0 gq;have hm:=HM.o.below gj.o hB;obtain⟨c0,c1,c2,c3,c4,c5,f0⟩:=cells6 hm.blk;have ge:e<eMax:=by
   obtain⟨ss,gp⟩:=hm.store;have:=gp.edge_lt g0;unfold eMax;omega
  have HC:=Hd (fun W=>GU e W ge);have HA:=Hd (Gh hm.store (gj.o.mono hB.size) HK.o e g0);have g5:=Hd gd;have HB:=Hd hB;have g4:=Hd gc;clear hm ge gd hB gc;cases hb:Aa m.d (e/2) with
  | none =>
    have h0:e/2=0:=by
     rcases g0 with h|⟨b,gi⟩
     . exact h
     . rw[hb] at gi;cases gi
    have he:decide (enode e=0)=true:=by simp[enode,h0]
    rw[he] at HC;have HR:Hq (ef V f (AF bs)=((e:Int) == 0)):=by
     show _=_
     rw[<- g5.o];have h1:=HK.o.dag.one (AF bs);have h2:e=0\/e=1:=by omega
     rcases h2 with rfl|rfl<;>simp[ef,h1]
    clear g0 hb h0 he;go_wp2_with fail;refine(HC.o _).mono ?_;rintro x w' ⟨rfl,rfl⟩;go_wp2_with fail
    go_ret2
    exact⟨by rw[HR.o];rfl,HB.o⟩
  | some b =>
    have g8:=HK.o.dag.var _ _ hb;have g6:lvE m.d.vars.length (levN m.d) (Aa m.d) e=levN m.d b.v:=by unfold lvE;rw[hb]
    have gf:=Cu HK.o g0 g8 (by rw[g6];exact VQ _);have gg:cofs m.d e b.v=(eflip b.lo (eneg e),eflip b.hi (eneg e)):=by unfold cofs;rw[hb];simp
    rw[gg] at gf;obtain⟨k1,k2,k3,k4,k5⟩:=gf;have k5:=k5 (AF bs);dsimp only at k1 k2 k3 k4 k5;have g7:=HK.o.dag.lt _ g8;have ga:decide (enode e=0)=false:=by
     have:enode e≠0:=by rintro h0;have h1:e/2=0:=h0;rw[h1,HK.o.dag.none0] at hb;cases hb
     simp[this]
    rw[ga] at HC;unfold atV at HA;rw[hb] at HA;obtain⟨L,hL⟩:=Ex (eflip b.lo (eneg e));obtain⟨H,hH⟩:=Ex (eflip b.hi (eneg e));rw[<- hL,<- hH] at k5;rw[<- hL] at k1 k3;rw[<- hH] at k2 k4;dsimp only at HA;rw[<- hL,<- hH] at HA;rw[g6] at g4;have gm:=Hd k1;have gt:=Hd k2;have gl:=Hd k3;have gr:=Hd k4;have g1:=Hd k5;have g9:=Hd g7;clear g0 hb g8 g6 gg k1 k2 k3 k4 k5 g7 ga hL hH;go_wp2_with fail;refine(HC.o _).mono ?_;rintro x w' ⟨rfl,rfl⟩;go_wp2_with fail;refine HA.o.mono ?_;rintro x w2 ⟨rfl,gh⟩;have HB2:=Hd (HB.o.trans (gh.mono HB.o.size));clear gh c0 c1 c2 c3 c4 c5 f0
    by_cases hv:b.v<bs.length
    ·obtain⟨b0,off,ha,g2⟩:=(gu.o.below HB2.o).cells b.v hv;subst ha;have go:(b.v:Int)<bs.length:=by omega
     have hx:AF bs b.v=bs.getD b.v false:=rfl;rw[<- hx] at g2;cases g3:AF bs b.v with
     | true =>
       rw[g3] at g2 g1;clear g3 hx;go_wp2_with fail
       go_roundg (m.d.vars.length-lvE m.d.vars.length (levN m.d) (Aa m.d) H)
       case rel=>exact⟨H,rfl,gt.o,by rw[<- g5.o,g1.o];rfl,HB2.o,rfl⟩
       case measure=>have h1:=g4.o;have h2:=gr.o;have h3:=g9.o;omega
     | false =>
       rw[g3] at g2 g1;clear g3 hx;go_wp2_with fail
       go_roundg (m.d.vars.length-lvE m.d.vars.length (levN m.d) (Aa m.d) L)
       case rel=>exact⟨L,rfl,gm.o,by rw[<- g5.o,g1.o];rfl,HB2.o,rfl⟩
       case measure=>have h1:=g4.o;have h2:=gl.o;have h3:=g9.o;omega
    ·have go:¬ (b.v:Int)<bs.length:=by omega
     have hx:AF bs b.v=false:=by unfold AF;simp[List.getD,Wq (Nat.le_of_not_lt hv)]
     rw[hx] at g1;clear hx;go_wp2_with fail
     go_roundg (m.d.vars.length-lvE m.d.vars.length (levN m.d) (Aa m.d) L)
     case rel=>exact⟨L,rfl,gm.o,by rw[<- g5.o,g1.o];rfl,HB2.o,rfl⟩
     case measure=>have h1:=g4.o;have h2:=gl.o;have h3:=g9.o;omega
structure DG (T ST:TypeId)(z:Value)(b:Nat):Prop where
 under:prog.underlying ST=some (.slice T)
 info:(prog.info? T).map (fun i=>(i.zero,i.size,i.bytes))=some (some z,1,b)
 one:z.cells=#[z]
 small:b<=100
theorem Fh:DG 3 22 (Iv 0) 8:=⟨underlying22,by kernel_rfl,rfl,by omega⟩
theorem DH:DG 4 90 (.bool false) 1:=⟨underlying90,by kernel_rfl,rfl,by omega⟩
theorem KW:DG 90 33 (.slice none 0 0) 24:=⟨underlying33,by kernel_rfl,rfl,by omega⟩
def OwnC (T:TypeId)(w:Wd)(base:Nat)(v:Value)(xs:List Value):Prop:=w.ownsRow base T 1 v xs.length xs
section
variable {ST:TypeId}
theorem OwnC.alloc (h:OwnC T w base v xs)(o:Obj):OwnC T (w.alloc o) base v xs:=World.ownsRow.alloc h o
theorem OwnC.lt (h:OwnC T w base v xs):∀ k,v.ownBlock=some k->base<=k/\k<w.heap.size:=World.ownsRow.lt h
theorem OwnC.same (h:OwnC T w base v xs)(hk:∀ k,v.ownBlock=some k->w'.heap[k]?=w.heap[k]?):OwnC T w' base v xs:=by
 refine⟨h.1,?_⟩;rcases h.2 with hn|⟨g,cap,cur,rfl,hb,g0,rest⟩
 . exact .inl hn
 . refine .inr ⟨g,cap,cur,rfl,hb,?_,rest⟩;rw[hk g rfl];exact g0
theorem OwnC.below (h:OwnC T w base v xs)(hb:Bw w w'):OwnC T w' base v xs:=h.same fun k hk=>hb.block k (h.lt k hk).2
theorem OwnC.shape (h:OwnC T w base v xs)(hp:0<xs.length):∃ g cap,v=.slice (some (Av g)) xs.length cap/\base<=g/\g<w.heap.size:=by
 rcases h.2 with ⟨_,h0⟩|⟨g,cap,cur,hv,hg,hh,_⟩
 . omega
 . exact⟨g,cap,hv,hg,(VP.1 hh).1⟩
theorem OwnC.slice (h:OwnC T w base v xs):∃ a cap,v=.slice a xs.length cap/\(a=none->cap=0):=by
 rcases h.2 with ⟨hv,h0⟩|⟨g,cap,cur,hv,hg,hh,_⟩
 . exact⟨none,0,by rw[hv,h0],fun _=>rfl⟩
 . exact⟨_,cap,hv,by simp⟩
theorem OwnC.cell {g cap n:Nat}(h:OwnC T w base (.slice (some (Av g)) n cap) xs)(k:Nat)(hk:k<xs.length):w.cell? (Aw g k)=xs[k]?:=by
 have hn:n=xs.length:=by
  rcases h.2 with ⟨hv,_⟩|⟨_,_,_,hv,_⟩
  . cases hv
  . cases hv;rfl
 subst hn;exact World.ownsRow.cellAt h k (by omega)
theorem OwnC.frozen {g cap n:Nat}(h:OwnC T w base (.slice (some (Av g)) n cap) xs)(k:Nat):w.frozen? (Aw g k)=false:=by
 rcases h.2 with ⟨hv,_⟩|⟨_,_,_,hv,_⟩
 . cases hv
 . cases hv;exact World.ownsRow.frozenAt h k
theorem OwnC.stored {g cap n:Nat}(h:OwnC T w base (.slice (some (Av g)) n cap) xs)(k:Nat)(y:Value):OwnC T (w.setCell (Aw g k) y) base (.slice (some (Av g)) n cap) (xs.set k y):=by
 rcases h.2 with ⟨hv,_⟩|⟨_,_,_,hv,_⟩
 . cases hv
 . cases hv;have:=(World.ownsRow.stored h k y).1;unfold OwnC;rw[Ws];exact this
theorem OwnC.typed (h:OwnC T w base v xs):∀ k,v.ownBlock=some k->∃ cur,w.heap[k]?=some (.cells cur T (0,0)):=by
 intro k hk;rcases h.2 with ⟨rfl,_⟩|⟨g,cap,cur,rfl,_,hg,_⟩
 . cases hk
 . cases hk;exact⟨cur,hg⟩
theorem Dv (T:TypeId)(w:Wd)(base:Nat)(hb:base<=w.heap.size):OwnC T (w.alloc (.cells #[] T)) base (.slice (some (Av w.heap.size)) 0 0) [] :=
 World.ownsRow_made w #[] 0 hb (by unfold maxLen;omega) (by simp)
theorem KX (T:TypeId)(w:Wd)(base:Nat):OwnC T w base (.slice none 0 0) []:=World.ownsRow_nil w base T 1
theorem Dw (E:DG T ST z b)(wr:Wd){o:Oper}{a:Act}(hgd:o.guard=none)(s x:Operand)
 (ho:o.op=.call { callee:=.builtin .append,args:=#[s,x],argTypes:=#[ST,ST] })
 (base:Nat) (v:Value) (xs:List Value) (y:Value) (hs:a.eval s=v) {N:Nat} (hx:a.eval x=.slice (some (Av N)) 1 1)
 (hW:W=wr.alloc (.cells #[y] T)) (hN:N=wr.heap.size) (hy:y.oneCell'=true)
 (hown:OwnC T wr base v xs) (hlen:xs.length<1099511627776) (hbase:base<=wr.heap.size)
 (h:∀ v' w',OwnC T w' base v' (xs++[y])->w'.os=wr.os->w'.tape=wr.tape->w'.output=wr.output->wr.heap.size<=w'.heap.size->BQ v v' wr w'->wpList prog ops Q rest (a.put o.dst v') w') :
 wpList prog ops Q (o::rest) a W:=by
 obtain⟨i,hi,hz,g1,g3⟩:=XN E.info;subst hN;subst hW
 have g2:=E.small;refine wpList_append_own_at (w:=wr.alloc (.cells #[y] T)) hgd s x ST ho base T i z 1 b E.under hi hz g1 g3 (by rw[E.one];rfl) (by decide)
  v xs.length xs hs (hown.alloc _) (Av wr.heap.size) 1 1 [y] hx rfl (cell_one_new _ _ _) (by intro u hu;simp at hu;subst hu;exact hy) (by unfold maxLen;omega) (by
   have h1:(xs.length+1)*b<=1099511627776*100:=XT (by omega) g2;omega) (by simp;omega) ?_
 intro v' w' h1 h2 _ g0;refine h v' w' ?_ h2.os h2.tape h2.output ?_ ⟨FG h2,g0.imp id fun e=>⟨_,e,by simp⟩⟩
 . unfold OwnC;rw[VY];exact h1
 . have:=h2.size;simp at this;omega
theorem Gm {wr:Wd}(hb:Below base w0 wr)(hown:OwnC T wr base v xs)(h1:w'.os=wr.os)(h2:w'.tape=wr.tape)(h3:w'.output=wr.output)(h4:wr.heap.size<=w'.heap.size)(hk:BQ v v' wr w')(hbase:base<=wr.heap.size):Below base w0 w' :=
 ⟨h1.trans hb.os,h2.trans hb.tape,h3.trans hb.output,VU hb.size h4,fun k hkb=>(hk.keep k (by omega) (fun e=>by have:=(hown.lt k e.symm).1;omega)).trans (hb.block k hkb)⟩
theorem Fi (E:DG T ST z b){o:Oper}{a:Act}{wr:Wd}(hgd:o.guard=none)(l c:Operand)
 (ho:o.op=.makeSlice ST l c) (base:Nat) (w0:Wd) (L:Int) (n:Nat) (hl:a.eval l=Iv L) (hc:a.eval c=Iv L) (hL:L=n) (hn:n<1099511627776)
 (hbase:base<=wr.heap.size) (hb:Below base w0 wr)
 (h:∀ g w',OwnC T w' base (.slice (some (Av g)) n n) (List.replicate n z)->Below base w0 w'->base<=w'.heap.size->CY none wr w'->base<=g->g=wr.heap.size ->
  wpList prog ops Q rest (a.put o.dst (.slice (some (Av g)) n n)) w') :
 wpList prog ops Q (o::rest) a wr:=by
 obtain⟨i,hi,hz,g0,g2⟩:=XN E.info;have g1:=E.small
 refine wpList_make_full wr hgd l c ST ho base T i z 1 E.under hi hz g0 .i64 .i64 L L n hl hc hL hL (by
  have h1:i.bytes*n<=100*1099511627776:=XT (by omega) (by omega);omega) (by unfold maxLen;omega) hbase ?_
 intro w' h1 h2;refine h wr.heap.size w' ?_ (hb.grown h2 hbase (by simp)) (by have:=h2.size;omega) (EP h2) hbase rfl;unfold OwnC;have e1:List.replicate n z=(madeCells z.cells (n*1)).toList:=by
  rw[E.one];simp[madeCells];apply XG
  . simp
  . intro j h3 h4;simp[Nat.mod_one]
 rw[X0,e1];exact h1
end
def AN (bs:List Bool):List Value:=bs.map Value.bool
theorem Gn (bs:List Bool):(AN bs).length=bs.length:=by simp[AN]
theorem getElem?_boolsV (h:k<bs.length):(AN bs)[k]?=some (.bool (bs.getD k false)):=by
 simp[AN,List.getD,h]
abbrev OwnB (w:Wd)(base:Nat)(v:Value)(bs:List Bool):Prop:=OwnC 4 w base v (AN bs)
def Bb (w:Wd)(v:Value)(bs:List Bool):Prop:=∃ a c,v=.slice a bs.length c/\B0 w a bs/\(a=none->c=0)
theorem Bb.below {w w':Wd}{v:Value}{bs:List Bool}(h:Bb w v bs)(hb:Bw w w'):Bb w' v bs:=by
 obtain⟨a,c,rfl,h1,h2⟩:=h;exact⟨a,c,rfl,h1.below hb,h2⟩
theorem Bb.same (h:Bb w v bs)(hk:∀ k,v.ownBlock=some k->w'.heap[k]?=w.heap[k]?):Bb w' v bs:=by
 obtain⟨a,c,rfl,h1,h2⟩:=h;refine⟨a,c,rfl,⟨h1.len,fun k g0=>?_⟩,h2⟩;obtain⟨g,off,rfl,hc⟩:=h1.cells k g0;exact⟨g,off,rfl,Co hc (hk g rfl)⟩
theorem OwnC.boolsIs (h:OwnB w base v bs)(hl:bs.length<=1000000):Bb w v bs:=by
 obtain⟨a,c,hv,hn⟩:=h.slice;have g1:=hv;rw[Gn] at g1;refine⟨a,c,g1,⟨hl,fun k hk=>?_⟩,hn⟩;obtain⟨g,cap,g0,hb,hg⟩:=h.shape (by rw[Gn];omega);have ea:a=some (Av g):=by rw[hv] at g0;injection g0
 subst ea;refine⟨g,0,rfl,?_⟩;subst hv;rw[Wv,h.cell k (by rw[Gn];exact hk),getElem?_boolsV hk]
theorem OwnC.setB (h:OwnB w base (.slice (some (Av g)) n cap) bs)(k:Nat)(y:Bool):OwnB (w.setCell (Aw g k) (.bool y)) base (.slice (some (Av g)) n cap) (bs.set k y):=by
 have:=h.stored k (.bool y);unfold OwnB;rw[show AN (bs.set k y)=(AN bs).set k (.bool y) by simp[AN,XX]];exact this
theorem OwnC.cellB (h:OwnB w base (.slice (some (Av g)) n cap) bs)(k:Nat)(hk:k<bs.length):w.cell? (Aw g k)=some (.bool (bs.getD k false)):=by
 rw[h.cell k (by rw[Gn];exact hk),getElem?_boolsV hk]
def bitB (i v:Nat):Bool:=decide (i/2^v%2=1)
def AO (i n:Nat):List Bool:=(List.range n).map (bitB i)
def tabB (n:Nat)(F:BF):List Bool:=(List.range (2^n)).map fun i=>F (AF (AO i n))
theorem Gp (i n:Nat):(AO i n).length=n:=by simp[AO]
theorem B6 (n:Nat)(F:BF):(tabB n F).length=2^n:=by simp[tabB]
theorem DI (hi:i<2^n):(tabB n F).getD i false=F (AF (AO i n)):=by simp[tabB,List.getD,hi]
theorem IB {v:Nat}:AF (AO i n) v=(decide (v<n)&&bitB i v):=by
 unfold AF AO
 by_cases h:v<n
 . simp[List.getD,h]
 . simp[List.getD,h]
theorem IC (hl:bs.length=2^n)(h:∀ i,i<2^n->bs.getD i false=F (AF (AO i n))):bs=tabB n F:=by
 refine XG (by rw[hl,B6]) fun i h1 h2=>?_
 have:=h i (by omega);have e:(tabB n F).getD i false=F (AF (AO i n)):=DI (by omega);rw[<- this] at e;simpa [List.getD,h1,h2] using e.symm
abbrev WC:=@Nat.pow_le_pow_right
theorem Fj (h:k<=20):2^k<=1048576:=WC (by omega) h
abbrev Wb:=@Nat.zero_le
theorem Gq (v:Nat)(hv:v<=20)(w:Wd):Cl 158 #[Iv v] w (Sm (Iv (2^v:Nat)) w):=by
 have HS:Hq (∀ k,k<=v->2^k<=1048576):=Hd fun k hk=>Fj (by omega)
 go_enter func158,ntmps158
 go_wp2_with fail
 go_loopw [3,4] (fun s3 s4 wr=>∃ k p:Nat,k<=v/\s3=Iv p/\s4=Iv k/\w=wr/\Hq (2^k=p)) (fun _ s4 _=>v-(intOf s4).toNat)
 case atStart=>exact⟨0,1,Wb _,rfl,rfl,rfl,Hd rfl⟩
 case round =>
  obtain⟨k,p,hk,rfl,rfl,rfl,HP⟩:=hrel
  by_cases g0:k<v
  ·have hp:p<=1048576:=by rw[<- HP.o];exact HS.o k hk
   go_wp2_with fail;go_roundw
   case rel=>exact⟨k+1,2*p,by omega,by go_num,by go_num,by simp,Hd (by rw[X2,HP.o];omega)⟩
   case measure=>simp[intOf];omega
  ·have he:k=v:=by omega
   have HE:Hq (2^v=p):=by rw[<- he];exact HP
   clear he;go_wp2_with fail;go_ret;exact⟨by rw[HE.o];rfl,rfl⟩
abbrev Xo:=@Nat.pow_pos
abbrev Xu:=@beq_eq_false_iff_ne
theorem KY (i v:Nat)(hi:i<=1048576)(hv:v<=20)(w:Wd):Cl 183 #[Iv i,Iv v] w (Sm (.bool (bitB i v)) w):=by
 have HB:=Hd (Gq v hv w);have g0:0<2^v:=Xo (by omega);have g2:=Fj hv;obtain⟨p,hp⟩:=Ex (2^v);rw[<- hp] at g0 g2 HB;have g1:i/p<=i:=Nat.div_le_self _ _;have HF:Hq (((wrap64 ((i:Int)/(p:Int))).tmod 2 == 1)=bitB i v):=by
  refine Hd ?_;unfold bitB;rw[<- hp];have e0:(i:Int)/(p:Int)=((i/p:Nat):Int):=rfl;rw[e0]
  generalize i/p=q at g1 ⊢
  rw[IntWalk.wrap64_in _ (by omega)];have e1:Int.tmod (q:Int) 2=((q%2:Nat):Int):=by rw[XC (by omega)];rfl
  rw[e1]
  by_cases h:q%2=1
  . rw[h];rfl
  ·have:((q%2:Nat):Int)≠1:=by omega
   rw[Xu.2 this,Xe h]
 clear hp
 go_enter func183,ntmps183
 go_wp2_with fail;refine HB.o.mono ?_;rintro x w' ⟨rfl,rfl⟩;go_wp2_with fail;go_ret;exact⟨by rw[<- HF.o];rfl,rfl⟩
theorem Ql {α:Type}(a b:α)(k n:Nat)(h:k<n):(List.replicate k a++List.replicate (n-k) b).set k a=List.replicate (k+1) a++List.replicate (n-(k+1)) b:=by
 have e:n-k=(n-(k+1))+1:=by omega
 rw[e,List.replicate_succ,Yq _ _ (by simp),X0,Nat.sub_self,List.set_cons_zero,List.replicate_succ',Wl];rfl
theorem Qm (b:Bool)(n:Nat)(hn:n<=16)(w:Wd):Cl 124 #[.bool b,Iv n] w fun x w'=>∃ g,x=.returned (.slice (some (Av g)) (2^n) (2^n))/\OwnB w' w.heap.size (.slice (some (Av g)) (2^n) (2^n)) (List.replicate (2^n) b)/\Bw w w':=by
 have HS:Hq (∀ k,k<=n->2^k<=1048576):=Hd fun k hk=>Fj (by omega)
 obtain⟨L,hL⟩:=Ex (2^n);have HL:=Hd hL;have g8:L<=1048576:=by rw[hL];exact Fj (by omega)
 rw[<- hL];clear hL
 go_enter func124,ntmps124
 go_wp2_with fail
 go_loopw [5,6] (fun s5 s6 wr=>∃ k p:Nat,k<=n/\s5=Iv p/\s6=Iv k/\w=wr/\Hq (2^k=p)) (fun _ s6 _=>n-(intOf s6).toNat)
 case atStart=>exact⟨0,1,Wb _,rfl,rfl,rfl,Hd rfl⟩
 case round =>
  obtain⟨k,p,hk,rfl,rfl,rfl,HP⟩:=hrel
  by_cases g3:k<n
  ·have hp:p<=1048576:=by rw[<- HP.o];exact HS.o k hk
   go_wp2_with fail;go_roundw
   case rel=>exact⟨k+1,2*p,by omega,by go_num,by go_num,by simp,Hd (by rw[X2,HP.o];omega)⟩
   case measure=>simp[intOf];omega
  ·have he:k=n:=by omega
   have hp:p=L:=by rw[<- HP.o,he,HL.o]
   subst hp;clear he;go_wp2_with (at_make;refine Fi DH rfl _ _ rfl w.heap.size w _ p rfl rfl rfl (by omega) (VQ _) (VZ _ _) ?_;intro g w1 g2 g6 hs1 g7 g5 g4;clear g4)
   go_loopw [8] (fun i wr=>∃ j:Nat,j<=p/\i=Iv j/\OwnB wr w.heap.size (.slice (some (Av g)) p p) (List.replicate j b++List.replicate (p-j) false)/\Bw w wr) (fun i _=>p-(intOf i).toNat)
   case atStart=>exact⟨0,by omega,rfl,by unfold OwnB;rw[show AN (List.replicate 0 b++List.replicate (p-0) false)=List.replicate p (Value.bool false) by simp[AN]];exact g2,g6⟩
   case round =>
    obtain⟨j,hj,rfl,g0,g1⟩:=hrel
    by_cases g3:j<p
    ·have q0:=g0.cellB j (by simp;omega);have p0:=g0.frozen j;go_wp2_with fail;go_roundw
     case rel=>exact⟨j+1,by omega,by go_num,by rw[<- Ql b false j p g3];exact g0.setB j b,g1.setCell g5 _⟩
     case measure=>simp[intOf];omega
    ·obtain rfl:j=p:=by omega
     go_wp2_with fail;go_ret;exact⟨_,rfl,by simpa using g0,g1⟩
abbrev VX:=@List.take_succ_eq_append_getElem
theorem ID {α:Type}{l m:List α}{y:α}(hk:k<l.length)(hm:k<m.length)(hy:m[k]=y):(m.take k++l.drop k).set k y=m.take (k+1)++l.drop (k+1):=by
 have h1:(m.take k).length=k:=by simp;omega
 rw[Yq _ _ (by omega),h1,Nat.sub_self,WN hk,List.set_cons_zero,VX hm,hy,Wl];rfl
theorem Qn (n:Nat)(hn:n<=64)(w:Wd):Cl 176 #[Iv n,Iv 0,Iv 64] w (Sm (Iv n) w):=by
 go_enter func176,ntmps176
 go_wp2_with fail;go_ret;exact⟨rfl,rfl⟩
theorem KZ (i n:Nat):AO i (n+1)=AO i n++[bitB i n]:=by simp[AO,X6]
section
abbrev Yk:=@Nat.div_div_eq_div_mul
theorem Qo (i n:Nat)(hi:i<=1048576)(hn:n<=16)(w:Wd):Cl 126 #[.int .u64 i,Iv n] w fun x w'=>∃ v,x=.returned v/\OwnB w' w.heap.size v (AO i n)/\Bw w w':=by
 have HH:Hq (∀ W,Cl 176 #[Iv (n:Nat),Iv 0,Iv 64] W (Sm (Iv (n:Nat)) W)):=Hd fun W=>Qn n (by omega) W
 go_enter func126,ntmps126
 go_wp2_with fail
 go_loopw [0,5,6] (fun s0 s5 s6 wr=>∃ j q:Nat,j<=n/\q<=1048576/\s6=Iv j/\s0=.int .u64 q/\Hq (i/2^j=q)/\OwnB wr w.heap.size s5 (AO i j)/\w.heap.size<=wr.heap.size/\Bw w wr) (fun _ _ s6 _=>n-(intOf s6).toNat)
 case atStart=>exact⟨0,i,Wb _,hi,rfl,rfl,Hd (by simp),Dv _ w _ (VQ _),by simp,Af w _⟩
 case round =>
  obtain⟨j,q,hj,hq,rfl,rfl,HQ,g0,g5,g1⟩:=hrel
  by_cases g7:j<n
  ·have HB:Hq (((q:Int).tmod 2 == 1)=bitB i j):=by
    refine Hd ?_
    show ((q:Int).tmod 2 == 1)=bitB i j
    unfold bitB;rw[HQ.o];have e1:Int.tmod (q:Int) 2=((q%2:Nat):Int):=by rw[XC (by omega)];rfl
    rw[e1]
    by_cases h:q%2=1
    . rw[h];rfl
    ·have:((q%2:Nat):Int)≠1:=by omega
     rw[Xu.2 this,Xe h]
   have g2:=Hd g0;have g3:=Hd g1;clear g0 g1;go_wp2_with fail;refine(HH.o _).mono ?_;rintro x w2 ⟨rfl,rfl⟩;go_wp2_with (at_builtin;refine Dw DH _ rfl _ _ rfl w.heap.size _ (AN (AO i j)) _ rfl rfl rfl rfl rfl (by exact g2.o) (by simp[AN,Gp];omega) g5 ?_;intro v1 w1 g4 e1 e2 e3 e4 g6);go_roundw
   case rel =>
    refine⟨j+1,q/2,by omega,by omega,by go_num,rfl,Hd ?_,?_,by omega,Gm g3.o g2.o e1 e2 e3 e4 g6 g5⟩
    . rw[X2,<- Yk,HQ.o]
    ·rw[KZ];have e5:AN (AO i j++[bitB i j])=AN (AO i j)++[.bool (bitB i j)]:=by simp[AN]
     unfold OwnB;rw[e5,<- HB.o];exact g4
   case measure=>simp[intOf];omega
  ·have he:j=n:=by omega
   subst he;have g2:=Hd g0;have g3:=Hd g1;clear g0 g1;go_wp2_with fail;refine(HH.o _).mono ?_;rintro x w2 ⟨rfl,rfl⟩;go_wp2_with fail;go_ret;exact⟨_,rfl,g2.o,g3.o⟩
end
theorem Qp {o:Own}{r:Role}{xs:List Nat}(h:RowR o w r 3 1 (.slice a xs.length cap) xs.length (xs.map nat64))(hl:xs.length<=1000000):Am w a (xs.map Int.ofNat):=by
 refine⟨by simp;omega,fun k hk=>?_⟩;simp only[Wn] at hk;obtain⟨g,cap',he,_⟩:=h.shape (by omega);cases he;refine⟨g,0,rfl,?_⟩;have h1:=h.cell k (by simpa using hk);rw[Wv,h1,Au (by simpa using hk)];simp[nat64,hk]
theorem La {o:Own}(h:A2 o w sb d)(hlt:Ac o w)(hl:d.vars.length<=64) :
 Cl 63 #[Pt sb] w fun x w'=>∃ v,x=.returned v/\OwnI w' w.heap.size v (d.vars.map Int.ofNat)/\Bw w w':=by
 obtain⟨s,h⟩:=h;obtain⟨c0,c1,c2,c3,c4,f0⟩:=cells5 h.blk;obtain⟨d0,d1,_⟩:=cells2 h.lev;have lsb:sb<w.heap.size:=Ag c0;have llb:s.lb<w.heap.size:=Ag d0;obtain⟨a,cap,hv,_,_,g1,_⟩:=h.vars.slice;have g0:=h.vars;rw[hv] at d0 g0;have HI:=Hd (Qp g0 (by omega));have HN:=Hd g1;have e:d.vars.length=(d.vars.map Int.ofNat).length:=by simp
 rw[e] at d0;have g6:(d.vars.map Int.ofNat).length<=64:=by rw[<- e];exact hl
 generalize d.vars.map Int.ofNat=zs at *
 clear h hv g0 e g1 hl
 go_enter func63,ntmps63
 go_wp2_with (at_builtin;refine EQ rfl _ _ rfl w.heap.size w _ [] zs _ _ rfl rfl (DR w w.heap.size (VQ _)) (HI.o.below (Af _ _)) (by simp;omega) (by simp) (Af _ _) HN.o ?_;intro v1 w1 g2 g3 g4 g5);go_ret;exact⟨_,rfl,by simpa using g2,g3⟩
theorem IE {F:Phi}{o:Own}(h:AW F o w mb m)(hlt:Ac o w)(hl:m.d.vars.length<=64) :
 Cl 19 #[Pt mb] w fun x w'=>∃ v,x=.returned v/\OwnI w' w.heap.size v (m.d.vars.map Int.ofNat)/\Bw w w':=by
 obtain⟨s,h⟩:=h;obtain⟨c0,c1,c2,c3,c4,c5,f0⟩:=cells6 h.blk;have HP:=Hd (La h.store hlt hl);clear h hlt hl
 go_enter func19,ntmps19
 go_wp2_with fail;refine HP.o.mono ?_;rintro x w' ⟨v,rfl,h1,h2⟩;have H1:=Hd h1;have H2:=Hd h2;clear h1 h2;go_wp2_with fail;go_ret;exact⟨v,rfl,H1.o,H2.o⟩
abbrev Yx:=@Oper.semAt_some
attribute [local go_sem] Yx
def Cj (p:Ad)(k:Nat):List Nat:=(List.range k).filter p.tk
def BS (p:Ad):List Nat:=Cj p p.at_.length
theorem IF (h:p.tk k=true):Cj p (k+1)=Cj p k++[k]:=by
 unfold Cj;rw[X6,WB];simp[h]
theorem Lb (h:p.tk k=false):Cj p (k+1)=Cj p k:=by
 unfold Cj;rw[X6,WB];simp[h]
theorem Qq (p:Ad){m:Nat}:k<=m->∃ suf,Cj p k++suf=Cj p m:=by
 induction m with
 | zero => intro h; obtain rfl : k = 0 := by omega
           exact⟨[],by simp⟩
 | succ m ih =>
   intro h
   by_cases e:k=m+1
   . subst e;exact⟨[],by simp⟩
   ·obtain⟨suf,hs⟩:=ih (by omega);cases h2:p.tk m with
    | false=>exact⟨suf,by rw[Lb h2];exact hs⟩
    | true=>exact⟨suf++[m],by rw[IF h2,<- hs,Wl]⟩
theorem Qr (h:p.tk k=true)(hk:k<p.at_.length):∃ suf,Cj p k++k::suf=BS p:=by
 obtain⟨suf,hs⟩:=Qq p (k:=k+1) (m:=p.at_.length) (by omega);rw[IF h,Wl] at hs;exact⟨suf,hs⟩
abbrev X8:=@List.mem_filter
theorem Lc {suf:List Nat}(h:pre++x::suf=BS p):p.tk x=true:=by
 have:x∈BS p:=by rw[<- h];simp
 exact(X8.1 this).2
structure ItS (n₀:Nat)(o:Own)(w0:Wd)(pb:Nat)(p:Ad)(Bp:Nat)(M0 M:Nat->Prop)(W0 W:Wd):Prop where
 low:Below n₀ w0 W
 box:W.cell? (Av Bp)=some (Pt pb)
 wr:Wr (fun k=>n₀<=k) W0 W
 sub:∀ k,M k->M0 k\/W0.heap.size<=k
 nb:¬ M Bp
theorem ItS.go {o:Own}{M0:Nat->Prop}(h:ItS n₀ o w0 pb p Bp M0 M W0 W)(hn:n₀<=W0.heap.size)(hge:∀ k,M k->n₀<=k)(hw:Wr M W W')
 (hM:∀ k,M' k->M k\/W.heap.size<=k):ItS n₀ o w0 pb p Bp M0 M' W0 W':=by
 have hs:=h.wr.size;have hb:=Ag h.box;refine⟨h.low.trans (hw.below hge (by omega)),?_,h.wr.trans hw (fun _ _ h=>h) (fun k _ hk=>hge k hk),fun k hk=>?_,fun e=>?_⟩
 . exact(Co h.box (hw.keep Bp hb h.nb))
 ·rcases hM k hk with h1|h1
  . exact h.sub k h1
  . right;omega
 ·rcases hM Bp e with h1|h1
  . exact h.nb h1
  . have g0:Bp<W.heap.size:=hb;omega
theorem Qs (F:Fence)(n:Nat)(hF:F.fn 272)(hro:F.round=none)(hn:1<=n)(Bp n₀ pb:Nat){o:Own}(hp:Ar o w0 pb p)(hlt:Ac o w0)(h0:w0.heap.size<=n₀)(w:Wd)
 (hw:Below n₀ w0 w) (hn0:n₀<=w.heap.size) (hBp:w.cell? (Av Bp)=some (Pt pb)) :
 Gives F n 0 prog 272 #[Pt Bp] (fun i:Nat=>#[Iv i]) n₀ (· = Bp) (BS p) w:=by
 intro l J M W g9 gg g1 gd hY hJ;have g8:=Ag hBp;have g2:ItS n₀ o w0 pb p Bp M M W W:=⟨hw.trans (g1.below (fun k h=>h.1) hn0),Co hBp (g1.keep Bp g8 (fun h=>h.2 rfl)),Wr.refl _ _,fun k h=>.inl h,gd Bp rfl⟩;have ge:n₀<=W.heap.size:=VU hn0 g1.size;have HP:∀ W',Below n₀ w0 W'->Ar o W' pb p:=fun W' hb=>hp.below (hb.mono h0) hlt
 obtain⟨vs,vt,vf,c0,c1,c2,c3,c4,hs,ht,_⟩:=(HP W g2.low).cells;have gf:=g2.box;have g3:=hp.pos;obtain⟨gs,cs,rfl,_⟩:=hs.shape g3;have g4:=hp.len;have gq:=hp.top;have gp:=hp.room;have gj:=Hd HP;have gh:=Hd hY;have gi:=Hd g2;have gk:=Hd g9;clear HP hY hs ht hp hlt h0 g2 g9 gg g1 gd hw hn0 hBp g8;refine callsIn_of_wp func272 rfl hF ?_ hro;simp only[ntmps272,Xc,Wp,Xi,Nat.reduceAdd,Nat.reduceSub,Xq,Xr,X3,Xt,WQ,Xy]
 gi_wp2
 gi_loopw [11] (fun i wr=>∃ (k:Nat) (M1:Nat->Prop),k<=p.at_.length/\i=Iv k/\J (Cj p k) M1 wr/\ItS n₀ o w0 pb p Bp M M1 W wr) (fun i _=>p.at_.length-(intOf i).toNat)
 case atStart=>exact⟨0,M,Wb _,rfl,hJ,gi.o⟩
 case round =>
  obtain⟨k,M1,hk,rfl,g0,hS⟩:=hrel
  by_cases hlt:k<p.at_.length
  ·obtain⟨vs,vt,vf,d0,d1,d2,d3,d4,hs,ht,_⟩:=(gj.o wr hS.low).cells;have gf:=hS.box;obtain⟨gt,ct,rfl,_⟩:=ht.shape (by rw[g4];exact g3);have g7:=Ar.flag ht (k:=k) (by omega);rw[g4] at d2;have gr:(k:Int)<p.at_.length:=by omega
   have HS:=Hd hS;cases hB:p.tk k with
   | false =>
     rw[hB] at g7;have g5:Hq (J (Cj p (k+1)) M1 wr):=by show J _ _ _;rw[Lb hB];exact g0
     clear hB hs ht hS g0 hJ
     gi_wp2
     refine⟨fun _ h=>(by cases h),?_⟩
     gi_wp2
     go_roundw
     case rel=>exact⟨k+1,M1,by omega,by simp,g5.o,HS.o⟩
     case measure=>simp[intOf];omega
   | true =>
     rw[hB] at g7;have gn:=Hd (fun q (hq:M1 q)=>(gk.o _ _ _ g0 q hq).1);obtain⟨fn,tmps,assign,body,hy,hR⟩:=gh.o _ k M1 wr g0 (Qr hB hlt);have HU:=Hd (IF hB);have HR:=Hd hR;clear hs ht hS g0 hR hB hJ
     gi_wp2
     refine HR.o.mono ?_;rintro e W3 ⟨rfl,M3,gc,g6,ga⟩;have gm:=Hd gc;have gl:=Hd (HS.o.go ge gn.o g6 ga);clear gc g6 ga
     gi_wp2
     go_roundw
     case rel=>exact⟨k+1,M3,by omega,by simp,by rw[HU.o];exact gm.o,gl.o⟩
     case measure=>simp[intOf];omega
  ·obtain rfl:k=p.at_.length:=by omega
   have g5:=Hd g0;have HS:=Hd hS;clear g0 hS hJ
   gi_wp2
   go_end0;exact⟨⟨_,rfl⟩,M1,g5.o,HS.o.wr,HS.o.sub⟩
theorem Qt (F:Fence)(n:Nat)(hF:F.fn 267)(hro:F.round=none)(pb:Nat)(w:Wd) :
 CallsIn F n prog 267 #[Pt pb] w fun e w'=>e=.returned (.func (.func 272) #[] #[Pt w.heap.size])/\w'=w.alloc (.cells #[Pt pb] 147):=by
 refine callsIn_of_wp func267 rfl hF ?_ hro;simp only[ntmps267,Xc,Wp,Xi,Nat.reduceAdd,Nat.reduceSub,Xq,Xr,X3,Xt,WQ,Xy]
 gi_wp2
 go_ret;exact⟨rfl,rfl⟩
theorem Qu (F:Fence)(n:Nat)(hF:F.fn 255)(hro:F.round=none)(pb:Nat)(w:Wd) :
 CallsIn F n prog 255 #[Pt pb] w fun e w'=>e=.returned (.func (.func 266) #[] #[Pt w.heap.size])/\w'=w.alloc (.cells #[Pt pb] 147):=by
 refine callsIn_of_wp func255 rfl hF ?_ hro;simp only[ntmps255,Xc,Wp,Xi,Nat.reduceAdd,Nat.reduceSub,Xq,Xr,X3,Xt,WQ,Xy]
 gi_wp2
 go_ret;exact⟨rfl,rfl⟩
attribute [local go_sem] Yx
structure EaS (n₀:Nat)(o:Own)(w0:Wd)(pb:Nat)(p:Ad)(Bp By l:Nat)(M0 M:Nat->Prop)(W0 W:Wd):Prop where
 it:ItS n₀ o w0 pb p Bp M0 M W0 W
 boxy:W.cell? (Av By)=some (.func (.yield l) #[] #[])
 ny:¬ M By
 ge:∀ k,M k->n₀<=k
theorem Gr (h:Wr M W W')(hc:W.cell? (Aw b k)=some v)(hn:¬ M b):W'.cell? (Aw b k)=some v :=
 (Co hc (h.keep b (Ag hc) hn))
theorem EaS.go {n₀:Nat}{o:Own}{w0:Wd}{pb:Nat}{p:Ad}{Bp By l:Nat}{M0 M M':Nat->Prop}{W0 W W':Wd}(h:EaS n₀ o w0 pb p Bp By l M0 M W0 W)(hn:n₀<=W0.heap.size)(hw:Wr M W W')
 (hM:∀ k,M' k->M k\/W.heap.size<=k):EaS n₀ o w0 pb p Bp By l M0 M' W0 W':=by
 have hs:=h.it.wr.size;have hb:By<W.heap.size:=Ag h.boxy;refine⟨h.it.go hn h.ge hw hM,Gr hw h.boxy h.ny,fun e=>?_,fun k hk=>?_⟩
 ·rcases hM By e with h1|h1
  . exact h.ny h1
  . omega
 ·rcases hM k hk with h1|h1
  . exact h.ge k h1
  . omega
abbrev Yw:=@callsIn_of_wp_marks
theorem Qv (F:Fence)(n:Nat)(hF1:F.fn 266)(hF2:F.fn 267)(hF3:F.fn 272)(hro:F.round=none)(hn:4<=n)(Bp n₀ pb:Nat){o:Own}(hp:Ar o w0 pb p)(hlt:Ac o w0)(h0:w0.heap.size<=n₀)(w:Wd)
 (hw:Below n₀ w0 w) (hn0:n₀<=w.heap.size) (hBn:n₀<=Bp) (hBp:w.cell? (Av Bp)=some (Pt pb)) :
 Gives F n 2 prog 266 #[Pt Bp] (fun i:Nat=>#[An (p.nd i)]) n₀ (· = Bp) (BS p) w:=by
 intro l J M W g6 g7 g3 gp hY hJ;have gx:Bp<w.heap.size:=Ag hBp;have gT:Bp<W.heap.size:=Wm gx g3.size;have gd:n₀<=W.heap.size:=VU hn0 g3.size;have gh:W.cell? (Av Bp)=some (Pt pb):=Gr g3 hBp (fun h=>h.2 rfl);have gg:Below n₀ w0 W:=hw.trans (g3.below (fun k h=>h.1) hn0);obtain⟨V,hV⟩:=Ex ((W.alloc (.cells #[.func (.yield l) #[] #[]] 302)).alloc (.cells #[Pt pb] 147));have g4:∀ N,Wr N W V:=fun N=>by rw[hV];exact((Wr.refl N W).alloc _).alloc _
 have gk:J [] M V:=g7 _ _ _ _ hJ (g4 _);have g2:=g6 _ _ _ hJ;have g9:V.cell? (Av W.heap.size)=some (.func (.yield l) #[] #[]):=by rw[hV];simp
 have gc:V.cell? (Av (W.heap.size+1))=some (Pt pb):=by rw[hV];simp
 have gn:V.cell? (Av Bp)=some (Pt pb):=Gr (g4 (fun _=>False)) gh (fun h=>h);have g1:Below n₀ w0 V:=gg.trans ((g4 (fun k=>n₀<=k)).below (fun _ h=>h) gd);have gi:V.heap.size=W.heap.size+2:=by rw[hV];simp
 have gl:EaS n₀ o w0 pb p Bp W.heap.size l M M V V:=⟨⟨g1,gn,Wr.refl _ _,fun k h=>.inl h,gp Bp rfl⟩,g9,fun e=>by have:=(g2 _ e).2;omega,fun k h=>(g2 k h).1⟩;have HP:∀ W',Below n₀ w0 W'->Ar o W' pb p:=fun W' hb=>hp.below (hb.mono h0) hlt
 have HG:=Hd (Qs F (n-1) hF3 hro (by omega) (W.heap.size+1) n₀ pb hp hlt h0 V g1 (by omega) gc);have gq:=Hd HP;have gB:=Hd hY;have gF:=Hd gl;have gD:=Hd g6;have gt:=Hd g2;have g8:=Hd g7;have gE:=Hd gk;have gC:=Hd g4;have gI:=hp.len;have gr:=hp.pos;have gH:=hp.top;have gG:=hp.room;have h1:1<=n:=by omega
 have gP:(W.alloc (.cells #[.func (.yield l) #[] #[]] 302)).cell? (Av Bp)=some (Pt pb):=Gr ((Wr.refl (fun _=>False) W).alloc _) gh (fun h=>h);refine Yw func266 rfl hF1 ?_ hro;simp only[ntmps266,Xc,Wp,Xi,Nat.reduceAdd,Nat.reduceSub,Xq,Xr,X3,Xt,WQ,Xy];clear g6 g7 g3 gp hY hJ gk g2 g9 gc gn g1 gl HP hp hlt h0 hw hBp gg g4 gi
 gi_wp2_with (gi_at_call 267;refine(Qt F (n-1) hF2 hro _ _).mono ?_;rintro e w' ⟨rfl,rfl⟩)
 rw[<- hV];have gi:V.heap.size=W.heap.size+2:=by rw[hV];simp
 clear hV;have gL:prog.follows .mixedOrders=true:=by kernel_rfl
 refine I7 hro h1 (gf:=272) (lb:=#[Pt (W.heap.size+1)]) rfl hF3 (XH func272 (by kernel_rfl) rfl) HG.o
  (by omega) (by rintro k rfl;omega) (fun x=>rfl)
  (fun pre N V'=>∃ M1,(∀ k,N k↔M1 k\/k=W.heap.size\/k=Bp)/\J pre M1 V'/\EaS n₀ o w0 pb p Bp W.heap.size l M M1 V V')
  ?_ ?_ (fun k=>M k\/k=W.heap.size\/k=Bp) ?_ ⟨M,fun k=>Iff.rfl,gE.o,gF.o⟩
  (fun x a' _ _=>a'={
   tmps :=
    #[Value.func (Fn.yield l) #[] #[],Value.pointer (some { block:=Bp,off:=0 }),
     Value.pointer (some { block:=W.heap.size,off:=0 }),Value.int IntKind.i64 ↑x,
     Value.pointer (some { block:=pb,off:=0 }),
     Value.func (Fn.func 272) #[] #[Value.pointer (some { block:=W.heap.size+1,off:=0 })],
     Value.int IntKind.i64 ↑x,undef,undef,undef,undef,undef,undef,undef,undef,undef,undef],
   defers:=[] }) ?_ ?_ ?_ ?_
 ·rintro pre N V' ⟨M1,hN,hj,hE⟩ k hk;rcases(hN k).1 hk with h|h|h
  . exact gD.o _ _ _ hj k h
  . subst h;exact⟨gd,Ag hE.boxy⟩
  . subst h;exact⟨hBn,Ag hE.it.box⟩
 ·rintro pre N V' V'' ⟨M1,hN,hj,hE⟩ hw
  have g5:∀ k,k<V'.heap.size->(k<n₀\/N k)->V''.heap[k]?=V'.heap[k]?:=fun k hk hn=>hw.keep k hk (fun⟨a,b⟩=>by
   rcases hn with h|h
   . omega
   . exact b h)
  refine⟨M1,hN,g8.o _ _ _ _ hj (hw.mono fun k ⟨a,b⟩=>⟨a,fun h=>b ((hN k).2 (.inl h))⟩),⟨⟨?_,?_,?_,hE.it.sub,hE.it.nb⟩,?_,hE.ny,hE.ge⟩⟩
  . exact hE.it.low.trans (hw.below (fun k h=>h.1) (by have:=hE.it.wr.size;omega))
  . exact(Co hE.it.box (g5 _ (Ag hE.it.box) (.inr ((hN _).2 (.inr (.inr rfl))))))
  . exact hE.it.wr.trans hw (fun _ _ h=>h) (fun k _ h=>h.1)
  . exact(Co hE.boxy (g5 _ (Ag hE.boxy) (.inr ((hN _).2 (.inr (.inl rfl))))))
 ·rintro k rfl h;have gR:W.heap.size+1<W.heap.size\/W.heap.size+1=W.heap.size\/W.heap.size+1=Bp:=by
   rcases h with h|h
   . left;exact(gt.o _ h).2
   . right;exact h
  omega
 . intro x a' W' W1 W2 l' _ h _;exact h
 ·intro l' pre x N V' K hI hK
  gi_wp2
  exact hK _ _ (Wr.refl _ _) rfl
 ·rintro l' pre x a' N W0 W1 ⟨M1,hN,hj,hE⟩ rfl gK hs1 g0;obtain⟨suf,g0⟩:=g0;have hx:p.tk x=true:=Lc g0;obtain⟨vs,vt,vf,d0,d1,d2,d3,d4,hs,ht,_⟩:=(gq.o W1 hE.it.low).cells;have gO:=hE.it.box;have gN:=hE.boxy;obtain⟨gs,cs,rfl,gw⟩:=hs.shape gr;have gu:=((gq.o W1 hE.it.low).tk_lt hx).2;have gM:=Ar.node hs (k:=x) gu;have gJ:(x:Int)<p.at_.length:=by omega
  obtain⟨fn,tmps,assign,body,hy,hR⟩:=gB.o _ x M1 W1.drew (g8.o _ _ _ _ hj ((Wr.refl _ W1).drew)) ⟨suf,g0⟩;simp only[An] at hy;have HR:=Hd hR;have HE:=Hd hE;have HN:=Hd hN;clear hs hE hj hR hN g0 gw
  gi_wp2
  gi_region_with_o (refine⟨fun _=>by omega,HR.o.mono ?_⟩;rintro e W3 ⟨rfl,M3,gy,ga,gj⟩)
  all_goals gi_wp2
  all_goals exact⟨fun k=>M3 k\/k=W.heap.size\/k=Bp,⟨M3,fun k=>Iff.rfl,gy,HE.o.go (by omega) (Wr.trans ((Wr.refl M1 W1).drew) ga (fun _ _ h=>h) (fun _ _ h=>h)) gj⟩,
   Wr.trans ((Wr.refl M1 W1).drew) ga (fun k _ h=>.inl ((HN.o k).2 (.inl h))) (fun k _ h=>.inl ((HN.o k).2 (.inl h))),
   fun k hk=>by
    rcases hk with hk|hk
    ·rcases gj k hk with h|h
     . exact .inl ((HN.o k).2 (.inl h))
     . right;have:W1.heap.size<=k:=h;omega
    . exact .inl ((HN.o k).2 (.inr hk))⟩
 ·rintro D N W2 gS gA ⟨M1,hN,hj,hE⟩ gQ gv gz
  gi_wp2
  refine⟨by simp,.inl ⟨_,_,rfl,run_takeDeferred gz,?_⟩⟩;have gm:n₀<=D:=by omega
  refine⟨_,Wy rfl _ _ _,⟨_,rfl⟩,M1,?_,?_,?_⟩
  . exact g8.o _ _ _ _ hj ((Wr.refl _ _).putObj (.inl ⟨gm,fun h=>gA ((hN D).2 (.inl h))⟩) _)
  . exact((gC.o (fun k=>n₀<=k)).trans gv (fun _ _ h=>h) (fun _ _ h=>h)).putObj (.inl gm) _
  ·intro k hk;rcases hE.it.sub k hk with h|h
   . exact .inl h
   . right;omega
def AH (d:Ae):List Nat:=(BS d.pool).filter (fun i=>decide (Ai d i=0))
theorem Qw (p:Ad):(BS p).Nodup:=(List.nodup_range).filter _
theorem Qx (d:Ae):(AH d).Nodup:=(Qw d.pool).filter _
theorem IG (h:i∈AH d):d.pool.tk i=true/\Ai d i=0:=by
 unfold AH at h;rw[X8] at h;exact⟨(X8.1 h.1).2,by simpa using h.2⟩
theorem Ld (f g:Nat->Bool):∀ k,((((List.range k).filter f).filter g).length:Int)=Ah k (fun i=>if f i=true then (if g i=true then 1 else 0) else 0)
 | 0=>by simp[Ah]
 | k+1=>by
   rw[X6,WB,WB,VY];have ih:=Ld f g k;rw[Int.natCast_add,ih];cases hf:f k<;>cases hg:g k<;>simp[Ah,hf,hg,List.filter]
theorem Le {ext:Nat->Int}(h:AD d ext):(AH d).length=d.dead:=by
 have h1:=h.dead;have h2:((AH d).length:Int)=Ah d.pool.at_.length (dead1 (Aa d) (Ai d)):=by
  unfold AH BS Cj;rw[Ld];refine BI _ fun i _=>?_
  unfold dead1 Aa Ad.get;cases ht:d.pool.tk i<;>simp
 unfold Bg at h1;omega
structure CD (d:Ae)(k:Nat)(d':Ae):Prop where
 vars:d'.vars=d.vars
 level:d'.level=d.level
 counts:d'.counts=d.counts
 dead:d'.dead=d.dead
 room:d'.pool.room=d.pool.room
 alen:d'.pool.at_.length=d.pool.at_.length
 keep:∀ i,i∉(AH d).take k->d'.pool.tk i=d.pool.tk i/\d'.pool.nd i=d.pool.nd i
 gone:∀ i,i∈(AH d).take k->d'.pool.tk i=false
 tab:∀ v,v<d.vars.length->∀ lo hi id,d'.tab v (lo,hi)=some id↔Aa d' id=some ⟨v,lo,hi⟩
 many:d'.pool.many+k=d.pool.many
theorem CD.start (ht:∀ v,v<d.vars.length->∀ lo hi id,d.tab v (lo,hi)=some id↔Aa d id=some ⟨v,lo,hi⟩):CD d 0 d :=
 ⟨rfl,rfl,rfl,rfl,rfl,rfl,fun _ _=>⟨rfl,rfl⟩,fun i h=>by simp at h,ht,rfl⟩
def II (d:Ae)(i:Nat)(b:BN):Ae:={ d with pool:=d.pool.give i,tab:=fun v=>if v=b.v then putF (d.tab v) (b.lo,b.hi) none else d.tab v }
abbrev XF:=@List.pairwise_iff_getElem
theorem CD.at {d d':Ae}{k i:Nat}(h:CD d k d')(hi:(AH d)[k]?=some i):d'.pool.tk i=true/\d'.pool.nd i=d.pool.nd i:=by
 obtain⟨g0,e⟩:=WH.1 hi;have hm:i∈AH d:=e ▸ Wh g0;have hn:i∉(AH d).take k:=by
  intro hh;rw[List.mem_take_iff_getElem] at hh;obtain⟨j,hj,e2⟩:=hh;have g1:=XF.1 (Qx d) j k (by omega) g0 (by omega);exact g1 (e2.trans e.symm)
 have:=h.keep i hn;exact⟨this.1.trans (IG hm).1,this.2⟩
theorem CD.next (h:CD d k d')(hi:(AH d)[k]?=some i)(hl:d'.pool.taken.length=d'.pool.at_.length)(hat:i<d'.pool.at_.length)(hm:1<=d'.pool.many) :
 CD d (k+1) (II d' i (bnOf (d'.pool.nd i))):=by
 obtain⟨g2,e⟩:=WH.1 hi;obtain⟨ht,g3⟩:=h.at hi;have e1:(AH d).take (k+1)=(AH d).take k++[i]:=by rw[VX g2,e]
 have tk:∀ j,(d'.pool.give i).tk j=if j=i then false else d'.pool.tk j:=fun j=>EU (by rw[hl];exact hat) j
 have nd:∀ j,(d'.pool.give i).nd j=if j=i then rn0 else d'.pool.nd j:=fun j=>Dp hat j
 have g0:Aa d' i=some (bnOf (d'.pool.nd i)):=by unfold Aa Ad.get;rw[VW ht];rfl
 have g1:∀ j,Aa (II d' i (bnOf (d'.pool.nd i))) j=if j=i then none else Aa d' j:=fun j=>by
  unfold Aa
  show ((d'.pool.give i).get j).map bnOf=_
  rw[Ad.give_get (by rw[hl];exact hat) hat]
  by_cases e:j=i<;>simp[e]
 refine⟨h.vars,h.level,h.counts,h.dead,h.room,?_,fun j hj=>?_,fun j hj=>?_,fun v hv lo hY id=>?_,?_⟩
 ·show (d'.pool.at_.set i rn0).length=_
  rw[Ws];exact h.alen
 ·rw[e1] at hj;simp only[Wj,Wf,not_or] at hj
  show (d'.pool.give i).tk j=_/\(d'.pool.give i).nd j=_
  rw[tk,nd,VS hj.2,VS hj.2];exact h.keep j hj.1
 ·rw[e1] at hj;simp only[Wj,Wf] at hj
  show (d'.pool.give i).tk j=_
  rw[tk]
  by_cases e2:j=i
  . rw[VW e2]
  . rw[VS e2];exact h.gone j (hj.resolve_right e2)
 ·rw[g1];have h0:=h.tab v hv lo hY id
  show (if v=(bnOf (d'.pool.nd i)).v then putF (d'.tab v) ((bnOf (d'.pool.nd i)).lo,(bnOf (d'.pool.nd i)).hi) none else d'.tab v) (lo,hY)=some id↔_
  by_cases e2:id=i
  ·subst e2;simp only[Xb];constructor
   ·intro hh;exfalso
    by_cases e3:v=(bnOf (d'.pool.nd id)).v
    ·rw[VW e3] at hh;unfold putF at hh
     by_cases e4:(lo,hY)=((bnOf (d'.pool.nd id)).lo,(bnOf (d'.pool.nd id)).hi)
     . rw[VW e4] at hh;cases hh
     . rw[VS e4,h0,g0] at hh;cases hh;exact e4 rfl
    . rw[VS e3,h0,g0] at hh;cases hh;exact e3 rfl
   . intro hh;cases hh
  ·rw[VS e2,<- h0]
   by_cases e3:v=(bnOf (d'.pool.nd i)).v
   ·rw[VW e3];unfold putF
    by_cases e4:(lo,hY)=((bnOf (d'.pool.nd i)).lo,(bnOf (d'.pool.nd i)).hi)
    ·rw[VW e4];constructor
     . intro hh;cases hh
     . intro hh;exfalso;have q:=(h.tab v hv lo hY i).2 (by rw[g0];cases e4;rw[e3]);rw[hh] at q;cases q;exact e2 rfl
    . rw[VS e4]
   . rw[VS e3]
 ·show d'.pool.many-1+(k+1)=_
  have:=h.many;omega
structure AJ (d d':Ae):Prop where
 vars:d'.vars=d.vars
 level:d'.level=d.level
 counts:d'.counts=d.counts
 room:d'.pool.room=d.pool.room
 dead:d'.dead=0
 alen:d'.pool.at_.length=d.pool.at_.length
 nodes:∀ i,Aa d' i=if 0<Ai d i then Aa d i else none
 ext:∀ i b,Aa d' i=some b->Ak d' i=Ak d i
 tab:∀ v,v<d.vars.length->∀ lo hi id,d'.tab v (lo,hi)=some id↔Aa d' id=some ⟨v,lo,hi⟩
 many:d'.pool.many+d.dead=d.pool.many
abbrev XV:=@List.mem_range
theorem CD.done {ext:Nat->Int}(h:CD d (AH d).length d')(hl:AD d ext)(hat:∀ i,d.pool.tk i=true->i<d.pool.at_.length):AJ d { d' with dead:=0 }:=by
 have hk:(AH d).take (AH d).length=AH d:=W9;have g1:∀ i,d.pool.tk i=true->Ai d i=0->i∈AH d:=fun i h1 h2=>by
  unfold AH BS Cj;simp only[X8,XV,Xh];exact⟨⟨hat i h1,h1⟩,h2⟩
 refine⟨h.vars,h.level,h.counts,h.room,rfl,h.alen,fun i=>?_,fun i b hb=>?_,h.tab,by rw[<- Le hl];exact h.many⟩
 ·show (d'.pool.get i).map bnOf=if 0<Ai d i then (d.pool.get i).map bnOf else none
  unfold Ad.get
  by_cases hc:i∈AH d
  . have h1:=h.gone i (by rw[hk];exact hc);have h2:=(IG hc).2;simp[h1,h2]
  ·obtain⟨h1,h2⟩:=h.keep i (by rw[hk];exact hc);rw[h1,h2]
   by_cases h3:0<Ai d i
   . rw[VW h3]
   ·rw[VS h3];cases ht:d.pool.tk i with
    | false=>rfl
    | true=>exact absurd (g1 i ht (by omega)) hc
 ·have g0:(d'.pool.get i).map bnOf=some b:=hb;have ht:d'.pool.tk i=true:=by
   unfold Ad.get at g0;cases ht:d'.pool.tk i with
   | true=>rfl
   | false=>rw[ht] at g0;simp at g0
  have hc:i∉AH d:=fun hc=>by rw[h.gone i (by rw[hk];exact hc)] at ht;cases ht
  obtain⟨h1,h2⟩:=h.keep i (by rw[hk];exact hc)
  show (if d'.pool.tk i=true then ((d'.pool.nd i).refs:Int) else 0)=if d.pool.tk i=true then ((d.pool.nd i).refs:Int) else 0
  rw[h1,h2]
theorem Gt {ext:Nat->Int}(hl:AD d ext)(h0:d.dead=0){b:BN}(hb:Aa d i=some b):0<Ai d i:=by
 have h1:=hl.dead;rw[h0] at h1;have h2:=FN (f:=dead1 (Aa d) (Ai d)) d.pool.at_.length (fun i _=>Kc _ _ i) (hl.cnt.lt i b hb);unfold Bg at h1;unfold dead1 at h2;rw[hb] at h2
 by_cases h:Ai d i=0
 . simp only[h,Xb] at h2;unfold dead1 at h1;omega
 . omega
theorem AJ.none {d:Ae}{V:Nat->BF}(hk:Aj d V)(h0:d.dead=0):AJ d d:=by
 refine⟨rfl,rfl,rfl,rfl,h0,rfl,fun i=>?_,fun _ _ _=>rfl,hk.tab,by omega⟩;cases hb:Aa d i with
 | none=>simp
 | some b=>rw[VW (Gt hk.live h0 hb)]
theorem Qy (d:Ae)(i:Nat):0<=Ak d i:=by unfold Ak;split<;>omega
section
theorem AJ.sub (r:AJ d d'){b:BN}(h:Aa d' i=some b):Aa d i=some b/\0<Ai d i:=by
 rw[r.nodes] at h;split at h
 . rename_i hc;exact⟨h,hc⟩
 . cases h
theorem AJ.cnt (r:AJ d d'):Ai d'=Ai d:=by funext i;unfold Ai;rw[r.counts]
theorem AJ.lev (r:AJ d d'):levN d'=levN d:=by funext v;unfold levN;rw[r.level]
theorem AJ.kid (r:AJ d d')(hk:Aj d V){b:BN}(h:Aa d' i=some b)(he:e=b.lo\/e=b.hi):okE (Aa d') e:=by
 obtain⟨h1,h2⟩:=r.sub h;have ho:okE (Aa d) e:=by
  rcases he with rfl|rfl
  . exact hk.dag.okLo i b h1
  . exact hk.dag.okHi i b h1
 rcases ho with h0|⟨c,hc⟩
 . exact .inl h0
 . refine .inr ⟨c,?_⟩;rw[r.nodes,VW (hk.live.cnt.pos_of_live h1 h2 he hc (Qy d _))];exact hc
theorem AJ.lvE (r:AJ d d')(h0:Aa d 0=Option.none){n:Nat}{lev:Nat->Nat}{e:Nat}(he:okE (Aa d') e):Go.Proofs.YtkidaindpahefaaGreat.lvE n lev (Aa d') e=Go.Proofs.YtkidaindpahefaaGreat.lvE n lev (Aa d) e:=by
 unfold Go.Proofs.YtkidaindpahefaaGreat.lvE;rcases he with he|⟨b,hb⟩
 ·have:Aa d' 0=Option.none:=by rw[r.nodes,h0];simp
  rw[he,h0,this]
 . rw[hb,(r.sub hb).1]
theorem AJ.ok (r:AJ d d')(hk:Aj d V):Aj d' V:=by
 have g0:∀ e,okE (Aa d') e->Go.Proofs.YtkidaindpahefaaGreat.lvE d.vars.length (levN d) (Aa d') e=Go.Proofs.YtkidaindpahefaaGreat.lvE d.vars.length (levN d) (Aa d) e:=fun e he=>r.lvE hk.dag.none0 he
 refine⟨?_,⟨?_,?_,fun i b hb=>by rw[r.counts];exact hk.live.has i b (r.sub hb).1⟩,by rw[r.vars];exact r.tab,by rw[r.counts];exact hk.clen,by rw[r.vars];exact hk.small,by rw[r.vars,r.lev];exact hk.inv,by rw[r.vars,r.lev];exact hk.vlt⟩
 . rw[r.vars,r.lev];exact hk.dag.restrict (Aa d') (fun i b h=>(r.sub h).1) (fun i b h=>⟨r.kid hk h (.inl rfl),r.kid hk h (.inr rfl)⟩)
 . rw[r.alen,r.cnt];exact(hk.live.cnt.collect (Aa d') r.nodes).congr (fun x b hb=>r.ext x b hb)
 ·rw[r.dead];unfold Bg;rw[BI (g:=fun _=>0) _ (fun i _=>?_),D4]
  . rfl
  ·unfold dead1;cases hb:Aa d' i with
   | none=>rfl
   | some b=>have:=(r.sub hb).2;rw[r.cnt];simp;omega
end
attribute [local go_sem] Yx
theorem IJ {F:Fence}{fu:Nat}(T e:TypeId)(size bytes:Nat)(z:Value)(hT:prog.underlying T=some (.slice e))(he:(prog.info? e).map (fun i=>(i.zero,i.size,i.bytes))=some (some z,size,bytes))(hzs:z.cells.size=size)(hsz:0<size)
 {wr:Wd} {ops:Array Oper} {rest:List Oper} {op:Oper} {a:Act} {Q:Exit->Act->Wd->Prop} {W:Wd} (hgd:op.guard=none) (s x:Operand)
 (hop:op.op=.call { callee:=.builtin .append,args:=#[s,x],argTypes:=#[T,T] })
 {o:Own} {r:Role} {v:Value} {n:Nat} {xs:List Value} (hs:a.eval s=v) {N:Nat} (hx:a.eval x=.slice (some (Av N)) 1 1) {news:Array Value}
 (hW:W=wr.alloc (.cells news e)) (hN:N=wr.heap.size) (hl:news.size=size) (h1:∀ u∈news.toList,u.oneCell'=true) (h:RowR o wr r e size v n xs) (hlt:Ac o wr) (hn:n<1000000000) (hb:bytes<=10000)
 (hK:∀ g cap w' o',RowR o' w' r e size (.slice (some (Av g)) (n+1) cap) (n+1) (xs++news.toList)->Chg (· = r) o o' wr w'->Ac o' w'->wpListIn F fu prog ops Q rest (a.put op.dst (.slice (some (Av g)) (n+1) cap)) w'):wpListIn F fu prog ops Q (op::rest) a W:=by
 subst hN;subst hW
 obtain⟨g,cap,w',o',hr,h2,h3,h4⟩:=Ic T e op.type size bytes z hT he hzs hsz news hl h1 h hlt hn hb;refine wpListIn_plain hgd fun K g1=>?_
 unfold Oper.wpIn;refine⟨?_,?_⟩
 . simp[Oper.about,hop,resolve,Target.leads,Sem.run_pure]
 . rw[Oper.semAt_plain F _ _ (by rw[hop];intro c g0;cases g0)];simp only[execOp,hop,resolve,invoke,builtin,Xl,Sem.run_pure,WD,List.map_toArray,Xg,List.map_nil,hs,hx,hr];exact g1 _ _ (hK g cap w' o' h2 h3 h4)
theorem Gu (w:Wd)(o:Obj):(w.alloc o).drew=w.drew.alloc o:=rfl
theorem Lf {F:Fence}{c:Code}{a:Act}(W1:Wd)(h:∃ A,c.wpIn F n P (fun e a' W'=>e=.normal/\a'=A/\W'=W1) a w/\Q .normal A W1):c.wpIn F n P Q a w:=by
 obtain⟨A,h1,h2⟩:=h;refine wpIn_mono h1 ?_;rintro _ _ _ ⟨rfl,rfl,rfl⟩;exact h2
def BJ (d:Ae)(pre:List Nat):List Nat:=pre.filter (fun i=>decide (Ai d i=0))
structure GatS (d:Ae)(w:Wd)(sb:Nat)(pre:List Nat)(M:Nat->Prop)(W:Wd)(v:Value)(oG:Own):Prop where
 mm:∀ k,M k↔(k=w.heap.size\/k=w.heap.size+1\/oG k=some .slots)
 low:Bw w W
 boxs:W.heap[w.heap.size]?=some (.cells #[Pt sb] 96 (0,0))
 boxg:W.heap[w.heap.size+1]?=some (.cells #[v] 225 (0,0))
 row:RowR oG W .slots 254 5 v (BJ d pre).length ((BJ d pre).flatMap fun i=>rnV (d.pool.nd i))
 lt:Ac oG W
 ge:∀ k r,oG k=some r->r=.slots/\w.heap.size+2<=k
def Gat (d:Ae)(w:Wd)(sb:Nat)(pre:List Nat)(M:Nat->Prop)(W:Wd):Prop:=∃ v oG,GatS d w sb pre M W v oG
theorem GatS.minds (h:GatS d w sb pre M W v oG)(hw:Wr (fun k=>w.heap.size<=k/\¬ M k) W W'):GatS d w sb pre M W' v oG:=by
 have hk:∀ k,k<W.heap.size->M k->W'.heap[k]?=W.heap[k]?:=fun k h1 h2=>hw.keep k h1 (fun e=>e.2 h2)
 have hm:=h.mm
 refine⟨hm,h.low.trans (hw.below (fun k h=>h.1) h.low.size),(hk _ (VP.1 h.boxs).1 ((hm _).2 (.inl rfl))).trans h.boxs,(hk _ (VP.1 h.boxg).1 ((hm _).2 (.inr (.inl rfl)))).trans h.boxg,
  h.row.keep (fun g hg=>hk g (h.lt g _ hg) ((hm g).2 (.inr (.inr hg)))) (fun _ h=>h),h.lt.mono hw.size,h.ge⟩
theorem Qz (h:Ai d x=0):BJ d (pre++[x])=BJ d pre++[x]:=by unfold BJ;rw[WB];simp[h]
theorem Q0 (h:Ai d x≠0):BJ d (pre++[x])=BJ d pre:=by unfold BJ;rw[WB];simp[h]
theorem GatS.add {oG':Own}(h:GatS d w sb pre M W v oG)(hc:Ai d x=0)
 (hr:RowR oG' W1 .slots 254 5 v' ((BJ d pre).length+1) (((BJ d pre).flatMap fun i=>rnV (d.pool.nd i))++rnV (d.pool.nd x))) (hg:Chg (· = .slots) oG oG' W W1) (hl:Ac oG' W1) {n:Nat} (hn:n<=W.heap.size) :
 ∃ M',Gat d w sb (pre++[x]) M' (W1.setCell (Av (w.heap.size+1)) v')/\Wr (fun k=>M k\/n<=k) W (W1.setCell (Av (w.heap.size+1)) v')/\∀ k,M' k->M k\/n<=k:=by
 have none:∀ k,k<w.heap.size+2->oG k=Option.none:=fun k hk=>by
  cases e:oG k with
  | none=>rfl
  | some r=>have:=(h.ge k r e).2;omega
 have g0:w.heap.size+1<W.heap.size:=(VP.1 h.boxg).1;have k0:=(hg.alien (by omega) (none w.heap.size (by omega))).trans h.boxs;have k1:=(hg.alien g0 (none (w.heap.size+1) (by omega))).trans h.boxg;have ge':∀ k r,oG' k=some r->r=.slots/\w.heap.size+2<=k:=fun k r hk=>by
  by_cases e:oG' k=oG k
  . rw[e] at hk;exact h.ge k r hk
  ·obtain⟨a1,q,a2,a3⟩:=hg.new k e;rw[hk] at a2;cases a2
   exact⟨a3,by omega⟩
 refine⟨fun k=>k=w.heap.size\/k=w.heap.size+1\/oG' k=some .slots,⟨v',oG',⟨fun k=>Iff.rfl,?_,?_,A7 k1 _,?_,hl.mono (by simp[World.setCell]),ge'⟩⟩,?_,fun k hk=>?_⟩
 . have:Bw w W1:=h.low.trans ⟨hg.os,hg.tape,hg.output,hg.size,fun k hk=>hg.alien (Wm hk h.low.size) (none k (by omega))⟩;exact this.setCell (p:=⟨w.heap.size+1,0,Option.none⟩) (by show _<=w.heap.size+1;omega) _
 . exact(A0 (by show _≠w.heap.size+1;omega) _).trans k0
 . rw[Qz hc,VY,XD];simp only[Xm,X1,List.flatMap_nil,WX];exact hr.setCell_other (fun e=>by have:=(ge' _ _ e).2;simp at this) _
 . have:Wr (fun k=>M k\/n<=k) W W1:=⟨hg.os,hg.tape,hg.output,hg.size,fun k hk hm=>hg.block k hk fun r hr e=>hm (.inl ((h.mm k).2 (.inr (.inr (by rw[hr,e])))))⟩;exact this.setCell (p:=⟨w.heap.size+1,0,Option.none⟩) (.inl (.inl ((h.mm _).2 (.inr (.inl rfl))))) _
 ·rcases hk with hk|hk|hk
  . exact .inl ((h.mm k).2 (.inl hk))
  . exact .inl ((h.mm k).2 (.inr (.inl hk)))
  ·by_cases e:oG' k=oG k
   . rw[e] at hk;exact .inl ((h.mm k).2 (.inr (.inr hk)))
   . have:=(hg.new k e).1;right;omega
theorem GatS.no (h:GatS d w sb pre M W v oG)(k:Nat)(hk:k<w.heap.size+2):oG k=none:=by
 cases e:oG k with
 | none=>rfl
 | some r=>have:=(h.ge k r e).2;omega
theorem GatS.drew {d:Ae}{w:Wd}{sb:Nat}{pre:List Nat}{M:Nat->Prop}{W:Wd}{v:Value}{oG:Own}(h:GatS d w sb pre M W v oG):GatS d w sb pre M W.drew v oG:=h.minds ((Wr.refl _ W).drew)
def Gv (o:Own)(W2:Wd)(sb:Nat)(d:Ae)(s:BX)(k:Nat)(wr:Wd):Prop:=∃ o1 d1,Ap o1 wr sb d1 s/\Ac o1 wr/\CD d k d1/\Chg Al o o1 W2 wr
theorem Gv.next {o o1 o2:Own}{W2 wr w3 w4 w4' w5:Wd}{sb:Nat}{d d1:Ae}{s:BX}{k i:Nat}{N:RN}(hs1:Ap o1 wr sb d1 s)(hl1:Ac o1 wr)(hr1:CD d k d1)(hc1:Chg Al o o1 W2 wr)(hi:(AH d)[k]?=some i)(hN:d1.pool.nd i=N)(hb3:Bw wr w3)
 (ht:AP o1 w4 N.v (s.ts.getD N.v 0) (putF (d1.tab N.v) (N.lo,N.hi) none)) (hct:Chg (· = .tmap N.v) o1 o1 w3 w4) (hl4:Ac o1 w4) (hb:Bw w4 w4')
 (hp:Ar o2 w5 s.pb (d1.pool.give i)) (hcp:Chg (fun r=>r=.pool\/r=.slots\/r=.taken\/r=.free) o1 o2 w4' w5) (hl5:Ac o2 w5):Gv o W2 sb d s (k+1) w5:=by
 have h3:=hs1.below hl1 hb3;have g1:=hl1.mono hb3.size;have h4:=h3.setTab g1 ht hct;have g2:=h4.below hl4 hb;have h5:=g2.setPool (hl4.mono hb.size) hp hcp;have g0:i<d1.pool.at_.length:=(hs1.pool.tk_lt (hr1.at hi).1).2;have e:(fun u=>if u=N.v then putF (d1.tab N.v) (N.lo,N.hi) none else d1.tab u)=(fun u=>if u=N.v then putF (d1.tab u) (N.lo,N.hi) none else d1.tab u):=by
  funext u
  by_cases h:u=N.v
  . subst h;rfl
  . simp[h]
 rw[e] at h5;refine⟨o2,II d1 i (bnOf N),h5,hl5,?_,hc1.trans ((Chg.of_below hb3 _ o1).trans ((hct.mono ?_).trans ((Chg.of_below hb _ o1).trans (hcp.mono ?_))))⟩
 ·have:=hr1.next hi hs1.pool.len g0 (by
   have h1:=hs1.pool.cnt;have h2:=Ki (f:=fun j=>if d1.pool.tk j=true then (1:Int) else 0) (fun j _=>by split<;>omega) g0 (by simp[(hr1.at hi).1]);omega)
  rw[hN] at this;exact this
 . rintro r rfl;exact .inr (.inr (.inr (.inr (.inr (.inr (.inl ⟨_,.inr rfl⟩))))))
 . rintro r h;exact .inr (.inr (.inr (.inr (.inl h))))
theorem E6 {o:Oper}{a:Act}{f:FuncId}{args:Array Value}{R:Value->Wd->Prop}(hg:o.guard=none)
 (he:(execOp a.eval o).run P w=.ok (.enter f args) w) (hc:Calls P f args w fun e w'=>∃ v,e=.returned v/\R v w') (h:∀ v w',R v w'->Q .normal (a.put o.dst v) w'):A9 P ops Q S true [(some o,true)] a w:=by
 refine D5 hg fun K hK=>?_
 unfold Oper.wp;simp only[he,Oper.upon];exact hc.mono fun e w' ⟨v,h1,h2⟩=>by subst h1;exact hK _ _ (h v w' h2)
abbrev Yu:=@callsIn_wide
abbrev YB:=@wpIn_wide
theorem Lg {o:Own}(h:A2 o w sb d)(h0:d.dead=0) :
 Cl 215 #[Pt sb] w (Bl (Iv 0) w):=by
 obtain⟨s,h⟩:=h;obtain⟨c0,c1,c2,c3,c4,f0⟩:=cells5 h.blk;rw[h0] at c4;obtain⟨w1,g0⟩:=Ex (w.alloc (.cells #[Pt sb] 96));have g1:Bw w w1:=by rw[g0];exact Af w _
 have cB:w1.cell? (Av w.heap.size)=some (Pt sb):=by rw[g0];exact cell1 (VT w _)
 have c4':=Cq g1 c4;have HW:Hq (_=w1):=Hd g0.symm;have HB:=Hd g1;clear h c0 c1 c2 c3 c4 f0 g0 g1 h0;refine(Yu (n:=9)).1 ?_;refine Yw func215 rfl trivial ?_;refine YB.2 ?_;simp only[ntmps215,Xc,Wp,Xi,Nat.reduceAdd,Nat.reduceSub,Xq,Xr,X3,Xt,WQ,Xy];go_upto_region 1 with fail;rw[HW.o];go_wp2_with fail;exact⟨_,results_tmp rfl _ _ _,rfl,HB.o⟩
abbrev XR:=@Nat.add_zero
theorem Lh {o:Own}(h:A2 o w sb d)(hlt:Ac o w)(hk:Aj d V)(h0:d.dead≠0) :
 Cl 215 #[Pt sb] w fun x w'=>x=.returned (Iv d.dead)/\∃ o' d',A2 o' w' sb d'/\Ac o' w'/\AJ d d'/\Chg Al o o' w w':=by
 obtain⟨s,h⟩:=h;obtain⟨c0,c1,c2,c3,c4,f0⟩:=cells5 h.blk;have ko:((d.dead:Int) == 0)=false:=by simpa using h0
 obtain⟨w1,go⟩:=Ex (w.alloc (.cells #[Pt sb] 96));have gM:Bw w w1:=by rw[go];exact Af w _
 have hB:w1.heap[w.heap.size]?=some (.cells #[Pt sb] 96 (0,0)):=by rw[go];exact VT w _
 have hs1:w1.heap.size=w.heap.size+1:=by rw[go];simp
 obtain⟨w2,g6⟩:=Ex (w1.alloc (.cells #[.slice none 0 0] 225));have gL:Bw w w2:=by rw[g6];exact gM.alloc (by omega) _
 have gO:w2.heap[w.heap.size]?=some (.cells #[Pt sb] 96 (0,0)):=by rw[g6];exact(Xd w1 _ _ (by omega)).trans hB
 have hp:w2.heap[w.heap.size+1]?=some (.cells #[.slice none 0 0] 225 (0,0)):=by rw[g6,<- hs1];exact VT w1 _
 have gG:w2.heap.size=w.heap.size+2:=by rw[g6];simp[hs1]
 have cB1:=cell1 hB;have cB2:=cell1 gO;have cS1:=Cq gM c4;have cS2:=Cq gL c1;have HW1:Hq (_=w1):=Hd go.symm;have hy:Hq (_=w2):=Hd g6.symm;have HB2:=Hd gL;have HH:=Hd h;have HE:=Hd (Yu.1 (Qu Fence.wide 9 trivial rfl s.pb w2));clear h c0 c1 c2 c3 c4 f0 go g6 gM gL;refine(Yu (n:=9)).1 ?_;refine Yw func215 rfl trivial ?_;refine YB.2 ?_;simp only[ntmps215,Xc,Wp,Xi,Nat.reduceAdd,Nat.reduceSub,Xq,Xr,X3,Xt,WQ,Xy];go_upto_region 1 with fail;rw[HW1.o];go_upto_region 4 with fail;rw[hy.o];go_wp2_with fail;refine HE.o.mono ?_;rintro x w3 ⟨rfl,gn⟩;go_wp2_with fail;obtain⟨w3',g4⟩:=Ex (w2.alloc (.cells #[Pt s.pb] 147));rw[<- g4];have kk:w3'.heap.size=w.heap.size+3:=by rw[g4];simp[gG]
 have g5:Bw w w3':=by rw[g4];exact HB2.o.alloc (by omega) _
 have hu:w3'.heap[w.heap.size]?=some (.cells #[Pt sb] 96 (0,0)):=by rw[g4];exact(Xd w2 _ _ (by omega)).trans gO
 have ho:w3'.heap[w.heap.size+1]?=some (.cells #[.slice none 0 0] 225 (0,0)):=by rw[g4];exact(Xd w2 _ _ (by omega)).trans hp
 have hn:w3'.cell? (Av (w.heap.size+2))=some (Pt s.pb):=by rw[g4,<- gG];exact cell1 (VT w2 _)
 have gi:Hq (Ap o w sb d s):=HH;have g7:=Hd hlt;have HK:=Hd hk;have HG:=Hd (Qv Fence.wide 8 trivial trivial trivial rfl (by omega) (w.heap.size+2) w.heap.size s.pb HH.o.pool hlt (VQ _) w3' g5 (by omega) (by omega) hn);clear g4 hB gO hp cB1 cB2 cS1 cS2 HE HW1 hy hs1 gG hn;refine(YB (n:=9)).1 ?_;refine I7 rfl (by omega) (gf:=266) (lb:=#[Pt (w.heap.size+2)]) rfl trivial (XH func266 (by kernel_rfl) rfl) HG.o (by omega) (by rintro k rfl;omega) (fun x=>rfl)
  (Gat d w sb) ?_ ?_ (fun k=>k=w.heap.size\/k=w.heap.size+1) (by rintro k rfl h;omega) ⟨.slice none 0 0,fun _=>none,(⟨fun k=>by simp,g5,hu,ho,RowR.nil _ _ _ _ _,fun k r h=>(by cases h),fun k r h=>(by cases h)⟩:GatS d w sb [] _ w3' (.slice none 0 0) (fun _=>none))⟩
  (fun x a' W W1=>∃ Bn,W.heap.size<=Bn/\W1.heap[Bn]?=some (.cells #[Iv (d.pool.nd x).id,Iv (d.pool.nd x).v,Iv (d.pool.nd x).lo,Iv (d.pool.nd x).hi,Iv (d.pool.nd x).refs] 254 (0,0))/\a'={ tmps:=#[Value.pointer (some { block:=sb,off:=0 }),Value.pointer (some { block:=w.heap.size,off:=0 }),Value.int IntKind.i64 0,Value.pointer (some { block:=w.heap.size+1,off:=0 }),Value.pointer (some { block:=Bn,off:=0 }),undef,undef,Value.pointer (some { block:=sb,off:=0 }),Value.bool false,Value.bool false,Value.pointer (some { block:=sb,off:=0 }),Value.pointer (some { block:=sb,off:=0 }),Value.pointer (some { block:=sb,off:=4 }),Value.int IntKind.i64 ↑d.dead,Value.bool false,Value.bool false,Value.pointer (some { block:=sb,off:=0 }),Value.pointer (some { block:=sb,off:=0 }),Value.pointer (some { block:=sb,off:=1 }),Value.pointer (some { block:=s.pb,off:=0 }),Value.func (Fn.func 266) #[] #[Value.pointer (some { block:=w.heap.size+2,off:=0 })],An (d.pool.nd x),undef,undef,undef,undef,undef,undef,undef,undef,undef,undef,undef,undef,undef,undef,undef,undef,undef,undef,undef,undef,undef,undef,undef,undef,undef,undef,undef,undef,undef,undef,undef,undef,undef,undef,undef,undef,undef,undef,undef,undef,undef,undef,undef,undef,undef],defers:=[] }) ?_ ?_ ?_ ?_
 ·rintro pre M W ⟨v,oG,hS⟩ k hk;rcases(hS.mm k).1 hk with rfl|rfl|hg
  . exact⟨VQ _,(VP.1 hS.boxs).1⟩
  . exact⟨by omega,(VP.1 hS.boxg).1⟩
  . have:=(hS.ge k _ hg).2;exact⟨by omega,hS.lt k _ hg⟩
 . rintro pre M W W' ⟨v,oG,hS⟩ hw;exact⟨v,oG,hS.minds hw⟩
 . rintro x a' W W1 W2 l hl ⟨Bn,h1,h2,h3⟩ hw;exact⟨Bn,h1,(hw.keep Bn (VP.1 h2).1 (by omega)).trans h2,h3⟩
 ·intro l pre x M W K hI hK;simp only[An]
  gi_wp2
  exact hK _ _ ((Wr.refl _ W).alloc _) ⟨W.heap.size,VQ _,VT W _,rfl⟩
 ·rintro l pre x a' M W0 W ⟨v,oG,hS⟩ ⟨Bn,kp,hb,rfl⟩ hX hs1 g9;obtain⟨suf,g9⟩:=g9;have hx:d.pool.tk x=true:=Lc g9;have gp:=gi.o.below g7.o hS.low;obtain⟨q0,q1,q2,q3,q4,_⟩:=cells5 gp.blk;obtain⟨n0,n1,n2,n3,n4,_⟩:=cells5 hb;have hid:=gp.pool.id x hx;rw[hid] at n0;have gh:Aa d x=some (bnOf (d.pool.nd x)):=by unfold Aa Ad.get;rw[VW hx];rfl
  have gD:x<d.counts.length:=HK.o.live.has x _ gh;obtain⟨gc,cc,gV,_⟩:=gp.counts.shape (by omega);have gm:=gp.counts;rw[gV] at gm q3;have h9:=gm.cell x (by simpa using gD);have gE:(d.counts.map nat64)[x]?=some (Iv (Ai d x:Nat)):=by
   rw[Xv,We gD];simp[nat64,Ai,List.getD,gD]
  rw[gE] at h9;have kh:(x:Int)<d.counts.length:=by omega
  have cb:=cell1 hS.boxs;have cg:=cell1 hS.boxg;have HS:=Hd hS;have kr:=Hd hb;have hJ:=Hd g9;have kc:=Hd hid;have kl:prog.follows .mixedOrders=true:=by kernel_rfl
  clear gp gm gE gV g9 hS hid gh
  by_cases hc:Ai d x=0
  ·rw[hc] at h9;have gl:(BJ d pre).length<1000000000:=by
    have h1:=gi.o.below g7.o HS.o.low;have h2:=h1.pool.top;have h3:=h1.pool.room;have h4:(BJ d pre).length<=(BS d.pool).length:=by rw[<- hJ.o];unfold BJ;refine VU (WV _ _) ?_;simp
    have h5:(BS d.pool).length<=d.pool.at_.length:=by unfold BS Cj;refine VU (WV _ _) ?_;simp
    omega
   have hQ:=Hd gl;have HC:=Hd hc;clear gl
   gi_wp2
   refine Lf W.drew ?_;apply Exists.intro;refine⟨?_,?_⟩
   ·gi_region_o
    all_goals exact⟨rfl,rfl,rfl⟩
   gi_wp2_with (gi_at_builtin
                rw[Gu];refine IJ (wr:=W.drew) 225 254 5 40 _ underlying225 Ga rfl (by decide) rfl _ _ rfl rfl rfl rfl rfl rfl (by simp[Value.oneCell']) HS.o.drew.row HS.o.drew.lt hQ.o (by decide) ?_;intro g1 k1 w1 o1 g2 g0 g3;have gv:=Hd g2;have g8:=Hd g0;have gj:=Hd g3;clear g2 g0 g3 q0 q1 q2 q3 q4 cb;have gy:=(g8.o.alien (VP.1 HS.o.boxg).1 (HS.o.no _ (by omega))).trans HS.o.boxg;have cg1:=cell1 gy;have fz:∀ k,w1.frozen? ⟨w.heap.size+1,k,none⟩=false:=fun k=>by simp[World.frozen?,gy]
                clear cg gy)
   have hH:=HS.o.drew.add HC.o (W1:=w1) (v':=.slice (some (Av g1)) ((BJ d pre).length+1) k1) (by
    have e:rnV (d.pool.nd x)=[Iv (x:Nat),Iv (d.pool.nd x).v,Iv (d.pool.nd x).lo,Iv (d.pool.nd x).hi,Iv (d.pool.nd x).refs]:=by unfold rnV;rw[kc.o]
    rw[e];exact gv.o) g8.o gj.o hX
   obtain⟨M',a1,a2,a3⟩:=hH;exact⟨M',a1,Wr.trans ((Wr.refl (fun _=>False) W).drew) a2 (fun _ _ e=>e.elim) (fun _ _ e=>e),a3⟩
  ·have g0:((Ai d x:Int) == 0)=false:=by simpa using hc
   gi_wp2
   refine Lf W.drew ?_;apply Exists.intro;refine⟨?_,?_⟩
   ·gi_region_o
    all_goals exact⟨rfl,rfl,rfl⟩
   gi_wp2
   exact⟨M,⟨v,oG,by have:=HS.o.drew;exact⟨this.mm,this.low,this.boxs,this.boxg,by rw[Q0 hc];exact this.row,this.lt,this.ge⟩⟩,(Wr.refl _ W).drew,fun k hk=>.inl hk⟩
 ·rintro D M W2 hD k4 ⟨v,oG,hS⟩ _ g6 ht;have HS:=Hd hS;have hA:=Hd ht;have cg:=cell1 hS.boxg;obtain⟨ag,cpg,rfl,_⟩:=hS.row.slice;clear hS ht k4 g6 HG hu ho g5;go_wp2_with fail;have gr:∀ k i,(AH d)[k]?=some i->∃ g,ag=some (Av g)/\o g=none/\∀ j u,(rnV (d.pool.nd i))[j]?=some u->W2.cell? (Aw g (k*5+j))=some u:=by
   intro k i hi;have km:k<(AH d).length:=(WH.1 hi).1;obtain⟨g,cp,he,gd,_⟩:=HS.o.row.shape (by show 0<(AH d).length;omega);cases he;refine⟨g,rfl,?_,fun j u hj=>?_⟩
   . have:=(HS.o.ge g _ gd).2;exact g7.o.none (by omega)
   ·have h5:j<5:=by have:=(WH.1 hj).1;simpa [rnV] using this
    have hf:=DU (fun i=>rnV (d.pool.nd i)) 5 (fun _=>rfl) (AH d) k j i hi h5;have gl:((AH d).flatMap fun i=>rnV (d.pool.nd i)).length=(AH d).length*5:=Cr _ 5 (fun _=>rfl) _;have hc:=HS.o.row.cell (k*5+j) (by show _<((AH d).flatMap fun i=>rnV (d.pool.nd i)).length;rw[gl];omega);rw[hc];exact hf.trans hj
  have kd:=Hd gr;have gP:Hq ((BJ d (BS d.pool)).length=(AH d).length):=Hd rfl;have gw:Hq (o w.heap.size=none/\o (w.heap.size+1)=none):=Hd ⟨g7.o.none (by omega),g7.o.none (by omega)⟩;have gk:=gi.o.below g7.o HS.o.low;have gH:Ac o W2:=g7.o.mono HS.o.low.size;have hM:=Hd gk;have hP:=Hd gH;have gI:w.heap.size<W2.heap.size:=(VP.1 HS.o.boxs).1;have gY:w.heap.size+1<W2.heap.size:=(VP.1 HS.o.boxg).1;have hG:(BJ d (BS d.pool)).length<=1048577:=by
   show (AH d).length<=_
   have h2:=gk.pool.top;have h3:=gk.pool.room;have h5:(AH d).length<=d.pool.at_.length:=by unfold AH BS Cj;refine VU (WV _ _) (VU (WV _ _) ?_);simp
   omega
  clear gr cg gk gH;obtain⟨m,hm⟩:=Ex ((BJ d (BS d.pool)).length);rw[<- hm] at hG gP ⊢;have HM:=Hd hm;clear hm
  go_loopw [37] (fun i wr=>∃ k:Nat,k<=m/\i=Iv k/\Gv o W2 sb d s k wr) (fun i _=>m-(intOf i).toNat)
  case atStart=>exact⟨0,Wb _,rfl,o,d,hM.o,hP.o,CD.start HK.o.tab,Chg.refl _ _ _⟩
  case round =>
   obtain⟨k,hk,rfl,h8⟩:=hrel;have gJ:=h8;obtain⟨o1,d1,hs1,g3,g2,g0⟩:=h8
   by_cases kg:k<m
   ·obtain⟨i,hi⟩:∃ i,(AH d)[k]?=some i:=⟨_,We (by have:=gP.o;omega)⟩;obtain⟨gz,gq⟩:=g2.at hi;obtain⟨g,k0,gd,gg⟩:=kd.o k i hi;subst k0;obtain⟨N,hN⟩:=Ex (d.pool.nd i);rw[<- hN] at gg gq;have e0:=g0.cell (gg 0 _ rfl) gd;have e1:=g0.cell (gg 1 _ rfl) gd;have e2:=g0.cell (gg 2 _ rfl) gd;have e3:=g0.cell (gg 3 _ rfl) gd;have e4:=g0.cell (gg 4 _ rfl) gd;rw[XR] at e0;have cb:=cell1 ((g0.alien gI gw.o.1).trans HS.o.boxs);have kn:(k:Int)<m:=by omega
    obtain⟨w3,gn⟩:=Ex (wr.alloc (.cells #[Iv N.id,Iv N.v,Iv N.lo,Iv N.hi,Iv N.refs] 254));obtain⟨b6,gK⟩:=Ex wr.heap.size;have g5:Bw wr w3:=by rw[gn];exact Af _ _
    have gh:w3.heap[b6]?=some (.cells #[Iv N.id,Iv N.v,Iv N.lo,Iv N.hi,Iv N.refs] 254 (0,0)):=by rw[gn,gK];exact VT _ _
    have hE:o1 b6=none:=g3.none (by omega);have hO:Hq (o1 w.heap.size=none):=Hd (g0.alien' gI gw.o.1);have k6:Hq (_=w3):=Hd gn.symm;have kf:Hq (_=b6):=Hd gK.symm;have HN:=Hd hN;have hid:N.id=i:=by rw[<- gq];exact hs1.pool.id i gz
    have hd:Aa d1 i=some ⟨N.v,N.lo,N.hi⟩:=by unfold Aa Ad.get;rw[VW gz,gq];rfl
    have hv:N.v<d1.vars.length:=by rw[g2.vars];exact HK.o.dag.var i ⟨N.v,N.lo,N.hi⟩ (by unfold Aa Ad.get;rw[VW (IG ((WH.1 hi).2 ▸ Wh _)).1,<- hN];rfl)
    have h7:d1.tab N.v (N.lo,N.hi)=some i:=(g2.tab N.v (by rw[<- g2.vars];exact hv) _ _ _).2 hd;have ga:=hs1.below g3 g5;have gB:=g3.mono g5.size;obtain⟨gt,ct,gT,hZ,gU,ki⟩:=ga.tabAt hv;obtain⟨q0,q1,q2,q3,q4,_⟩:=cells5 ga.blk;rw[gT] at q2;obtain⟨n0,n1,n2,n3,n4,_⟩:=cells5 gh;have cb3:=Cq g5 cb;have hU:(N.v:Int)<s.ts.length:=by omega
    have hT:=Hd (Kp o1 N.v (s.ts.getD N.v 0) (d1.tab N.v) N.lo N.hi i w3.drew ((ga.below gB (Aq w3 1)).tab N.v gU) (gB.mono (Aq w3 1).size) h7);have gC:=Hd hs1;have gj:=Hd g3;have gv:=Hd g2;have g8:=Hd g0;have HI:=Hd hi;have ka:=Hd gq;have hC:=Hd g5;have kq:=Hd gh;have k7:=Hd gz;have hR:=Hd hid;have hL:=Hd ga;have hz:=Hd gB;clear gg gJ hs1 g3 g2 g0 hi gq g5 gh gz hid hd hv h7 ga gB gT gn gK hN gU;go_upto_region 11 with fail;rw[k6.o,kf.o];refine AM (fun W:Wd=>W=w3.drew) true 12 [(0,false),(1,false),(2,false),(3,false),(4,false),(5,false),(6,false),(7,false),(8,false),(9,false),(10,false),(11,false),(12,true)] (by kernel_rfl) (by kernel_rfl) rfl ?_;simp only[planned,AL]
    iterate 12
     refine Ay rfl ?_;apply Exists.intro;refine⟨fun w' hw=>?_,?_⟩
     . subst hw;go_simp;rfl
     simp only[Ab]
    refine E6 rfl (by go_simp) (hT.o.mono (R':=fun e w'=>∃ v,e=.returned v/\(v=Iv 0/\AP o1 w' N.v (s.ts.getD N.v 0) (putF (d1.tab N.v) (N.lo,N.hi) none)/\Chg (· = .tmap N.v) o1 o1 w3.drew w'/\Ac o1 w')) (fun e w' h=>⟨_,h.1,rfl,h.2⟩)) ?_;rintro _ w4 ⟨rfl,gF,gu,gA⟩;simp only[Ab];refine C2 ?_;have gx:=(hL.o.below hz.o (Aq w3 1)).setTab (hz.o.mono (Aq w3 1).size) gF gu;have cb4:=gu.cell (w:=w3.drew) (p:=Av w.heap.size) cb3 (hO.o);have n0':=gu.cell (w:=w3.drew) (p:=Av b6) n0 hE;obtain⟨p0,p1,p2,p3,p4,_⟩:=cells5 gx.blk;rw[hR.o] at n0';have gS:=Hd (O5 o1 s.pb d1.pool i w4.drew (gx.below gA (Aq w4 1)).pool (gA.mono (Aq w4 1).size) k7.o);have k8:=Hd gF;have ke:=Hd gu;have kb:=Hd gA;clear gF gu gA gx n0 n1 n2 n3 n4 q0 q1 q2 q3 q4 cb3 cb e0 e1 e2 e3 e4 hZ hU;go_upto_region 12 with fail;refine AM (fun W:Wd=>W=w4.drew) true 6 [(0,false),(1,false),(2,false),(3,false),(4,false),(5,false),(6,true)] (by kernel_rfl) (by kernel_rfl) rfl ?_;simp only[planned,AL]
    iterate 6
     refine Ay rfl ?_;apply Exists.intro;refine⟨fun w' hw=>?_,?_⟩
     . subst hw;go_simp;rfl
     simp only[Ab]
    refine E6 rfl (by go_simp) (gS.o.mono (R':=fun e w'=>∃ v,e=.returned v/\(v=Iv 0/\∃ o',Ar o' w' s.pb (d1.pool.give i)/\Chg (fun r=>r=.pool\/r=.slots\/r=.taken\/r=.free) o1 o' w4.drew w'/\Ac o' w')) (fun e w' h=>⟨_,h.1,rfl,h.2⟩)) ?_;rintro _ w5 ⟨rfl,o2,gX,ha,gZ⟩;simp only[Ab];refine C2 ?_;have k9:=Hd (Gv.next gC.o gj.o gv.o g8.o HI.o ka.o (hC.o.trans ((Aq w3 1).mono hC.o.size)) k8.o ke.o kb.o (Aq w4 1) gX ha gZ);clear gX ha gZ p0 p1 p2 p3 p4 cb4 n0' gY;go_wp2_with fail;go_roundw
    case rel=>exact⟨k+1,by omega,by go_num,k9.o⟩
    case measure=>simp[intOf];omega
   ·obtain rfl:k=m:=by omega
    have hh:=(g0.alien gI gw.o.1).trans HS.o.boxs;have h6:=(g0.alien gY gw.o.2).trans HS.o.boxg;have cb:=cell1 hh;have cg:=cell1 h6;obtain⟨q0,q1,q2,q3,q4,qf⟩:=cells5 hs1.blk;have gC:=Hd hs1;have gj:=Hd g3;have gv:=Hd g2;have g8:=Hd g0;have kj:sb≠w.heap.size+1:=fun e=>by have h1:=gw.o.2;have h2:=gi.o.own;rw[e] at h2;rw[h1] at h2;cases h2
    clear gJ hs1 g3 g2 g0 hh h6;go_wp2_with fail;have gN:o D=none:=g7.o.none (by omega);have hq:D<W2.heap.size:=(VP.1 hA.o).1;have k3:=(g8.o.alien hq gN).trans hA.o;have k5:o1 D=none:=g8.o.alien' hq gN;have hW:D≠sb:=by rintro rfl;have:=gi.o.own;rw[gN] at this;cases this
    have hY:k=(AH d).length:=gP.o;refine⟨by simp,.inl ⟨D,_,rfl,run_takeDeferred ((A0 hW _).trans k3),?_⟩⟩;have hF:Ap o1 (wr.setCell (Aw sb 4) (Iv 0)) sb (d1.cd d1.counts 0) s:=gC.o.setDead gj.o 0;have gR:AJ d (d1.cd d1.counts 0):=(hY ▸ gv.o:CD d (AH d).length d1).done HK.o.live (fun i hi=>(gi.o.pool.tk_lt hi).2);have gQ:A2 o1 ((wr.setCell (Aw sb 4) (Iv 0)).putObj D (.deferred none)) sb (d1.cd d1.counts 0) :=
     A2.keepR ⟨s,hF⟩ (fun g r hg _=>WO (by rintro rfl;rw[k5] at hg;cases hg)) (fun _ _ h=>h)
    refine⟨_,results_tmp rfl _ _ _,?_,o1,_,gQ,gj.o.mono (by simp[World.setCell]),gR,?_⟩
    ·show Ending.returned (Iv ((BJ d (BS d.pool)).length:Nat))=_
     have:(BJ d (BS d.pool)).length=d.dead:=Le HK.o.live;rw[this]
    . have hc:=(Chg.of_below HS.o.low Al o).trans (g8.o.setCell (p:=Aw sb 4) (r:=.store) gC.o.own (.inl rfl) (Iv 0));exact⟨hc.os,hc.tape,hc.output,by have:=hc.size;simpa [World.setCell] using this,fun k hk hr=>(WO (by omega)).trans (hc.block k hk hr),hc.ext,hc.new⟩
structure ChgX (C:Nat->Prop)(o o':Own)(w w':Wd):Prop where
 os:w'.os=w.os
 tape:w'.tape=w.tape
 output:w'.output=w.output
 size:w.heap.size<=w'.heap.size
 block:∀ k,k<w.heap.size->o k=none->¬ C k->w'.heap[k]?=w.heap[k]?
 ext:∀ k r,o k=some r->o' k=some r
 new:∀ k,o' k≠o k->w.heap.size<=k
abbrev NoB:Nat->Prop:=fun _=>False
section
variable {D:Nat->Prop}{o:Own}
theorem ChgX.of_chg (h:Chg R o o' w w')(C:Nat->Prop):ChgX C o o' w w':=⟨h.os,h.tape,h.output,h.size,fun _ hk ho _=>h.alien hk ho,h.ext,fun k hk=>(h.new k hk).1⟩
theorem ChgX.of_wr (h:Wr D w w')(o:Own)(hD:∀ k,k<w.heap.size->D k->C k):ChgX C o o w w':=⟨h.os,h.tape,h.output,h.size,fun k hk _ hc=>h.keep k hk (fun e=>hc (hD k hk e)),fun _ _ h=>h,fun _ h=>(h rfl).elim⟩
theorem ChgX.of_below (h:Bw w w')(o:Own)(C:Nat->Prop):ChgX C o o w w':=ChgX.of_wr (Wr.of_below h NoB) o (fun _ _ h=>h.elim)
theorem ChgX.none' (h:ChgX C o o' w w')(hk:k<w.heap.size)(ho:o k=none):o' k=none:=by
 by_cases e:o' k=o k
 . rw[e];exact ho
 . have:=h.new k e;omega
theorem ChgX.trans (h:ChgX C o o' w w')(h':ChgX D o' o'' w' w'')(hD:∀ k,k<w.heap.size->D k->C k):ChgX C o o'' w w'':=by
 refine⟨h'.os.trans h.os,h'.tape.trans h.tape,h'.output.trans h.output,VU h.size h'.size,fun k hk ho hc=>?_,fun k r hr=>h'.ext k r (h.ext k r hr),fun k hk=>?_⟩
 . exact(h'.block k (Wm hk h.size) (h.none' hk ho) (fun e=>hc (hD k hk e))).trans (h.block k hk ho hc)
 ·by_cases e:o' k=o k
  . have:=h'.new k (by rw[e];exact hk);exact VU h.size this
  . exact h.new k e
theorem ChgX.cell (h:ChgX C o o' w w'){p:Addr}{v:Value}(hc:w.cell? p=some v)(hb:o p.block=none)(hn:¬ C p.block):w'.cell? p=some v :=
 (Xf (w:=w) (h.block p.block (Yb w p hc) hb hn)).trans hc
theorem ChgX.below0 (h:ChgX NoB (fun _=>none) o w w'):Bw w w':=⟨h.os,h.tape,h.output,h.size,fun k hk=>h.block k hk rfl (fun e=>e)⟩
theorem ChgX.lower (h:ChgX C (fun _=>none) o w w')(h':ChgX D o o' w' w'')(hD:∀ k,D k->w.heap.size<=k):ChgX C (fun _=>none) o' w w'':=h.trans h' (fun k hk e=>by have:=hD k e;omega)
end
structure CU (C:Nat->Prop)(K:Law)(o:Own)(w:Wd)(mb:Nat)(m:ManD)(V:Nat->BF)(o':Own)(w':Wd)(m':ManD)(V':Nat->BF):Prop where
 is:AW (K m'.d V') o' w' mb m'
 lt:Ac o' w'
 chg:ChgX C o o' w w'
 ok:Aj m'.d V'
 ext:Ext m.d V m'.d V'
 hs:m'.hs=m.hs
 next:m'.next=m.next
theorem Step.toX {o:Own}(h:Step K o w mb m V o' w' m' V')(C:Nat->Prop):CU C K o w mb m V o' w' m' V':=⟨h.is,h.lt,ChgX.of_chg h.chg C,h.ok,h.ext,h.hs,h.next⟩
abbrev Yd:=@List.length_eq_zero_iff
theorem Q1 (h:C5 m)(ext:Ext m.d V m'.d V')(ok:Aj m'.d V')(e1:m'.hs=m.hs)(e2:m'.next=m.next):C5 m':=by
 refine⟨by rw[e1];exact h.nodup,by rw[e1];exact h.zero,by rw[e1];exact h.one,by rw[e1,e2];exact h.lt,by rw[e2];exact h.next,fun p hp=>?_,by rw[e1,e2];exact h.len,fun i b hb=>?_⟩
 . rw[e1] at hp;exact ext.ok (h.ok p hp)
 ·rw[e1];cases hn:Aa m.d i with
  | some b0=>rw[ext.ext i b0 hn];exact h.refs i b0 hn
  | none =>
    rw[ext.ext0 i hn];have hi:i≠0:=by rintro rfl;rw[ok.dag.none0] at hb;cases hb
    have:AS m.hs i=0:=by
     unfold AS;rw[Yd,List.filter_eq_nil_iff];intro p hp;have ho:=h.ok p hp;simp only[WW,Xh,Yi,not_and];rintro _ rfl;rcases ho with h0|⟨b1,g0⟩
     . exact hi h0
     . rw[hn] at g0;cases g0
    rw[this];rfl
structure SatE (K:Law)(n:Nat)(Od:List Nat->Prop)(room:Nat)(w0:Wd)(mb:Nat)(fs:List (Int×BF))(nx:Int)(w:Wd)(o:Own)(m:ManD)(V:Nat->BF):Prop where
 is:AW (K m.d V) o w mb m
 lt:Ac o w
 ok:E0 m V
 vars:m.d.vars.length=n
 od:Od m.d.vars
 room:m.d.pool.room=room
 next:m.next=nx
 hs:m.hs.map (fun p=>(p.1,ef V p.2))=fs
 chg:ChgX NoB (fun _=>none) o w0 w
section
variable {o:Own}
theorem SatE.find (h:SatE K n Od room w0 mb fs nx w o m V){k:Int}(hk:(k,F)∈fs):∃ f,(k,f)∈m.hs/\ef V f=F:=by
 rw[<- h.hs] at hk;obtain⟨p,hp,e⟩:=Wg.1 hk;cases e;exact⟨p.2,hp,rfl⟩
theorem SatE.none0 (h:SatE K n Od room w0 mb fs nx w o m V)(hk:k<w0.heap.size):o k=none:=h.chg.none' hk rfl
theorem Li {hs:List (Int×Nat)}(hok:∀ p∈hs,okE (Aa d) p.2)(hv:∀ i,(i=0\/∃ b,Aa d i=some b)->V' i=V i):hs.map (fun p=>(p.1,ef V' p.2))=hs.map (fun p=>(p.1,ef V p.2)):=by
 refine List.map_congr_left fun p hp=>?_
 have e:ef V' p.2=ef V p.2:=by
  funext ρ;unfold ef;rw[hv (p.2/2) (hok p hp)]
 rw[e]
theorem SatE.withOd {Od':List Nat->Prop}(h:SatE K n Od room w0 mb fs nx w o m V)(hO:Od' m.d.vars):SatE K n Od' room w0 mb fs nx w o m V :=
 ⟨h.is,h.lt,h.ok,h.vars,hO,h.room,h.next,h.hs,h.chg⟩
theorem SatE.step (h:SatE K n Od room w0 mb fs nx w o m V)(s:CU C K o w mb m V o' w' m' V')(hC:∀ k,C k->w0.heap.size<=k):SatE K n Od room w0 mb fs nx w' o' m' V' :=
 ⟨s.is,s.lt,⟨s.ok,Q1 h.ok.handles s.ext s.ok s.hs s.next⟩,by rw[s.ext.vars];exact h.vars,by rw[s.ext.vars];exact h.od,by rw[s.ext.room];exact h.room,s.next.trans h.next,
  by rw[s.hs,Li h.ok.handles.ok s.ext.val];exact h.hs,h.chg.lower s.chg hC⟩
theorem SatE.other (h:SatE K n Od room w0 mb fs nx w o m V)(hx:Wr C w w')(hC:∀ k,k<w.heap.size->C k->w0.heap.size<=k/\o k=none):SatE K n Od room w0 mb fs nx w' o m V:=by
 obtain⟨s,hm⟩:=h.is;refine⟨⟨s,hm.keep (fun g r hg=>hx.keep g (h.lt g r hg) (fun e=>?_)) (fun _ _ h=>h)⟩,h.lt.mono hx.size,h.ok,h.vars,h.od,h.room,h.next,h.hs,h.chg.trans (ChgX.of_wr (C:=fun k=>w0.heap.size<=k) hx o (fun k hk e=>(hC k hk e).1)) (fun k hk e=>by omega)⟩;have:=(hC g (h.lt g r hg) e).2;rw[hg] at this;cases this
theorem SatE.below (h:SatE K n Od room w0 mb fs nx w o m V)(hb:Bw w w'):SatE K n Od room w0 mb fs nx w' o m V:=h.other (Wr.of_below hb NoB) (fun _ _ e=>e.elim)
theorem SatE.gave (h:SatE K n Od room w0 mb fs nx w o m V){r:Nat}(g:Gave K o w mb m V r o' w' m'):SatE K n Od room w0 mb (fs++[(nx,ef V r)]) (nx+1) w' o' m' V :=
 ⟨g.is,g.lt,g.ok,by rw[g.vars];exact h.vars,by rw[g.vars];exact h.od,by rw[g.room];exact h.room,by rw[g.next,h.next],by rw[g.hs,Wx,h.hs,<- h.next];rfl,h.chg.lower (ChgX.of_chg g.chg NoB) (fun _ e=>e.elim)⟩
theorem IK (h:C5 m)(hk:Aj m.d V)(r:AJ m.d d'):C5 { m with d:=d' }:=by
 have g1:∀ p∈m.hs,okE (Aa d') p.2:=by
  intro p hp;rcases h.ok p hp with h0|⟨b,hb⟩
  . exact .inl h0
  ·by_cases h1:1<p.1
   ·refine .inr ⟨b,?_⟩;rw[r.nodes,VW]
    . exact hb
    ·refine hk.live.cnt.pos_of_ext hb ?_;rw[h.refs _ _ hb];have:0<AS m.hs (p.2/2):=by
      unfold AS;refine List.length_pos_of_mem (X8.2 ⟨hp,?_⟩);simp[h1]
     omega
   ·refine .inl ?_;have g2:=h.lt p hp;have hu:∀ q∈m.hs,q.1=p.1->q=p:=by
     intro q hq e;have g0:=h.nodup;have h1:=DY (l:=encH m.hs) (E4 g0) (Wg.2 ⟨q,hq,rfl⟩);have h2:=DY (l:=encH m.hs) (E4 g0) (Wg.2 ⟨p,hp,rfl⟩);rw[e,h2] at h1;have e2:(p.2:Int)=(q.2:Int):=by injection h1 with h1;injection h1
     exact Prod.ext e (by omega)
    rcases(by omega:p.1=0\/p.1=1) with e|e
    . rw[<- hu _ h.zero e.symm];rfl
    . rw[<- hu _ h.one e.symm];rfl
 exact⟨h.nodup,h.zero,h.one,h.lt,h.next,g1,h.len,fun i b hb=>by rw[r.ext i b hb];exact h.refs i b (r.sub hb).1⟩
end
theorem wclear {o:Own}{s:ManW}(h:SatE K n Od room w0 mb fs nx w o m V)(hs:A8 (K m.d V) o w mb m s)(G:Phi) :
 Cl 159 #[Pt s.me] w fun x w'=>x=.returned (.tuple #[])/\A8 G o w' mb m s/\Chg (· = .entries) o o w w'/\Ac o w':=by
 refine(OU o s.me (K m.d V) G w hs.memo h.lt).mono ?_;rintro x w' ⟨h1,h2,h3,h4⟩;exact⟨h1,hs.setMemo h.lt h2 (h3.mono fun r e=>.inr e),h3,h4⟩
theorem Lj {o:Own}(h:SatE K n Od room w0 mb fs nx w o m V) :
 Cl 244 #[Pt mb] w fun x w'=>x=.returned (Iv m.d.dead)/\∃ o' d',SatE K n Od room w0 mb fs nx w' o' { m with d:=d' } V/\AJ m.d d'/\Chg (fun _=>True) o o' w w':=by
 obtain⟨s,hs⟩:=h.is;obtain⟨c0,c1,c2,c3,c4,c5,f0⟩:=cells6 hs.blk;have HC:Hq (∀ w1,A8 (fun _ _ _ _ _=>False) o w1 mb m s/\Chg (· = .entries) o o w w1/\Ac o w1->Cl 215 #[Pt s.sb] w1 fun x w'=>x=.returned (Iv m.d.dead)/\∃ o' d',SatE K n Od room w0 mb fs nx w' o' { m with d:=d' } V/\AJ m.d d'/\Chg (fun _=>True) o o' w w'):=by
  refine Hd ?_;rintro w1 ⟨g1,g2,g3⟩;have fin:∀ o' w' d',A8 (fun _ _ _ _ _=>False) o' w' mb { m with d:=d' } s->Ac o' w'->AJ m.d d'->Chg Al o o' w1 w'->∃ o' d',SatE K n Od room w0 mb fs nx w' o' { m with d:=d' } V/\AJ m.d d'/\Chg (fun _=>True) o o' w w':=by
   intro o' w' d' a1 a2 a3 a4;have hc:Chg (fun _=>True) o o' w w':=g2.any.trans a4.any;refine⟨o',d',⟨⟨s,a1.mono fun _ _ _ _ _ e=>e.elim⟩,a2,⟨a3.ok h.ok.store,IK h.ok.handles h.ok.store a3⟩,by dsimp only;rw[a3.vars];exact h.vars,by dsimp only;rw[a3.vars];exact h.od,by dsimp only;rw[a3.room];exact h.room,h.next,h.hs,h.chg.lower (ChgX.of_chg hc NoB) (fun _ e=>e.elim)⟩,a3,hc⟩
  by_cases h0:m.d.dead=0
  . refine(Lg g1.store h0).mono ?_;rintro x w' ⟨rfl,hb⟩;exact⟨by rw[h0];rfl,fin o w' m.d (g1.below g3 hb) (g3.mono hb.size) (AJ.none h.ok.store h0) (Chg.of_below hb _ _)⟩
  . refine(Lh g1.store g3 h.ok.store h0).mono ?_;rintro x w' ⟨rfl,o',d',b1,b2,b3,b4⟩;exact⟨rfl,fin o' w' d' (g1.setStore g3 b1 b4) b2 b3 b4⟩
 have g0:=Hd (wclear h hs (fun _ _ _ _ _=>False));clear h hs
 go_enter func244,ntmps244
 go_wp2_with fail;refine g0.o.mono ?_;rintro x w1 ⟨rfl,g1,g2,g3⟩;obtain⟨d0,d1,d2,d3,d4,d5,f1⟩:=cells6 g1.blk;have g4:=Hd (HC.o w1 ⟨g1,g2,g3⟩);clear g1 g2 g3 c0 c1 c2 c3 c4 c5 f0 g0 HC;go_wp2_with fail;refine g4.o.mono ?_;rintro x w2 ⟨rfl,hq⟩;have HQ:=Hd hq;clear hq;go_wp2_with fail;go_ret;exact⟨rfl,HQ.o⟩
end Go.Proofs.YtkidaindpahefaaGreat
