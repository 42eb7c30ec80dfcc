/- Several texts in one file: contracts of the program's functions and what follows from them. -/
import Derived.Test.YtgmbklaolcmljaaGreatS2
import Derived.RangeFuncNested
import Derived.RangeFuncBound
import Derived.RangeFuncCalls
import Derived.RangeFuncLeaves
import Derived.RangeFuncWrites
import Derived.Shelf.Abstract
import Derived.Shelf.RegionOpen
import Derived.OwnWalkIn
import Derived.TacticsInMore
import Derived.LoopNIn
import Derived.LoopIn
import Derived.Recover
import Derived.Defers
set_option linter.unusedSimpArgs false
set_option linter.unusedVariables false
set_option linter.unusedSectionVars false
set_option linter.unnecessarySimpa false
set_option maxRecDepth 100000
set_option maxHeartbeats 8000000
namespace Go.Proofs.YtgmbklaolcmljaaGreat
open Go.Proofs.Tryz
open Go.RowKit
variable {C M:Nat->Prop}{F:BF}{K:Law}{L:Array Bool}{N:Nat->Option BN}{Od:List Nat->Prop}{P:Program}{Q:Exit->Act->Wd->Prop}{R:Role->Prop}{S:Wd->Prop}{V V':Nat->BF}{W W' W0 W1 w w' w'' w0:Wd}{a:Act}{args lop:Array Value}{b cap e f f0 g g0 gf gop h h0 hi i id k lo mb n n₀ pb room sb x xb:Nat}{bs:List Bool}{d d':Ae}{ev:Ev}{fs:List (Int×BF)}{l:List Oper}{least nx:Int}{m m':ManD}{nt:Bool}{o' o'' oG:Own}{ops:Array Oper}{p:Ad}{pre:List Nat}{row:Option Nat}{v v':Value}{ws:List Ev}
def atV (d:Ae)(f:Nat):Value :=
 match Aa d (f/2) with
 | some b=>.tuple #[.int .i64 b.v,.int .i64 (eflip b.lo (eneg f):Nat),.int .i64 (eflip b.hi (eneg f):Nat),.bool true]
 | none=>.tuple #[.int .i64 (-1),.int .i64 0,.int .i64 0,.bool false]
theorem FY {o:Own}(h:Ay o w sb d)(hlt:Ab o w)(hk:Ai d V)(f:Nat)(hf:okE (Aa d) f) :
 Calls prog 140 #[Pt sb,.int .i64 f] w (Bl (atV d f) w):=by
 obtain⟨s,h⟩:=h;have lt:∀ e,okE (Aa d) e->e<eMax:=fun e he=>by have:=h.edge_lt he;unfold eMax;omega
 cases hb:Aa d (f/2) with
 | none =>
   have ht:d.pool.tk (enode f)=false:=Ix hb;have hz:d.pool.has (enode f)=rn0:=by unfold Ad.has;rw[ht];rfl
   refine(KA h hlt f (lt f hf) (by rw[hz];decide) (by rw[hz];decide)).mono ?_;rintro x w' ⟨rfl,g1⟩;exact⟨by simp[ht,atV,hb],g1⟩
 | some b =>
   have hn:=BA hb;have ht:d.pool.tk (enode f)=true:=hn.1;have g0:bnOf (d.pool.has (enode f))=b:=hn.2.2;have e1:(d.pool.has (enode f)).v=b.v:=by rw[<- g0];rfl
   have e2:(d.pool.has (enode f)).lo=b.lo:=by rw[<- g0];rfl
   have e3:(d.pool.has (enode f)).hi=b.hi:=by rw[<- g0];rfl
   refine(KA h hlt f (lt f hf) (by rw[e2];exact lt _ (hk.dag.okLo _ _ hb)) (by rw[e3];exact lt _ (hk.dag.okHi _ _ hb))).mono ?_;rintro x w' ⟨rfl,g1⟩;exact⟨by simp[ht,atV,hb,e1,e2,e3],g1⟩
theorem Ay.below {o:Own}{w w':Wd}{sb:Nat}{d:Ae}(h:Ay o w sb d)(hlt:Ab o w)(hb:Bw w w'):Ay o w' sb d:=by
 obtain⟨s,h⟩:=h;exact⟨s,h.below hlt hb⟩
theorem Ql {F:Phi}{o:Own}(h:A9 F o w mb m)(hx:AH o w xb mb)(hk:Ai m.d V)(v:Int) :
 Calls prog 143 #[Pt xb,.int .i64 v] w (Sm (.int .i64 (Cy m.d v)) w):=by
 obtain⟨s,h⟩:=h;obtain⟨st,g0⟩:=h.store;obtain⟨c0,c1,c2,c3,c4,c5,f0⟩:=cells6 h.blk;have HL:=Hd (I3 g0 v (by rw[g0.len];have:=hk.small;omega));have cx:=hx.cell;clear h g0 hx hk
 delta Pt;go_enter func143,ntmps143
 go_wp2_with fail;refine HL.o.mono ?_;rintro x w' ⟨rfl,rfl⟩;go_wp2_with fail;go_ret;exact⟨rfl,rfl⟩
def cofs (d:Ae)(f:Nat)(v:Int):Nat×Nat :=
 match Aa d (f/2) with
 | some b=>if (b.v:Int)=v then (eflip b.lo (eneg f),eflip b.hi (eneg f)) else (f,f)
 | none=>(f,f)
theorem Fb {F:Phi}{o:Own}(h:A9 F o w mb m)(hlt:Ab o w)(hx:AH o w xb mb)(hk:Ai m.d V)(f:Nat)(hf:okE (Aa m.d) f)(v:Int) :
 Calls prog 102 #[Pt xb,.int .i64 f,.int .i64 v] w (Bl (.tuple #[.int .i64 (cofs m.d f v).1,.int .i64 (cofs m.d f v).2]) w):=by
 obtain⟨s,h⟩:=h;obtain⟨c0,c1,c2,c3,c4,c5,f0⟩:=cells6 h.blk;have HA:=Hd (FY h.store hlt hk f hf);have cx:=hx.cell;clear h hx hk hlt hf;unfold atV at HA;unfold cofs;cases hb:Aa m.d (f/2) with
 | none =>
   rw[hb] at HA;clear hb
   delta Pt;go_enter func102,ntmps102
   go_wp2_with fail;refine HA.o.mono ?_;rintro x w' ⟨rfl,hb⟩;have HB:=Hd hb;clear hb;go_wp2_with fail
   go_ret2
   exact⟨rfl,HB.o⟩
 | some b =>
   rw[hb] at HA;clear hb
   by_cases e:(b.v:Int)=v
   ·subst e;have HE:Hq ((if (b.v:Int)=b.v then (eflip b.lo (eneg f),eflip b.hi (eneg f)) else (f,f))=(eflip b.lo (eneg f),eflip b.hi (eneg f))):=by show _=_;rw[WR rfl]
    delta Pt;go_enter func102,ntmps102
    go_wp2_with fail;refine HA.o.mono ?_;rintro x w' ⟨rfl,hb⟩;have HB:=Hd hb;clear hb;go_wp2_with fail
    go_ret2
    exact⟨by first|rfl|(rw[HE.o];rfl),HB.o⟩
   ·have HE:Hq ((if (b.v:Int)=v then (eflip b.lo (eneg f),eflip b.hi (eneg f)) else (f,f))=(f,f)):=by show _=_;rw[WO e]
    have H1:((b.v:Int) == v)=false:=by simpa using e
    delta Pt;go_enter func102,ntmps102
    go_wp2_with fail;refine HA.o.mono ?_;rintro x w' ⟨rfl,hb⟩;have HB:=Hd hb;clear hb;go_wp2_with fail
    go_ret2
    exact⟨by first|rfl|(rw[HE.o];rfl),HB.o⟩
def TopS (d:Ae)(zs:List Nat)(top least:Int):Prop :=
 (top = -1/\least=0/\∀ e∈zs,Aa d (e/2)=none) \/
 ∃ v:Nat,top=v/\least=(levN d v:Nat)/\v<d.vars.length/\(∃ e∈zs,∃ b,Aa d (e/2)=some b/\b.v=v)/\∀ e∈zs,levN d v<=lvE d.vars.length (levN d) (Aa d) e
theorem TopS.none {d:Ae}{zs:List Nat}{top least:Int}{e:Nat}(h:TopS d zs top least)(hl:∀ v,v<d.vars.length->levN d v<d.vars.length)(he:Aa d (e/2)=none):TopS d (zs++[e]) top least:=by
 rcases h with ⟨h1,h2,h3⟩|⟨v,h1,h2,h3,⟨e0,g0,hb⟩,h5⟩
 ·refine .inl ⟨h1,h2,fun x hx=>?_⟩;rcases Xa.1 hx with hx|hx
  . exact h3 x hx
  . simp at hx;subst hx;exact he
 ·refine .inr ⟨v,h1,h2,h3,⟨e0,by simp[g0],hb⟩,fun x hx=>?_⟩;rcases Xa.1 hx with hx|hx
  . exact h5 x hx
  . simp at hx;subst hx;unfold lvE;rw[he];exact Nat.le_of_lt (hl v h3)
theorem TopS.keep {zs:List Nat}{v:Nat}{b:BN}(h:TopS d zs v least)(he:Aa d (e/2)=some b)(hle:¬ ((levN d b.v:Nat):Int)<least):TopS d (zs++[e]) v least:=by
 rcases h with ⟨h1,h2,h3⟩|⟨u,h1,h2,h3,⟨e0,g0,hb⟩,h5⟩
 . omega
 ·obtain rfl:v=u:=by omega
  refine .inr ⟨v,rfl,h2,h3,⟨e0,by simp[g0],hb⟩,fun x hx=>?_⟩;rcases Xa.1 hx with hx|hx
  . exact h5 x hx
  . simp at hx;subst hx;unfold lvE;rw[he];dsimp only;omega
theorem TopS.take {zs:List Nat}{top:Int}{b:BN}(h:TopS d zs top least)(hv:b.v<d.vars.length)(hl:∀ v,v<d.vars.length->levN d v<d.vars.length)(he:Aa d (e/2)=some b)(hle:top<0\/((levN d b.v:Nat):Int)<least):TopS d (zs++[e]) b.v (levN d b.v:Nat):=by
 refine .inr ⟨b.v,rfl,rfl,hv,⟨e,by simp,b,he,rfl⟩,fun x hx=>?_⟩;rcases Xa.1 hx with hx|hx
 ·rcases h with ⟨h1,h2,h3⟩|⟨u,h1,h2,h3,⟨e0,g0,hb⟩,h5⟩
  . unfold lvE;rw[h3 x hx];exact Nat.le_of_lt (hl _ hv)
  . have:=h5 x hx;omega
 . simp at hx;subst hx;unfold lvE;rw[he];exact WM _
theorem KQ {v:Nat}(h:v<d.level.length):Cy d v=(levN d v:Nat):=by unfold Cy;rw[WR ⟨by omega,by omega⟩];rfl
abbrev Xy:=@List.length_map
abbrev Xp:=@List.getElem_mem
abbrev YT:=@List.take_add_one
abbrev Xx:=@List.take_length
theorem FZ {F:Phi}{o:Own}(h:A9 F o w mb m)(hlt:Ab o w)(hx:AH o w xb mb)(hk:Ai m.d V)(zs:List Nat)(hz:∀ e∈zs,okE (Aa m.d) e)(a:Option Addr)(c:Nat)(hzs:An w a (zs.map Int.ofNat)) :
 Calls prog 101 #[Pt xb,.slice a zs.length c] w fun x w'=>∃ top least,x=.returned (.int .i64 top)/\TopS m.d zs top least/\Bw w w':=by
 obtain⟨s,h⟩:=h;obtain⟨st,gc⟩:=h.store;have gh:m.d.level.length=m.d.vars.length:=gc.len;have HM:=Hd h;have HX:=Hd hx;have g5:=Hd hlt;have HK:=Hd hk;have HZ:=Hd hz;have gk:=Hd hzs;have gi:=hzs.len;simp only[Xy] at gi;clear h gc hx hlt hk hz hzs
 delta Pt;go_enter func101,ntmps101
 go_wp2_with fail
 go_loopw [5,6,15] (fun s5 s6 i wr=>∃ (k:Nat) (top least:Int),k<=zs.length/\i=.int .i64 k/\s5=.int .i64 top/\s6=.int .i64 least/\TopS m.d (zs.take k) top least/\Bw w wr) (fun _ _ i _=>zs.length-(intOf i).toNat)
 case atStart=>exact⟨0,-1,0,by omega,rfl,rfl,rfl,.inl ⟨rfl,rfl,by simp⟩,Xd _ _⟩
 case round =>
  obtain⟨k,top,least,hk,rfl,rfl,rfl,hT,hB⟩:=hrel
  by_cases g2:k<zs.length
  ·obtain⟨b0,off,ha,g3⟩:=(gk.o.below hB).cells k (by simpa using g2);subst ha;have he:at0 (zs.map Int.ofNat) k=(zs[k]:Int):=by rw[AI (by simpa using g2)];simp
   rw[he] at g3;have g8:zs[k]∈zs:=Xp g2;have g6:zs.take (k+1)=zs.take k++[zs[k]]:=by rw[YT,WS g2];rfl
   have g7:=HZ.o _ g8;obtain⟨f,hf⟩:=Ex (zs[k]);rw[<- hf] at g3 g7 g6;obtain⟨c0,c1,c2,c3,c4,c5,f0⟩:=cells6 ((HM.o.below g5.o hB).blk);have cx:wr.cell? ⟨xb,0,none⟩=_:=(hB.cell (p:=⟨xb,0,none⟩) (Ag HX.o.cell)).trans HX.o.cell;have HA:=Hd (FY ((HM.o.below g5.o hB).store) (g5.o.mono hB.size) HK.o f g7);have g4:=Hd g6;have HT:=Hd hT;have HB:=Hd hB;have gm:(k:Int)<zs.length:=by omega
   clear hf g8 he hT hB g7 g6;unfold atV at HA;have ga:Hq (∀ v,v<m.d.vars.length->levN m.d v<m.d.vars.length):=Hd HK.o.dag.lt;have gf:=Hd (fun W hb v=>Ql ⟨s,HM.o.below g5.o hb⟩ (o:=o) (w:=W) (xb:=xb) (mb:=mb) ⟨(hb.cell (p:=⟨xb,0,none⟩) (Ag HX.o.cell)).trans HX.o.cell,HX.o.own⟩ HK.o v);cases hb:Aa m.d (f/2) with
   | none =>
     rw[hb] at HA;have HN:=Hd hb;clear hb;go_wp2_with fail;refine HA.o.mono ?_;rintro x w' ⟨rfl,g0⟩;have HB2:=Hd (HB.o.trans (g0.mono HB.o.size));clear g0;go_wp2_with fail;go_roundw
     case rel=>exact⟨k+1,top,least,by omega,by simp,rfl,rfl,by rw[g4.o];exact HT.o.none ga.o HN.o,HB2.o⟩
     case measure=>simp[intOf];omega
   | some b =>
     rw[hb] at HA;have HN:=Hd hb;have g9:=HK.o.dag.var _ _ hb;have gd:Cy m.d b.v=(levN m.d b.v:Nat):=KQ (by rw[gh];exact g9);have gg:=Hd g9;have g1:=Hd (fun W hb=>gf.o W hb b.v);rw[gd] at g1;clear hb g9 gd gf
     by_cases ht:top<0
     ·have gl:=Hd ht;go_wp2_with fail;refine HA.o.mono ?_;rintro x w' ⟨rfl,g0⟩;have HB2:=Hd (HB.o.trans (g0.mono HB.o.size));clear g0;go_wp2_with fail;refine(g1.o _ HB2.o).mono ?_;rintro x w'' ⟨rfl,rfl⟩;go_wp2_with fail;go_roundw
      case rel=>exact⟨k+1,_,_,by omega,by simp,rfl,rfl,by rw[g4.o];exact HT.o.take gg.o ga.o HN.o (.inl gl.o),HB2.o⟩
      case measure=>simp[intOf];omega
     ·by_cases ge:((levN m.d b.v:Nat):Int)<least
      ·have gb:=Hd ge;go_wp2_with fail;refine HA.o.mono ?_;rintro x w' ⟨rfl,g0⟩;have HB2:=Hd (HB.o.trans (g0.mono HB.o.size));clear g0;go_wp2_with fail;refine(g1.o _ HB2.o).mono ?_;rintro x w'' ⟨rfl,rfl⟩;go_wp2_with fail;refine(g1.o _ HB2.o).mono ?_;rintro x w'' ⟨rfl,rfl⟩;go_wp2_with fail;go_roundw
       case rel=>exact⟨k+1,_,_,by omega,by simp,rfl,rfl,by rw[g4.o];exact HT.o.take gg.o ga.o HN.o (.inr gb.o),HB2.o⟩
       case measure=>simp[intOf];omega
      ·obtain⟨tn,gj⟩:∃ tn:Nat,top=tn:=⟨top.toNat,by omega⟩;subst gj;have gb:=Hd ge;go_wp2_with fail;refine HA.o.mono ?_;rintro x w' ⟨rfl,g0⟩;have HB2:=Hd (HB.o.trans (g0.mono HB.o.size));clear g0;go_wp2_with fail;refine(g1.o _ HB2.o).mono ?_;rintro x w'' ⟨rfl,rfl⟩;go_wp2_with fail;go_roundw
       case rel=>exact⟨k+1,_,_,by omega,by simp,rfl,rfl,by rw[g4.o];exact HT.o.keep HN.o (by have:=gb.o;omega),HB2.o⟩
       case measure=>simp[intOf];omega
  ·obtain rfl:k=zs.length:=by omega
   have HT:=Hd hT;have HB:=Hd hB;clear hT hB;go_wp2_with fail;go_ret;exact⟨top,least,rfl,by have:=HT.o;rwa [Xx] at this,HB.o⟩
def Au (er:Int)(event:Bool)(ev:Ev):Ending:=.panicked [{ v:=.iface 214 (.agg #[.int .i64 er,.bool event,.int .i64 ev.after,.int .i64 ev.kind,.int .i64 ev.level]),recovered:=false }]
def ev0:Ev:=⟨0,0,0⟩
def BB (c:Int):Int:=wrap64 (c+1)
def D6 (d:Ae)(v:Int)(lo hi:Nat)(er:Int):Prop :=
 (er=9/\¬ (0<=v/\v<d.vars.length)) \/
 (er=10/\0<=v/\v<d.vars.length/\(lvE d.vars.length (levN d) (Aa d) lo<=levN d v.toNat\/lvE d.vars.length (levN d) (Aa d) hi<=levN d v.toNat)) \/
 (er=7/\d.pool.many=d.pool.room)
def Ga (K:Law)(o:Own)(w:Wd)(mb:Nat)(m:ManD)(V:Nat->BF)(v:Int)(lo hi:Nat)(e:Ending)(w':Wd):Prop :=
 ∃ o' m' V',Step K o w mb m V o' w' m' V' /\
  ((∃ ev,m.waits=ev::m'.waits/\ev.after<=BB m.calls/\m'.calls=0/\m'.d=m.d/\V'=V/\e=Au 0 true ev) \/
   (m'.waits=m.waits/\m'.calls=BB m.calls/\(∀ ev ws,m.waits=ev::ws->BB m.calls<ev.after) /\
    ((∃ er,D6 m.d v lo hi er/\m'.d=m.d/\V'=V/\e=Au er false ev0) \/
     (0<=v/\v<m.d.vars.length/\∃ r:Nat,e=.returned (.int .i64 r)/\okE (Aa m'.d) r/\ef V' r=iteF v.toNat (ef V hi) (ef V lo) /\
      levN m.d v.toNat<=lvE m.d.vars.length (levN m'.d) (Aa m'.d) r/\m'.d.pool.many<=m.d.pool.many+1))))
theorem Chg.ofDrewN {o:Own}(h:Chg R o o' (w.drewN n) w'):Chg R o o' w w':=⟨h.os,h.tape,h.output,h.size,h.block,h.ext,h.new⟩
theorem DU (h:Below (w.drewN n).heap.size (w.drewN n) w'):Bw w w':=⟨h.os,h.tape,h.output,h.size,h.block⟩
theorem Chg.any {o:Own}(h:Chg R o o' w w'):Chg (fun _=>True) o o' w w':=h.mono fun _ _=>trivial
theorem Qm {o:Own}(hK:A5 K)(h:A9 (K m.d V) o w mb m)(hlt:Ab o w)(hx:AH o w xb mb)(hk:Ai m.d V)(v:Int)(lo hi:Nat)(hlo:okE (Aa m.d) lo)(hhi:okE (Aa m.d) hi)
 (hdue:∀ ev ws,m.waits=ev::ws->BB m.calls<ev.after) :
 Calls prog 117 #[Pt xb,.int .i64 v,.int .i64 lo,.int .i64 hi] w (Ga K o w mb m V v lo hi):=by
 obtain⟨s,h⟩:=h;obtain⟨c0,c1,c2,c3,c4,c5,f0⟩:=cells6 h.blk;have cx:=hx.cell;obtain⟨W,hW⟩:=Ex (w.setCell ⟨mb,5,none⟩ (.int .i64 (BB m.calls)));have g2:A2 (K m.d V) o W mb { m with calls:=BB m.calls } s:=by rw[hW];exact h.field rfl rfl rfl rfl rfl h.waits rfl
 have g5:Chg (fun _=>True) o o w W:=by rw[hW];exact(Chg.refl _ o w).setCell (p:=⟨mb,5,none⟩) h.own trivial _
 have g4:Ab o W:=hlt.mono g5.size;have gf:=hx.chg g5;obtain⟨d0,d1,d2,d3,d4,d5,g0⟩:=cells6 g2.blk;have dx:=gf.cell;obtain⟨aw,cw,g9,ga⟩:=g2.waits.slice;have gi:(m.waits=[]/\True)\/∃ ev ws,m.waits=ev::ws:=by cases m.waits with
  | nil=>exact .inl ⟨rfl,trivial⟩
  | cons ev ws=>exact .inr ⟨ev,ws,rfl⟩
 have HK:=Hd hK;have gd:=Hd g5;have g7:=Hd g4;have g6:=Hd g2;have gc:=Hd hk;have gg:Hq (∀ n,Calls prog 156 #[Pt s.sb,.int .i64 v,.int .i64 lo,.int .i64 hi] (W.drewN n) (I4 o (W.drewN n) s.sb m.d V v lo hi)) :=
  Hd fun n=>Qd (g2.store.below g4 (Ap W n)) (g4.mono (Ap W n).size) hk v lo hi hlo hhi
 have g1:=Hd hdue;have HW:Hq (w.setCell ⟨mb,5,none⟩ (.int .i64 (wrap64 (m.calls+1)))=W):=Hd hW.symm;have gh:5≠4:=by decide
 clear h hlt hx hk hlo hhi g2 g5 g4 gf hW hdue
 delta Pt;go_enter func117,ntmps117
 go_upto_region 3 with fail;rw[HW.o];obtain⟨cu,g3⟩:=Ex (wrap64 (m.calls+1));have d5':W.cell? ⟨mb,5,none⟩=some (.int .i64 cu):=by rw[g3];exact d5
 have gk:Hq (BB m.calls=cu):=Hd g3.symm;rw[<- g3];clear c0 c1 c2 c3 c4 c5 f0 cx gh d5 g3;have STE:Hq (∀ w',Bw W w'->Step K o w mb m V o w' { m with calls:=BB m.calls } V) :=
  Hd fun w' hb=>⟨⟨s,g6.o.below g7.o hb⟩,g7.o.mono hb.size,gd.o.trans (Chg.of_below hb _ _),gc.o,Ext.refl _ _,rfl,rfl⟩
 rcases gi with ⟨hw0,_⟩|⟨ev,ws,g8⟩
 ·rw[g9] at d4;dsimp only at d4;rw[hw0] at d4;have d4':W.cell? ⟨mb,4,none⟩=some (.slice aw 0 cw):=d4;clear d4 hw0 g9 ga
  go_quiet (fail)
  go_wp2_with fail;refine(gg.o nq).mono ?_;rintro x w' (⟨q1,rfl,q2⟩|⟨q1,q2,q3,rfl,q4⟩|⟨q1,rfl,q2⟩|⟨q1,q2,r,d',V',o',rfl,q4,q5,q6,q7,q8,q9,q10,q11,q12⟩)
  . have H1:=Hd (STE.o w' (DU q2));have H2:Hq (D6 m.d v lo hi 9):=Hd (.inl ⟨rfl,q1⟩);clear q1 q2;go_wp2_with fail;refine⟨rfl,o,_,V,H1.o,.inr ⟨rfl,rfl,g1.o,.inl ⟨9,H2.o,rfl,rfl,rfl⟩⟩⟩
  . have H1:=Hd (STE.o w' (DU q4));have H2:Hq (D6 m.d v lo hi 10):=Hd (.inr (.inl ⟨rfl,q1,q2,q3⟩));clear q1 q2 q3 q4;go_wp2_with fail;refine⟨rfl,o,_,V,H1.o,.inr ⟨rfl,rfl,g1.o,.inl ⟨10,H2.o,rfl,rfl,rfl⟩⟩⟩
  . have H1:=Hd (STE.o w' (DU q2));have H2:Hq (D6 m.d v lo hi 7):=Hd (.inr (.inr ⟨rfl,q1⟩));clear q1 q2;go_wp2_with fail;refine⟨rfl,o,_,V,H1.o,.inr ⟨rfl,rfl,g1.o,.inl ⟨7,H2.o,rfl,rfl,rfl⟩⟩⟩
  . have H1:Hq (Step K o w mb m V o' w' { m with calls:=BB m.calls,d:=d' } V'):=Hd ⟨⟨s,(g6.o.setStore g7.o q4 q12.ofDrewN).mono fun op a b c r h=>HK.o.ext _ _ _ _ _ _ _ _ _ gc.o q6 q7 h⟩,q5,gd.o.trans q12.ofDrewN.any,q6,q7,rfl,rfl⟩;have H2:Hq (_/\_/\_/\_/\_/\_):=Hd ⟨q1,q2,q8,q9,q10,q11⟩;clear q1 q2 q4 q5 q6 q7 q8 q9 q10 q11 q12;go_wp2_with fail;go_ret;obtain⟨a1,a2,a3,a4,a5,a6⟩:=H2.o;exact⟨o',_,V',H1.o,.inr ⟨rfl,rfl,g1.o,.inr ⟨a1,a2,r,rfl,a3,a4,a5,a6⟩⟩⟩
 ·have gb:=g6.o.waits;have e0:({ m with calls:=BB m.calls }:ManD).waits=ev::ws:=g8;rw[e0] at gb;obtain⟨g,off,cap,ge,gj,gl,gm,k0,k1,k2,_⟩:=gb.first
  have hlt:¬ ev.after<=cu:=by have:=g1.o ev ws g8;rw[gk.o] at this;omega
  rw[ge] at d4;have hp:(0:Int)<((ws.length+1:Nat):Int):=by omega
  clear g9 ge ga gb e0 g8 gj
  go_quiet (fail)
  go_wp2_with fail;refine(gg.o nq).mono ?_;rintro x w' (⟨q1,rfl,q2⟩|⟨q1,q2,q3,rfl,q4⟩|⟨q1,rfl,q2⟩|⟨q1,q2,r,d',V',o',rfl,q4,q5,q6,q7,q8,q9,q10,q11,q12⟩)
  . have H1:=Hd (STE.o w' (DU q2));have H2:Hq (D6 m.d v lo hi 9):=Hd (.inl ⟨rfl,q1⟩);clear q1 q2;go_wp2_with fail;refine⟨rfl,o,_,V,H1.o,.inr ⟨rfl,rfl,g1.o,.inl ⟨9,H2.o,rfl,rfl,rfl⟩⟩⟩
  . have H1:=Hd (STE.o w' (DU q4));have H2:Hq (D6 m.d v lo hi 10):=Hd (.inr (.inl ⟨rfl,q1,q2,q3⟩));clear q1 q2 q3 q4;go_wp2_with fail;refine⟨rfl,o,_,V,H1.o,.inr ⟨rfl,rfl,g1.o,.inl ⟨10,H2.o,rfl,rfl,rfl⟩⟩⟩
  . have H1:=Hd (STE.o w' (DU q2));have H2:Hq (D6 m.d v lo hi 7):=Hd (.inr (.inr ⟨rfl,q1⟩));clear q1 q2;go_wp2_with fail;refine⟨rfl,o,_,V,H1.o,.inr ⟨rfl,rfl,g1.o,.inl ⟨7,H2.o,rfl,rfl,rfl⟩⟩⟩
  . have H1:Hq (Step K o w mb m V o' w' { m with calls:=BB m.calls,d:=d' } V'):=Hd ⟨⟨s,(g6.o.setStore g7.o q4 q12.ofDrewN).mono fun op a b c r h=>HK.o.ext _ _ _ _ _ _ _ _ _ gc.o q6 q7 h⟩,q5,gd.o.trans q12.ofDrewN.any,q6,q7,rfl,rfl⟩;have H2:Hq (_/\_/\_/\_/\_/\_):=Hd ⟨q1,q2,q8,q9,q10,q11⟩;clear q1 q2 q4 q5 q6 q7 q8 q9 q10 q11 q12;go_wp2_with fail;go_ret;obtain⟨a1,a2,a3,a4,a5,a6⟩:=H2.o;exact⟨o',_,V',H1.o,.inr ⟨rfl,rfl,g1.o,.inr ⟨a1,a2,r,rfl,a3,a4,a5,a6⟩⟩⟩
theorem Qn {o:Own}(h:A9 (K m.d V) o w mb m)(hlt:Ab o w)(hx:AH o w xb mb)(hk:Ai m.d V)(v:Int)(lo hi:Nat)
 (hw1:m.waits=ev::ws) (hdue:ev.after<=BB m.calls) :
 Calls prog 117 #[Pt xb,.int .i64 v,.int .i64 lo,.int .i64 hi] w (Ga K o w mb m V v lo hi):=by
 obtain⟨s,h⟩:=h;obtain⟨c0,c1,c2,c3,c4,c5,f0⟩:=cells6 h.blk;have cx:=hx.cell;obtain⟨W,hW⟩:=Ex (w.setCell ⟨mb,5,none⟩ (.int .i64 (BB m.calls)));have gd:A2 (K m.d V) o W mb { m with calls:=BB m.calls } s:=by rw[hW];exact h.field rfl rfl rfl rfl rfl h.waits rfl
 have gi:Chg (fun _=>True) o o w W:=by rw[hW];exact(Chg.refl _ o w).setCell (p:=⟨mb,5,none⟩) h.own trivial _
 have gt:Ab o W:=hlt.mono gi.size;obtain⟨d0,d1,d2,d3,d4,d5,g0⟩:=cells6 gd.blk;have gf:mb<W.heap.size:=Ag d0;have gg:=gd.waits;have e0:({ m with calls:=BB m.calls }:ManD).waits=ev::ws:=hw1;rw[e0] at gg;obtain⟨g,off,cap,go,gz,gC,gE,k0,k1,k2,g8⟩:=gg.first
 rw[go] at d4;have hp:(0:Int)<((ws.length+1:Nat):Int):=by omega
 have gy:=Hd gi;have ge:=Hd gt;have gx:=Hd gd;have gB:=Hd hk;have gw:=Hd g8;have HW1:=Hd hw1;have HD:=Hd hdue;have HW:Hq (w.setCell ⟨mb,5,none⟩ (.int .i64 (wrap64 (m.calls+1)))=W):=Hd hW.symm;clear h hlt hx hk gd gi gt hW g8 gg e0 go gz hw1
 delta Pt;go_enter func117,ntmps117
 go_upto_region 3 with fail;rw[HW.o];obtain⟨cu,ga⟩:=Ex (wrap64 (m.calls+1));have d5':W.cell? ⟨mb,5,none⟩=some (.int .i64 cu):=by rw[ga];exact d5
 have gD:ev.after<=cu:=by rw[ga];exact hdue
 rw[<- ga];clear c0 c1 c2 c3 c4 c5 f0 cx d5 ga hdue
 go_quiet (fail)
 obtain⟨W2,gh⟩:=Ex (W.drewN nq);have g1:Bw W W2:=by rw[gh];exact Ap W nq
 rw[<- gh];have g6:=Hd (gx.o.below ge.o g1);have g3:=Hd (ge.o.mono g1.size);have gn:=Hd (gy.o.trans (Chg.of_below g1 _ _));have d4':W2.cell? ⟨mb,4,none⟩=_:=(g1.cell (p:=⟨mb,4,none⟩) gf).trans d4;have g9:g<W.heap.size:=Ag k0;have l0:W2.cell? ⟨g,off,none⟩=_:=(g1.cell (p:=⟨g,off,none⟩) g9).trans k0;have l1:W2.cell? ⟨g,off+1,none⟩=_:=(g1.cell (p:=⟨g,off+1,none⟩) g9).trans k1;have l2:W2.cell? ⟨g,off+2,none⟩=_:=(g1.cell (p:=⟨g,off+2,none⟩) g9).trans k2;have gk:=Hd (gw.o.keep (w':=W2) (o':=o) (fun q hq=>g1.block q (ge.o q _ hq)) (fun _ h=>h));clear gh k0 k1 k2 d0 d1 d2 d3 d4 d5' g0 g1 gx ge gy gw HW;obtain⟨d0,d1,d2,d3,_,d5,g0⟩:=cells6 g6.o.blk;have gf:mb<W2.heap.size:=Ag d0;have g9:g<W2.heap.size:=Ag l0;go_upto_region 5 with fail;obtain⟨bx,gb⟩:=Ex W2.heap.size;obtain⟨W3,gc⟩:=Ex (W2.alloc (.cells #[.int .i64 ev.after,.int .i64 ev.kind,.int .i64 ev.level] 105));have g4:Bw W2 W3:=by rw[gc];exact Af W2 _
 have gr:o bx=none:=by rw[gb];exact g3.o.none (WM _)
 have x3:W3.heap[bx]?=some (.cells #[.int .i64 ev.after,.int .i64 ev.kind,.int .i64 ev.level] 105 (0,0)):=by rw[gc,gb];exact WN W2 _
 rw[<- gc,<- gb];have g2:=Hd (g6.o.below g3.o g4);have gl:=Hd (g3.o.mono g4.size);have gm:=Hd (gn.o.trans (Chg.of_below g4 _ _));have d4:W3.cell? ⟨mb,4,none⟩=_:=(g4.cell (p:=⟨mb,4,none⟩) gf).trans d4';have gj:=Hd (gk.o.keep (w':=W3) (o':=o) (fun q hq=>g4.block q (g3.o q _ hq)) (fun _ h=>h));clear gc gb l0 l1 l2 d0 d1 d2 d3 d4' d5 g0 g4 g6 g3 gn gk;obtain⟨d0,d1,d2,d3,_,d5,g0⟩:=cells6 g2.o.blk;have gq:bx≠mb:=by rintro rfl;rw[g2.o.own] at gr;cases gr
 obtain⟨W4,g5⟩:=Ex ((W3.setCell ⟨mb,4,none⟩ (.slice (if cap=1 then some ⟨g,off,none⟩ else some ⟨g,off+3,none⟩) ws.length (cap-1))).setCell ⟨mb,5,none⟩ (.int .i64 0));have gs:A2 (K m.d V) o W4 mb { m with calls:=0,waits:=ws } { s with vw:=.slice (if cap=1 then some ⟨g,off,none⟩ else some ⟨g,off+3,none⟩) ws.length (cap-1) }:=by
  have a1:=g2.o.field (k:=4) (u:=.slice (if cap=1 then some ⟨g,off,none⟩ else some ⟨g,off+3,none⟩) ws.length (cap-1)) (m':={ m with calls:=BB m.calls,waits:=ws }) (s':={ s with vw:=.slice (if cap=1 then some ⟨g,off,none⟩ else some ⟨g,off+3,none⟩) ws.length (cap-1) }) rfl rfl rfl rfl rfl gj.o rfl;have a2:=a1.field (k:=5) (u:=.int .i64 0) (m':={ m with calls:=0,waits:=ws }) (s':={ s with vw:=.slice (if cap=1 then some ⟨g,off,none⟩ else some ⟨g,off+3,none⟩) ws.length (cap-1) }) rfl rfl rfl rfl rfl a1.waits rfl;rw[g5];exact a2
 have gu:Chg (fun _=>True) o o w W4:=by rw[g5];exact(gm.o.setCell (p:=⟨mb,4,none⟩) g2.o.own trivial _).setCell (p:=⟨mb,5,none⟩) g2.o.own trivial _
 have g7:W4.heap[bx]?=some (.cells #[.int .i64 ev.after,.int .i64 ev.kind,.int .i64 ev.level] 105 (0,0)):=by rw[g5];exact(Aw gq _).trans ((Aw gq _).trans x3)
 have gp:Step K o w mb m V o W4 { m with calls:=0,waits:=ws } V:=⟨⟨_,gs⟩,gl.o.mono (by rw[g5];simp[World.setCell]),gu,gB.o,Ext.refl _ _,rfl,rfl⟩;have gA:=Hd gp;have y0:W4.cell? ⟨bx,0,none⟩=some (.int .i64 ev.after):=by rw[WQ W4 bx 0 _ _ _ g7];rfl
 have y1:W4.cell? ⟨bx,1,none⟩=some (.int .i64 ev.kind):=by rw[WQ W4 bx 1 _ _ _ g7];rfl
 have y2:W4.cell? ⟨bx,2,none⟩=some (.int .i64 ev.level):=by rw[WQ W4 bx 2 _ _ _ g7];rfl
 have gv:=Hd g5;clear gs gu g7 gp g5;go_upto_region 6 with fail;rw[<- gv.o];clear gv d0 d1 d2 d3 d4 d5 g0 x3 g2 gl gm gj;go_wp2_with fail
 all_goals exact⟨rfl,o,_,V,gA.o,.inl ⟨ev,HW1.o,HD.o,rfl,rfl,rfl,rfl⟩⟩
theorem I5 {o:Own}(hK:A5 K)(h:A9 (K m.d V) o w mb m)(hlt:Ab o w)(hx:AH o w xb mb)(hk:Ai m.d V)(v:Int)(lo hi:Nat)(hlo:okE (Aa m.d) lo)(hhi:okE (Aa m.d) hi) :
 Calls prog 117 #[Pt xb,.int .i64 v,.int .i64 lo,.int .i64 hi] w (Ga K o w mb m V v lo hi):=by
 by_cases hd:∀ ev ws,m.waits=ev::ws->BB m.calls<ev.after
 . exact Qm hK h hlt hx hk v lo hi hlo hhi hd
 ·cases hw:m.waits with
  | nil=>exact absurd (fun ev ws e=>by rw[hw] at e;cases e) hd
  | cons ev ws=>exact Qn h hlt hx hk v lo hi hw (Int.not_lt.1 fun hl=>hd fun ev' ws' e=>by rw[hw] at e;cases e;exact hl)
section
theorem Fc (hk:Ai d V)(h:e/2=0):lvE d.vars.length (levN d) (Aa d) e=d.vars.length:=by unfold lvE;rw[h,hk.dag.none0]
theorem Gb (h:e/2=f/2):lvE d.vars.length (levN d) (Aa d) e=lvE d.vars.length (levN d) (Aa d) f:=by unfold lvE;rw[h]
theorem I6 (h:e/2=f/2)(hf:okE N f):okE N e:=by unfold okE;rw[h];exact hf
theorem Bk (hk:Ai d V){v:Nat}(hf:okE (Aa d) f)(hv:v<d.vars.length)(hl:levN d v<=lvE d.vars.length (levN d) (Aa d) f) :
 okE (Aa d) (cofs d f v).1/\okE (Aa d) (cofs d f v).2/\levN d v<lvE d.vars.length (levN d) (Aa d) (cofs d f v).1/\levN d v<lvE d.vars.length (levN d) (Aa d) (cofs d f v).2 /\
  ∀ ρ,ef V f ρ=if ρ v then ef V (cofs d f v).2 ρ else ef V (cofs d f v).1 ρ:=by
 unfold cofs;cases hb:Aa d (f/2) with
 | none =>
   have g0:levN d v<lvE d.vars.length (levN d) (Aa d) f:=by unfold lvE;rw[hb];exact hk.dag.lt v hv
   exact⟨hf,hf,g0,g0,fun ρ=>by simp⟩
 | some b =>
   by_cases e:(b.v:Int)=v
   ·have e':b.v=v:=by omega
    simp only[WR e];refine⟨Dc (hk.dag.okLo _ _ hb),Dc (hk.dag.okHi _ _ hb),?_,?_,fun ρ=>?_⟩
    . rw[D5,<- e'];exact hk.dag.lvLo _ _ hb
    . rw[D5,<- e'];exact hk.dag.lvHi _ _ hb
    . rw[Cu,Cu];have h1:=hk.dag.eqn _ _ hb;unfold eneg;have h2:ef V f ρ=((f%2 == 1) != V (f/2) ρ):=rfl;rw[h2,h1];simp only[iteF,e'];split<;>rfl
   ·simp only[WO e];have g0:levN d v<lvE d.vars.length (levN d) (Aa d) f:=by
     rcases Nat.lt_or_eq_of_le hl with h|h
     . exact h
     . exfalso;unfold lvE at h;rw[hb] at h;have:=hk.dag.inj _ _ hv (hk.dag.var _ _ hb) h;exact e (by omega)
    exact⟨hf,hf,g0,g0,fun ρ=>by simp⟩
theorem Qo (hk:Ai d V)(f g h:Nat):minL d f g h<=d.vars.length:=by unfold minL;have:=hk.dag.lvE_le f;omega
theorem I7 (h1:k<=lvE d.vars.length (levN d) (Aa d) f)(h2:k<=lvE d.vars.length (levN d) (Aa d) g)(h3:k<=lvE d.vars.length (levN d) (Aa d) h):k<=minL d f g h:=by unfold minL;omega
theorem BI.ok (hk:Ai d V)(hi:BI e f g h)(hf:okE (Aa d) f)(hg:okE (Aa d) g)(hh:okE (Aa d) h) :
 okE (Aa d) e/\minL d f g h<=lvE d.vars.length (levN d) (Aa d) e:=by
 rcases hi with e0|e0|e0|e0
 . exact⟨.inl e0,by rw[Fc hk e0];exact Qo hk f g h⟩
 . exact⟨I6 e0 hf,by rw[Gb e0];unfold minL;omega⟩
 . exact⟨I6 e0 hg,by rw[Gb e0];unfold minL;omega⟩
 . exact⟨I6 e0 hh,by rw[Gb e0];unfold minL;omega⟩
structure IteS (d:Ae)(V:Nat->BF)(f0 g0 h0:Nat)(f g h:Nat)(nt:Bool):Prop where
 okF:okE (Aa d) f
 okG:okE (Aa d) g
 okH:okE (Aa d) h
 lev:minL d f0 g0 h0<=minL d f g h
 val:∀ ρ,iteB (ef V f0 ρ) (ef V g0 ρ) (ef V h0 ρ)=(nt != iteB (ef V f ρ) (ef V g ρ) (ef V h ρ))
theorem IteS.start (hf:okE (Aa d) f)(hg:okE (Aa d) g)(hh:okE (Aa d) h):IteS d V f g h f g h false:=⟨hf,hg,hh,WM _,fun ρ=>by simp⟩
theorem IteS.next (hk:Ai d V)(s:IteS d V f0 g0 h0 f g h nt)(hd:(iteR f g h).dn=false) :
 IteS d V f0 g0 h0 (iteR f g h).a (iteR f g h).b (iteR f g h).c (nt != (iteR f g h).n)/\(iteR f g h).a/2≠0:=by
 obtain⟨ha,hb,hc,hn,hv⟩:=Qk hd;obtain⟨a1,a2⟩:=ha.ok hk s.okF s.okG s.okH;obtain⟨b1,b2⟩:=hb.ok hk s.okF s.okG s.okH;obtain⟨c1,c2⟩:=hc.ok hk s.okF s.okG s.okH;refine⟨⟨a1,b1,c1,WU s.lev (I7 a2 b2 c2),fun ρ=>?_⟩,hn⟩;rw[s.val,hv hk.dag.one];cases nt<;>cases (iteR f g h).n<;>simp
theorem IteS.answer {r:Nat}(s:IteS d V f0 g0 h0 f g h nt)(h1:okE (Aa d) f0)(h2:okE (Aa d) g0)(h3:okE (Aa d) h0)(hr:okE (Aa d) r)(hl:minL d f g h<=lvE d.vars.length (levN d) (Aa d) r)
 (hv:∀ ρ,ef V r ρ=iteB (ef V f ρ) (ef V g ρ) (ef V h ρ)):IteP d V f0 g0 h0 (eflip r nt) :=
 ⟨h1,h2,h3,Dc hr,fun ρ=>by rw[Cu,hv,<- s.val];rfl,by rw[D5];exact WU s.lev hl⟩
theorem IteS.done (hk:Ai d V)(s:IteS d V f0 g0 h0 f g h nt)(h1:okE (Aa d) f0)(h2:okE (Aa d) g0)(h3:okE (Aa d) h0)(hd:(iteR f g h).dn=true):IteP d V f0 g0 h0 (eflip (iteR f g h).r nt):=by
 obtain⟨hh,hv⟩:=KP hd;obtain⟨q1,q2⟩:=hh.ok hk s.okF s.okG s.okH;exact s.answer h1 h2 h3 q1 q2 (hv hk.dag.one)
theorem Ext.minL (x:Ext d V d' V')(hk:Ai d V)(hk':Ai d' V'){f g h:Nat}(hf:okE (Aa d) f)(hg:okE (Aa d) g)(hh:okE (Aa d) h):minL d' f g h=Go.Proofs.YtgmbklaolcmljaaGreat.minL d f g h:=by
 unfold Go.Proofs.YtgmbklaolcmljaaGreat.minL;rw[x.vars,x.lvE hf hk.dag.none0 hk'.dag.none0,x.lvE hg hk.dag.none0 hk'.dag.none0,x.lvE hh hk.dag.none0 hk'.dag.none0]
theorem IteS.ext (s:IteS d V f0 g0 h0 f g h nt)(x:Ext d V d' V')(hk:Ai d V)(hk':Ai d' V')(h1:okE (Aa d) f0)(h2:okE (Aa d) g0)(h3:okE (Aa d) h0):IteS d' V' f0 g0 h0 f g h nt :=
 ⟨x.ok s.okF,x.ok s.okG,x.ok s.okH,by rw[x.minL hk hk' h1 h2 h3,x.minL hk hk' s.okF s.okG s.okH];exact s.lev,fun ρ=>by rw[x.ef s.okF,x.ef s.okG,x.ef s.okH,x.ef h1,x.ef h2,x.ef h3];exact s.val ρ⟩
theorem IteP.ext {r:Nat}(s:IteP d V f g h r)(x:Ext d V d' V')(hk:Ai d V)(hk':Ai d' V'):IteP d' V' f g h r :=
 ⟨x.ok s.okA,x.ok s.okB,x.ok s.okC,x.ok s.okR,fun ρ=>by rw[x.ef s.okA,x.ef s.okB,x.ef s.okC,x.ef s.okR];exact s.val ρ,
  by rw[x.minL hk hk' s.okA s.okB s.okC,x.vars,x.lvE s.okR hk.dag.none0 hk'.dag.none0];exact s.lev⟩
theorem Qp (hk:Ai d V){v r:Nat}(hf:okE (Aa d) f)(hg:okE (Aa d) g)(hh:okE (Aa d) h)(hv:v<d.vars.length)(hl:levN d v<=minL d f g h)
 (c1:∀ ρ,ef V lo ρ=iteB (ef V (cofs d f v).1 ρ) (ef V (cofs d g v).1 ρ) (ef V (cofs d h v).1 ρ)) (c2:∀ ρ,ef V hi ρ=iteB (ef V (cofs d f v).2 ρ) (ef V (cofs d g v).2 ρ) (ef V (cofs d h v).2 ρ))
 (hr:ef V r=iteF v (ef V hi) (ef V lo)) (ρ:Nat->Bool):ef V r ρ=iteB (ef V f ρ) (ef V g ρ) (ef V h ρ):=by
 have lf:=(Bk hk hf hv (by unfold minL at hl;omega)).2.2.2.2 ρ;have lg:=(Bk hk hg hv (by unfold minL at hl;omega)).2.2.2.2 ρ;have lh:=(Bk hk hh hv (by unfold minL at hl;omega)).2.2.2.2 ρ;rw[hr,lf,lg,lh];simp only[iteF];cases ρ v
 . simpa using c1 ρ
 . simpa using c2 ρ
theorem Ey (x:Ext d V d' V')(h0:Aa d 0=none)(h0':Aa d' 0=none)(hf:okE (Aa d) f)(v:Int):cofs d' f v=cofs d f v:=by
 unfold cofs;rcases hf with h|⟨b,hb⟩
 . rw[h,h0,h0']
 . rw[hb,x.nodes _ _ hb]
end
def KR (K:Law)(k:Nat)(o:Own)(w:Wd)(mb:Nat)(m:ManD)(V:Nat->BF)(f g h:Nat)(e:Ending)(w':Wd):Prop :=
 ∃ o' m' V',Step K o w mb m V o' w' m' V' /\
  ((∃ r:Nat,e=.returned (.int .i64 r)/\IteP m'.d V' f g h r/\m'.waits=m.waits/\m'.d.pool.many+1<=m.d.pool.many+2^k) \/
   (e=Au 7 false ev0/\m'.waits=m.waits/\m'.d.pool.many=m'.d.pool.room/\m'.d.pool.many+2<=m.d.pool.many+2^k) \/
   (∃ ev,e=Au 0 true ev/\m.waits=ev::m'.waits))
def I8 (K:Law)(k:Nat):Prop:=∀ (o:Own) (w:Wd) (xb mb:Nat) (m:ManD) (V:Nat->BF) (f g h:Nat),A9 (K m.d V) o w mb m->Ab o w->AH o w xb mb->Ai m.d V ->
 okE (Aa m.d) f->okE (Aa m.d) g->okE (Aa m.d) h->m.d.vars.length<=minL m.d f g h+k ->
 Calls prog 119 #[Pt xb,.int .i64 f,.int .i64 g,.int .i64 h] w (KR K k o w mb m V f g h)
theorem Qq {o:Own}(hm:A9 (K m.d V) o w mb m)(hl:Ab o w)(hk:Ai m.d V)(hb:Bw w w'):Step K o w mb m V o w' m V:=by
 obtain⟨s,h⟩:=hm;exact⟨⟨s,h.below hl hb⟩,hl.mono hb.size,Chg.of_below hb _ _,hk,Ext.refl _ _,rfl,rfl⟩
theorem Step.below {o:Own}(h:Step K o w mb m V o' w' m' V')(hb:Bw w' w''):Step K o w mb m V o' w'' m' V':=h.trans (Qq h.is h.lt h.ok hb)
theorem top3 (hk:Ai d V)(hf:okE (Aa d) f)(hn:f/2≠0){top:Int}(ht:TopS d [f,g,h] top least) :
 ∃ v:Nat,top=v/\v<d.vars.length/\levN d v=minL d f g h/\levN d v<d.vars.length:=by
 rcases ht with ⟨_,_,h3⟩|⟨v,h1,_,h3,⟨e,he,b,hb,g0⟩,h5⟩
 ·exfalso;rcases hf with h0|⟨b,hb⟩
  . exact hn h0
  . rw[h3 f (by simp)] at hb;cases hb
 ·refine⟨v,h1,h3,?_,hk.dag.lt v h3⟩;have e0:lvE d.vars.length (levN d) (Aa d) e=levN d v:=by unfold lvE;rw[hb,<- g0]
  have a1:=h5 f (by simp);have a2:=h5 g (by simp);have a3:=h5 h (by simp);simp only[XI,YW,or_false] at he;unfold minL;rcases he with rfl|rfl|rfl<;>omega
abbrev Zq:=@Classical.choose_spec
abbrev X4:=@Nat.pow_succ
theorem KS (hK:A5 K)(k:Nat)(IH:∀ k',k=k'+1->I8 K k'):I8 K k:=by
 intro o w xb mb m V f g h hm gR hx hk hf hg hh gD;obtain⟨st0,gM⟩:∃ s,Ao o w (Classical.choose hm).sb m.d s:=(Zq hm).store;have gp:Hq (∀ e,okE (Aa m.d) e->e<eMax):=Hd fun e he=>by have:=gM.edge_lt he;unfold eMax;omega
 have ho:=Hd hK;have HM:=Hd hm;have h9:=Hd gR;have HX:=Hd hx;have HK:=Hd hk;have HF:=Hd hf;have HG:=Hd hg;have HH:=Hd hh;have hW:=Hd gD;have h6:Hq (IteS m.d V f g h f g h false):=Hd (IteS.start hf hg hh);clear gM hm gR hx hk hf hg hh gD
 go_enter func119,ntmps119
 go_upto_block 0 with fail
 go_cut [1,2,3,9] from 27 (fun s1 s2 s3 s9 wx=>∃ (f' g' h':Nat) (nt:Bool),s1=.int .i64 f'/\s2=.int .i64 g'/\s3=.int .i64 h'/\s9=.bool nt/\IteS m.d V f g h f' g' h' nt/\f'/2≠0/\wx=w)
 case first =>
  go_wp2_with fail
  go_loopw [1,2,3,9,27] (fun s1 s2 s3 s9 i wr=>∃ (f' g' h':Nat) (nt:Bool) (j:Nat),s1=.int .i64 f'/\s2=.int .i64 g'/\s3=.int .i64 h'/\s9=.bool nt/\i=.int .i64 j/\j<=3/\IteS m.d V f g h f' g' h' nt/\(0<j->f'/2≠0)/\wr=w) (fun _ _ _ _ i _=>3-(intOf i).toNat)
  case atStart=>exact⟨f,g,h,false,0,rfl,rfl,rfl,rfl,rfl,by omega,h6.o,by omega,rfl⟩
  case round =>
   obtain⟨f',g',h',nt,j,rfl,rfl,rfl,rfl,rfl,hj,hS,hn,rfl⟩:=hrel;clear h6
   by_cases gR:j<3
   ·have HI:=Hd (fun W:Wd=>Qj f' g' h' W (gp.o _ hS.okF) (gp.o _ hS.okG) (gp.o _ hS.okH));have gl:(iteR f' g' h').dn=true->(iteR f' g' h').r<eMax:=fun e=>gp.o _ (((KP e).1.ok HK.o hS.okF hS.okG hS.okH).1)
    have gn:=fun e=>hS.next HK.o (f:=f') (g:=g') (h:=h') e
    have go:=fun e=>hS.done HK.o HF.o HG.o HH.o e
    have ki:(j:Int)<3:=by omega
    unfold iteV at HI;obtain⟨R,hR⟩:=Ex (iteR f' g' h');rw[<- hR] at HI gl gn go;clear hR hS hn;obtain⟨a,b,c,n,r,dn⟩:=R;dsimp only at HI gl gn go;cases dn with
    | true =>
      have gr:=Hd (fun W:Wd=>Ch r nt W (gl rfl));have kh:=Hd (go rfl);clear gl gn go;go_wp2_with fail;refine(HI.o _).mono ?_;rintro x w' ⟨rfl,rfl⟩;go_wp2_with fail;refine(gr.o _).mono ?_;rintro x w' ⟨rfl,rfl⟩;go_wp2_with fail;go_ret;exact⟨o,m,V,⟨HM.o,h9.o,Chg.refl _ _ _,HK.o,Ext.refl _ _,rfl,rfl⟩,.inl ⟨_,rfl,kh.o,rfl,by have:=Nat.one_le_two_pow (n:=k);omega⟩⟩
    | false =>
      have hJ:(nt != n)=(!nt == n):=by cases nt<;>cases n<;>rfl
      have g8:=Hd (gn rfl);rw[hJ] at g8;clear gl gn go hJ
      by_cases hC:a=f'
      ·subst hC
       by_cases hp2:b=g'
       ·subst hp2
        by_cases hB:c=h'
        . subst hB;go_wp2_with fail;refine(HI.o _).mono ?_;rintro x w' ⟨rfl,rfl⟩;go_wp2_with fail;go_meet;exact⟨_,_,_,_,rfl,rfl,rfl,rfl,g8.o.1,g8.o.2,by trivial⟩
        ·have H3:(c == h')=false:=by simp[hB]
         go_wp2_with fail;refine(HI.o _).mono ?_;rintro x w' ⟨rfl,rfl⟩;go_wp2_with fail;go_roundw
         case rel=>exact⟨_,_,_,_,j+1,rfl,rfl,rfl,rfl,by simp,by omega,g8.o.1,fun _=>g8.o.2,by trivial⟩
         case measure=>simp[intOf];omega
       ·have H2:(b == g')=false:=by simp[hp2]
        go_wp2_with fail;refine(HI.o _).mono ?_;rintro x w' ⟨rfl,rfl⟩;go_wp2_with fail;go_roundw
        case rel=>exact⟨_,_,_,_,j+1,rfl,rfl,rfl,rfl,by simp,by omega,g8.o.1,fun _=>g8.o.2,by trivial⟩
        case measure=>simp[intOf];omega
      ·have H1:(a == f')=false:=by simp[hC]
       go_wp2_with fail;refine(HI.o _).mono ?_;rintro x w' ⟨rfl,rfl⟩;go_wp2_with fail;go_roundw
       case rel=>exact⟨_,_,_,_,j+1,rfl,rfl,rfl,rfl,by simp,by omega,g8.o.1,fun _=>g8.o.2,by trivial⟩
       case measure=>simp[intOf];omega
   ·obtain rfl:j=3:=by omega
    have HS:=Hd hS;have HN:=Hd (hn (by omega));clear hS hn;go_wp2_with fail;go_meet;exact⟨f',g',h',nt,rfl,rfl,rfl,rfl,HS.o,HN.o,rfl⟩
 case rest =>
  obtain⟨f',g',h',nt,rfl,rfl,rfl,rfl,hS,hn,rfl⟩:=hcut
  rename Wd=>w
  clear h6;obtain⟨s,gA⟩:=HM.o;obtain⟨c0,c1,c2,c3,c4,c5,f0⟩:=cells6 gA.blk;have cx:=HX.o.cell;have k7:=Hd (Kv o s.me (K m.d V) 1 f' g' h' w gA.memo h9.o);have kd:=Hd gA;have HS:=Hd hS;have HN:=Hd hn;clear gA hS hn;go_wp2_with fail;refine k7.o.mono ?_;rintro x w1 ⟨kb,gi,gm,ge⟩;have h0:A2 (K m.d V) o w1 mb m s:=kd.o.setMemo h9.o gi (gm.mono fun r e=>.inl e);have hO:=HX.o.chg gm;have kp:=Hd gm.any;have kn:=Hd h0;have kl:=Hd hO;have ko:=Hd ge;have gL:Step K o w mb m V o w1 m V:=⟨⟨s,h0⟩,ge,gm.any,HK.o,Ext.refl _ _,rfl,rfl⟩;have h5:=Hd gL;clear gi gm ge h0 hO gL;rcases kb with rfl|⟨r,rfl,hF⟩
  ·clear c0 c1 c2 c3 c4 c5 f0 cx;go_upto_region 14 with fail;obtain⟨w2,gz⟩:=Ex (w1.alloc (.cells #[.int .i64 f',.int .i64 g',.int .i64 h'] 113));have hM:Bw w1 w2:=by rw[gz];exact Af w1 _
   have hz:w2.heap[w1.heap.size]?=some (.cells #[.int .i64 f',.int .i64 g',.int .i64 h'] 113 (0,0)):=by rw[gz];exact WN w1 _
   have gB:An w2 (some ⟨w1.heap.size,0,none⟩) ([f',g',h'].map Int.ofNat):=⟨by simp,fun j hj=>⟨w1.heap.size,0,rfl,by
    rw[WQ w2 w1.heap.size (0+j) _ _ _ hz];simp at hj
    match j,hj with
    | 0,_=>rfl
    | 1,_=>rfl
    | 2,_=>rfl⟩⟩
   have gc:=h5.o.below hM;have hN:=HX.o.chg gc.chg;have h3:Hq (Calls prog 101 #[Pt xb,.slice (some ⟨w1.heap.size,0,none⟩) 3 3] w2 fun x w'=>∃ top least,x=.returned (.int .i64 top)/\TopS m.d [f',g',h'] top least/\Bw w2 w') :=
    Hd (FZ gc.is gc.lt hN HK.o [f',g',h'] (by simp;exact⟨HS.o.okF,HS.o.okG,HS.o.okH⟩) (some ⟨w1.heap.size,0,none⟩) 3 gB)
   have h4:=Hd gc;have hQ:=Hd gz;clear hM hz gB gc hN gz;go_wp2_with fail;rw[<- hQ.o];refine h3.o.mono ?_;rintro x w3 ⟨top,least,rfl,gH,hL⟩;obtain⟨v,rfl,hv,gk,k9⟩:=top3 HK.o HS.o.okF HN.o gH;have k4:=Hd (h4.o.below hL);have HV:=Hd hv;have hT:=Hd gk;obtain⟨k',gU⟩:∃ k',k=k'+1:=⟨k-1,by have h1:=hW.o;have h2:=HS.o.lev;omega⟩;have hU:=Hd (IH k' gU);have cf:=Bk HK.o HS.o.okF hv (by rw[gk];unfold minL;omega);have cg:=Bk HK.o HS.o.okG hv (by rw[gk];unfold minL;omega);have ch:=Bk HK.o HS.o.okH hv (by rw[gk];unfold minL;omega);have ge:levN m.d v+1<=minL m.d (cofs m.d f' v).1 (cofs m.d g' v).1 (cofs m.d h' v).1:=I7 cf.2.2.1 cg.2.2.1 ch.2.2.1;have hE:levN m.d v+1<=minL m.d (cofs m.d f' v).2 (cofs m.d g' v).2 (cofs m.d h' v).2:=I7 cf.2.2.2.1 cg.2.2.2.1 ch.2.2.2.1;have hH:m.d.vars.length<=levN m.d v+1+k':=by have h1:=hW.o;have h2:=HS.o.lev;omega
   have gu:=Hd cf;have gt:=Hd cg;have gs:=Hd ch;have hc:=Hd ge;have hb:=Hd hE;have hq:=Hd hH;have HKK:=Hd gU;have h7:Hq (∀ (W:Wd) (e:Nat),okE (Aa m.d) e->Step K o w mb m V o W m V->Calls prog 102 #[Pt xb,.int .i64 e,.int .i64 v] W fun x w'=>x=.returned (.tuple #[.int .i64 (cofs m.d e v).1,.int .i64 (cofs m.d e v).2])/\Step K o w mb m V o w' m V) :=
    Hd fun W e he st=>(Fb st.is st.lt (HX.o.chg st.chg) HK.o e he v).mono fun x w' ⟨h1,h2⟩=>⟨h1,st.below h2⟩
   clear gH hL hv gk k9 cf cg ch ge hE hH gU h3 hQ h4;go_wp2_with fail;refine(h7.o _ _ HS.o.okF k4.o).mono ?_;rintro x w4 ⟨rfl,gK⟩;have k3:=Hd gK;clear gK;go_wp2_with fail;refine(h7.o _ _ HS.o.okG k3.o).mono ?_;rintro x w5 ⟨rfl,gJ⟩;have k0:=Hd gJ;clear gJ;go_wp2_with fail;refine(h7.o _ _ HS.o.okH k0.o).mono ?_;rintro x w6 ⟨rfl,gI⟩;have ga:=Hd gI;clear gI;go_wp2_with fail;refine(hU.o o w6 xb mb m V _ _ _ ga.o.is ga.o.lt (HX.o.chg ga.o.chg) HK.o gu.o.1 gt.o.1 gs.o.1 (by have h1:=hq.o;have h2:=hc.o;omega)).mono ?_;have gF:Hq (2^k=2^k'+2^k'):=by show _=_;rw[HKK.o,X4];omega
   have h8:Hq (1<=2^k'):=Hd Nat.one_le_two_pow;rintro x w7 ⟨o7,m7,V7,st7,(⟨lo,rfl,hD,g5,gh⟩|⟨rfl,g5,gO,gh⟩|⟨ev,rfl,g5⟩)⟩
   ·have g2:=Hd (ga.o.trans st7);have gG:=Hd st7.ok;have g7:=Hd st7.ext;have gq:=Hd hD;have gd:=Hd g5;have gy:=Hd gh;have hG:m7.d.vars.length<=minL m7.d (cofs m.d f' v).2 (cofs m.d g' v).2 (cofs m.d h' v).2+k':=by
     rw[st7.ext.minL HK.o st7.ok gu.o.2.1 gt.o.2.1 gs.o.2.1,st7.ext.vars];have h1:=hq.o;have h2:=hb.o;omega
    have kg:=Hd hG;clear st7 hD g5 gh hG;go_wp2_with fail;refine(hU.o o7 w7 xb mb m7 V7 _ _ _ g2.o.is g2.o.lt (HX.o.chg g2.o.chg) gG.o (g7.o.ok gu.o.2.1) (g7.o.ok gt.o.2.1) (g7.o.ok gs.o.2.1) kg.o).mono ?_;rintro x w8 ⟨o8,m8,V8,st8,(⟨hi,rfl,gX,g4,gg⟩|⟨rfl,g4,gN,gg⟩|⟨ev,rfl,g4⟩)⟩
    ·have g1:=Hd (g2.o.trans st8);have hd:=Hd st8.ok;have g6:=Hd st8.ext;have hp:=Hd gX;have gx:=Hd g4;have ha:=Hd gg;have hP:=I5 ho.o g1.o.is g1.o.lt (HX.o.chg g1.o.chg) st8.ok v lo hi (st8.ext.ok gq.o.okR) gX.okR;have ke:=Hd hP;clear st8 gX g4 gg hP;go_wp2_with fail;refine ke.o.mono ?_;have gS:levN m8.d v<lvE m8.d.vars.length (levN m8.d) (Aa m8.d) lo:=by
      have e1:=g6.o.lvE (n:=m8.d.vars.length) gq.o.okR gG.o.dag.none0 hd.o.dag.none0;have e2:=gq.o.lev;have e3:=g7.o.minL HK.o gG.o gu.o.1 gt.o.1 gs.o.1;have e4:=hc.o;have e5:=g7.o.lev;have e6:=g6.o.lev;have e7:=g6.o.vars;rw[e1,e6,e5,e7];rw[e5] at e2;omega
     have gV:levN m8.d v<lvE m8.d.vars.length (levN m8.d) (Aa m8.d) hi:=by
      have e2:=hp.o.lev;have x78:=g7.o.trans g6.o;have e3:=x78.minL HK.o hd.o gu.o.2.1 gt.o.2.1 gs.o.2.1;have e4:=hb.o;have e5:=x78.lev;rw[e5] at e2 ⊢;omega
     have hw:v<m8.d.vars.length:=by rw[(g7.o.trans g6.o).vars];exact HV.o
     have gY:∀ er,D6 m8.d v lo hi er->er=7/\m8.d.pool.many=m8.d.pool.room:=by
      rintro er (⟨_,h1⟩|⟨_,_,_,h1⟩|h1)
      . exact absurd ⟨by omega,by omega⟩ h1
      . simp only[Y5] at h1;omega
      . exact h1
     have kj:=Hd gS;have kk:=Hd gV;have km:=Hd hw;have k8:=Hd gY;clear gS gV hw gY;rintro x w9 ⟨o9,m9,V9,st9,(⟨ev,hu,_,_,gE,gZ,rfl⟩|⟨gf,_,_,(⟨er,hI,gE,gZ,rfl⟩|⟨_,_,r,rfl,hA,hy,gQ,hY⟩)⟩)⟩
     . have g0:=Hd (g1.o.trans st9);have kc:=Hd hu;clear st9 hu gE gZ;unfold Au;go_wp2_with fail;exact⟨rfl,o9,m9,V9,g0.o,.inr (.inr ⟨ev,rfl,by rw[<- gd.o,<- gx.o];exact kc.o⟩)⟩
     . have g0:=Hd (g1.o.trans st9);obtain⟨rfl,gC⟩:=k8.o er hI;have ht:=Hd gC;have hX:=Hd gE;have gw:=Hd gf;clear st9 hI gE gZ gf gC;unfold Au;go_wp2_with fail;exact⟨rfl,o9,m9,V9,g0.o,.inr (.inl ⟨rfl,by rw[gw.o,gx.o,gd.o],by rw[hX.o];exact ht.o,by rw[hX.o];have a1:=gy.o;have a2:=ha.o;have a3:=gF.o;have a4:=h8.o;omega⟩)⟩
     ·have g9:=g1.o.trans st9;have x09:=g9.ext;have gb:=st9.ok;have x79:=g6.o.trans st9.ext;have a0:=HK.o.dag.none0;have a9:=gb.dag.none0;have g3:IteP m9.d V9 f' g' h' r:=by
       refine⟨x09.ok HS.o.okF,x09.ok HS.o.okG,x09.ok HS.o.okH,hA,fun ρ=>?_,?_⟩
       ·refine Qp (lo:=lo) (hi:=hi) (v:=v) gb (x09.ok HS.o.okF) (x09.ok HS.o.okG) (x09.ok HS.o.okH) (by rw[x09.vars];exact HV.o) (by rw[x09.lev,x09.minL HK.o gb HS.o.okF HS.o.okG HS.o.okH,hT.o];exact WM _) ?_ ?_ ?_ ρ
        . intro ρ;rw[Ey x09 a0 a9 HS.o.okF,Ey x09 a0 a9 HS.o.okG,Ey x09 a0 a9 HS.o.okH];exact(gq.o.ext x79 gG.o gb).val ρ
        . intro ρ;rw[Ey x09 a0 a9 HS.o.okF,Ey x09 a0 a9 HS.o.okG,Ey x09 a0 a9 HS.o.okH];exact(hp.o.ext st9.ext hd.o gb).val ρ
        . rw[hy,st9.ext.ef hp.o.okR,st9.ext.ef (g6.o.ok gq.o.okR)];rfl
       . rw[x09.minL HK.o gb HS.o.okF HS.o.okG HS.o.okH,<- hT.o];have e1:=(g7.o.trans g6.o).lev;have e2:=(g7.o.trans g6.o).vars;rw[e1,e2] at gQ;rw[x09.vars];exact gQ
      have hr:=Hd ((HS.o.ext x09 HK.o gb HF.o HG.o HH.o).answer (x09.ok HF.o) (x09.ok HG.o) (x09.ok HH.o) g3.okR g3.lev g3.val);obtain⟨s9,gj⟩:=g9.is;have k5:=Hd (K4 o9 s9.me (K m9.d V9) 1 f' g' h' r w9 gj.memo g9.lt ((ho.o.ite _ _ _ _ _ _).2 g3));have gP:r<eMax:=by
       obtain⟨ss,ka⟩:=gj.store;have:=ka.edge_lt g3.okR;unfold eMax;omega
      have gr:=Hd (fun W:Wd=>Ch r nt W gP);obtain⟨c0,c1,c2,c3,c4,c5,f0⟩:=cells6 gj.blk;have cx:=(HX.o.chg g9.chg).cell;have kf:=Hd gj;have g0:=Hd g9;have gw:=Hd (gf.trans (gx.o.trans gd.o));have k6:Hq (m9.d.pool.many+1<=m.d.pool.many+2^k):=Hd (by have a1:=gy.o;have a2:=ha.o;have a3:=gF.o;omega);clear st9 g9 x09 gb x79 a0 a9 g3 gj gP gf hA hy gQ hY;go_wp2_with fail;refine k5.o.mono ?_;rintro x w10 ⟨rfl,o10,gi,gv,gT⟩;have hZ:Hq (Step K o w mb m V o10 w10 m9 V9):=Hd ⟨⟨s9,kf.o.setMemo g0.o.lt gi gv⟩,gT,g0.o.chg.trans gv.any,g0.o.ok,g0.o.ext,g0.o.hs,g0.o.next⟩;clear gi gv gT c0 c1 c2 c3 c4 c5 f0 cx;go_wp2_with fail;refine(gr.o _).mono ?_;rintro x w' ⟨rfl,rfl⟩;go_wp2_with fail;go_ret;exact⟨o10,m9,V9,hZ.o,.inl ⟨_,rfl,hr.o,gw.o,k6.o⟩⟩
    . have g1:=Hd (g2.o.trans st8);have HQ:Hq (m8.waits=m.waits/\m8.d.pool.many=m8.d.pool.room/\m8.d.pool.many+2<=m.d.pool.many+2^k):=Hd ⟨g4.trans gd.o,gN,by have a1:=gy.o;have a3:=gF.o;have a4:=h8.o;omega⟩;clear st8 g4 gN gg;unfold Au;go_wp2_with fail;exact⟨rfl,o8,m8,V8,g1.o,.inr (.inl ⟨rfl,HQ.o.1,HQ.o.2.1,HQ.o.2.2⟩)⟩
    . have g1:=Hd (g2.o.trans st8);have HQ:=Hd g4;clear st8 g4;unfold Au;go_wp2_with fail;exact⟨rfl,o8,m8,V8,g1.o,.inr (.inr ⟨ev,rfl,by rw[<- gd.o];exact HQ.o⟩)⟩
   . have g2:=Hd (ga.o.trans st7);have HQ:Hq (m7.waits=m.waits/\m7.d.pool.many=m7.d.pool.room/\m7.d.pool.many+2<=m.d.pool.many+2^k):=Hd ⟨g5,gO,by have a3:=gF.o;have a4:=h8.o;omega⟩;clear st7 g5 gO gh;unfold Au;go_wp2_with fail;exact⟨rfl,o7,m7,V7,g2.o,.inr (.inl ⟨rfl,HQ.o.1,HQ.o.2.1,HQ.o.2.2⟩)⟩
   . have g2:=Hd (ga.o.trans st7);have HQ:=Hd g5;clear st7 g5;unfold Au;go_wp2_with fail;exact⟨rfl,o7,m7,V7,g2.o,.inr (.inr ⟨ev,rfl,HQ.o⟩)⟩
  . have g3:IteP m.d V f' g' h' r:=(ho.o.ite _ _ _ _ _ _).1 hF;have hr:=Hd (HS.o.answer HF.o HG.o HH.o g3.okR g3.lev g3.val);have gr:=Hd (fun W:Wd=>Ch r nt W (gp.o _ g3.okR));clear hF g3 c0 c1 c2 c3 c4 c5 f0 cx;go_wp2_with fail;refine(gr.o _).mono ?_;rintro x w' ⟨rfl,rfl⟩;go_wp2_with fail;go_ret;exact⟨o,m,V,h5.o,.inl ⟨_,rfl,hr.o,rfl,by have:=Nat.one_le_two_pow (n:=k);omega⟩⟩
theorem KT (hK:A5 K):∀ k,I8 K k:=by
 intro k
 induction k with
 | zero=>exact KS hK 0 (fun k' e=>absurd e (by omega))
 | succ k ih =>
   refine KS hK (k+1) (fun k' e=>?_);have e2:k'=k:=by omega
   rw[e2];exact ih
open Go.RowKit Go.Shelf
structure Wr (M:Nat->Prop)(w w':Wd):Prop where
 os:w'.os=w.os
 tape:w'.tape=w.tape
 output:w'.output=w.output
 size:w.heap.size<=w'.heap.size
 keep:∀ k,k<w.heap.size->¬ M k->w'.heap[k]?=w.heap[k]?
theorem Wr.refl (M:Nat->Prop)(w:Wd):Wr M w w:=⟨rfl,rfl,rfl,WM _,fun _ _ _=>rfl⟩
theorem Wr.trans {M M' N:Nat->Prop}{w w' w'':Wd}(h:Wr M w w')(h':Wr M' w' w'')(hM:∀ k,k<w.heap.size->M k->N k)(hM':∀ k,k<w.heap.size->M' k->N k):Wr N w w'' :=
 ⟨h'.os.trans h.os,h'.tape.trans h.tape,h'.output.trans h.output,WU h.size h'.size,fun k hk hn=>(h'.keep k (Xh hk h.size) (fun e=>hn (hM' k hk e))).trans (h.keep k hk (fun e=>hn (hM k hk e)))⟩
theorem Wr.mono {N:Nat->Prop}(h:Wr M w w')(hM:∀ k,M k->N k):Wr N w w':=⟨h.os,h.tape,h.output,h.size,fun k hk hn=>h.keep k hk (fun e=>hn (hM k e))⟩
theorem Wr.drew {M:Nat->Prop}{w w':Wd}(h:Wr M w w'):Wr M w w'.drew:=⟨h.os,h.tape,h.output,h.size,h.keep⟩
abbrev XE:=@Below.heap_alloc
theorem Wr.alloc {M:Nat->Prop}{w w':Wd}(h:Wr M w w')(o:Obj):Wr M w (w'.alloc o) :=
 ⟨h.os,h.tape,h.output,by simp;have:=h.size;omega,fun k hk hn=>(XE w' o k (Xh hk h.size)).trans (h.keep k hk hn)⟩
theorem Wr.setCell {M:Nat->Prop}{w w':Wd}(h:Wr M w w'){p:Addr}(hp:M p.block\/w.heap.size<=p.block)(u:Value):Wr M w (w'.setCell p u) :=
 ⟨h.os,h.tape,h.output,by simp[World.setCell];exact h.size,fun k hk hn=>(YZ _ _ _ _ (by rintro rfl;rcases hp with hp|hp;exact hn hp;omega)).trans (h.keep k hk hn)⟩
abbrev XF:=@World.putObj_heap_other
theorem Wr.putObj {M:Nat->Prop}{w w':Wd}(h:Wr M w w'){l:Nat}(hl:M l\/w.heap.size<=l)(o:Obj):Wr M w (w'.putObj l o) :=
 ⟨h.os,h.tape,h.output,by simp;exact h.size,fun k hk hn=>(XF (by rintro rfl;rcases hl with hl|hl;exact hn hl;omega)).trans (h.keep k hk hn)⟩
theorem Wr.of_below (h:Bw w w')(M:Nat->Prop):Wr M w w':=⟨h.os,h.tape,h.output,h.size,fun k hk _=>h.block k hk⟩
theorem Wr.below (h:Wr M w w')(hM:∀ k,M k->n₀<=k)(hn:n₀<=w.heap.size):Below n₀ w w' :=
 ⟨h.os,h.tape,h.output,h.size,fun k hk=>h.keep k (by omega) (fun e=>by have:=hM k e;omega)⟩
theorem Wr.of_grown (h:w.grownBy w' row)(M:Nat->Prop)(hM:∀ k,row=some k->M k):Wr M w w' :=
 ⟨h.os,h.tape,h.output,h.size,fun k hk hn=>h.block k hk (fun e=>hn (hM k e.symm))⟩
section
variable {F:Fence}{α:Type}
def Gc (n₀:Nat)(J:List α->(Nat->Prop)->Wd->Prop):Prop:=∀ pre M W,J pre M W->∀ k,M k->n₀<=k/\k<W.heap.size
def Minds (n₀:Nat)(J:List α->(Nat->Prop)->Wd->Prop):Prop:=∀ pre M W W',J pre M W->Wr (fun k=>n₀<=k/\¬ M k) W W'->J pre M W'
def Gives (F:Fence)(n d:Nat)(P:Program)(g:Nat)(lb:Array Value)(encs:α->Array Value)(n₀:Nat)(Bx:Nat->Prop)(xs:List α)(w:Wd):Prop :=
 ∀ (l:Nat) (J:List α->(Nat->Prop)->Wd->Prop) (M:Nat->Prop) (W:Wd),Gc n₀ J->Minds n₀ J->Wr (fun k=>n₀<=k/\¬ Bx k) w W->(∀ k,Bx k->¬ M k) ->
  (∀ pre x M W1,J pre M W1->(∃ suf,pre++x::suf=xs)->YieldAt F (n-1-d) P l (encs x) W1 fun e W' =>
   e=.returned (.bool true)/\∃ M',J (pre++[x]) M' W'/\Wr M W1 W'/\∀ k,M' k->M k\/W1.heap.size<=k) ->
  J [] M W ->
  CallsIn F n P g (#[.func (.yield l) #[] #[]]++lb) W fun e W'=>(∃ v,e=.returned v)/\∃ M',J xs M' W'/\Wr (fun k=>n₀<=k) W W'/\∀ k,M' k->M k\/W.heap.size<=k
abbrev Zj:=@World.putObj_heap_same
theorem KU {g:Operand}{ps:Array Tmp}{assign body:Code}(hro:F.round=none)(h1:1<=n){lb:Array Value}(hg:a.eval g=.func (.func gf) #[] lb)
 (hFg:F.fn gf) (eg:∀ args w,(callFunc gf args).run P w=.ok (.enter gf args) w) {encs:α->Array Value} {n₀:Nat} {Bx:Nat->Prop} {xs:List α} {d:Nat} (hseq:Gives F (n-1) d P gf lb encs n₀ Bx xs w) (hn0:n₀<=w.heap.size)
 (hBx:∀ k,Bx k->k<w.heap.size) (hps:∀ x,(encs x).size=ps.size) (I:List α->(Nat->Prop)->Wd->Prop) (hOw:Gc n₀ I) (hMi:Minds n₀ I) (M0:Nat->Prop) (hM0:∀ k,Bx k->¬ M0 k) (h0:I [] M0 w)
 (Ax:α->Act->Wd->Wd->Prop) (hAx:∀ x a' W W1 W2 l,l<W.heap.size->Ax x a' W W1->Wr (· = l) W1 W2->Ax x a' W W2)
 (hassign:∀ (l:Nat) (pre:List α) (x:α) (M:Nat->Prop) (W:Wd) (K:Act->Wd->Prop),I pre M W->(∀ a' W',Wr (fun _=>False) W W'->Ax x a' W W'->K a' W') ->
  assign.wpIn (F.inRound l) (n-1-1-d) P (Exit.then K (fun _ _ _=>False)) { tmps:=(ps.zip (encs x)).foldl (fun t (p,v)=>t.setIfInBounds p v) a.tmps,defers:=[] } W)
 (hbody:∀ (l:Nat) (pre:List α) (x:α) (a':Act) (M:Nat->Prop) (W0 W:Wd),I pre M W->Ax x a' W0 W->W0.heap.size<=W.heap.size->w.heap.size<=W0.heap.size->(∃ suf,pre++x::suf=xs)->body.wpIn (F.inRound l) (n-1-1-d) P
  (fun e _ W'=>match e with|.normal=>∃ M',I (pre++[x]) M' W'/\Wr (fun k=>M k\/W0.heap.size<=k) W W'/\(∀ k,M' k->M k\/W0.heap.size<=k)|_=>False) a' W)
 (hdone:∀ (D:Nat) (M:Nat->Prop) (W:Wd),w.heap.size<=D->¬ M D->I xs M W->(∀ k,M k->M0 k\/w.heap.size<=k)->Wr (fun k=>n₀<=k) w W->W.heap[D]?=some (.deferred (some []))->Q .normal { a with defers:={ target:=.collected D,args:=#[] }::a.defers } W) :
 (Code.rangeFunc g ps assign body).wpIn F n P Q a w:=by
 refine wpIn_rangeFunc ?_;intro fn gm;rw[hro]
 let rec0:LoopState->Loop:=fun st=>{ state:=st,pending:=none,fn,tmps:=a.tmps,params:=ps,assign,body,defers:=w.heap.size }
 obtain⟨W1,g1⟩:=Ex ((w.alloc (.deferred (some []))).alloc (.loop (rec0 .ready)));have gr:W1.heap[w.heap.size+1]?=some (.loop (rec0 .ready)):=by
  rw[g1];have:=World.alloc_heap_new (w.alloc (.deferred (some []))) (.loop (rec0 .ready))
  rwa [WV] at this
 have gt:W1.heap[w.heap.size]?=some (.deferred (some [])):=by
  rw[g1];exact(XE _ _ _ (by simp)).trans (World.alloc_heap_new w _)
 have g5:∀ N:Nat->Prop,Wr N w W1:=fun N=>by rw[g1];exact((Wr.refl N w).alloc _).alloc _
 have g2:=hOw [] M0 w h0;have gs:I [] M0 W1:=hMi _ _ _ _ h0 (g5 _)
 refine⟨w.heap.size+1,[{ target:=.collected w.heap.size,args:=#[] }],W1,{ target:=.fn (.func gf) lb,args:=#[.func (.yield (w.heap.size+1)) #[] #[]] },W1,gf,
  #[.func (.yield (w.heap.size+1)) #[] #[]]++lb,W1,?_,?_,?_,?_,fun _=>h1,?_⟩
 . rw[g1];exact run_enterLoop_outer _ _ _ _ _
 . simp only[resolve,hg];simp[go_sem]
 . intro f' gb;simp[Target.leads] at gb;subst gb;exact hFg
 . simp[invoke,go_sem,eg]
 refine(hseq (w.heap.size+1)
  (fun pre N W=>∃ M,I pre M W/\(∀ k,N k↔(M k\/k=w.heap.size+1\/k=w.heap.size))/\¬ M (w.heap.size+1)/\¬ M w.heap.size/\(∀ k,M k->M0 k\/w.heap.size<=k) /\
   W.heap[w.heap.size+1]?=some (.loop (rec0 .ready))/\W.heap[w.heap.size]?=some (.deferred (some [])))
  (fun k=>M0 k\/k=w.heap.size+1\/k=w.heap.size) W1 ?_ ?_ (g5 _) ?_ ?_ ?_).mono ?_
 ·rintro pre N W ⟨M,hi,hN,_,_,_,hl,hd⟩ k hk;rcases(hN k).1 hk with hk|hk|hk
  . exact hOw _ _ _ hi k hk
  . subst hk;exact⟨by omega,(WL.1 hl).1⟩
  . subst hk;exact⟨hn0,(WL.1 hd).1⟩
 ·rintro pre N W W' ⟨M,hi,hN,h2,h3,h4,hl,hd⟩ hw;refine⟨M,hMi _ _ _ _ hi ?_,hN,h2,h3,h4,?_,?_⟩
  . exact⟨hw.os,hw.tape,hw.output,hw.size,fun k hk hn=>hw.keep k hk (fun⟨a,b⟩=>hn ⟨a,fun e=>b ((hN k).2 (.inl e))⟩)⟩
  . exact(hw.keep _ (WL.1 hl).1 (fun⟨_,b⟩=>b ((hN _).2 (.inr (.inl rfl))))).trans hl
  . exact(hw.keep _ (WL.1 hd).1 (fun⟨_,b⟩=>b ((hN _).2 (.inr (.inr rfl))))).trans hd
 ·intro k hk hm;have:=hBx k hk;rcases hm with hm|hm|hm
  . exact hM0 k hk hm
  . omega
  . omega
 ·rintro pre x N W ⟨M,hi,hN,h2,h3,h4,hl,hd⟩ gc;have g9:w.heap.size+1<W.heap.size:=(WL.1 hl).1;have hy:=run_yield (P:=P) (args:=encs x) hl (hps x);refine⟨fn,_,assign,body,hy,roundIn_of_wpIn gm (hassign _ pre x M W _ hi ?_)⟩;intro a' Wa g0 gq;have gi:=(g0.keep _ g9 (fun h=>h)).trans hl;have go:=(g0.keep _ (by omega) (fun h=>h)).trans hd;have g6:w.heap.size+1<Wa.heap.size:=by have:=g0.size;omega
  refine⟨_,run_beginRound gi rfl,?_⟩;have gk:I pre M Wa:=hMi _ _ _ _ hi (g0.mono (fun _ h=>h.elim));have g7:Wr (· = w.heap.size+1) Wa (Wa.putObj (w.heap.size+1) (.loop { rec0 .ready with state:=.busy })):=(Wr.refl (· = w.heap.size+1) Wa).putObj (l:=w.heap.size+1) (.inl rfl) _;have gj:I pre M (Wa.putObj (w.heap.size+1) (.loop { rec0 .ready with state:=.busy })):=hMi _ _ _ _ gk (g7.mono (fun k e=>by have e':k=w.heap.size+1:=e;subst e';exact⟨by omega,h2⟩));have gh:(Wa.putObj (w.heap.size+1) (.loop { rec0 .ready with state:=.busy })).heap[w.heap.size+1]?=some (.loop { rec0 .ready with state:=.busy }):=Zj g6;have gn:(Wa.putObj (w.heap.size+1) (.loop { rec0 .ready with state:=.busy })).heap[w.heap.size]?=some (.deferred (some [])):=(XF (by omega)).trans go;refine wpIn_mono (hbody _ pre x a' M W _ gj (hAx _ _ _ _ _ _ g9 gq g7) (by simp;exact g0.size) (by omega) gc) ?_;intro e a3 W3 hp;cases e with
  | normal =>
    obtain⟨M',gl,g4,g3⟩:=hp;have ga:=(g4.keep _ (by simp;exact g6) (fun e=>by rcases e with e|e;exact h2 e;omega)).trans gh;have gp:=(g4.keep _ (by simp;omega) (fun e=>by rcases e with e|e;exact h3 e;omega)).trans gn;have gd:=(WL.1 ga).1;have g8:¬ M' (w.heap.size+1):=fun e=>by rcases g3 _ e with h|h;exact h2 h;omega
    have gg:¬ M' w.heap.size:=fun e=>by rcases g3 _ e with h|h;exact h3 h;omega
    refine⟨_,_,run_endRound (P:=P) none ga,rfl,fun k=>M' k\/k=w.heap.size+1\/k=w.heap.size,⟨M',?_,fun k=>Iff.rfl,g8,gg,?_,Zj gd,(XF (by omega)).trans gp⟩,?_,?_⟩
    . exact hMi _ _ _ _ gl ((Wr.refl _ _).putObj (.inl ⟨by omega,g8⟩) _)
    ·intro k hk;rcases g3 k hk with h|h
     . exact h4 k h
     . right;omega
    ·refine((((g0.mono (N:=N) (fun _ h=>h.elim)).putObj (l:=w.heap.size+1) (.inl ((hN _).2 (.inr (.inl rfl)))) _).trans (N:=N) g4 (fun k _ h=>h) (fun k hk h=>?_)).putObj (l:=w.heap.size+1) (.inl ((hN _).2 (.inr (.inl rfl)))) _);rcases h with h|h
     . exact(hN k).2 (.inl h)
     . omega
    ·rintro k (hk|hk)
     ·rcases g3 k hk with h|h
      . exact .inl ((hN k).2 (.inl h))
      . exact .inr h
     . exact .inl ((hN k).2 (.inr hk))
  | ret=>exact hp.elim
  | exit id=>exact hp.elim
  | goto t=>exact hp.elim
  | panic ch=>exact hp.elim
  | outgrown=>exact hp.elim
 . exact⟨M0,gs,fun k=>Iff.rfl,fun e=>by have:=(g2 _ e).2;omega,fun e=>by have:=(g2 _ e).2;omega,fun k h=>.inl h,gr,gt⟩
 ·rintro e W2 ⟨⟨v,rfl⟩,N,⟨M,hi,hN,h2,h3,h4,hl,hd⟩,ge,_⟩;refine⟨none,_,run_endLoop (P:=P) hl (by simp[rec0]),hdone _ M _ (WM _) h3 ?_ h4 ?_ ((XF (by omega)).trans hd)⟩
  . exact hMi _ _ _ _ hi ((Wr.refl _ _).putObj (.inl ⟨by omega,h2⟩) _)
  . exact((g5 (fun k=>n₀<=k)).trans ge (fun _ _ h=>h) (fun _ _ h=>h)).putObj (.inl (by omega)) _
end
structure Caught (sb:Nat)(er:Int)(evt:Bool)(ev:Ev)(w w':Wd):Prop where
 size:w.heap.size<=w'.heap.size
 os:w'.os=w.os
 tape:w'.tape=w.tape
 output:w'.output=w.output
 keep:∀ k,k<w.heap.size->k≠sb->w'.heap[k]?=w.heap[k]?
 blk:w'.heap[sb]?=some (.cells #[.int .i64 er,.bool evt,.int .i64 ev.after,.int .i64 ev.kind,.int .i64 ev.level] 214 (0,0))
theorem KV {er:Int}{evt:Bool}{a0 a1 a2 a3 a4:Value}(hs:w.heap[sb]?=some (.cells #[a0,a1,a2,a3,a4] 214 (0,0)))(ob:Obj) :
 Caught sb er evt ev w ((((((w.setCell ⟨sb,0,none⟩ (.int .i64 er)).setCell ⟨sb,1,none⟩ (.bool evt)).setCell ⟨sb,2,none⟩ (.int .i64 ev.after)).setCell ⟨sb,3,none⟩ (.int .i64 ev.kind)).setCell ⟨sb,4,none⟩ (.int .i64 ev.level)).alloc ob):=by
 have w1:=(Wr.refl (· = sb) w).setCell (p:=⟨sb,0,none⟩) (.inl rfl) (.int .i64 er);have h1:(w.setCell ⟨sb,0,none⟩ (.int .i64 er)).heap[sb]?=some (.cells #[.int .i64 er,a1,a2,a3,a4] 214 (0,0)):=Az hs _
 generalize w.setCell ⟨sb,0,none⟩ (.int .i64 er)=W1 at *
 have w2:=w1.setCell (p:=⟨sb,1,none⟩) (.inl rfl) (.bool evt);have h2:(W1.setCell ⟨sb,1,none⟩ (.bool evt)).heap[sb]?=some (.cells #[.int .i64 er,.bool evt,a2,a3,a4] 214 (0,0)):=Az h1 _
 generalize W1.setCell ⟨sb,1,none⟩ (.bool evt)=W2 at *
 have w3:=w2.setCell (p:=⟨sb,2,none⟩) (.inl rfl) (.int .i64 ev.after);have h3:(W2.setCell ⟨sb,2,none⟩ (.int .i64 ev.after)).heap[sb]?=some (.cells #[.int .i64 er,.bool evt,.int .i64 ev.after,a3,a4] 214 (0,0)):=Az h2 _
 generalize W2.setCell ⟨sb,2,none⟩ (.int .i64 ev.after)=W3 at *
 have w4:=w3.setCell (p:=⟨sb,3,none⟩) (.inl rfl) (.int .i64 ev.kind);have h4:(W3.setCell ⟨sb,3,none⟩ (.int .i64 ev.kind)).heap[sb]?=some (.cells #[.int .i64 er,.bool evt,.int .i64 ev.after,.int .i64 ev.kind,a4] 214 (0,0)):=Az h3 _
 generalize W3.setCell ⟨sb,3,none⟩ (.int .i64 ev.kind)=W4 at *
 have w5:=w4.setCell (p:=⟨sb,4,none⟩) (.inl rfl) (.int .i64 ev.level);have h5:(W4.setCell ⟨sb,4,none⟩ (.int .i64 ev.level)).heap[sb]?=some (.cells #[.int .i64 er,.bool evt,.int .i64 ev.after,.int .i64 ev.kind,.int .i64 ev.level] 214 (0,0)):=Az h4 _
 generalize W4.setCell ⟨sb,4,none⟩ (.int .i64 ev.level)=W5 at *
 have w6:=w5.alloc ob;exact⟨w6.size,w6.os,w6.tape,w6.output,fun k hk g0=>w6.keep k hk g0,(WT _ _ (WL.1 h5).1).trans h5⟩
theorem Qr (v:Value)(w:Wd):(Instr.typeAssert (.iface 214 v) 20 214 true).run prog w=.ok (.tuple #[v,.bool true]) w:=by
 simp[Instr.typeAssert,Xt underlying214,go_sem,Result.andThen]
theorem Qs (dn st:Addr)(w:Wd)(hd:w.cell? dn=some (.bool true)) :
 CallsD prog 195 #[.pointer (some dn),.pointer (some st)] .returning w fun e u' w'=>e=.returned (.tuple #[])/\u'=.returning/\w'=w:=by
 refine callsD_of_wpS func195 rfl fun c₀ cs hu=>?_
 apply wpS_seq;apply wpS_seq;apply wpS_region;simp[wpOpsS,go_sem,hd,ntmps195,Exit.thenS];refine wpS_cond (t:=true) (by simp[Act.eval,Array.replicate]) ?_;simp only[XP];refine wpS_of_wp (wp_ret ?_);cases c₀
 simp_all [Exit.thenS,bodyPostS,results,Tryz.results195]
abbrev XZ:=@Array.replicate_succ
abbrev Ya:=@Array.replicate_zero
abbrev Yo:=@List.push_toArray
abbrev Yf:=@List.append_toArray
abbrev Ym:=@List.cons_append
abbrev Zb:=@Bool.false_eq_true
theorem Qt (dn sb:Nat)(er:Int)(evt:Bool)(ev:Ev)(older:List PanicEntry)(w:Wd)(a0 a1 a2 a3 a4:Value)(hd:w.cell? ⟨dn,0,none⟩=some (.bool false))(hs:w.heap[sb]?=some (.cells #[a0,a1,a2,a3,a4] 214 (0,0))) :
 CallsD prog 195 #[.pointer (some ⟨dn,0,none⟩),.pointer (some ⟨sb,0,none⟩)] (.panicking ({ v:=.iface 214 (.agg #[.int .i64 er,.bool evt,.int .i64 ev.after,.int .i64 ev.kind,.int .i64 ev.level]),recovered:=false }::older)) w fun e u' w' =>
  e=.returned (.tuple #[])/\u'=.panicking ({ v:=.iface 214 (.agg #[.int .i64 er,.bool evt,.int .i64 ev.after,.int .i64 ev.kind,.int .i64 ev.level]),recovered:=true }::older) /\
  Caught sb er evt ev w w':=by
 refine callsD_of_wpS func195 rfl fun c₀ cs hu=>?_
 simp only[ntmps195,XQ,Xm,XS,Nat.reduceAdd,Nat.reduceSub,XZ,Ya,Yo,Yf,XK,Ym];apply wpS_seq;apply wpS_seq;apply wpS_region;simp[wpOpsS,go_sem,hd,Exit.thenS];refine wpS_cond (t:=false) (by simp[Act.eval]) ?_;simp only[Zb,if_false];refine wpS_of_wp (wp_skip ?_);simp only[Exit.thenS];apply wpS_seq;apply wpS_region;simp[wpOpsS,go_sem,recoverD,hu,Exit.thenS];have lsb:sb<w.heap.size:=(WL.1 hs).1;obtain⟨c0,c1,c2,c3,c4,f0⟩:=cells5 hs;refine wpS_of_wp (wp_mono (Q:=fun e a' w'=>e=.normal/\a'.defers=[]/\Caught sb er evt ev w w') ?_ ?_)
 ·have HS:=Hd hs;have g0:=fun v=>Qr v w
  clear hs;go_wp2_with fail
  first|exact⟨rfl,rfl,KV HS.o _⟩|exact KV HS.o _
 . rintro e a' w' ⟨rfl,h1,h2⟩;refine⟨h1,_,rfl,_,Ye rfl _ _ _,?_⟩;exact⟨rfl,rfl,h2⟩
abbrev Stop:=Int×Bool×Ev
def I9 (r:Option Stop):Value :=
 match r with
 | some (er,evt,ev)=>.agg #[.int .i64 er,.bool evt,.int .i64 ev.after,.int .i64 ev.kind,.int .i64 ev.level]
 | none=>.agg #[.int .i64 0,.bool false,.int .i64 0,.int .i64 0,.int .i64 0]
def tryW (mb:Nat)(w:Wd):Wd :=
 ((w.alloc (.cells #[.int .i64 0,.bool false,.int .i64 0,.int .i64 0,.int .i64 0] 214)).alloc (.cells #[.bool false] 4)).alloc (.cells #[.pointer (some ⟨mb,0,none⟩)] 212)
def Qu (w:Wd)(R:Option Stop->Wd->Prop)(x:Ending)(w':Wd):Prop :=
 ∃ r W',R r W'/\Wr (fun k=>k=w.heap.size\/k=w.heap.size+1) W' w'/\x=.returned (.tuple #[I9 r,.bool r.isNone])
def Fe (gf:Nat)(lb:Array Value)(mb:Nat)(w:Wd)(R:Option Stop->Wd->Prop):Prop :=
 Calls prog gf (#[.pointer (some ⟨w.heap.size+2,0,none⟩)]++lb) (tryW mb w) fun e W' =>
  (tryW mb w).heap.size<=W'.heap.size/\W'.heap[w.heap.size]?=(tryW mb w).heap[w.heap.size]?/\W'.heap[w.heap.size+1]?=(tryW mb w).heap[w.heap.size+1]? /\
   ((e=.returned (.tuple #[])/\R none W')\/∃ er evt ev,e=Au er evt ev/\R (some (er,evt,ev)) W')
theorem Qv {s:Nat}(h0:W.heap[s]?=some (.cells #[.int .i64 0,.bool false,.int .i64 0,.int .i64 0,.int .i64 0] 214 (0,0)))(h1:W.heap[s+1]?=some (.cells #[.bool false] 4 (0,0))){W2:Wd}
 (hW:W2=(((((W.setCell ⟨s,0,none⟩ (.int .i64 0)).setCell ⟨s,1,none⟩ (.bool false)).setCell ⟨s,2,none⟩ (.int .i64 0)).setCell ⟨s,3,none⟩ (.int .i64 0)).setCell ⟨s,4,none⟩ (.int .i64 0)).setCell ⟨s+1,0,none⟩ (.bool true)) :
 Wr (fun k=>k=s\/k=s+1) W W2/\W2.heap[s]?=some (.cells #[.int .i64 0,.bool false,.int .i64 0,.int .i64 0,.int .i64 0] 214 (0,0))/\W2.heap[s+1]?=some (.cells #[.bool true] 4 (0,0)):=by
 have n1:s+1≠s:=by omega
 have w1:=(Wr.refl (fun k=>k=s\/k=s+1) W).setCell (p:=⟨s,0,none⟩) (.inl (.inl rfl)) (.int .i64 0);have a1:(W.setCell ⟨s,0,none⟩ (.int .i64 0)).heap[s]?=some (.cells #[.int .i64 0,.bool false,.int .i64 0,.int .i64 0,.int .i64 0] 214 (0,0)):=Az h0 _;have b1:=(Aw (p:=⟨s,0,none⟩) (w:=W) n1 (.int .i64 0)).trans h1
 generalize W.setCell ⟨s,0,none⟩ (.int .i64 0)=W1 at *
 have w2:=w1.setCell (p:=⟨s,1,none⟩) (.inl (.inl rfl)) (.bool false);have a2:(W1.setCell ⟨s,1,none⟩ (.bool false)).heap[s]?=some (.cells #[.int .i64 0,.bool false,.int .i64 0,.int .i64 0,.int .i64 0] 214 (0,0)):=Az a1 _;have b2:=(Aw (p:=⟨s,1,none⟩) (w:=W1) n1 (.bool false)).trans b1
 generalize W1.setCell ⟨s,1,none⟩ (.bool false)=W3 at *
 have w3:=w2.setCell (p:=⟨s,2,none⟩) (.inl (.inl rfl)) (.int .i64 0);have a3:(W3.setCell ⟨s,2,none⟩ (.int .i64 0)).heap[s]?=some (.cells #[.int .i64 0,.bool false,.int .i64 0,.int .i64 0,.int .i64 0] 214 (0,0)):=Az a2 _;have b3:=(Aw (p:=⟨s,2,none⟩) (w:=W3) n1 (.int .i64 0)).trans b2
 generalize W3.setCell ⟨s,2,none⟩ (.int .i64 0)=W4 at *
 have w4:=w3.setCell (p:=⟨s,3,none⟩) (.inl (.inl rfl)) (.int .i64 0);have a4:(W4.setCell ⟨s,3,none⟩ (.int .i64 0)).heap[s]?=some (.cells #[.int .i64 0,.bool false,.int .i64 0,.int .i64 0,.int .i64 0] 214 (0,0)):=Az a3 _;have b4:=(Aw (p:=⟨s,3,none⟩) (w:=W4) n1 (.int .i64 0)).trans b3
 generalize W4.setCell ⟨s,3,none⟩ (.int .i64 0)=W5 at *
 have w5:=w4.setCell (p:=⟨s,4,none⟩) (.inl (.inl rfl)) (.int .i64 0);have a5:(W5.setCell ⟨s,4,none⟩ (.int .i64 0)).heap[s]?=some (.cells #[.int .i64 0,.bool false,.int .i64 0,.int .i64 0,.int .i64 0] 214 (0,0)):=Az a4 _;have b5:=(Aw (p:=⟨s,4,none⟩) (w:=W5) n1 (.int .i64 0)).trans b4
 generalize W5.setCell ⟨s,4,none⟩ (.int .i64 0)=W6 at *
 subst hW;exact⟨w5.setCell (p:=⟨s+1,0,none⟩) (.inl (.inr rfl)) _,(Aw (X1 n1) _).trans a5,Az b5 _⟩
theorem Qw (mb gf:Nat)(lb:Array Value)(w:Wd)(R:Option Stop->Wd->Prop)(eg:∀ args w,(callFunc gf args).run prog w=.ok (.enter gf args) w)(hop:Fe gf lb mb w R) :
 Calls prog 172 #[Pt mb,.func (.func gf) #[] lb] w (Qu w R):=by
 have ge:∀ (fn:Fn) (first cap:Array Value) (w:Wd),(Instr.makeFunc fn first cap).run prog w=.ok (.func fn first cap) w:=fun _ _ _ _=>rfl
 unfold Fe at hop;obtain⟨W,hW⟩:=Ex (tryW mb w);have HW:Hq (_=W):=Hd hW.symm;rw[<- hW] at hop;have g8:=Hd hop;clear hop hW
 go_enter_defers func172,ntmps172
 go_wp2_with fail
 change Calls _ _ _ (tryW mb w) _
 have g4:(tryW mb w).heap[w.heap.size]?=some (.cells #[.int .i64 0,.bool false,.int .i64 0,.int .i64 0,.int .i64 0] 214 (0,0)):=by
  unfold tryW;exact(WT _ _ (by simp;omega)).trans ((WT _ _ (by simp)).trans (WN w _))
 have g3:(tryW mb w).heap[w.heap.size+1]?=some (.cells #[.bool false] 4 (0,0)):=by
  unfold tryW;refine(WT _ _ (by simp)).trans ?_;have:=WN (w.alloc (.cells #[.int .i64 0,.bool false,.int .i64 0,.int .i64 0,.int .i64 0] 214)) (.cells #[.bool false] 4)
  rwa [WV] at this
 rw[HW.o] at g4 g3 ⊢;have gb:W.heap.size=w.heap.size+3:=by rw[<- HW.o];simp[tryW]
 refine g8.o.mono ?_;rintro e W' ⟨gc,g7,g6,g5⟩;have g1:=g7.trans g4;have g0:=g6.trans g3;obtain⟨c0,c1,c2,c3,c4,f0⟩:=cells5 g1;have c5:W'.cell? ⟨w.heap.size+1,0,none⟩=some (.bool false):=by rw[WQ W' _ 0 _ _ _ g0];rfl
 have f1:∀ k,W'.frozen? ⟨w.heap.size+1,k,none⟩=false:=fun k=>by simp[World.frozen?,g0]
 obtain⟨s,hs⟩:=Ex w.heap.size;rw[<- hs] at g1 g0 c0 c1 c2 c3 c4 f0 c5 f1 ⊢;have hs1:s<W'.heap.size:=by omega
 have gd:s+1<W'.heap.size:=by omega
 have ga:=Hd g1;have g9:=Hd g0;have HS:=Hd hs;clear g4 g3 g7 g6 g1 g0 hs gb gc g8 HW;rcases g5 with ⟨rfl,hr⟩|⟨er,evt,ev,rfl,hr⟩
 ·have HR:=Hd hr;clear hr;go_wp2_with fail;obtain⟨W2,g2⟩:=Ex ((((((W'.setCell ⟨s,0,none⟩ (.int .i64 0)).setCell ⟨s,1,none⟩ (.bool false)).setCell ⟨s,2,none⟩ (.int .i64 0)).setCell ⟨s,3,none⟩ (.int .i64 0)).setCell ⟨s,4,none⟩ (.int .i64 0)).setCell ⟨s+1,0,none⟩ (.bool true));obtain⟨q1,q2,q3⟩:=Qv ga.o g9.o g2;rw[<- g2];clear g2 c0 c1 c2 c3 c4 f0 c5 f1;obtain⟨c0,c1,c2,c3,c4,f0⟩:=cells5 q2;have c5:W2.cell? ⟨s+1,0,none⟩=some (.bool true):=by rw[WQ W2 _ 0 _ _ _ q3];rfl
  refine leaves_cons (f:=195) (args:=#[.pointer (some ⟨s+1,0,none⟩),.pointer (some ⟨s,0,none⟩)]) (by simp) (by simp[go_sem]) ?_;refine(Qs ⟨s+1,0,none⟩ ⟨s,0,none⟩ _ c5).mono ?_;rintro e u' w'' ⟨rfl,rfl,rfl⟩;simp[Leaves,settle,results,Tryz.results172,go_sem,c0,c1,c2,c3,c4,c5];exact⟨none,W',HR.o,by rw[<- HS.o];exact q1,rfl⟩
 ·have HR:=Hd hr;clear hr;unfold Au;go_wp2_with fail;refine leaves_cons (f:=195) (args:=#[.pointer (some ⟨s+1,0,none⟩),.pointer (some ⟨s,0,none⟩)]) (by simp) (by simp[go_sem]) ?_;refine(Qt (s+1) s er evt ev [] _ _ _ _ _ _ c5 ga.o).mono ?_;rintro e u' w'' ⟨rfl,rfl,hc⟩;have q3:=(hc.keep (s+1) gd (by omega)).trans g9.o;clear c0 c1 c2 c3 c4 f0 c5 f1;obtain⟨c0,c1,c2,c3,c4,f0⟩:=cells5 hc.blk;have c5:w''.cell? ⟨s+1,0,none⟩=some (.bool false):=by rw[WQ w'' _ 0 _ _ _ q3];rfl
  simp[Leaves,settle,results,Tryz.results172,go_sem,c0,c1,c2,c3,c4,c5];exact⟨some (er,evt,ev),W',HR.o,⟨hc.os,hc.tape,hc.output,hc.size,fun k hk hn=>hc.keep k hk (fun e=>hn (.inl (e.trans HS.o)))⟩,rfl⟩
abbrev Ali (s:Nat)(W W':Wd):Prop:=Wr (fun k=>k=s\/k=s+1) W W'
structure Qx (gf:Nat)(lb:Array Value)(mb:Nat)(I:Nat->Bool->Wd->Prop)(Fin:Int->Wd->Prop)(n:Nat)(room:Bool)(W:Wd)(R:Option Stop->Wd->Prop):Prop where
 op:Fe gf lb mb W R
 fin:∀ W1 W2,R none W1->Ali W.heap.size W1 W2->Fin 0 W2
 event:∀ er ev W1 W2,R (some (er,true,ev)) W1->Ali W.heap.size W1 W2->Calls prog 173 #[Pt mb,evA ev] W2 fun x w'=>x=.returned (.tuple #[])/\∃ n',n'<n/\I n' false w'
 full:∀ ev W1 W2,R (some (7,false,ev)) W1->Ali W.heap.size W1 W2->room=false->Calls prog 174 #[Pt mb] W2 fun x w'=>(∃ v,x=.returned v)/\I n true w'
 err:∀ er ev W1 W2,R (some (er,false,ev)) W1->Ali W.heap.size W1 W2->¬ (er=7/\room=false)->Fin er W2
theorem KW (mb gf:Nat)(lb:Array Value)(w:Wd)(eg:∀ args w,(callFunc gf args).run prog w=.ok (.enter gf args) w)(I:Nat->Bool->Wd->Prop)(Fin:Int->Wd->Prop)
 (hI:∀ n room W,I n room W->∃ R,Qx gf lb mb I Fin n room W R) (n0:Nat) (h0:I n0 false w) :
 Calls prog 141 #[Pt mb,.func (.func gf) #[] lb] w fun x w'=>∃ er,x=.returned (.int .i64 er)/\Fin er w':=by
 have HI:=Hd hI;clear hI
 delta Pt;go_enter func141,ntmps141
 go_wp2_with fail
 go_loopg [5] (2*n0+1) (fun gk s5 wx=>∃ (n:Nat) (room:Bool),s5=.bool room/\I n room wx/\gk=2*n+(if room then 0 else 1))
 case atStart=>exact⟨n0,false,rfl,h0,rfl⟩
 case round =>
  obtain⟨n,room,rfl,hi,g4⟩:=hrel;obtain⟨R,hR⟩:=HI.o n room wr hi;have g6:=Hd (Qw mb gf lb wr R eg hR.op);have HR:=Hd hR;have g5:=Hd g4;clear hi hR g4 h0;go_wp2_with fail;refine g6.o.mono ?_;rintro x w2 ⟨r,W1,hr,hw,rfl⟩;obtain⟨bx,g8⟩:=Ex w2.heap.size;cases r with
  | none =>
    have HF:=Hd fun W2 (h:Wr (fun _=>False) w2 W2)=>HR.o.fin W1 W2 hr (hw.trans h (fun _ _ e=>e) (fun _ _ e=>e.elim))
    clear hr hw;unfold I9;go_wp2_with fail;go_ret;exact⟨0,rfl,HF.o _ ((Wr.refl _ w2).alloc _)⟩
  | some st =>
    obtain⟨er,evt,ev⟩:=st;unfold I9;cases evt with
    | true =>
      have HF:=Hd fun W2 (h:Wr (fun _=>False) w2 W2)=>HR.o.event er ev W1 W2 hr (hw.trans h (fun _ _ e=>e) (fun _ _ e=>e.elim))
      clear hr hw;go_wp2_with fail;refine(HF.o _ ((Wr.refl _ w2).alloc _)).mono ?_;rintro x w3 ⟨rfl,n',g3,g0⟩;have g7:=Hd g3;have g2:=Hd g0;clear g3 g0;go_wp2_with fail
      go_roundg (2*n'+1)
      case rel=>exact⟨n',false,rfl,g2.o,rfl⟩
      case measure=>have h1:=g7.o;have h2:=g5.o;omega
    | false =>
      have HW:=Hd fun W2 (h:Wr (fun _=>False) w2 W2)=>hw.trans h (N:=fun k=>k=wr.heap.size\/k=wr.heap.size+1) (fun _ _ e=>e) (fun _ _ e=>e.elim)
      have g1:=Hd hr;clear hr hw
      by_cases h7:er=7
      ·subst h7;cases room with
       | false =>
         have HF:=Hd fun W2 (h:Wr (fun _=>False) w2 W2)=>HR.o.full ev W1 W2 g1.o (HW.o W2 h) rfl
         go_wp2_with fail;refine(HF.o _ ((Wr.refl _ w2).alloc _)).mono ?_;rintro x w3 ⟨⟨vv,rfl⟩,g0⟩;have g2:=Hd g0;clear g0;go_wp2_with fail
         go_roundg (2*n)
         case rel=>exact⟨n,true,rfl,g2.o,rfl⟩
         case measure=>have h2:=g5.o;simp at h2;omega
       | true =>
         have HF:=Hd fun W2 (h:Wr (fun _=>False) w2 W2)=>HR.o.err 7 ev W1 W2 g1.o (HW.o W2 h) (by simp)
         go_wp2_with fail;go_ret;exact⟨_,rfl,HF.o _ ((Wr.refl _ w2).alloc _)⟩
      ·have H7:((er:Int) == 7)=false:=by simpa using h7
       have HF:=Hd fun W2 (h:Wr (fun _=>False) w2 W2)=>HR.o.err er ev W1 W2 g1.o (HW.o W2 h) (fun e=>h7 e.1)
       go_wp2_with fail;go_ret;exact⟨_,rfl,HF.o _ ((Wr.refl _ w2).alloc _)⟩
theorem KX (hk:Ai d V):Acy (Aa d) (fun i=>d.vars.length-lvE d.vars.length (levN d) (Aa d) (2*i)):=by
 have e2:∀ i:Nat,2*i/2=i:=fun i=>by omega
 have hl:∀ i b,Aa d i=some b->lvE d.vars.length (levN d) (Aa d) (2*i)=levN d b.v:=fun i b h=>by unfold lvE;rw[e2,h]
 have hh:∀ e,lvE d.vars.length (levN d) (Aa d) (2*(e/2))=lvE d.vars.length (levN d) (Aa d) e:=fun e=>Gb (e2 _)
 refine⟨hk.dag.none0,hk.dag.okLo,hk.dag.okHi,fun i b c h1 h2=>?_,fun i b c h1 h2=>?_⟩
 . have a1:=hk.dag.lvLo _ _ h1;have a2:=hk.dag.lt _ (hk.dag.var _ _ h1);have a3:=hh b.lo;rw[hl i b h1];omega
 . have a1:=hk.dag.lvHi _ _ h1;have a2:=hk.dag.lt _ (hk.dag.var _ _ h1);have a3:=hh b.hi;rw[hl i b h1];omega
theorem Qy {o:Own}(h:Ay o w sb d)(hlt:Ab o w)(hk:Ai d V)(f:Nat)(hf:okE (Aa d) f)(htop:∀ y b,Aa d y=some b->Ak d y<1099511627776) :
 Calls prog 124 #[Pt sb,.int .i64 f] w fun x w'=>x=.returned (.int .i64 0)/\∃ d',Ay o w' sb d'/\Ab o w'/\D3 d d' f 1/\Chg Al o o w w':=by
 obtain⟨s,h⟩:=h;have g0:=h.edge_lt hf;rcases hf with h0|⟨b,hb⟩
 . refine(PK h hlt hk.live f (by unfold eMax;omega) h0).mono ?_;rintro e w' ⟨d',h1,h2,h3,h4,h5⟩;exact⟨h1,d',⟨s,h2⟩,h3,h4,h5⟩
 . refine(PL h hlt hk.live (KX hk) f (b:=b) hb htop).mono ?_;rintro e w' ⟨d',h1,h2,h3,h4,h5⟩;exact⟨h1,d',⟨s,h2⟩,h3,h4,h5⟩
theorem D3.ok {sg:Int}(r:D3 d d' f sg)(hk:Ai d V):Ai d' V:=by
 have hl:levN d'=levN d:=by funext v;unfold levN;rw[r.level]
 exact⟨by rw[r.vars,hl,r.nodes];exact hk.dag,r.live,by rw[r.vars,r.nodes,r.tab];exact hk.tab,by rw[r.clen];exact hk.clen,by rw[r.vars];exact hk.small,by rw[r.vars,hl];exact hk.inv,by rw[r.vars,hl];exact hk.vlt⟩
abbrev XO:=@List.filter_append
theorem Qz (hs:List (Int×Nat))(n:Int)(f i:Nat)(hn:1<n):AK (hs++[(n,f)]) i=AK hs i+(if f/2=i then 1 else 0):=by
 unfold AK;rw[XO,WY];congr 1
 by_cases e:f/2=i
 . simp[e,hn]
 ·have:(f/2 == i)=false:=by simp[e]
  simp[e,this,List.filter]
abbrev XG:=@List.length_filter_le
theorem Q0 (hs:List (Int×Nat))(i:Nat):AK hs i<=hs.length:=XG _ _
structure Gave (K:Law)(o:Own)(w:Wd)(mb:Nat)(m:ManD)(V:Nat->BF)(f:Nat)(o':Own)(w':Wd)(m':ManD):Prop where
 is:A9 (K m'.d V) o' w' mb m'
 lt:Ab o' w'
 chg:Chg (fun _=>True) o o' w w'
 ok:Ew m' V
 hs:m'.hs=m.hs++[(m.next,f)]
 next:m'.next=m.next+1
 waits:m'.waits=m.waits
 calls:m'.calls=m.calls
 nodes:Aa m'.d=Aa m.d
 vars:m'.d.vars=m.d.vars
 level:m'.d.level=m.d.level
 room:m'.d.pool.room=m.d.pool.room
 many:m'.d.pool.many=m.d.pool.many
theorem Q3 (h:Ca m)(r:D3 m.d d' f 1)(hf:okE (Aa m.d) f)(h0:Aa m.d 0=none):Ca { m with d:=d',hs:=m.hs++[(m.next,f)],next:=m.next+1 }:=by
 have hn:=h.next
 refine⟨?_,by simp[h.zero],by simp[h.one],?_,by dsimp only;omega,?_,?_,?_⟩
 . dsimp only;rw[Xl,X5];refine⟨h.nodup,by simp,fun a ha b hb=>?_⟩;simp at hb;subst hb;rintro rfl;obtain⟨p,hp,e⟩:=WW.1 ha;have:=(h.lt p hp).2;omega
 ·intro p hp;rcases Xa.1 hp with hp|hp
  . have:=h.lt p hp;dsimp only;omega
  . simp at hp;subst hp;dsimp only;omega
 ·intro p hp;dsimp only;rw[r.nodes];rcases Xa.1 hp with hp|hp
  . exact h.ok p hp
  . simp at hp;subst hp;exact hf
 . have:=h.len;simp;omega
 ·intro i b hb;dsimp only at hb ⊢;rw[r.nodes] at hb;have hi:i≠0:=by rintro rfl;rw[h0] at hb;cases hb
  rw[r.ext i hi,h.refs i b hb,Qz _ _ _ _ (by omega)];unfold toE;split<;>simp
theorem Q4 {k:Int}{l:List (Int×Value)}(h:∀ p∈l,p.1≠k):putL k v l=l++[(k,v)]:=by
 have h1:=CO.2 h;unfold getL at h1;unfold putL;cases e:A8 k l 0 with
 | none=>rfl
 | some p=>rw[e] at h1;cases h1
theorem A2.setMap {F:Phi}{o:Own}{s:ManW}(h:A2 F o w mb m s)(hlt:Ab o w){hs':List (Int×Nat)}(hm:Ar w' s.hb (Value.int .i64) (encH hs'))(hg:w.grownBy w' (some s.hb)):A2 F o w' mb { m with hs:=hs' } s:=by
 have k:∀ {g r},o g=some r->r ≠ .handles->w'.heap[g]?=w.heap[g]?:=fun hq hr=>hg.block _ (hlt _ _ hq) (fun e=>by cases e;have:=h.ownh;rw[hq] at this;cases this;exact hr rfl)
 exact⟨h.own,(k h.own (by simp)).trans h.blk,h.store.keepR (fun g r hq hr=>k hq (by rintro rfl;simp[Al,Bg] at hr)) (fun _ _ h=>h),h.memo.keep (fun g r hq hr=>k hq (by rintro rfl;rcases hr with e|e<;>cases e)) (fun _ _ h=>h),h.ownh,hm,
  h.waits.keep (fun g hq=>k hq (by simp)) (fun _ h=>h)⟩
theorem kI:CN prog 3 (Value.int .i64):=Im underlying3
theorem IA (hK:A5 K){o:Own}(hm:A9 (K m.d V) o w mb m)(hlt:Ab o w)(hk:Ew m V)(f:Nat)(hf:okE (Aa m.d) f)(hb:m.next<1099511627776) :
 Calls prog 66 #[Pt mb,.int .i64 f] w fun x w'=>x=.returned (.int .i64 m.next)/\∃ o' m',Gave K o w mb m V f o' w' m':=by
 obtain⟨s,hm⟩:=hm;obtain⟨c0,c1,c2,c3,c4,c5,f0⟩:=cells6 hm.blk
 have gg:=Hd (Qy hm.store hlt hk.store f hf (fun y b hy=>by
  rw[hk.handles.refs y b hy];have h1:=Q0 m.hs y;have h2:=hk.handles.len;omega))
 have gk:=hk.handles.next
 have HM:=Hd hm;have HL:=Hd hlt;have HK:=Hd hk;have HF:=Hd hf;have gd:=Hd hK;clear hm hlt hk hf hK
 delta Pt;go_enter func66,ntmps66
 go_wp2_with fail;refine gg.o.mono ?_;rintro x w1 ⟨rfl,d',g8,ga,hr,g3⟩;have g5:=HM.o.setStore HL.o g8 g3;have g0:∀ p∈encH m.hs,p.1≠m.next:=by
  intro p hp e0;obtain⟨q,hq,rfl⟩:=WW.1 hp;have h1:=HK.o.handles.lt q hq;have h2:q.1<m.next:=h1.2
  have h3:q.1=m.next:=e0
  omega
 have gh:=Hd g0;have g7:=Hd g5;have gc:=Hd ga;have HR:=Hd hr;have gj:=Hd g3;clear g8 ga hr g3 g0 c0 c1 c2 c3 c4 c5 f0;obtain⟨c0,c1,c2,c3,c4,c5,f0⟩:=cells6 g5.blk;clear g5;go_upto_region 3 with fail
 go_wp2_with (refine Ks (l := encH m.hs) rfl _ _ _ rfl kI underlying114 m.next (.int .i64 (f : Nat)) rfl rfl rfl g7.o.map ?_
              intro w2 g2 g1;have g9:Ab o w2:=gc.o.mono g1.size;rw[Q4 gh.o] at g2;have g4:=g7.o.setMap gc.o (hs':=m.hs++[(m.next,f)]) (by simpa [encH] using g2) g1;have gb:Chg (fun _=>True) o o w w2:=gj.o.any.grown g1 (fun g hg=>by cases hg;exact⟨_,g7.o.ownh,trivial⟩);have g6:=Hd g4;have gf:=Hd g9;have gi:=Hd gb;clear c0 c1 c2 c3 c4 c5 f0 g2 g1 g9 gb;obtain⟨c0,c1,c2,c3,c4,c5,f0⟩:=cells6 g4.blk;clear g4)
 go_ret;have hr:=HR.o;have ge:A2 (K m.d V) o (w2.setCell ⟨mb,3,none⟩ (.int .i64 (m.next+1))) mb { m with d:=d',hs:=m.hs++[(m.next,f)],next:=m.next+1 } s:=g6.o.field rfl rfl rfl rfl rfl g6.o.waits rfl;refine⟨rfl,o,_,⟨⟨s,ge.mono fun op a b c r h=>gd.o.same _ _ _ _ _ _ _ _ hr.vars hr.level hr.nodes h⟩,gf.o.mono (by simp[World.setCell]),gi.o.setCell (p:=⟨mb,3,none⟩) g6.o.own trivial _,⟨hr.ok HK.o.store,Q3 HK.o.handles hr HF.o HK.o.store.dag.none0⟩,rfl,rfl,rfl,rfl,hr.nodes,hr.vars,hr.level,hr.room,hr.many⟩⟩
def doW (gop:Nat)(lop:Array Value)(w:Wd):Wd:=(w.alloc (.cells #[.func (.func gop) #[] lop] 177)).alloc (.cells #[.int .i64 0] 113)
abbrev XY:=@enters_of
theorem Q5:∀ args w,(callFunc 154 args).run prog w=.ok (.enter 154 args) w:=XY func154 (by kernel_rfl) rfl
theorem Q6 (w:Wd)(g:Fn)(fs cs:Array Value):(binOp .eql 177 (.func g fs cs) .nilFunc).run prog w=.ok (.bool false) w:=by
 have hd:Op.maxDepth=9999+1:=rfl;have h:(Op.equal 177 (.func g fs cs) .nilFunc).run prog w=.ok false w:=by
  unfold Op.equal;rw[hd];unfold Op.equalIn;simp only[XH,Xt underlying177,Xs];simp
 simp only[binOp];simp[h]
def varF (v:Nat):BF:=fun ρ=>ρ v
theorem Q7:∀ args w,(callFunc 116 args).run prog w=.ok (.enter 116 args) w:=XY func116 (by kernel_rfl) rfl
theorem KY (w:Wd):(zeroValue 113).run prog w=.ok (.int .i64 0) w:=by
 have s:(prog.info? 113).map (fun i=>i.zero)=some (some (.int .i64 0)):=by kernel_rfl
 cases hi:prog.info? 113 with
 | none=>rw[hi] at s;cases s
 | some i =>
   rw[hi] at s;simp only[XM,X0] at s;simp[zeroValue,typeInfo,hi,s]
theorem Ez {hs:List (Int×Nat)}(h:(hs.map Prod.fst).Nodup):((encH hs).map Prod.fst).Nodup:=by
 have:(encH hs).map Prod.fst=hs.map Prod.fst:=by simp[encH]
 rw[this];exact h
section
variable {F:Phi}{o:Own}{s:ManW}
theorem E0 (h:A2 F o w mb m s)(hn:(m.hs.map Prod.fst).Nodup){k:Int}(hk:(k,f)∈m.hs) :
 (Instr.lookup 114 (.map (some s.hb)) (.int .i64 k) true).run prog w=.ok (.tuple #[.int .i64 f,.bool true]) w:=by
 have h1:=h.map.lookup kI underlying114 KY k true;have h2:getL (encH m.hs) k=some (.int .i64 (f:Nat)):=Dx (Ez hn) (WW.2 ⟨(k,f),hk,rfl⟩);rw[h1,h2];rfl
theorem KZ (h:A2 F o w mb m s){k:Int}(hk:∀ f,(k,f)∉m.hs) :
 (Instr.lookup 114 (.map (some s.hb)) (.int .i64 k) true).run prog w=.ok (.tuple #[.int .i64 0,.bool false]) w:=by
 have h1:=h.map.lookup kI underlying114 KY k true
 have h2:getL (encH m.hs) k=none:=CO.2 (by
  rintro p hp rfl;obtain⟨q,hq,rfl⟩:=WW.1 hp;exact hk q.2 hq)
 rw[h1,h2];rfl
end
theorem DV {F:Phi}{o:Own}(h:A9 F o w mb m)(hx:AH o w xb mb)(hn:(m.hs.map Prod.fst).Nodup){k:Int}(hk:(k,f)∈m.hs) :
 Calls prog 98 #[Pt xb,.int .i64 k] w (Sm (.int .i64 f) w):=by
 obtain⟨s,h⟩:=h;obtain⟨c0,c1,c2,c3,c4,c5,f0⟩:=cells6 h.blk;have cx:=hx.cell;have hl:=E0 h hn hk;clear h hx hn hk
 delta Pt;go_enter func98,ntmps98
 go_wp2_with fail;go_ret;exact⟨rfl,rfl⟩
theorem Q8 {F:Phi}{o:Own}(h:A9 F o w mb m)(hx:AH o w xb mb){k:Int}(hk:∀ f,(k,f)∉m.hs) :
 Calls prog 98 #[Pt xb,.int .i64 k] w fun x w'=>x=Au 8 false ev0/\w=w':=by
 obtain⟨s,h⟩:=h;obtain⟨c0,c1,c2,c3,c4,c5,f0⟩:=cells6 h.blk;have cx:=hx.cell;have hl:=KZ h hk;clear h hx hk
 delta Pt;go_enter func98,ntmps98
 go_wp2_with fail;exact⟨rfl,rfl,rfl⟩
theorem Q9:∀ args w,(callFunc 118 args).run prog w=.ok (.enter 118 args) w:=XY func118 (by kernel_rfl) rfl
def box3 (a b c:Int)(w:Wd):Wd:=((w.alloc (.cells #[.int .i64 a] 3)).alloc (.cells #[.int .i64 b] 3)).alloc (.cells #[.int .i64 c] 3)
theorem QA (a b c:Int)(w:Wd):Bw w (box3 a b c w)/\(box3 a b c w).cell? ⟨w.heap.size,0,none⟩=some (.int .i64 a)/\(box3 a b c w).cell? ⟨w.heap.size+1,0,none⟩=some (.int .i64 b)/\(box3 a b c w).cell? ⟨w.heap.size+2,0,none⟩=some (.int .i64 c):=by
 have h0:=WN w (.cells #[.int .i64 a] 3);have h1:=WN (w.alloc (.cells #[.int .i64 a] 3)) (.cells #[.int .i64 b] 3);have h2:=WN ((w.alloc (.cells #[.int .i64 a] 3)).alloc (.cells #[.int .i64 b] 3)) (.cells #[.int .i64 c] 3);rw[WV] at h1;rw[WV,WV] at h2;have a0:(box3 a b c w).heap[w.heap.size]?=some (.cells #[.int .i64 a] 3 (0,0)):=(WT _ _ (by simp;omega)).trans ((WT _ _ (by simp)).trans h0);have a1:(box3 a b c w).heap[w.heap.size+1]?=some (.cells #[.int .i64 b] 3 (0,0)):=(WT _ _ (by simp)).trans h1;have a2:(box3 a b c w).heap[w.heap.size+2]?=some (.cells #[.int .i64 c] 3 (0,0)):=h2;exact⟨((Af w _).alloc (by simp) _).alloc (by simp;omega) _,by rw[WQ _ _ 0 _ _ _ a0];rfl,by rw[WQ _ _ 0 _ _ _ a1];rfl,by rw[WQ _ _ 0 _ _ _ a2];rfl⟩
def man0 (n room:Nat):ManD:=⟨store0 n room,[(0,1),(1,0)],2,[],0⟩
theorem nodes0 (n room:Nat):Aa (store0 n room)=fun _=>none:=by
 funext i;have ht:(pool0 room).tk i=false:=by
  unfold Ad.tk pool0;cases i with
  | zero=>rfl
  | succ i=>rfl
 unfold Aa store0 Ad.get;simp[ht]
theorem IB (n v:Nat)(h:v<n):(List.range n).getD v 0=v:=by simp[List.getD,h]
theorem QB (n room:Nat)(hn:n<=64):Ai (store0 n room) (fun _ _=>true):=by
 have hl:∀ v,v<n->levN (store0 n room) v=v:=fun v hv=>IB n v hv
 have g1:(store0 n room).vars.length=n:=by simp[store0]
 have g0:∀ i b,Aa (store0 n room) i=some b->False:=fun i b h=>by rw[nodes0] at h;cases h
 refine⟨⟨fun _=>rfl,by rw[nodes0],fun i b h=>(g0 i b h).elim,fun u v hu hv e=>?_,fun v hv=>?_,fun i b h=>(g0 i b h).elim,fun i b h=>(g0 i b h).elim,fun i b h=>(g0 i b h).elim,fun i b h=>(g0 i b h).elim,fun i b h=>(g0 i b h).elim,fun i b h=>(g0 i b h).elim,fun i j b h=>(g0 i b h).elim,fun i b h=>(g0 i b h).elim⟩,
  ?_,fun v hv lo hi id=>⟨fun h=>absurd (show (none:Option Nat)=some id from h) (by simp),fun h=>(g0 _ _ h).elim⟩,by simp[store0],by rw[g1];exact hn,fun v hv=>?_,fun i hi=>?_⟩
 . rw[g1] at hu hv;rw[hl u hu,hl v hv] at e;exact e
 . rw[g1] at hv ⊢;rw[hl v hv];exact hv
 ·refine⟨⟨fun i b h=>(g0 i b h).elim,fun i b h=>(g0 i b h).elim⟩,?_,fun i b h=>(g0 i b h).elim⟩;have h1:AW (store0 n room).pool.at_.length (Aa (store0 n room)) (Aj (store0 n room))=Ah (store0 n room).pool.at_.length (dead1 (Aa (store0 n room)) (Aj (store0 n room))):=rfl;rw[h1,nodes0];have h2:dead1 (fun _=>none) (Aj (store0 n room)) 0=0:=rfl
  show (0:Int)=Ah 1 _
  simp[Ah,h2]
 . rw[g1] at hv;rw[hl v hv];exact IB n v hv
 . rw[g1] at hi ⊢;have e:(store0 n room).vars.getD i 0=i:=IB n i hi;rw[e];exact⟨hi,hl i hi⟩
theorem QC (n room:Nat)(hn:n<=64):Ew (man0 n room) (fun _ _=>true) :=
 ⟨QB n room hn,⟨by simp[man0],by simp[man0],by simp[man0],by simp[man0],by simp[man0],fun p hp=>by simp[man0] at hp;rcases hp with rfl|rfl<;>exact .inl rfl,by simp[man0],fun i b h=>by rw[show (man0 n room).d=store0 n room from rfl,nodes0] at h;cases h⟩⟩
def QD:Law:=fun d V op a b c r=>op=1->IteP d V a b c r
theorem E1:A5 QD:=⟨fun d V a b c r=>⟨fun h=>h rfl,fun h _=>h⟩,fun d V d' V' op a b c r hk hk' x h e=>(h e).ext x hk hk',fun d d' V op a b c r h1 h2 h3 h e=>by
 have q:=h e;have hl:levN d'=levN d:=by funext v;unfold levN;rw[h2]
 have hm:minL d' a b c=minL d a b c:=by unfold minL;rw[h1,hl,h3]
 exact⟨by rw[h3];exact q.okA,by rw[h3];exact q.okB,by rw[h3];exact q.okC,by rw[h3];exact q.okR,q.val,by rw[hm,h1,hl,h3];exact q.lev⟩⟩
theorem QE {F:Phi}(o:Own)(n room:Nat)(w:Wd)(hlt:Ab o w)(hn:n<=64)(h1:1<=room)(h2:room<=1048576) :
 Calls prog 14 #[.int .i64 n,.int .i64 room] w fun x w'=>∃ mb o',x=.returned (.tuple #[.pointer (some ⟨mb,0,none⟩),.int .i64 0])/\A9 F o' w' mb (man0 n room)/\Chg (fun _=>True) o o' w w'/\Ab o' w'/\w.heap.size<=mb:=by
 have HS:=Hd (Qg o n room w hlt hn h1 h2);clear hlt hn h1 h2
 go_enter func14,ntmps14
 go_wp2_with fail;refine HS.o.mono ?_;rintro x w1 ⟨sb,o1,rfl,ge,gk,gh,gr⟩;have gn:=Hd ge;have gq:=Hd gk;have g3:=Hd gh;clear ge gk gh;have gu:=DO (P:=prog) w1 114;obtain⟨wA,gt,gg,g2⟩:=(En w1 (Value.int .i64)).update (P:=prog) kI underlying114 0 (.int .i64 1);obtain⟨wB,gs,gb,g6⟩:=gg.update (P:=prog) kI underlying114 1 (.int .i64 0);have gi:=g3.o.allocR (.map #[] 0) .handles;have gj:Chg (fun _=>True) o (AB o1 w1.heap.size .handles) w wB :=
  ((gq.o.any.allocR (r:=.handles) g3.o (.map #[] 0) trivial).grown g2 (fun g hg=>by cases hg;exact⟨_,Br _ _ _,trivial⟩)).grown g6 (fun g hg=>by cases hg;exact⟨_,Br _ _ _,trivial⟩)
 have gc:Ab (AB o1 w1.heap.size .handles) wB:=gi.mono (WU g2.size g6.size);have ga:∀ g r,o1 g=some r->g≠w1.heap.size:=fun g r hg e=>by have:=g3.o g r hg;omega
 have g5:∀ g r,o1 g=some r->wB.heap[g]?=w1.heap[g]?:=fun g r hg=>by
  have a0:=g3.o g r hg;have a1:g<(w1.alloc (.map #[] 0)).heap.size:=by simp;omega
  rw[g6.block g (Xh a1 g2.size) (by intro e;cases e;exact ga _ _ hg rfl),g2.block g a1 (by intro e;cases e;exact ga _ _ hg rfl)];exact WT _ _ a0
 have go:=Hd (gn.o.keepR (o':=AB o1 w1.heap.size .handles) (fun g r hg _=>g5 g r hg) (fun g r hg=>CK g3.o (WM _) hg));have gp:Hq (Ar wB w1.heap.size (Value.int .i64) [(0,.int .i64 1),(1,.int .i64 0)]):=Hd gb;have gm:=Hd gj;have gl:=Hd gc;have HME:=Hd (Pz (AB o1 w1.heap.size .handles) F wB gc);have gv:w1.heap.size<wB.heap.size:=gb.lt;clear gg g2 gb g6 gi gj gc ga g5;go_wp2_with fail;refine HME.o.mono ?_;rintro x w2 ⟨me,o2,rfl,gf,g0,g1,gw⟩;have g7:=go.o.keepR (o':=o2) (w':=w2) (fun g r hg hr=>g0.same gl.o hg (by rintro rfl;simp[Al,Bg] at hr)) g0.ext;have g4:=gp.o.keepB (g0.same gl.o (Br o1 w1.heap.size .handles) (by simp));have g8:=g0.ext _ _ (Br o1 w1.heap.size .handles);have HF:Hq (∀ w3,w3=w2.alloc (.cells #[.pointer (some ⟨sb,0,none⟩),.pointer (some ⟨me,0,none⟩),.map (some w1.heap.size),.int .i64 2,.slice none 0 0,.int .i64 0] 118)->A9 F (AB o2 w2.heap.size .man) w3 w2.heap.size (man0 n room)/\Chg (fun _=>True) o (AB o2 w2.heap.size .man) w w3/\Ab (AB o2 w2.heap.size .man) w3/\w.heap.size<=w2.heap.size):=by
  refine Hd ?_;rintro w3 rfl;have gd:∀ g r,o2 g=some r->(w2.alloc (.cells #[.pointer (some ⟨sb,0,none⟩),.pointer (some ⟨me,0,none⟩),.map (some w1.heap.size),.int .i64 2,.slice none 0 0,.int .i64 0] 118)).heap[g]?=w2.heap[g]?:=fun g r hg=>WT _ _ (g1 g r hg)
  have g9:∀ g r,o2 g=some r->AB o2 w2.heap.size .man g=some r:=fun g r hg=>CK g1 (WM _) hg
  exact⟨⟨⟨sb,me,w1.heap.size,.slice none 0 0⟩,Br _ _ _,WN w2 _,g7.keepR (fun g r hg _=>gd g r hg) g9,gf.keep (fun g r hg _=>gd g r hg) g9,g9 _ _ g8,g4.keepB (gd _ _ g8),AZ.nil _ _⟩,
   (gm.o.trans g0.any).allocR g1 _ trivial,g1.allocR _ _,(gm.o.trans g0.any).size⟩
 clear g7 g4 g8 gf g0 g1;go_wp2_with fail
 go_ret2
 obtain⟨a1,a2,a3,a4⟩:=HF.o _ rfl;exact⟨_,_,rfl,a1,a2,a3,a4⟩
section
variable {F:Phi}{o:Own}
theorem QG (h:Ay o w sb d):Calls prog 125 #[Pt sb] w (Sm (.int .i64 d.vars.length) w):=by
 obtain⟨s,h⟩:=h;obtain⟨c0,c1,c2,c3,c4,f0⟩:=cells5 h.blk;obtain⟨d0,d1,_⟩:=cells2 h.lev;obtain⟨a,cap,hv,_⟩:=h.vars.slice;rw[hv] at d0;clear h hv
 delta Pt;go_enter func125,ntmps125
 go_wp2_with fail;go_ret;exact⟨rfl,rfl⟩
theorem D7 (h:A9 F o w mb m):Calls prog 69 #[Pt mb] w (Sm (.int .i64 m.d.vars.length) w):=by
 obtain⟨s,h⟩:=h;obtain⟨c0,c1,c2,c3,c4,c5,f0⟩:=cells6 h.blk;have HP:=Hd (QG h.store);clear h
 delta Pt;go_enter func69,ntmps69
 go_wp2_with fail;refine HP.o.mono ?_;rintro x w' ⟨rfl,rfl⟩;go_wp2_with fail;go_ret;exact⟨rfl,rfl⟩
end
structure Cz (w:Wd)(a:Option Addr)(bs:List Bool):Prop where
 len:bs.length<=1000000
 cells:∀ k,k<bs.length->∃ b off,a=some ⟨b,off,none⟩/\w.cell? ⟨b,off+k,none⟩=some (.bool (bs.getD k false))
theorem Cz.below {a:Option Addr}(h:Cz w a bs)(hb:Bw w w'):Cz w' a bs :=
 ⟨h.len,fun k hk=>by
  obtain⟨b,off,rfl,hc⟩:=h.cells k hk;exact⟨b,off,rfl,(Cq hb hc)⟩⟩
def A6 (bs:List Bool):Nat->Bool:=fun v=>bs.getD v false
theorem QH {F:Phi}{o:Own}(h:A9 F o w mb m)(hlt:Ab o w)(hk:Ew m V){k:Int}(hkf:(k,f)∈m.hs)(a:Option Addr)(c:Nat)(bs:List Bool)(hbs:Cz w a bs) :
 Calls prog 91 #[Pt mb,.int .i64 k,.slice a bs.length c] w (Bl (.tuple #[.bool (ef V f (A6 bs)),.int .i64 0]) w):=by
 obtain⟨s,h⟩:=h;obtain⟨c0,c1,c2,c3,c4,c5,f0⟩:=cells6 h.blk;have gp:=E0 h hk.handles.nodup hkf;have HM:=Hd h;have gi:=Hd hlt;have HK:=Hd hk.store;have gm:=Hd (hk.handles.ok _ hkf);have gs:=Hd hbs;have gt:=hbs.len;clear h hlt hk hkf hbs
 delta Pt;go_enter func91,ntmps91
 go_wp2_with fail
 go_loopg [8] (m.d.vars.length-lvE m.d.vars.length (levN m.d) (Aa m.d) f) (fun gk s8 wx=>∃ e:Nat,s8=.int .i64 e/\okE (Aa m.d) e/\ef V e (A6 bs)=ef V f (A6 bs)/\Bw w wx/\gk=m.d.vars.length-lvE m.d.vars.length (levN m.d) (Aa m.d) e)
 case atStart=>exact⟨f,rfl,gm.o,rfl,Xd _ _,rfl⟩
 case round =>
  obtain⟨e,rfl,g0,gc,hB,gb⟩:=hrel;clear c0 c1 c2 c3 c4 c5 f0 gp;have hm:=HM.o.below gi.o hB;obtain⟨c0,c1,c2,c3,c4,c5,f0⟩:=cells6 hm.blk;have gd:e<eMax:=by
   obtain⟨ss,go⟩:=hm.store;have:=go.edge_lt g0;unfold eMax;omega
  have HC:=Hd (fun W=>FC e W gd);have HA:=Hd (FY hm.store (gi.o.mono hB.size) HK.o e g0);have g5:=Hd gc;have HB:=Hd hB;have g4:=Hd gb;clear hm gd gc hB gb;cases hb:Aa m.d (e/2) with
  | none =>
    have h0:e/2=0:=by
     rcases g0 with h|⟨b,gh⟩
     . exact h
     . rw[hb] at gh;cases gh
    have he:decide (enode e=0)=true:=by simp[enode,h0]
    rw[he] at HC;have HR:Hq (ef V f (A6 bs)=((e:Int) == 0)):=by
     show _=_
     rw[<- g5.o];have h1:=HK.o.dag.one (A6 bs);have h2:e=0\/e=1:=by omega
     rcases h2 with rfl|rfl<;>simp[ef,h1]
    clear g0 hb h0 he;go_wp2_with fail;refine(HC.o _).mono ?_;rintro x w' ⟨rfl,rfl⟩;go_wp2_with fail
    go_ret2
    exact⟨by rw[HR.o];rfl,HB.o⟩
  | some b =>
    have g8:=HK.o.dag.var _ _ hb;have g6:lvE m.d.vars.length (levN m.d) (Aa m.d) e=levN m.d b.v:=by unfold lvE;rw[hb]
    have ge:=Bk HK.o g0 g8 (by rw[g6];exact WM _);have gf:cofs m.d e b.v=(eflip b.lo (eneg e),eflip b.hi (eneg e)):=by unfold cofs;rw[hb];simp
    rw[gf] at ge;obtain⟨k1,k2,k3,k4,k5⟩:=ge;have k5:=k5 (A6 bs);dsimp only at k1 k2 k3 k4 k5;have g7:=HK.o.dag.lt _ g8;have ga:decide (enode e=0)=false:=by
     have:enode e≠0:=by rintro h0;have h1:e/2=0:=h0;rw[h1,HK.o.dag.none0] at hb;cases hb
     simp[this]
    rw[ga] at HC;unfold atV at HA;rw[hb] at HA;obtain⟨L,hL⟩:=Ex (eflip b.lo (eneg e));obtain⟨H,hH⟩:=Ex (eflip b.hi (eneg e));rw[<- hL,<- hH] at k5;rw[<- hL] at k1 k3;rw[<- hH] at k2 k4;dsimp only at HA;rw[<- hL,<- hH] at HA;rw[g6] at g4;have gl:=Hd k1;have gr:=Hd k2;have gj:=Hd k3;have gq:=Hd k4;have g1:=Hd k5;have g9:=Hd g7;clear g0 hb g8 g6 gf k1 k2 k3 k4 k5 g7 ga hL hH;go_wp2_with fail;refine(HC.o _).mono ?_;rintro x w' ⟨rfl,rfl⟩;go_wp2_with fail;refine HA.o.mono ?_;rintro x w2 ⟨rfl,gg⟩;have HB2:=Hd (HB.o.trans (gg.mono HB.o.size));clear gg c0 c1 c2 c3 c4 c5 f0
    by_cases hv:b.v<bs.length
    ·obtain⟨b0,off,ha,g2⟩:=(gs.o.below HB2.o).cells b.v hv;subst ha;have gn:(b.v:Int)<bs.length:=by omega
     have hx:A6 bs b.v=bs.getD b.v false:=rfl;rw[<- hx] at g2;cases g3:A6 bs b.v with
     | true =>
       rw[g3] at g2 g1;clear g3 hx;go_wp2_with fail
       go_roundg (m.d.vars.length-lvE m.d.vars.length (levN m.d) (Aa m.d) H)
       case rel=>exact⟨H,rfl,gr.o,by rw[<- g5.o,g1.o];rfl,HB2.o,rfl⟩
       case measure=>have h1:=g4.o;have h2:=gq.o;have h3:=g9.o;omega
     | false =>
       rw[g3] at g2 g1;clear g3 hx;go_wp2_with fail
       go_roundg (m.d.vars.length-lvE m.d.vars.length (levN m.d) (Aa m.d) L)
       case rel=>exact⟨L,rfl,gl.o,by rw[<- g5.o,g1.o];rfl,HB2.o,rfl⟩
       case measure=>have h1:=g4.o;have h2:=gj.o;have h3:=g9.o;omega
    ·have gn:¬ (b.v:Int)<bs.length:=by omega
     have hx:A6 bs b.v=false:=by unfold A6;simp[List.getD,Xb (Nat.le_of_not_lt hv)]
     rw[hx] at g1;clear hx;go_wp2_with fail
     go_roundg (m.d.vars.length-lvE m.d.vars.length (levN m.d) (Aa m.d) L)
     case rel=>exact⟨L,rfl,gl.o,by rw[<- g5.o,g1.o];rfl,HB2.o,rfl⟩
     case measure=>have h1:=g4.o;have h2:=gj.o;have h3:=g9.o;omega
theorem QI {o:Own}{r:Role}{a:Option Addr}{xs:List Nat}(h:RowR o w r 3 1 (.slice a xs.length cap) xs.length (xs.map nat64))(hl:xs.length<=1000000):An w a (xs.map Int.ofNat):=by
 refine⟨by simp;omega,fun k hk=>?_⟩;simp only[Xy] at hk;obtain⟨g,cap',he,_⟩:=h.shape (by omega);cases he;refine⟨g,0,rfl,?_⟩;have h1:=h.cell k (by simpa using hk);rw[Xw,h1,AI (by simpa using hk)];simp[nat64,hk]
theorem La {o:Own}(h:Ay o w sb d)(hlt:Ab o w)(hl:d.vars.length<=64) :
 Calls prog 103 #[Pt sb] w fun x w'=>∃ v,x=.returned v/\OwnI w' w.heap.size v (d.vars.map Int.ofNat)/\Bw w w':=by
 obtain⟨s,h⟩:=h;obtain⟨c0,c1,c2,c3,c4,f0⟩:=cells5 h.blk;obtain⟨d0,d1,_⟩:=cells2 h.lev;have lsb:sb<w.heap.size:=Ag c0;have llb:s.lb<w.heap.size:=Ag d0;obtain⟨a,cap,hv,_,_,g1,_⟩:=h.vars.slice;have g0:=h.vars;rw[hv] at d0 g0;have HI:=Hd (QI g0 (by omega));have HN:=Hd g1;have e:d.vars.length=(d.vars.map Int.ofNat).length:=by simp
 rw[e] at d0;have g6:(d.vars.map Int.ofNat).length<=64:=by rw[<- e];exact hl
 generalize d.vars.map Int.ofNat=zs at *
 clear h hv g0 e g1 hl
 delta Pt;go_enter func103,ntmps103
 go_wp2_with (at_builtin;refine GT rfl _ _ rfl w.heap.size w _ [] zs _ _ rfl rfl (F4 w w.heap.size (WM _)) (HI.o.below (Af _ _)) (by simp;omega) (by simp) (Af _ _) HN.o ?_;intro v1 w1 g2 g3 g4 g5);go_ret;exact⟨_,rfl,by simpa using g2,g3⟩
theorem QJ {F:Phi}{o:Own}(h:A9 F o w mb m)(hlt:Ab o w)(hl:m.d.vars.length<=64) :
 Calls prog 44 #[Pt mb] w fun x w'=>∃ v,x=.returned v/\OwnI w' w.heap.size v (m.d.vars.map Int.ofNat)/\Bw w w':=by
 obtain⟨s,h⟩:=h;obtain⟨c0,c1,c2,c3,c4,c5,f0⟩:=cells6 h.blk;have HP:=Hd (La h.store hlt hl);clear h hlt hl
 delta Pt;go_enter func44,ntmps44
 go_wp2_with fail;refine HP.o.mono ?_;rintro x w' ⟨v,rfl,h1,h2⟩;have H1:=Hd h1;have H2:=Hd h2;clear h1 h2;go_wp2_with fail;go_ret;exact⟨v,rfl,H1.o,H2.o⟩
attribute [local go_sem] Oper.semAt_some
def BJ (p:Ad)(k:Nat):List Nat:=(List.range k).filter p.tk
def B6 (p:Ad):List Nat:=BJ p p.at_.length
theorem IC (h:p.tk k=true):BJ p (k+1)=BJ p k++[k]:=by
 unfold BJ;rw[YI,XO];simp[h]
theorem Lb (h:p.tk k=false):BJ p (k+1)=BJ p k:=by
 unfold BJ;rw[YI,XO];simp[h]
theorem QK (p:Ad){m:Nat}:k<=m->∃ suf,BJ p k++suf=BJ p m:=by
 induction m with
 | zero => intro h; obtain rfl : k = 0 := by omega
           exact⟨[],by simp⟩
 | succ m ih =>
   intro h
   by_cases e:k=m+1
   . subst e;exact⟨[],by simp⟩
   ·obtain⟨suf,hs⟩:=ih (by omega);cases h2:p.tk m with
    | false=>exact⟨suf,by rw[Lb h2];exact hs⟩
    | true=>exact⟨suf++[m],by rw[IC h2,<- hs,Xf]⟩
theorem QL (h:p.tk k=true)(hk:k<p.at_.length):∃ suf,BJ p k++k::suf=B6 p:=by
 obtain⟨suf,hs⟩:=QK p (k:=k+1) (m:=p.at_.length) (by omega);rw[IC h,Xf] at hs;exact⟨suf,hs⟩
abbrev XT:=@List.mem_filter
theorem Lc {suf:List Nat}(h:pre++x::suf=B6 p):p.tk x=true:=by
 have:x∈B6 p:=by rw[<- h];simp
 exact(XT.1 this).2
structure ItS (n₀:Nat)(o:Own)(w0:Wd)(pb:Nat)(p:Ad)(Bp:Nat)(M0 M:Nat->Prop)(W0 W:Wd):Prop where
 low:Below n₀ w0 W
 box:W.cell? ⟨Bp,0,none⟩=some (.pointer (some ⟨pb,0,none⟩))
 wr:Wr (fun k=>n₀<=k) W0 W
 sub:∀ k,M k->M0 k\/W0.heap.size<=k
 nb:¬ M Bp
theorem ItS.go {o:Own}{Bp:Nat}{M0 M':Nat->Prop}(h:ItS n₀ o w0 pb p Bp M0 M W0 W)(hn:n₀<=W0.heap.size)(hge:∀ k,M k->n₀<=k)(hw:Wr M W W')
 (hM:∀ k,M' k->M k\/W.heap.size<=k):ItS n₀ o w0 pb p Bp M0 M' W0 W':=by
 have hs:=h.wr.size;have hb:=Ag h.box;refine⟨h.low.trans (hw.below hge (by omega)),?_,h.wr.trans hw (fun _ _ h=>h) (fun k _ hk=>hge k hk),fun k hk=>?_,fun e=>?_⟩
 . exact(Co h.box (hw.keep Bp hb h.nb))
 ·rcases hM k hk with h1|h1
  . exact h.sub k h1
  . right;omega
 ·rcases hM Bp e with h1|h1
  . exact h.nb h1
  . have g0:Bp<W.heap.size:=hb;omega
abbrev WX:=@Nat.zero_le
theorem QM (F:Fence)(n:Nat)(hF:F.fn 217)(hro:F.round=none)(hn:1<=n)(Bp n₀ pb:Nat){o:Own}(hp:Aq o w0 pb p)(hlt:Ab o w0)(h0:w0.heap.size<=n₀)(w:Wd)
 (hw:Below n₀ w0 w) (hn0:n₀<=w.heap.size) (hBp:w.cell? ⟨Bp,0,none⟩=some (.pointer (some ⟨pb,0,none⟩))) :
 Gives F n 0 prog 217 #[.pointer (some ⟨Bp,0,none⟩)] (fun i:Nat=>#[.int .i64 i]) n₀ (· = Bp) (B6 p) w:=by
 intro l J M W g9 gf g1 gc hY hJ;have g8:=Ag hBp;have g2:ItS n₀ o w0 pb p Bp M M W W:=⟨hw.trans (g1.below (fun k h=>h.1) hn0),Co hBp (g1.keep Bp g8 (fun h=>h.2 rfl)),Wr.refl _ _,fun k h=>.inl h,gc Bp rfl⟩;have gd:n₀<=W.heap.size:=WU hn0 g1.size;have HP:∀ W',Below n₀ w0 W'->Aq o W' pb p:=fun W' hb=>hp.below (hb.mono h0) hlt
 obtain⟨vs,vt,vf,c0,c1,c2,c3,c4,hs,ht,_⟩:=(HP W g2.low).cells;have ge:=g2.box;have g3:=hp.pos;obtain⟨gs,cs,rfl,_⟩:=hs.shape g3;have g4:=hp.len;have gp:=hp.top;have gn:=hp.room;have gi:=Hd HP;have gg:=Hd hY;have gh:=Hd g2;have gj:=Hd g9;clear HP hY hs ht hp hlt h0 g2 g9 gf g1 gc hw hn0 hBp g8;refine callsIn_of_wp func217 rfl hF ?_ hro;simp only[ntmps217,XQ,Xm,XS,Nat.reduceAdd,Nat.reduceSub,XZ,Ya,Yo,Yf,XK,Ym]
 gi_wp2
 gi_loopw [11] (fun i wr=>∃ (k:Nat) (M1:Nat->Prop),k<=p.at_.length/\i=.int .i64 k/\J (BJ p k) M1 wr/\ItS n₀ o w0 pb p Bp M M1 W wr) (fun i _=>p.at_.length-(intOf i).toNat)
 case atStart=>exact⟨0,M,WX _,rfl,hJ,gh.o⟩
 case round =>
  obtain⟨k,M1,hk,rfl,g0,hS⟩:=hrel
  by_cases hlt:k<p.at_.length
  ·obtain⟨vs,vt,vf,d0,d1,d2,d3,d4,hs,ht,_⟩:=(gi.o wr hS.low).cells;have ge:=hS.box;obtain⟨gt,ct,rfl,_⟩:=ht.shape (by rw[g4];exact g3);have g7:=Aq.flag ht (k:=k) (by omega);rw[g4] at d2;have gq:(k:Int)<p.at_.length:=by omega
   have HS:=Hd hS;cases hB:p.tk k with
   | false =>
     rw[hB] at g7;have g5:Hq (J (BJ p (k+1)) M1 wr):=by show J _ _ _;rw[Lb hB];exact g0
     clear hB hs ht hS g0 hJ
     gi_wp2
     refine⟨fun _ h=>(by cases h),?_⟩
     gi_wp2
     go_roundw
     case rel=>exact⟨k+1,M1,by omega,by simp,g5.o,HS.o⟩
     case measure=>simp[intOf];omega
   | true =>
     rw[hB] at g7;have gm:=Hd (fun q (hq:M1 q)=>(gj.o _ _ _ g0 q hq).1);obtain⟨fn,tmps,assign,body,hy,hR⟩:=gg.o _ k M1 wr g0 (QL hB hlt);have HU:=Hd (IC hB);have HR:=Hd hR;clear hs ht hS g0 hR hB hJ
     gi_wp2
     refine HR.o.mono ?_;rintro e W3 ⟨rfl,M3,gb,g6,ga⟩;have gl:=Hd gb;have gk:=Hd (HS.o.go gd gm.o g6 ga);clear gb g6 ga
     gi_wp2
     go_roundw
     case rel=>exact⟨k+1,M3,by omega,by simp,by rw[HU.o];exact gl.o,gk.o⟩
     case measure=>simp[intOf];omega
  ·obtain rfl:k=p.at_.length:=by omega
   have g5:=Hd g0;have HS:=Hd hS;clear g0 hS hJ
   gi_wp2
   go_end0;exact⟨⟨_,rfl⟩,M1,g5.o,HS.o.wr,HS.o.sub⟩
theorem QN (F:Fence)(n:Nat)(hF:F.fn 210)(hro:F.round=none)(pb:Nat)(w:Wd) :
 CallsIn F n prog 210 #[.pointer (some ⟨pb,0,none⟩)] w fun e w'=>e=.returned (.func (.func 217) #[] #[.pointer (some ⟨w.heap.size,0,none⟩)])/\w'=w.alloc (.cells #[.pointer (some ⟨pb,0,none⟩)] 179):=by
 refine callsIn_of_wp func210 rfl hF ?_ hro;simp only[ntmps210,XQ,Xm,XS,Nat.reduceAdd,Nat.reduceSub,XZ,Ya,Yo,Yf,XK,Ym]
 gi_wp2
 go_ret;exact⟨rfl,rfl⟩
theorem QQ (F:Fence)(n:Nat)(hF:F.fn 199)(hro:F.round=none)(pb:Nat)(w:Wd) :
 CallsIn F n prog 199 #[.pointer (some ⟨pb,0,none⟩)] w fun e w'=>e=.returned (.func (.func 209) #[] #[.pointer (some ⟨w.heap.size,0,none⟩)])/\w'=w.alloc (.cells #[.pointer (some ⟨pb,0,none⟩)] 179):=by
 refine callsIn_of_wp func199 rfl hF ?_ hro;simp only[ntmps199,XQ,Xm,XS,Nat.reduceAdd,Nat.reduceSub,XZ,Ya,Yo,Yf,XK,Ym]
 gi_wp2
 go_ret;exact⟨rfl,rfl⟩
attribute [local go_sem] Oper.semAt_some
structure EaS (n₀:Nat)(o:Own)(w0:Wd)(pb:Nat)(p:Ad)(Bp By l:Nat)(M0 M:Nat->Prop)(W0 W:Wd):Prop where
 it:ItS n₀ o w0 pb p Bp M0 M W0 W
 boxy:W.cell? ⟨By,0,none⟩=some (.func (.yield l) #[] #[])
 ny:¬ M By
 ge:∀ k,M k->n₀<=k
theorem Gd (h:Wr M W W')(hc:W.cell? ⟨b,k,none⟩=some v)(hn:¬ M b):W'.cell? ⟨b,k,none⟩=some v :=
 (Co hc (h.keep b (Ag hc) hn))
theorem EaS.go {n₀:Nat}{o:Own}{w0:Wd}{pb:Nat}{p:Ad}{Bp By l:Nat}{M0 M M':Nat->Prop}{W0 W W':Wd}(h:EaS n₀ o w0 pb p Bp By l M0 M W0 W)(hn:n₀<=W0.heap.size)(hw:Wr M W W')
 (hM:∀ k,M' k->M k\/W.heap.size<=k):EaS n₀ o w0 pb p Bp By l M0 M' W0 W':=by
 have hs:=h.it.wr.size;have hb:By<W.heap.size:=Ag h.boxy;refine⟨h.it.go hn h.ge hw hM,Gd hw h.boxy h.ny,fun e=>?_,fun k hk=>?_⟩
 ·rcases hM By e with h1|h1
  . exact h.ny h1
  . omega
 ·rcases hM k hk with h1|h1
  . exact h.ge k h1
  . omega
theorem QR (F:Fence)(n:Nat)(hF1:F.fn 209)(hF2:F.fn 210)(hF3:F.fn 217)(hro:F.round=none)(hn:4<=n)(Bp n₀ pb:Nat){o:Own}(hp:Aq o w0 pb p)(hlt:Ab o w0)(h0:w0.heap.size<=n₀)(w:Wd)
 (hw:Below n₀ w0 w) (hn0:n₀<=w.heap.size) (hBn:n₀<=Bp) (hBp:w.cell? ⟨Bp,0,none⟩=some (.pointer (some ⟨pb,0,none⟩))) :
 Gives F n 2 prog 209 #[.pointer (some ⟨Bp,0,none⟩)] (fun i:Nat=>#[Am (p.nd i)]) n₀ (· = Bp) (B6 p) w:=by
 intro l J M W g6 g7 g3 gn hY hJ;have gw:Bp<w.heap.size:=Ag hBp;have gS:Bp<W.heap.size:=Xh gw g3.size;have gc:n₀<=W.heap.size:=WU hn0 g3.size;have gg:W.cell? ⟨Bp,0,none⟩=some (.pointer (some ⟨pb,0,none⟩)):=Gd g3 hBp (fun h=>h.2 rfl);have gd:Below n₀ w0 W:=hw.trans (g3.below (fun k h=>h.1) hn0);obtain⟨V,hV⟩:=Ex ((W.alloc (.cells #[.func (.yield l) #[] #[]] 287)).alloc (.cells #[.pointer (some ⟨pb,0,none⟩)] 179));have g4:∀ N,Wr N W V:=fun N=>by rw[hV];exact((Wr.refl N W).alloc _).alloc _
 have gj:J [] M V:=g7 _ _ _ _ hJ (g4 _);have g2:=g6 _ _ _ hJ;have g9:V.cell? ⟨W.heap.size,0,none⟩=some (.func (.yield l) #[] #[]):=by rw[hV];simp
 have gb:V.cell? ⟨W.heap.size+1,0,none⟩=some (.pointer (some ⟨pb,0,none⟩)):=by rw[hV];simp
 have gm:V.cell? ⟨Bp,0,none⟩=some (.pointer (some ⟨pb,0,none⟩)):=Gd (g4 (fun _=>False)) gg (fun h=>h);have g1:Below n₀ w0 V:=gd.trans ((g4 (fun k=>n₀<=k)).below (fun _ h=>h) gc);have gh:V.heap.size=W.heap.size+2:=by rw[hV];simp
 have gk:EaS n₀ o w0 pb p Bp W.heap.size l M M V V:=⟨⟨g1,gm,Wr.refl _ _,fun k h=>.inl h,gn Bp rfl⟩,g9,fun e=>by have:=(g2 _ e).2;omega,fun k h=>(g2 k h).1⟩;have HP:∀ W',Below n₀ w0 W'->Aq o W' pb p:=fun W' hb=>hp.below (hb.mono h0) hlt
 have HG:=Hd (QM F (n-1) hF3 hro (by omega) (W.heap.size+1) n₀ pb hp hlt h0 V g1 (by omega) gb);have gp:=Hd HP;have gA:=Hd hY;have gE:=Hd gk;have gC:=Hd g6;have gr:=Hd g2;have g8:=Hd g7;have gD:=Hd gj;have gB:=Hd g4;have gH:=hp.len;have gq:=hp.pos;have gG:=hp.top;have gF:=hp.room;have h1:1<=n:=by omega
 have gO:(W.alloc (.cells #[.func (.yield l) #[] #[]] 287)).cell? ⟨Bp,0,none⟩=some (.pointer (some ⟨pb,0,none⟩)):=Gd ((Wr.refl (fun _=>False) W).alloc _) gg (fun h=>h);refine callsIn_of_wp_marks func209 rfl hF1 ?_ hro;simp only[ntmps209,XQ,Xm,XS,Nat.reduceAdd,Nat.reduceSub,XZ,Ya,Yo,Yf,XK,Ym];clear g6 g7 g3 gn hY hJ gj g2 g9 gb gm g1 gk HP hp hlt h0 hw hBp gd g4 gh
 gi_wp2_with (gi_at_call 210;refine(QN F (n-1) hF2 hro _ _).mono ?_;rintro e w' ⟨rfl,rfl⟩)
 rw[<- hV];have gh:V.heap.size=W.heap.size+2:=by rw[hV];simp
 clear hV;have gK:prog.follows .mixedOrders=true:=by kernel_rfl
 refine KU hro h1 (gf:=217) (lb:=#[.pointer (some ⟨W.heap.size+1,0,none⟩)]) rfl hF3 (XY func217 (by kernel_rfl) rfl) HG.o
  (by omega) (by rintro k rfl;omega) (fun x=>rfl)
  (fun pre N V'=>∃ M1,(∀ k,N k↔M1 k\/k=W.heap.size\/k=Bp)/\J pre M1 V'/\EaS n₀ o w0 pb p Bp W.heap.size l M M1 V V')
  ?_ ?_ (fun k=>M k\/k=W.heap.size\/k=Bp) ?_ ⟨M,fun k=>Iff.rfl,gD.o,gE.o⟩
  (fun x a' _ _=>a'={
   tmps :=
    #[Value.func (Fn.yield l) #[] #[],Value.pointer (some { block:=Bp,off:=0 }),
     Value.pointer (some { block:=W.heap.size,off:=0 }),Value.int IntKind.i64 ↑x,
     Value.pointer (some { block:=pb,off:=0 }),
     Value.func (Fn.func 217) #[] #[Value.pointer (some { block:=W.heap.size+1,off:=0 })],
     Value.int IntKind.i64 ↑x,undef,undef,undef,undef,undef,undef,undef,undef,undef,undef],
   defers:=[] }) ?_ ?_ ?_ ?_
 ·rintro pre N V' ⟨M1,hN,hj,hE⟩ k hk;rcases(hN k).1 hk with h|h|h
  . exact gC.o _ _ _ hj k h
  . subst h;exact⟨gc,Ag hE.boxy⟩
  . subst h;exact⟨hBn,Ag hE.it.box⟩
 ·rintro pre N V' V'' ⟨M1,hN,hj,hE⟩ hw
  have g5:∀ k,k<V'.heap.size->(k<n₀\/N k)->V''.heap[k]?=V'.heap[k]?:=fun k hk hn=>hw.keep k hk (fun⟨a,b⟩=>by
   rcases hn with h|h
   . omega
   . exact b h)
  refine⟨M1,hN,g8.o _ _ _ _ hj (hw.mono fun k ⟨a,b⟩=>⟨a,fun h=>b ((hN k).2 (.inl h))⟩),⟨⟨?_,?_,?_,hE.it.sub,hE.it.nb⟩,?_,hE.ny,hE.ge⟩⟩
  . exact hE.it.low.trans (hw.below (fun k h=>h.1) (by have:=hE.it.wr.size;omega))
  . exact(Co hE.it.box (g5 _ (Ag hE.it.box) (.inr ((hN _).2 (.inr (.inr rfl))))))
  . exact hE.it.wr.trans hw (fun _ _ h=>h) (fun k _ h=>h.1)
  . exact(Co hE.boxy (g5 _ (Ag hE.boxy) (.inr ((hN _).2 (.inr (.inl rfl))))))
 ·rintro k rfl h;have gQ:W.heap.size+1<W.heap.size\/W.heap.size+1=W.heap.size\/W.heap.size+1=Bp:=by
   rcases h with h|h
   . left;exact(gr.o _ h).2
   . right;exact h
  omega
 . intro x a' W' W1 W2 l' _ h _;exact h
 ·intro l' pre x N V' K hI hK
  gi_wp2
  exact hK _ _ (Wr.refl _ _) rfl
 ·rintro l' pre x a' N W0 W1 ⟨M1,hN,hj,hE⟩ rfl gJ hs1 g0;obtain⟨suf,g0⟩:=g0;have hx:p.tk x=true:=Lc g0;obtain⟨vs,vt,vf,d0,d1,d2,d3,d4,hs,ht,_⟩:=(gp.o W1 hE.it.low).cells;have gN:=hE.it.box;have gM:=hE.boxy;obtain⟨gs,cs,rfl,gv⟩:=hs.shape gq;have gt:=((gp.o W1 hE.it.low).tk_lt hx).2;have gL:=Aq.node hs (k:=x) gt;have gI:(x:Int)<p.at_.length:=by omega
  obtain⟨fn,tmps,assign,body,hy,hR⟩:=gA.o _ x M1 W1.drew (g8.o _ _ _ _ hj ((Wr.refl _ W1).drew)) ⟨suf,g0⟩;simp only[Am] at hy;have HR:=Hd hR;have HE:=Hd hE;have HN:=Hd hN;clear hs hE hj hR hN g0 gv
  gi_wp2
  gi_region_with_o (refine⟨fun _=>by omega,HR.o.mono ?_⟩;rintro e W3 ⟨rfl,M3,gx,ga,gi⟩)
  all_goals gi_wp2
  all_goals exact⟨fun k=>M3 k\/k=W.heap.size\/k=Bp,⟨M3,fun k=>Iff.rfl,gx,HE.o.go (by omega) (Wr.trans ((Wr.refl M1 W1).drew) ga (fun _ _ h=>h) (fun _ _ h=>h)) gi⟩,
   Wr.trans ((Wr.refl M1 W1).drew) ga (fun k _ h=>.inl ((HN.o k).2 (.inl h))) (fun k _ h=>.inl ((HN.o k).2 (.inl h))),
   fun k hk=>by
    rcases hk with hk|hk
    ·rcases gi k hk with h|h
     . exact .inl ((HN.o k).2 (.inl h))
     . right;have:W1.heap.size<=k:=h;omega
    . exact .inl ((HN.o k).2 (.inr hk))⟩
 ·rintro D N W2 gR gz ⟨M1,hN,hj,hE⟩ gP gu gy
  gi_wp2
  refine⟨by simp,.inl ⟨_,_,rfl,run_takeDeferred gy,?_⟩⟩;have gl:n₀<=D:=by omega
  refine⟨_,Ye rfl _ _ _,⟨_,rfl⟩,M1,?_,?_,?_⟩
  . exact g8.o _ _ _ _ hj ((Wr.refl _ _).putObj (.inl ⟨gl,fun h=>gz ((hN D).2 (.inl h))⟩) _)
  . exact((gB.o (fun k=>n₀<=k)).trans gu (fun _ _ h=>h) (fun _ _ h=>h)).putObj (.inl gl) _
  ·intro k hk;rcases hE.it.sub k hk with h|h
   . exact .inl h
   . right;omega
def AA (d:Ae):List Nat:=(B6 d.pool).filter (fun i=>decide (Aj d i=0))
theorem QS (p:Ad):(B6 p).Nodup:=(List.nodup_range).filter _
theorem QT (d:Ae):(AA d).Nodup:=(QS d.pool).filter _
theorem ID (h:i∈AA d):d.pool.tk i=true/\Aj d i=0:=by
 unfold AA at h;rw[XT] at h;exact⟨(XT.1 h.1).2,by simpa using h.2⟩
theorem Ld (f g:Nat->Bool):∀ k,((((List.range k).filter f).filter g).length:Int)=Ah k (fun i=>if f i=true then (if g i=true then 1 else 0) else 0)
 | 0=>by simp[Ah]
 | k+1=>by
   rw[YI,XO,XO,WY];have ih:=Ld f g k;rw[Int.natCast_add,ih];cases hf:f k<;>cases hg:g k<;>simp[Ah,hf,hg,List.filter]
theorem Le {ext:Nat->Int}(h:A7 d ext):(AA d).length=d.dead:=by
 have h1:=h.dead;have h2:((AA d).length:Int)=Ah d.pool.at_.length (dead1 (Aa d) (Aj d)):=by
  unfold AA B6 BJ;rw[Ld];refine Bs _ fun i _=>?_
  unfold dead1 Aa Ad.get;cases ht:d.pool.tk i<;>simp
 unfold AW at h1;omega
structure Ck (d:Ae)(k:Nat)(d':Ae):Prop where
 vars:d'.vars=d.vars
 level:d'.level=d.level
 counts:d'.counts=d.counts
 dead:d'.dead=d.dead
 room:d'.pool.room=d.pool.room
 alen:d'.pool.at_.length=d.pool.at_.length
 keep:∀ i,i∉(AA d).take k->d'.pool.tk i=d.pool.tk i/\d'.pool.nd i=d.pool.nd i
 gone:∀ i,i∈(AA d).take k->d'.pool.tk i=false
 tab:∀ v,v<d.vars.length->∀ lo hi id,d'.tab v (lo,hi)=some id↔Aa d' id=some ⟨v,lo,hi⟩
 many:d'.pool.many+k=d.pool.many
theorem Ck.start (ht:∀ v,v<d.vars.length->∀ lo hi id,d.tab v (lo,hi)=some id↔Aa d id=some ⟨v,lo,hi⟩):Ck d 0 d :=
 ⟨rfl,rfl,rfl,rfl,rfl,rfl,fun _ _=>⟨rfl,rfl⟩,fun i h=>by simp at h,ht,rfl⟩
def IE (d:Ae)(i:Nat)(b:BN):Ae:={ d with pool:=d.pool.give i,tab:=fun v=>if v=b.v then putF (d.tab v) (b.lo,b.hi) none else d.tab v }
theorem Ck.at {d d':Ae}{k i:Nat}(h:Ck d k d')(hi:(AA d)[k]?=some i):d'.pool.tk i=true/\d'.pool.nd i=d.pool.nd i:=by
 obtain⟨g0,e⟩:=Xk.1 hi;have hm:i∈AA d:=e ▸ Xp g0;have hn:i∉(AA d).take k:=by
  intro hh;rw[List.mem_take_iff_getElem] at hh;obtain⟨j,hj,e2⟩:=hh;have g1:=List.pairwise_iff_getElem.1 (QT d) j k (by omega) g0 (by omega);exact g1 (e2.trans e.symm)
 have:=h.keep i hn;exact⟨this.1.trans (ID hm).1,this.2⟩
abbrev WZ:=@List.take_succ_eq_append_getElem
theorem Ck.next (h:Ck d k d')(hi:(AA d)[k]?=some i)(hl:d'.pool.taken.length=d'.pool.at_.length)(hat:i<d'.pool.at_.length)(hm:1<=d'.pool.many) :
 Ck d (k+1) (IE d' i (bnOf (d'.pool.nd i))):=by
 obtain⟨g2,e⟩:=Xk.1 hi;obtain⟨ht,g3⟩:=h.at hi;have e1:(AA d).take (k+1)=(AA d).take k++[i]:=by rw[WZ g2,e]
 have tk:∀ j,(d'.pool.give i).tk j=if j=i then false else d'.pool.tk j:=fun j=>ER (by rw[hl];exact hat) j
 have nd:∀ j,(d'.pool.give i).nd j=if j=i then rn0 else d'.pool.nd j:=fun j=>De hat j
 have g0:Aa d' i=some (bnOf (d'.pool.nd i)):=by unfold Aa Ad.get;rw[WR ht];rfl
 have g1:∀ j,Aa (IE d' i (bnOf (d'.pool.nd i))) j=if j=i then none else Aa d' j:=fun j=>by
  unfold Aa
  show ((d'.pool.give i).get j).map bnOf=_
  rw[Ad.give_get (by rw[hl];exact hat) hat]
  by_cases e:j=i<;>simp[e]
 refine⟨h.vars,h.level,h.counts,h.dead,h.room,?_,fun j hj=>?_,fun j hj=>?_,fun v hv lo hY id=>?_,?_⟩
 ·show (d'.pool.at_.set i rn0).length=_
  rw[Xi];exact h.alen
 ·rw[e1] at hj;simp only[Xa,Xg,not_or] at hj
  show (d'.pool.give i).tk j=_/\(d'.pool.give i).nd j=_
  rw[tk,nd,WO hj.2,WO hj.2];exact h.keep j hj.1
 ·rw[e1] at hj;simp only[Xa,Xg] at hj
  show (d'.pool.give i).tk j=_
  rw[tk]
  by_cases e2:j=i
  . rw[WR e2]
  . rw[WO e2];exact h.gone j (hj.resolve_right e2)
 ·rw[g1];have h0:=h.tab v hv lo hY id
  show (if v=(bnOf (d'.pool.nd i)).v then putF (d'.tab v) ((bnOf (d'.pool.nd i)).lo,(bnOf (d'.pool.nd i)).hi) none else d'.tab v) (lo,hY)=some id↔_
  by_cases e2:id=i
  ·subst e2;simp only[XP];constructor
   ·intro hh;exfalso
    by_cases e3:v=(bnOf (d'.pool.nd id)).v
    ·rw[WR e3] at hh;unfold putF at hh
     by_cases e4:(lo,hY)=((bnOf (d'.pool.nd id)).lo,(bnOf (d'.pool.nd id)).hi)
     . rw[WR e4] at hh;cases hh
     . rw[WO e4,h0,g0] at hh;cases hh;exact e4 rfl
    . rw[WO e3,h0,g0] at hh;cases hh;exact e3 rfl
   . intro hh;cases hh
  ·rw[WO e2,<- h0]
   by_cases e3:v=(bnOf (d'.pool.nd i)).v
   ·rw[WR e3];unfold putF
    by_cases e4:(lo,hY)=((bnOf (d'.pool.nd i)).lo,(bnOf (d'.pool.nd i)).hi)
    ·rw[WR e4];constructor
     . intro hh;cases hh
     . intro hh;exfalso;have q:=(h.tab v hv lo hY i).2 (by rw[g0];cases e4;rw[e3]);rw[hh] at q;cases q;exact e2 rfl
    . rw[WO e4]
   . rw[WO e3]
 ·show d'.pool.many-1+(k+1)=_
  have:=h.many;omega
structure AC (d d':Ae):Prop where
 vars:d'.vars=d.vars
 level:d'.level=d.level
 counts:d'.counts=d.counts
 room:d'.pool.room=d.pool.room
 dead:d'.dead=0
 alen:d'.pool.at_.length=d.pool.at_.length
 nodes:∀ i,Aa d' i=if 0<Aj d i then Aa d i else none
 ext:∀ i b,Aa d' i=some b->Ak d' i=Ak d i
 tab:∀ v,v<d.vars.length->∀ lo hi id,d'.tab v (lo,hi)=some id↔Aa d' id=some ⟨v,lo,hi⟩
 many:d'.pool.many+d.dead=d.pool.many
abbrev Yt:=@List.mem_range
theorem Ck.done {ext:Nat->Int}(h:Ck d (AA d).length d')(hl:A7 d ext)(hat:∀ i,d.pool.tk i=true->i<d.pool.at_.length):AC d { d' with dead:=0 }:=by
 have hk:(AA d).take (AA d).length=AA d:=Xx;have g1:∀ i,d.pool.tk i=true->Aj d i=0->i∈AA d:=fun i h1 h2=>by
  unfold AA B6 BJ;simp only[XT,Yt,XD];exact⟨⟨hat i h1,h1⟩,h2⟩
 refine⟨h.vars,h.level,h.counts,h.room,rfl,h.alen,fun i=>?_,fun i b hb=>?_,h.tab,by rw[<- Le hl];exact h.many⟩
 ·show (d'.pool.get i).map bnOf=if 0<Aj d i then (d.pool.get i).map bnOf else none
  unfold Ad.get
  by_cases hc:i∈AA d
  . have h1:=h.gone i (by rw[hk];exact hc);have h2:=(ID hc).2;simp[h1,h2]
  ·obtain⟨h1,h2⟩:=h.keep i (by rw[hk];exact hc);rw[h1,h2]
   by_cases h3:0<Aj d i
   . rw[WR h3]
   ·rw[WO h3];cases ht:d.pool.tk i with
    | false=>rfl
    | true=>exact absurd (g1 i ht (by omega)) hc
 ·have g0:(d'.pool.get i).map bnOf=some b:=hb;have ht:d'.pool.tk i=true:=by
   unfold Ad.get at g0;cases ht:d'.pool.tk i with
   | true=>rfl
   | false=>rw[ht] at g0;simp at g0
  have hc:i∉AA d:=fun hc=>by rw[h.gone i (by rw[hk];exact hc)] at ht;cases ht
  obtain⟨h1,h2⟩:=h.keep i (by rw[hk];exact hc)
  show (if d'.pool.tk i=true then ((d'.pool.nd i).refs:Int) else 0)=if d.pool.tk i=true then ((d.pool.nd i).refs:Int) else 0
  rw[h1,h2]
theorem Ge {ext:Nat->Int}(hl:A7 d ext)(h0:d.dead=0){b:BN}(hb:Aa d i=some b):0<Aj d i:=by
 have h1:=hl.dead;rw[h0] at h1;have h2:=FE (f:=dead1 (Aa d) (Aj d)) d.pool.at_.length (fun i _=>Kk _ _ i) (hl.cnt.lt i b hb);unfold AW at h1;unfold dead1 at h2;rw[hb] at h2
 by_cases h:Aj d i=0
 . simp only[h,XP] at h2;unfold dead1 at h1;omega
 . omega
theorem AC.none {d:Ae}{V:Nat->BF}(hk:Ai d V)(h0:d.dead=0):AC d d:=by
 refine⟨rfl,rfl,rfl,rfl,h0,rfl,fun i=>?_,fun _ _ _=>rfl,hk.tab,by omega⟩;cases hb:Aa d i with
 | none=>simp
 | some b=>rw[WR (Ge hk.live h0 hb)]
theorem QU (d:Ae)(i:Nat):0<=Ak d i:=by unfold Ak;split<;>omega
section
theorem AC.sub (r:AC d d'){b:BN}(h:Aa d' i=some b):Aa d i=some b/\0<Aj d i:=by
 rw[r.nodes] at h;split at h
 . rename_i hc;exact⟨h,hc⟩
 . cases h
theorem AC.cnt (r:AC d d'):Aj d'=Aj d:=by funext i;unfold Aj;rw[r.counts]
theorem AC.lev (r:AC d d'):levN d'=levN d:=by funext v;unfold levN;rw[r.level]
theorem AC.kid (r:AC d d')(hk:Ai d V){b:BN}(h:Aa d' i=some b)(he:e=b.lo\/e=b.hi):okE (Aa d') e:=by
 obtain⟨h1,h2⟩:=r.sub h;have ho:okE (Aa d) e:=by
  rcases he with rfl|rfl
  . exact hk.dag.okLo i b h1
  . exact hk.dag.okHi i b h1
 rcases ho with h0|⟨c,hc⟩
 . exact .inl h0
 . refine .inr ⟨c,?_⟩;rw[r.nodes,WR (hk.live.cnt.pos_of_live h1 h2 he hc (QU d _))];exact hc
theorem AC.lvE (r:AC d d')(h0:Aa d 0=Option.none){n:Nat}{lev:Nat->Nat}{e:Nat}(he:okE (Aa d') e):Go.Proofs.YtgmbklaolcmljaaGreat.lvE n lev (Aa d') e=Go.Proofs.YtgmbklaolcmljaaGreat.lvE n lev (Aa d) e:=by
 unfold Go.Proofs.YtgmbklaolcmljaaGreat.lvE;rcases he with he|⟨b,hb⟩
 ·have:Aa d' 0=Option.none:=by rw[r.nodes,h0];simp
  rw[he,h0,this]
 . rw[hb,(r.sub hb).1]
theorem AC.ok (r:AC d d')(hk:Ai d V):Ai d' V:=by
 have g0:∀ e,okE (Aa d') e->Go.Proofs.YtgmbklaolcmljaaGreat.lvE d.vars.length (levN d) (Aa d') e=Go.Proofs.YtgmbklaolcmljaaGreat.lvE d.vars.length (levN d) (Aa d) e:=fun e he=>r.lvE hk.dag.none0 he
 refine⟨?_,⟨?_,?_,fun i b hb=>by rw[r.counts];exact hk.live.has i b (r.sub hb).1⟩,by rw[r.vars];exact r.tab,by rw[r.counts];exact hk.clen,by rw[r.vars];exact hk.small,by rw[r.vars,r.lev];exact hk.inv,by rw[r.vars,r.lev];exact hk.vlt⟩
 . rw[r.vars,r.lev];exact hk.dag.restrict (Aa d') (fun i b h=>(r.sub h).1) (fun i b h=>⟨r.kid hk h (.inl rfl),r.kid hk h (.inr rfl)⟩)
 . rw[r.alen,r.cnt];exact(hk.live.cnt.collect (Aa d') r.nodes).congr (fun x b hb=>r.ext x b hb)
 ·rw[r.dead];unfold AW;rw[Bs (g:=fun _=>0) _ (fun i _=>?_),Du]
  . rfl
  ·unfold dead1;cases hb:Aa d' i with
   | none=>rfl
   | some b=>have:=(r.sub hb).2;rw[r.cnt];simp;omega
end
attribute [local go_sem] Oper.semAt_some
theorem IF {F:Fence}{fu:Nat}(T e:TypeId)(size bytes:Nat)(z:Value)(hT:prog.underlying T=some (.slice e))(he:(prog.info? e).map (fun i=>(i.zero,i.size,i.bytes))=some (some z,size,bytes))(hzs:z.cells.size=size)(hsz:0<size)
 {wr:Wd} {ops:Array Oper} {rest:List Oper} {op:Oper} {a:Act} {Q:Exit->Act->Wd->Prop} {W:Wd} (hgd:op.guard=none) (s x:Operand)
 (hop:op.op=.call { callee:=.builtin .append,args:=#[s,x],argTypes:=#[T,T] })
 {o:Own} {r:Role} {v:Value} {n:Nat} {xs:List Value} (hs:a.eval s=v) {N:Nat} (hx:a.eval x=.slice (some ⟨N,0,none⟩) 1 1) {news:Array Value}
 (hW:W=wr.alloc (.cells news e)) (hN:N=wr.heap.size) (hl:news.size=size) (h1:∀ u∈news.toList,u.oneCell'=true) (h:RowR o wr r e size v n xs) (hlt:Ab o wr) (hn:n<1000000000) (hb:bytes<=10000)
 (hK:∀ g cap w' o',RowR o' w' r e size (.slice (some ⟨g,0,none⟩) (n+1) cap) (n+1) (xs++news.toList)->Chg (· = r) o o' wr w'->Ab o' w'->wpListIn F fu prog ops Q rest (a.put op.dst (.slice (some ⟨g,0,none⟩) (n+1) cap)) w'):wpListIn F fu prog ops Q (op::rest) a W:=by
 subst hN;subst hW
 obtain⟨g,cap,w',o',hr,h2,h3,h4⟩:=If T e op.type size bytes z hT he hzs hsz news hl h1 h hlt hn hb;refine wpListIn_plain hgd fun K g1=>?_
 unfold Oper.wpIn;refine⟨?_,?_⟩
 . simp[Oper.about,hop,resolve,Target.leads,Sem.run_pure]
 . rw[Oper.semAt_plain F _ _ (by rw[hop];intro c g0;cases g0)];simp only[execOp,hop,resolve,invoke,builtin,XH,Sem.run_pure,Xs,List.map_toArray,XJ,Zh,hs,hx,hr];exact g1 _ _ (hK g cap w' o' h2 h3 h4)
theorem Gf (w:Wd)(o:Obj):(w.alloc o).drew=w.drew.alloc o:=rfl
theorem Lf {F:Fence}{c:Code}(W1:Wd)(h:∃ A,c.wpIn F n P (fun e a' W'=>e=.normal/\a'=A/\W'=W1) a w/\Q .normal A W1):c.wpIn F n P Q a w:=by
 obtain⟨A,h1,h2⟩:=h;refine wpIn_mono h1 ?_;rintro _ _ _ ⟨rfl,rfl,rfl⟩;exact h2
def Bt (d:Ae)(pre:List Nat):List Nat:=pre.filter (fun i=>decide (Aj d i=0))
structure GatS (d:Ae)(w:Wd)(sb:Nat)(pre:List Nat)(M:Nat->Prop)(W:Wd)(v:Value)(oG:Own):Prop where
 mm:∀ k,M k↔(k=w.heap.size\/k=w.heap.size+1\/oG k=some .slots)
 low:Bw w W
 boxs:W.heap[w.heap.size]?=some (.cells #[.pointer (some ⟨sb,0,none⟩)] 110 (0,0))
 boxg:W.heap[w.heap.size+1]?=some (.cells #[v] 229 (0,0))
 row:RowR oG W .slots 236 5 v (Bt d pre).length ((Bt d pre).flatMap fun i=>rnV (d.pool.nd i))
 lt:Ab oG W
 ge:∀ k r,oG k=some r->r=.slots/\w.heap.size+2<=k
def Gat (d:Ae)(w:Wd)(sb:Nat)(pre:List Nat)(M:Nat->Prop)(W:Wd):Prop:=∃ v oG,GatS d w sb pre M W v oG
theorem GatS.minds (h:GatS d w sb pre M W v oG)(hw:Wr (fun k=>w.heap.size<=k/\¬ M k) W W'):GatS d w sb pre M W' v oG:=by
 have hk:∀ k,k<W.heap.size->M k->W'.heap[k]?=W.heap[k]?:=fun k h1 h2=>hw.keep k h1 (fun e=>e.2 h2)
 have hm:=h.mm
 refine⟨hm,h.low.trans (hw.below (fun k h=>h.1) h.low.size),(hk _ (WL.1 h.boxs).1 ((hm _).2 (.inl rfl))).trans h.boxs,(hk _ (WL.1 h.boxg).1 ((hm _).2 (.inr (.inl rfl)))).trans h.boxg,
  h.row.keep (fun g hg=>hk g (h.lt g _ hg) ((hm g).2 (.inr (.inr hg)))) (fun _ h=>h),h.lt.mono hw.size,h.ge⟩
theorem QV (h:Aj d x=0):Bt d (pre++[x])=Bt d pre++[x]:=by unfold Bt;rw[XO];simp[h]
theorem QW (h:Aj d x≠0):Bt d (pre++[x])=Bt d pre:=by unfold Bt;rw[XO];simp[h]
theorem GatS.add {oG':Own}(h:GatS d w sb pre M W v oG)(hc:Aj d x=0)
 (hr:RowR oG' W1 .slots 236 5 v' ((Bt d pre).length+1) (((Bt d pre).flatMap fun i=>rnV (d.pool.nd i))++rnV (d.pool.nd x))) (hg:Chg (· = .slots) oG oG' W W1) (hl:Ab oG' W1) {n:Nat} (hn:n<=W.heap.size) :
 ∃ M',Gat d w sb (pre++[x]) M' (W1.setCell ⟨w.heap.size+1,0,none⟩ v')/\Wr (fun k=>M k\/n<=k) W (W1.setCell ⟨w.heap.size+1,0,none⟩ v')/\∀ k,M' k->M k\/n<=k:=by
 have none:∀ k,k<w.heap.size+2->oG k=Option.none:=fun k hk=>by
  cases e:oG k with
  | none=>rfl
  | some r=>have:=(h.ge k r e).2;omega
 have g0:w.heap.size+1<W.heap.size:=(WL.1 h.boxg).1;have k0:=(hg.alien (by omega) (none w.heap.size (by omega))).trans h.boxs;have k1:=(hg.alien g0 (none (w.heap.size+1) (by omega))).trans h.boxg;have ge':∀ k r,oG' k=some r->r=.slots/\w.heap.size+2<=k:=fun k r hk=>by
  by_cases e:oG' k=oG k
  . rw[e] at hk;exact h.ge k r hk
  ·obtain⟨a1,q,a2,a3⟩:=hg.new k e;rw[hk] at a2;cases a2
   exact⟨a3,by omega⟩
 refine⟨fun k=>k=w.heap.size\/k=w.heap.size+1\/oG' k=some .slots,⟨v',oG',⟨fun k=>Iff.rfl,?_,?_,Az k1 _,?_,hl.mono (by simp[World.setCell]),ge'⟩⟩,?_,fun k hk=>?_⟩
 . have:Bw w W1:=h.low.trans ⟨hg.os,hg.tape,hg.output,hg.size,fun k hk=>hg.alien (Xh hk h.low.size) (none k (by omega))⟩;exact this.setCell (p:=⟨w.heap.size+1,0,Option.none⟩) (by show _<=w.heap.size+1;omega) _
 . exact(Aw (by show _≠w.heap.size+1;omega) _).trans k0
 . rw[QV hc,WY,YC];simp only[Y2,Yn,List.flatMap_nil,Yd];exact hr.setCell_other (fun e=>by have:=(ge' _ _ e).2;simp at this) _
 . have:Wr (fun k=>M k\/n<=k) W W1:=⟨hg.os,hg.tape,hg.output,hg.size,fun k hk hm=>hg.block k hk fun r hr e=>hm (.inl ((h.mm k).2 (.inr (.inr (by rw[hr,e])))))⟩;exact this.setCell (p:=⟨w.heap.size+1,0,Option.none⟩) (.inl (.inl ((h.mm _).2 (.inr (.inl rfl))))) _
 ·rcases hk with hk|hk|hk
  . exact .inl ((h.mm k).2 (.inl hk))
  . exact .inl ((h.mm k).2 (.inr (.inl hk)))
  ·by_cases e:oG' k=oG k
   . rw[e] at hk;exact .inl ((h.mm k).2 (.inr (.inr hk)))
   . have:=(hg.new k e).1;right;omega
theorem GatS.no (h:GatS d w sb pre M W v oG)(k:Nat)(hk:k<w.heap.size+2):oG k=none:=by
 cases e:oG k with
 | none=>rfl
 | some r=>have:=(h.ge k r e).2;omega
theorem GatS.drew {d:Ae}{w:Wd}{sb:Nat}{pre:List Nat}{M:Nat->Prop}{W:Wd}{v:Value}{oG:Own}(h:GatS d w sb pre M W v oG):GatS d w sb pre M W.drew v oG:=h.minds ((Wr.refl _ W).drew)
def Gg (o:Own)(W2:Wd)(sb:Nat)(d:Ae)(s:B9)(k:Nat)(wr:Wd):Prop:=∃ o1 d1,Ao o1 wr sb d1 s/\Ab o1 wr/\Ck d k d1/\Chg Al o o1 W2 wr
theorem Gg.next {o o1 o2:Own}{W2 wr w3 w4 w4' w5:Wd}{sb:Nat}{d d1:Ae}{s:B9}{k i:Nat}{N:RN}(hs1:Ao o1 wr sb d1 s)(hl1:Ab o1 wr)(hr1:Ck d k d1)(hc1:Chg Al o o1 W2 wr)(hi:(AA d)[k]?=some i)(hN:d1.pool.nd i=N)(hb3:Bw wr w3)
 (ht:AJ o1 w4 N.v (s.ts.getD N.v 0) (putF (d1.tab N.v) (N.lo,N.hi) none)) (hct:Chg (· = .tmap N.v) o1 o1 w3 w4) (hl4:Ab o1 w4) (hb:Bw w4 w4')
 (hp:Aq o2 w5 s.pb (d1.pool.give i)) (hcp:Chg (fun r=>r=.pool\/r=.slots\/r=.taken\/r=.free) o1 o2 w4' w5) (hl5:Ab o2 w5):Gg o W2 sb d s (k+1) w5:=by
 have h3:=hs1.below hl1 hb3;have g1:=hl1.mono hb3.size;have h4:=h3.setTab g1 ht hct;have g2:=h4.below hl4 hb;have h5:=g2.setPool (hl4.mono hb.size) hp hcp;have g0:i<d1.pool.at_.length:=(hs1.pool.tk_lt (hr1.at hi).1).2;have e:(fun u=>if u=N.v then putF (d1.tab N.v) (N.lo,N.hi) none else d1.tab u)=(fun u=>if u=N.v then putF (d1.tab u) (N.lo,N.hi) none else d1.tab u):=by
  funext u
  by_cases h:u=N.v
  . subst h;rfl
  . simp[h]
 rw[e] at h5;refine⟨o2,IE d1 i (bnOf N),h5,hl5,?_,hc1.trans ((Chg.of_below hb3 _ o1).trans ((hct.mono ?_).trans ((Chg.of_below hb _ o1).trans (hcp.mono ?_))))⟩
 ·have:=hr1.next hi hs1.pool.len g0 (by
   have h1:=hs1.pool.cnt;have h2:=Ko (f:=fun j=>if d1.pool.tk j=true then (1:Int) else 0) (fun j _=>by split<;>omega) g0 (by simp[(hr1.at hi).1]);omega)
  rw[hN] at this;exact this
 . rintro r rfl;exact .inr (.inr (.inr (.inr (.inr (.inr (.inl ⟨_,.inr rfl⟩))))))
 . rintro r h;exact .inr (.inr (.inr (.inr (.inl h))))
theorem E2 {o:Oper}{f:FuncId}{R:Value->Wd->Prop}(hg:o.guard=none)
 (he:(execOp a.eval o).run P w=.ok (.enter f args) w) (hc:Calls P f args w fun e w'=>∃ v,e=.returned v/\R v w') (h:∀ v w',R v w'->Q .normal (a.put o.dst v) w'):AE P ops Q S true [(some o,true)] a w:=by
 refine Dv hg fun K hK=>?_
 unfold Oper.wp;simp only[he,Oper.upon];exact hc.mono fun e w' ⟨v,h1,h2⟩=>by subst h1;exact hK _ _ (h v w' h2)
abbrev Zk:=@callsIn_wide
theorem Lg {o:Own}(h:Ay o w sb d)(h0:d.dead=0) :
 Calls prog 185 #[Pt sb] w (Bl (.int .i64 0) w):=by
 obtain⟨s,h⟩:=h;obtain⟨c0,c1,c2,c3,c4,f0⟩:=cells5 h.blk;rw[h0] at c4;obtain⟨w1,g0⟩:=Ex (w.alloc (.cells #[.pointer (some ⟨sb,0,none⟩)] 110));have g1:Bw w w1:=by rw[g0];exact Af w _
 have cB:w1.cell? ⟨w.heap.size,0,none⟩=some (.pointer (some ⟨sb,0,none⟩)):=by rw[g0];exact cell1 (WN w _)
 have c4':=Cq g1 c4;have HW:Hq (_=w1):=Hd g0.symm;have HB:=Hd g1;clear h c0 c1 c2 c3 c4 f0 g0 g1 h0;refine(Zk (n:=9)).1 ?_;refine callsIn_of_wp_marks func185 rfl trivial ?_;refine wpIn_wide.2 ?_;simp only[ntmps185,XQ,Xm,XS,Nat.reduceAdd,Nat.reduceSub,XZ,Ya,Yo,Yf,XK,Ym];go_upto_region 1 with fail;rw[HW.o];go_wp2_with fail;exact⟨_,results_tmp rfl _ _ _,rfl,HB.o⟩
abbrev Y6:=@Nat.add_zero
theorem Lh {o:Own}(h:Ay o w sb d)(hlt:Ab o w)(hk:Ai d V)(h0:d.dead≠0) :
 Calls prog 185 #[Pt sb] w fun x w'=>x=.returned (.int .i64 d.dead)/\∃ o' d',Ay o' w' sb d'/\Ab o' w'/\AC d d'/\Chg Al o o' w w':=by
 obtain⟨s,h⟩:=h;obtain⟨c0,c1,c2,c3,c4,f0⟩:=cells5 h.blk;have km:((d.dead:Int) == 0)=false:=by simpa using h0
 obtain⟨w1,gn⟩:=Ex (w.alloc (.cells #[.pointer (some ⟨sb,0,none⟩)] 110));have gK:Bw w w1:=by rw[gn];exact Af w _
 have hB:w1.heap[w.heap.size]?=some (.cells #[.pointer (some ⟨sb,0,none⟩)] 110 (0,0)):=by rw[gn];exact WN w _
 have hs1:w1.heap.size=w.heap.size+1:=by rw[gn];simp
 obtain⟨w2,g6⟩:=Ex (w1.alloc (.cells #[.slice none 0 0] 229));have gJ:Bw w w2:=by rw[g6];exact gK.alloc (by omega) _
 have gM:w2.heap[w.heap.size]?=some (.cells #[.pointer (some ⟨sb,0,none⟩)] 110 (0,0)):=by rw[g6];exact(XE w1 _ _ (by omega)).trans hB
 have hn:w2.heap[w.heap.size+1]?=some (.cells #[.slice none 0 0] 229 (0,0)):=by rw[g6,<- hs1];exact WN w1 _
 have gE:w2.heap.size=w.heap.size+2:=by rw[g6];simp[hs1]
 have cB1:=cell1 hB;have cB2:=cell1 gM;have cS1:=Cq gK c4;have cS2:=Cq gJ c1;have HW1:Hq (_=w1):=Hd gn.symm;have ht:Hq (_=w2):=Hd g6.symm;have HB2:=Hd gJ;have HH:=Hd h;have HE:=Hd (Zk.1 (QQ Fence.wide 9 trivial rfl s.pb w2));clear h c0 c1 c2 c3 c4 f0 gn g6 gK gJ;refine(Zk (n:=9)).1 ?_;refine callsIn_of_wp_marks func185 rfl trivial ?_;refine wpIn_wide.2 ?_;simp only[ntmps185,XQ,Xm,XS,Nat.reduceAdd,Nat.reduceSub,XZ,Ya,Yo,Yf,XK,Ym];go_upto_region 1 with fail;rw[HW1.o];go_upto_region 4 with fail;rw[ht.o];go_wp2_with fail;refine HE.o.mono ?_;rintro x w3 ⟨rfl,gm⟩;go_wp2_with fail;obtain⟨w3',g4⟩:=Ex (w2.alloc (.cells #[.pointer (some ⟨s.pb,0,none⟩)] 179));rw[<- g4];have ki:w3'.heap.size=w.heap.size+3:=by rw[g4];simp[gE]
 have g5:Bw w w3':=by rw[g4];exact HB2.o.alloc (by omega) _
 have hq:w3'.heap[w.heap.size]?=some (.cells #[.pointer (some ⟨sb,0,none⟩)] 110 (0,0)):=by rw[g4];exact(XE w2 _ _ (by omega)).trans gM
 have hh:w3'.heap[w.heap.size+1]?=some (.cells #[.slice none 0 0] 229 (0,0)):=by rw[g4];exact(XE w2 _ _ (by omega)).trans hn
 have hd:w3'.cell? ⟨w.heap.size+2,0,none⟩=some (.pointer (some ⟨s.pb,0,none⟩)):=by rw[g4,<- gE];exact cell1 (WN w2 _)
 have gh:Hq (Ao o w sb d s):=HH;have g7:=Hd hlt;have HK:=Hd hk;have HG:=Hd (QR Fence.wide 8 trivial trivial trivial rfl (by omega) (w.heap.size+2) w.heap.size s.pb HH.o.pool hlt (WM _) w3' g5 (by omega) (by omega) hd);clear g4 hB gM hn cB1 cB2 cS1 cS2 HE HW1 ht hs1 gE hd;refine(wpIn_wide (n:=9)).1 ?_;refine KU rfl (by omega) (gf:=209) (lb:=#[.pointer (some ⟨w.heap.size+2,0,none⟩)]) rfl trivial (XY func209 (by kernel_rfl) rfl) HG.o (by omega) (by rintro k rfl;omega) (fun x=>rfl)
  (Gat d w sb) ?_ ?_ (fun k=>k=w.heap.size\/k=w.heap.size+1) (by rintro k rfl h;omega) ⟨.slice none 0 0,fun _=>none,(⟨fun k=>by simp,g5,hq,hh,RowR.nil _ _ _ _ _,fun k r h=>(by cases h),fun k r h=>(by cases h)⟩:GatS d w sb [] _ w3' (.slice none 0 0) (fun _=>none))⟩
  (fun x a' W W1=>∃ Bn,W.heap.size<=Bn/\W1.heap[Bn]?=some (.cells #[.int .i64 (d.pool.nd x).id,.int .i64 (d.pool.nd x).v,.int .i64 (d.pool.nd x).lo,.int .i64 (d.pool.nd x).hi,.int .i64 (d.pool.nd x).refs] 236 (0,0))/\a'={ tmps:=#[Value.pointer (some { block:=sb,off:=0 }),Value.pointer (some { block:=w.heap.size,off:=0 }),Value.int IntKind.i64 0,Value.pointer (some { block:=w.heap.size+1,off:=0 }),Value.pointer (some { block:=Bn,off:=0 }),undef,undef,Value.pointer (some { block:=sb,off:=0 }),Value.bool false,Value.bool false,Value.pointer (some { block:=sb,off:=0 }),Value.pointer (some { block:=sb,off:=0 }),Value.pointer (some { block:=sb,off:=4 }),Value.int IntKind.i64 ↑d.dead,Value.bool false,Value.bool false,Value.pointer (some { block:=sb,off:=0 }),Value.pointer (some { block:=sb,off:=0 }),Value.pointer (some { block:=sb,off:=1 }),Value.pointer (some { block:=s.pb,off:=0 }),Value.func (Fn.func 209) #[] #[Value.pointer (some { block:=w.heap.size+2,off:=0 })],Am (d.pool.nd x),undef,undef,undef,undef,undef,undef,undef,undef,undef,undef,undef,undef,undef,undef,undef,undef,undef,undef,undef,undef,undef,undef,undef,undef,undef,undef,undef,undef,undef,undef,undef,undef,undef,undef,undef,undef,undef,undef,undef,undef,undef,undef,undef,undef,undef],defers:=[] }) ?_ ?_ ?_ ?_
 ·rintro pre M W ⟨v,oG,hS⟩ k hk;rcases(hS.mm k).1 hk with rfl|rfl|hg
  . exact⟨WM _,(WL.1 hS.boxs).1⟩
  . exact⟨by omega,(WL.1 hS.boxg).1⟩
  . have:=(hS.ge k _ hg).2;exact⟨by omega,hS.lt k _ hg⟩
 . rintro pre M W W' ⟨v,oG,hS⟩ hw;exact⟨v,oG,hS.minds hw⟩
 . rintro x a' W W1 W2 l hl ⟨Bn,h1,h2,h3⟩ hw;exact⟨Bn,h1,(hw.keep Bn (WL.1 h2).1 (by omega)).trans h2,h3⟩
 ·intro l pre x M W K hI hK;simp only[Am]
  gi_wp2
  exact hK _ _ ((Wr.refl _ W).alloc _) ⟨W.heap.size,WM _,WN W _,rfl⟩
 ·rintro l pre x a' M W0 W ⟨v,oG,hS⟩ ⟨Bn,kn,h9,rfl⟩ hU hs1 g9;obtain⟨suf,g9⟩:=g9;have hx:d.pool.tk x=true:=Lc g9;have go:=gh.o.below g7.o hS.low;obtain⟨q0,q1,q2,q3,q4,_⟩:=cells5 go.blk;obtain⟨n0,n1,n2,n3,n4,_⟩:=cells5 h9;have hid:=go.pool.id x hx;rw[hid] at n0;have gg:Aa d x=some (bnOf (d.pool.nd x)):=by unfold Aa Ad.get;rw[WR hx];rfl
  have gB:x<d.counts.length:=HK.o.live.has x _ gg;obtain⟨gc,cc,gT,_⟩:=go.counts.shape (by omega);have gl:=go.counts;rw[gT] at gl q3;have h7:=gl.cell x (by simpa using gB);have gC:(d.counts.map nat64)[x]?=some (.int .i64 (Aj d x:Nat)):=by
   rw[XC,WS gB];simp[nat64,Aj,List.getD,gB]
  rw[gC] at h7;have kf:(x:Int)<d.counts.length:=by omega
  have cb:=cell1 hS.boxs;have cg:=cell1 hS.boxg;have HS:=Hd hS;have kp:=Hd h9;have hG:=Hd g9;have ka:=Hd hid;have kj:prog.follows .mixedOrders=true:=by kernel_rfl
  clear go gl gC gT g9 hS hid gg
  by_cases hc:Aj d x=0
  ·rw[hc] at h7;have gk:(Bt d pre).length<1000000000:=by
    have h1:=gh.o.below g7.o HS.o.low;have h2:=h1.pool.top;have h3:=h1.pool.room;have h4:(Bt d pre).length<=(B6 d.pool).length:=by rw[<- hG.o];unfold Bt;refine WU (XG _ _) ?_;simp
    have h5:(B6 d.pool).length<=d.pool.at_.length:=by unfold B6 BJ;refine WU (XG _ _) ?_;simp
    omega
   have hO:=Hd gk;have HC:=Hd hc;clear gk
   gi_wp2
   refine Lf W.drew ?_;apply Exists.intro;refine⟨?_,?_⟩
   ·gi_region_o
    all_goals exact⟨rfl,rfl,rfl⟩
   gi_wp2_with (gi_at_builtin
                rw[Gf];refine IF (wr:=W.drew) 229 236 5 40 _ underlying229 FQ rfl (by decide) rfl _ _ rfl rfl rfl rfl rfl rfl (by simp[Value.oneCell']) HS.o.drew.row HS.o.drew.lt hO.o (by decide) ?_;intro g1 k1 w1 o1 g2 g0 g3;have gs:=Hd g2;have g8:=Hd g0;have gi:=Hd g3;clear g2 g0 g3 q0 q1 q2 q3 q4 cb;have gw:=(g8.o.alien (WL.1 HS.o.boxg).1 (HS.o.no _ (by omega))).trans HS.o.boxg;have cg1:=cell1 gw;have fz:∀ k,w1.frozen? ⟨w.heap.size+1,k,none⟩=false:=fun k=>by simp[World.frozen?,gw]
                clear cg gw)
   have hF:=HS.o.drew.add HC.o (W1:=w1) (v':=.slice (some ⟨g1,0,none⟩) ((Bt d pre).length+1) k1) (by
    have e:rnV (d.pool.nd x)=[.int .i64 (x:Nat),.int .i64 (d.pool.nd x).v,.int .i64 (d.pool.nd x).lo,.int .i64 (d.pool.nd x).hi,.int .i64 (d.pool.nd x).refs]:=by unfold rnV;rw[ka.o]
    rw[e];exact gs.o) g8.o gi.o hU
   obtain⟨M',a1,a2,a3⟩:=hF;exact⟨M',a1,Wr.trans ((Wr.refl (fun _=>False) W).drew) a2 (fun _ _ e=>e.elim) (fun _ _ e=>e),a3⟩
  ·have g0:((Aj d x:Int) == 0)=false:=by simpa using hc
   gi_wp2
   refine Lf W.drew ?_;apply Exists.intro;refine⟨?_,?_⟩
   ·gi_region_o
    all_goals exact⟨rfl,rfl,rfl⟩
   gi_wp2
   exact⟨M,⟨v,oG,by have:=HS.o.drew;exact⟨this.mm,this.low,this.boxs,this.boxg,by rw[QW hc];exact this.row,this.lt,this.ge⟩⟩,(Wr.refl _ W).drew,fun k hk=>.inl hk⟩
 ·rintro D M W2 hD k0 ⟨v,oG,hS⟩ _ g6 hp;have HS:=Hd hS;have hy:=Hd hp;have cg:=cell1 hS.boxg;obtain⟨ag,cpg,rfl,_⟩:=hS.row.slice;clear hS hp k0 g6 HG hq hh g5;go_wp2_with fail;have gq:∀ k i,(AA d)[k]?=some i->∃ g,ag=some ⟨g,0,none⟩/\o g=none/\∀ j u,(rnV (d.pool.nd i))[j]?=some u->W2.cell? ⟨g,k*5+j,none⟩=some u:=by
   intro k i hi;have kk:k<(AA d).length:=(Xk.1 hi).1;obtain⟨g,cp,he,gb,_⟩:=HS.o.row.shape (by show 0<(AA d).length;omega);cases he;refine⟨g,rfl,?_,fun j u hj=>?_⟩
   . have:=(HS.o.ge g _ gb).2;exact g7.o.none (by omega)
   ·have h5:j<5:=by have:=(Xk.1 hj).1;simpa [rnV] using this
    have hf:=DL (fun i=>rnV (d.pool.nd i)) 5 (fun _=>rfl) (AA d) k j i hi h5;have gk:((AA d).flatMap fun i=>rnV (d.pool.nd i)).length=(AA d).length*5:=BP _ 5 (fun _=>rfl) _;have hc:=HS.o.row.cell (k*5+j) (by show _<((AA d).flatMap fun i=>rnV (d.pool.nd i)).length;rw[gk];omega);rw[hc];exact hf.trans hj
  have kb:=Hd gq;have gN:Hq ((Bt d (B6 d.pool)).length=(AA d).length):=Hd rfl;have gu:Hq (o w.heap.size=none/\o (w.heap.size+1)=none):=Hd ⟨g7.o.none (by omega),g7.o.none (by omega)⟩;have gj:=gh.o.below g7.o HS.o.low;have gF:Ab o W2:=g7.o.mono HS.o.low.size;have hJ:=Hd gj;have hM:=Hd gF;have gG:w.heap.size<W2.heap.size:=(WL.1 HS.o.boxs).1;have gV:w.heap.size+1<W2.heap.size:=(WL.1 HS.o.boxg).1;have hE:(Bt d (B6 d.pool)).length<=1048577:=by
   show (AA d).length<=_
   have h2:=gj.pool.top;have h3:=gj.pool.room;have h5:(AA d).length<=d.pool.at_.length:=by unfold AA B6 BJ;refine WU (XG _ _) (WU (XG _ _) ?_);simp
   omega
  clear gq cg gj gF;obtain⟨m,hm⟩:=Ex ((Bt d (B6 d.pool)).length);rw[<- hm] at hE gN ⊢;have HM:=Hd hm;clear hm
  go_loopw [37] (fun i wr=>∃ k:Nat,k<=m/\i=.int .i64 k/\Gg o W2 sb d s k wr) (fun i _=>m-(intOf i).toNat)
  case atStart=>exact⟨0,WX _,rfl,o,d,hJ.o,hM.o,Ck.start HK.o.tab,Chg.refl _ _ _⟩
  case round =>
   obtain⟨k,hk,rfl,h6⟩:=hrel;have gH:=h6;obtain⟨o1,d1,hs1,g3,g2,g0⟩:=h6
   by_cases ke:k<m
   ·obtain⟨i,hi⟩:∃ i,(AA d)[k]?=some i:=⟨_,WS (by have:=gN.o;omega)⟩;obtain⟨gx,gp⟩:=g2.at hi;obtain⟨g,hY,gb,gd⟩:=kb.o k i hi;subst hY;obtain⟨N,hN⟩:=Ex (d.pool.nd i);rw[<- hN] at gd gp;have e0:=g0.cell (gd 0 _ rfl) gb;have e1:=g0.cell (gd 1 _ rfl) gb;have e2:=g0.cell (gd 2 _ rfl) gb;have e3:=g0.cell (gd 3 _ rfl) gb;have e4:=g0.cell (gd 4 _ rfl) gb;rw[Y6] at e0;have cb:=cell1 ((g0.alien gG gu.o.1).trans HS.o.boxs);have kl:(k:Int)<m:=by omega
    obtain⟨w3,gm⟩:=Ex (wr.alloc (.cells #[.int .i64 N.id,.int .i64 N.v,.int .i64 N.lo,.int .i64 N.hi,.int .i64 N.refs] 236));obtain⟨b6,gI⟩:=Ex wr.heap.size;have g5:Bw wr w3:=by rw[gm];exact Af _ _
    have gg:w3.heap[b6]?=some (.cells #[.int .i64 N.id,.int .i64 N.v,.int .i64 N.lo,.int .i64 N.hi,.int .i64 N.refs] 236 (0,0)):=by rw[gm,gI];exact WN _ _
    have hA:o1 b6=none:=g3.none (by omega);have hL:Hq (o1 w.heap.size=none):=Hd (g0.alien' gG gu.o.1);have k4:Hq (_=w3):=Hd gm.symm;have kd:Hq (_=b6):=Hd gI.symm;have HN:=Hd hN;have hid:N.id=i:=by rw[<- gp];exact hs1.pool.id i gx
    have ha:Aa d1 i=some ⟨N.v,N.lo,N.hi⟩:=by unfold Aa Ad.get;rw[WR gx,gp];rfl
    have hv:N.v<d1.vars.length:=by rw[g2.vars];exact HK.o.dag.var i ⟨N.v,N.lo,N.hi⟩ (by unfold Aa Ad.get;rw[WR (ID ((Xk.1 hi).2 ▸ Xp _)).1,<- hN];rfl)
    have gZ:d1.tab N.v (N.lo,N.hi)=some i:=(g2.tab N.v (by rw[<- g2.vars];exact hv) _ _ _).2 ha;have ga:=hs1.below g3 g5;have gz:=g3.mono g5.size;obtain⟨gt,ct,gR,hX,gS,kg⟩:=ga.tabAt hv;obtain⟨q0,q1,q2,q3,q4,_⟩:=cells5 ga.blk;rw[gR] at q2;obtain⟨n0,n1,n2,n3,n4,_⟩:=cells5 gg;have cb3:=Cq g5 cb;have hR:(N.v:Int)<s.ts.length:=by omega
    have hQ:=Hd (Ku o1 N.v (s.ts.getD N.v 0) (d1.tab N.v) N.lo N.hi i w3.drew ((ga.below gz (Ap w3 1)).tab N.v gS) (gz.mono (Ap w3 1).size) gZ);have gA:=Hd hs1;have gi:=Hd g3;have gs:=Hd g2;have g8:=Hd g0;have HI:=Hd hi;have k8:=Hd gp;have hz:=Hd g5;have ko:=Hd gg;have k5:=Hd gx;have hP:=Hd hid;have hH:=Hd ga;have hu:=Hd gz;clear gd gH hs1 g3 g2 g0 hi gp g5 gg gx hid ha hv gZ ga gz gR gm gI hN gS;go_upto_region 11 with fail;rw[k4.o,kd.o];refine AR (fun W:Wd=>W=w3.drew) true 12 [(0,false),(1,false),(2,false),(3,false),(4,false),(5,false),(6,false),(7,false),(8,false),(9,false),(10,false),(11,false),(12,true)] (by kernel_rfl) (by kernel_rfl) rfl ?_;simp only[planned,AQ]
    iterate 12
     refine A3 rfl ?_;apply Exists.intro;refine⟨fun w' hw=>?_,?_⟩
     . subst hw;go_simp;rfl
     simp only[Ac]
    refine E2 rfl (by go_simp) (hQ.o.mono (R':=fun e w'=>∃ v,e=.returned v/\(v=.int .i64 0/\AJ o1 w' N.v (s.ts.getD N.v 0) (putF (d1.tab N.v) (N.lo,N.hi) none)/\Chg (· = .tmap N.v) o1 o1 w3.drew w'/\Ab o1 w')) (fun e w' h=>⟨_,h.1,rfl,h.2⟩)) ?_;rintro _ w4 ⟨rfl,gD,gr,gy⟩;simp only[Ac];refine Cj ?_;have gv:=(hH.o.below hu.o (Ap w3 1)).setTab (hu.o.mono (Ap w3 1).size) gD gr;have cb4:=gr.cell (w:=w3.drew) (p:=⟨w.heap.size,0,none⟩) cb3 (hL.o);have n0':=gr.cell (w:=w3.drew) (p:=⟨b6,0,none⟩) n0 hA;obtain⟨p0,p1,p2,p3,p4,_⟩:=cells5 gv.blk;rw[hP.o] at n0';have gQ:=Hd (Pb o1 s.pb d1.pool i w4.drew (gv.below gy (Ap w4 1)).pool (gy.mono (Ap w4 1).size) k5.o);have k6:=Hd gD;have kc:=Hd gr;have k9:=Hd gy;clear gD gr gy gv n0 n1 n2 n3 n4 q0 q1 q2 q3 q4 cb3 cb e0 e1 e2 e3 e4 hX hR;go_upto_region 12 with fail;refine AR (fun W:Wd=>W=w4.drew) true 6 [(0,false),(1,false),(2,false),(3,false),(4,false),(5,false),(6,true)] (by kernel_rfl) (by kernel_rfl) rfl ?_;simp only[planned,AQ]
    iterate 6
     refine A3 rfl ?_;apply Exists.intro;refine⟨fun w' hw=>?_,?_⟩
     . subst hw;go_simp;rfl
     simp only[Ac]
    refine E2 rfl (by go_simp) (gQ.o.mono (R':=fun e w'=>∃ v,e=.returned v/\(v=.int .i64 0/\∃ o',Aq o' w' s.pb (d1.pool.give i)/\Chg (fun r=>r=.pool\/r=.slots\/r=.taken\/r=.free) o1 o' w4.drew w'/\Ab o' w')) (fun e w' h=>⟨_,h.1,rfl,h.2⟩)) ?_;rintro _ w5 ⟨rfl,o2,gU,h8,gX⟩;simp only[Ac];refine Cj ?_;have k7:=Hd (Gg.next gA.o gi.o gs.o g8.o HI.o k8.o (hz.o.trans ((Ap w3 1).mono hz.o.size)) k6.o kc.o k9.o (Ap w4 1) gU h8 gX);clear gU h8 gX p0 p1 p2 p3 p4 cb4 n0' gV;go_wp2_with fail;go_roundw
    case rel=>exact⟨k+1,by omega,by go_num,k7.o⟩
    case measure=>simp[intOf];omega
   ·obtain rfl:k=m:=by omega
    have hb:=(g0.alien gG gu.o.1).trans HS.o.boxs;have gY:=(g0.alien gV gu.o.2).trans HS.o.boxg;have cb:=cell1 hb;have cg:=cell1 gY;obtain⟨q0,q1,q2,q3,q4,qf⟩:=cells5 hs1.blk;have gA:=Hd hs1;have gi:=Hd g3;have gs:=Hd g2;have g8:=Hd g0;have kh:sb≠w.heap.size+1:=fun e=>by have h1:=gu.o.2;have h2:=gh.o.own;rw[e] at h2;rw[h1] at h2;cases h2
    clear gH hs1 g3 g2 g0 hb gY;go_wp2_with fail;have gL:o D=none:=g7.o.none (by omega);have ho:D<W2.heap.size:=(WL.1 hy.o).1;have hZ:=(g8.o.alien ho gL).trans hy.o;have k3:o1 D=none:=g8.o.alien' ho gL;have hT:D≠sb:=by rintro rfl;have:=gh.o.own;rw[gL] at this;cases this
    have hW:k=(AA d).length:=gN.o;refine⟨by simp,.inl ⟨D,_,rfl,run_takeDeferred ((Aw hT _).trans hZ),?_⟩⟩;have hC:Ao o1 (wr.setCell ⟨sb,4,none⟩ (.int .i64 0)) sb (d1.cd d1.counts 0) s:=gA.o.setDead gi.o 0;have gP:AC d (d1.cd d1.counts 0):=(hW ▸ gs.o:Ck d (AA d).length d1).done HK.o.live (fun i hi=>(gh.o.pool.tk_lt hi).2);have gO:Ay o1 ((wr.setCell ⟨sb,4,none⟩ (.int .i64 0)).putObj D (.deferred none)) sb (d1.cd d1.counts 0) :=
     Ay.keepR ⟨s,hC⟩ (fun g r hg _=>XF (by rintro rfl;rw[k3] at hg;cases hg)) (fun _ _ h=>h)
    refine⟨_,results_tmp rfl _ _ _,?_,o1,_,gO,gi.o.mono (by simp[World.setCell]),gP,?_⟩
    ·show Ending.returned (.int .i64 ((Bt d (B6 d.pool)).length:Nat))=_
     have:(Bt d (B6 d.pool)).length=d.dead:=Le HK.o.live;rw[this]
    . have hc:=(Chg.of_below HS.o.low Al o).trans (g8.o.setCell (p:=⟨sb,4,none⟩) (r:=.store) gA.o.own (.inl rfl) (.int .i64 0));exact⟨hc.os,hc.tape,hc.output,by have:=hc.size;simpa [World.setCell] using this,fun k hk hr=>(XF (by omega)).trans (hc.block k hk hr),hc.ext,hc.new⟩
structure ChgX (C:Nat->Prop)(o o':Own)(w w':Wd):Prop where
 os:w'.os=w.os
 tape:w'.tape=w.tape
 output:w'.output=w.output
 size:w.heap.size<=w'.heap.size
 block:∀ k,k<w.heap.size->o k=none->¬ C k->w'.heap[k]?=w.heap[k]?
 ext:∀ k r,o k=some r->o' k=some r
 new:∀ k,o' k≠o k->w.heap.size<=k
abbrev NoB:Nat->Prop:=fun _=>False
section
variable {D:Nat->Prop}{o:Own}
theorem ChgX.of_chg (h:Chg R o o' w w')(C:Nat->Prop):ChgX C o o' w w':=⟨h.os,h.tape,h.output,h.size,fun _ hk ho _=>h.alien hk ho,h.ext,fun k hk=>(h.new k hk).1⟩
theorem ChgX.of_wr (h:Wr D w w')(o:Own)(hD:∀ k,k<w.heap.size->D k->C k):ChgX C o o w w':=⟨h.os,h.tape,h.output,h.size,fun k hk _ hc=>h.keep k hk (fun e=>hc (hD k hk e)),fun _ _ h=>h,fun _ h=>(h rfl).elim⟩
theorem ChgX.of_below (h:Bw w w')(o:Own)(C:Nat->Prop):ChgX C o o w w':=ChgX.of_wr (Wr.of_below h NoB) o (fun _ _ h=>h.elim)
theorem ChgX.none' (h:ChgX C o o' w w')(hk:k<w.heap.size)(ho:o k=none):o' k=none:=by
 by_cases e:o' k=o k
 . rw[e];exact ho
 . have:=h.new k e;omega
theorem ChgX.trans (h:ChgX C o o' w w')(h':ChgX D o' o'' w' w'')(hD:∀ k,k<w.heap.size->D k->C k):ChgX C o o'' w w'':=by
 refine⟨h'.os.trans h.os,h'.tape.trans h.tape,h'.output.trans h.output,WU h.size h'.size,fun k hk ho hc=>?_,fun k r hr=>h'.ext k r (h.ext k r hr),fun k hk=>?_⟩
 . exact(h'.block k (Xh hk h.size) (h.none' hk ho) (fun e=>hc (hD k hk e))).trans (h.block k hk ho hc)
 ·by_cases e:o' k=o k
  . have:=h'.new k (by rw[e];exact hk);exact WU h.size this
  . exact h.new k e
theorem ChgX.cell (h:ChgX C o o' w w'){p:Addr}{v:Value}(hc:w.cell? p=some v)(hb:o p.block=none)(hn:¬ C p.block):w'.cell? p=some v :=
 (Xz (w:=w) (h.block p.block (YE w p hc) hb hn)).trans hc
theorem ChgX.below0 (h:ChgX NoB (fun _=>none) o w w'):Bw w w':=⟨h.os,h.tape,h.output,h.size,fun k hk=>h.block k hk rfl (fun e=>e)⟩
theorem ChgX.lower (h:ChgX C (fun _=>none) o w w')(h':ChgX D o o' w' w'')(hD:∀ k,D k->w.heap.size<=k):ChgX C (fun _=>none) o' w w'':=h.trans h' (fun k hk e=>by have:=hD k e;omega)
end
structure Bu (C:Nat->Prop)(K:Law)(o:Own)(w:Wd)(mb:Nat)(m:ManD)(V:Nat->BF)(o':Own)(w':Wd)(m':ManD)(V':Nat->BF):Prop where
 is:A9 (K m'.d V') o' w' mb m'
 lt:Ab o' w'
 chg:ChgX C o o' w w'
 ok:Ai m'.d V'
 ext:Ext m.d V m'.d V'
 hs:m'.hs=m.hs
 next:m'.next=m.next
theorem Step.toX {o:Own}(h:Step K o w mb m V o' w' m' V')(C:Nat->Prop):Bu C K o w mb m V o' w' m' V':=⟨h.is,h.lt,ChgX.of_chg h.chg C,h.ok,h.ext,h.hs,h.next⟩
abbrev Zf:=@List.length_eq_zero_iff
theorem QX (h:Ca m)(ext:Ext m.d V m'.d V')(ok:Ai m'.d V')(e1:m'.hs=m.hs)(e2:m'.next=m.next):Ca m':=by
 refine⟨by rw[e1];exact h.nodup,by rw[e1];exact h.zero,by rw[e1];exact h.one,by rw[e1,e2];exact h.lt,by rw[e2];exact h.next,fun p hp=>?_,by rw[e1,e2];exact h.len,fun i b hb=>?_⟩
 . rw[e1] at hp;exact ext.ok (h.ok p hp)
 ·rw[e1];cases hn:Aa m.d i with
  | some b0=>rw[ext.ext i b0 hn];exact h.refs i b0 hn
  | none =>
    rw[ext.ext0 i hn];have hi:i≠0:=by rintro rfl;rw[ok.dag.none0] at hb;cases hb
    have:AK m.hs i=0:=by
     unfold AK;rw[Zf,List.filter_eq_nil_iff];intro p hp;have ho:=h.ok p hp;simp only[Xq,XD,beq_iff_eq,not_and];rintro _ rfl;rcases ho with h0|⟨b1,g0⟩
     . exact hi h0
     . rw[hn] at g0;cases g0
    rw[this];rfl
structure SatE (K:Law)(n:Nat)(Od:List Nat->Prop)(room:Nat)(w0:Wd)(mb:Nat)(fs:List (Int×BF))(nx:Int)(w:Wd)(o:Own)(m:ManD)(V:Nat->BF):Prop where
 is:A9 (K m.d V) o w mb m
 lt:Ab o w
 ok:Ew m V
 vars:m.d.vars.length=n
 od:Od m.d.vars
 room:m.d.pool.room=room
 next:m.next=nx
 hs:m.hs.map (fun p=>(p.1,ef V p.2))=fs
 chg:ChgX NoB (fun _=>none) o w0 w
section
variable {o:Own}
theorem SatE.find (h:SatE K n Od room w0 mb fs nx w o m V){k:Int}(hk:(k,F)∈fs):∃ f,(k,f)∈m.hs/\ef V f=F:=by
 rw[<- h.hs] at hk;obtain⟨p,hp,e⟩:=WW.1 hk;cases e;exact⟨p.2,hp,rfl⟩
theorem SatE.none0 (h:SatE K n Od room w0 mb fs nx w o m V)(hk:k<w0.heap.size):o k=none:=h.chg.none' hk rfl
theorem Li {hs:List (Int×Nat)}(hok:∀ p∈hs,okE (Aa d) p.2)(hv:∀ i,(i=0\/∃ b,Aa d i=some b)->V' i=V i):hs.map (fun p=>(p.1,ef V' p.2))=hs.map (fun p=>(p.1,ef V p.2)):=by
 refine List.map_congr_left fun p hp=>?_
 have e:ef V' p.2=ef V p.2:=by
  funext ρ;unfold ef;rw[hv (p.2/2) (hok p hp)]
 rw[e]
theorem SatE.withOd {Od':List Nat->Prop}(h:SatE K n Od room w0 mb fs nx w o m V)(hO:Od' m.d.vars):SatE K n Od' room w0 mb fs nx w o m V :=
 ⟨h.is,h.lt,h.ok,h.vars,hO,h.room,h.next,h.hs,h.chg⟩
theorem SatE.step (h:SatE K n Od room w0 mb fs nx w o m V)(s:Bu C K o w mb m V o' w' m' V')(hC:∀ k,C k->w0.heap.size<=k):SatE K n Od room w0 mb fs nx w' o' m' V' :=
 ⟨s.is,s.lt,⟨s.ok,QX h.ok.handles s.ext s.ok s.hs s.next⟩,by rw[s.ext.vars];exact h.vars,by rw[s.ext.vars];exact h.od,by rw[s.ext.room];exact h.room,s.next.trans h.next,
  by rw[s.hs,Li h.ok.handles.ok s.ext.val];exact h.hs,h.chg.lower s.chg hC⟩
theorem SatE.other (h:SatE K n Od room w0 mb fs nx w o m V)(hx:Wr C w w')(hC:∀ k,k<w.heap.size->C k->w0.heap.size<=k/\o k=none):SatE K n Od room w0 mb fs nx w' o m V:=by
 obtain⟨s,hm⟩:=h.is;refine⟨⟨s,hm.keep (fun g r hg=>hx.keep g (h.lt g r hg) (fun e=>?_)) (fun _ _ h=>h)⟩,h.lt.mono hx.size,h.ok,h.vars,h.od,h.room,h.next,h.hs,h.chg.trans (ChgX.of_wr (C:=fun k=>w0.heap.size<=k) hx o (fun k hk e=>(hC k hk e).1)) (fun k hk e=>by omega)⟩;have:=(hC g (h.lt g r hg) e).2;rw[hg] at this;cases this
theorem SatE.below (h:SatE K n Od room w0 mb fs nx w o m V)(hb:Bw w w'):SatE K n Od room w0 mb fs nx w' o m V:=h.other (Wr.of_below hb NoB) (fun _ _ e=>e.elim)
theorem SatE.gave (h:SatE K n Od room w0 mb fs nx w o m V){r:Nat}(g:Gave K o w mb m V r o' w' m'):SatE K n Od room w0 mb (fs++[(nx,ef V r)]) (nx+1) w' o' m' V :=
 ⟨g.is,g.lt,g.ok,by rw[g.vars];exact h.vars,by rw[g.vars];exact h.od,by rw[g.room];exact h.room,by rw[g.next,h.next],by rw[g.hs,Xl,h.hs,<- h.next];rfl,h.chg.lower (ChgX.of_chg g.chg NoB) (fun _ e=>e.elim)⟩
abbrev Zl:=@List.length_pos_of_mem
theorem IG (h:Ca m)(hk:Ai m.d V)(r:AC m.d d'):Ca { m with d:=d' }:=by
 have g1:∀ p∈m.hs,okE (Aa d') p.2:=by
  intro p hp;rcases h.ok p hp with h0|⟨b,hb⟩
  . exact .inl h0
  ·by_cases h1:1<p.1
   ·refine .inr ⟨b,?_⟩;rw[r.nodes,WR]
    . exact hb
    ·refine hk.live.cnt.pos_of_ext hb ?_;rw[h.refs _ _ hb];have:0<AK m.hs (p.2/2):=by
      unfold AK;refine Zl (XT.2 ⟨hp,?_⟩);simp[h1]
     omega
   ·refine .inl ?_;have g2:=h.lt p hp;have hu:∀ q∈m.hs,q.1=p.1->q=p:=by
     intro q hq e;have g0:=h.nodup;have h1:=Dx (l:=encH m.hs) (Ez g0) (WW.2 ⟨q,hq,rfl⟩);have h2:=Dx (l:=encH m.hs) (Ez g0) (WW.2 ⟨p,hp,rfl⟩);rw[e,h2] at h1;have e2:(p.2:Int)=(q.2:Int):=by injection h1 with h1;injection h1
     exact Prod.ext e (by omega)
    rcases(by omega:p.1=0\/p.1=1) with e|e
    . rw[<- hu _ h.zero e.symm];rfl
    . rw[<- hu _ h.one e.symm];rfl
 exact⟨h.nodup,h.zero,h.one,h.lt,h.next,g1,h.len,fun i b hb=>by rw[r.ext i b hb];exact h.refs i b (r.sub hb).1⟩
end
theorem wclear {o:Own}{s:ManW}(h:SatE K n Od room w0 mb fs nx w o m V)(hs:A2 (K m.d V) o w mb m s)(G:Phi) :
 Calls prog 164 #[Pt s.me] w fun x w'=>x=.returned (.tuple #[])/\A2 G o w' mb m s/\Chg (· = .entries) o o w w'/\Ab o w':=by
 refine(Py o s.me (K m.d V) G w hs.memo h.lt).mono ?_;rintro x w' ⟨h1,h2,h3,h4⟩;exact⟨h1,hs.setMemo h.lt h2 (h3.mono fun r e=>.inr e),h3,h4⟩
theorem Lj {o:Own}(h:SatE K n Od room w0 mb fs nx w o m V) :
 Calls prog 174 #[Pt mb] w fun x w'=>x=.returned (.int .i64 m.d.dead)/\∃ o' d',SatE K n Od room w0 mb fs nx w' o' { m with d:=d' } V/\AC m.d d'/\Chg (fun _=>True) o o' w w':=by
 obtain⟨s,hs⟩:=h.is;obtain⟨c0,c1,c2,c3,c4,c5,f0⟩:=cells6 hs.blk;have HC:Hq (∀ w1,A2 (fun _ _ _ _ _=>False) o w1 mb m s/\Chg (· = .entries) o o w w1/\Ab o w1->Calls prog 185 #[Pt s.sb] w1 fun x w'=>x=.returned (.int .i64 m.d.dead)/\∃ o' d',SatE K n Od room w0 mb fs nx w' o' { m with d:=d' } V/\AC m.d d'/\Chg (fun _=>True) o o' w w'):=by
  refine Hd ?_;rintro w1 ⟨g1,g2,g3⟩;have fin:∀ o' w' d',A2 (fun _ _ _ _ _=>False) o' w' mb { m with d:=d' } s->Ab o' w'->AC m.d d'->Chg Al o o' w1 w'->∃ o' d',SatE K n Od room w0 mb fs nx w' o' { m with d:=d' } V/\AC m.d d'/\Chg (fun _=>True) o o' w w':=by
   intro o' w' d' a1 a2 a3 a4;have hc:Chg (fun _=>True) o o' w w':=g2.any.trans a4.any;refine⟨o',d',⟨⟨s,a1.mono fun _ _ _ _ _ e=>e.elim⟩,a2,⟨a3.ok h.ok.store,IG h.ok.handles h.ok.store a3⟩,by dsimp only;rw[a3.vars];exact h.vars,by dsimp only;rw[a3.vars];exact h.od,by dsimp only;rw[a3.room];exact h.room,h.next,h.hs,h.chg.lower (ChgX.of_chg hc NoB) (fun _ e=>e.elim)⟩,a3,hc⟩
  by_cases h0:m.d.dead=0
  . refine(Lg g1.store h0).mono ?_;rintro x w' ⟨rfl,hb⟩;exact⟨by rw[h0];rfl,fin o w' m.d (g1.below g3 hb) (g3.mono hb.size) (AC.none h.ok.store h0) (Chg.of_below hb _ _)⟩
  . refine(Lh g1.store g3 h.ok.store h0).mono ?_;rintro x w' ⟨rfl,o',d',b1,b2,b3,b4⟩;exact⟨rfl,fin o' w' d' (g1.setStore g3 b1 b4) b2 b3 b4⟩
 have g0:=Hd (wclear h hs (fun _ _ _ _ _=>False));clear h hs
 delta Pt;go_enter func174,ntmps174
 go_wp2_with fail;refine g0.o.mono ?_;rintro x w1 ⟨rfl,g1,g2,g3⟩;obtain⟨d0,d1,d2,d3,d4,d5,f1⟩:=cells6 g1.blk;have g4:=Hd (HC.o w1 ⟨g1,g2,g3⟩);clear g1 g2 g3 c0 c1 c2 c3 c4 c5 f0 g0 HC;go_wp2_with fail;refine g4.o.mono ?_;rintro x w2 ⟨rfl,hq⟩;have HQ:=Hd hq;clear hq;go_wp2_with fail;go_ret;exact⟨rfl,HQ.o⟩
def HapG (K:Law)(n:Nat)(Od:List Nat->Prop)(room:Nat)(w0:Wd)(mb:Nat)(fs:List (Int×BF))(nx:Int)(ev:Ev):Prop :=
 ∀ (o:Own) (W:Wd) (m:ManD) (V:Nat->BF),SatE K n Od room w0 mb fs nx W o m V->Calls prog 173 #[Pt mb,evA ev] W fun x w'=>x=.returned (.tuple #[]) /\
  ∃ o' m' V',SatE K n Od room w0 mb fs nx w' o' m' V'/\m'.waits=m.waits/\m'.calls=m.calls/\(m'.d.pool.many<=m.d.pool.many\/m'.d.pool.many<=fs.length*2^n)/\ChgX NoB o o' W w'
def StE (K:Law)(n:Nat)(Od:List Nat->Prop)(room:Nat)(w0:Wd)(mb:Nat)(fs:List (Int×BF))(nx:Int)(St:ManD->Prop)(m':ManD):Prop :=
 ∀ (o:Own) (W:Wd) (m:ManD) (V:Nat->BF),SatE K n Od room w0 mb fs nx W o m V->m.waits=m'.waits->m.calls=m'.calls->(m.d.pool.many<=m'.d.pool.many\/m.d.pool.many<=fs.length*2^n)->St m
def OpG (K:Law)(n:Nat)(Od:List Nat->Prop)(room:Nat)(w0:Wd)(mb:Nat)(fs:List (Int×BF))(nx:Int)(C:Nat->Prop)(B:Wd->Prop)(St:ManD->Prop)(gop:Nat)(lop:Array Value)(Q:Wd->ManD->(Nat->BF)->Nat->Prop)(E:Int->ManD->ManD->Prop):Prop :=
 ∀ (o:Own) (W:Wd) (m:ManD) (V:Nat->BF) (xb:Nat),SatE K n Od room w0 mb fs nx W o m V->B W->(∀ k,C k->k<W.heap.size/\o k=none)->St m->AH o W xb mb->¬ C xb ->
  Calls prog gop (#[.pointer (some ⟨xb,0,none⟩)]++lop) W fun e w'=>∃ (o':Own) (m':ManD) (V':Nat->BF),Bu C K o W mb m V o' w' m' V'/\B w' /\
   ((∃ r:Nat,e=.returned (.int .i64 r)/\okE (Aa m'.d) r/\Q w' m' V' r) \/
    (∃ er:Int,e=Au er false ev0/\er≠0/\m'.waits=m.waits/\St m'/\E er m m') \/
    (∃ ev,e=Au 0 true ev/\m.waits=ev::m'.waits/\StE K n Od room w0 mb fs nx St m'/\HapG K n Od room w0 mb fs nx ev))
theorem QY (gop:Nat)(lop:Array Value)(W:Wd)(xb ob fb:Nat)(R:Nat->Wd->Prop)(R2:Int->Bool->Ev->Wd->Prop)(eg:∀ args w,(callFunc gop args).run prog w=.ok (.enter gop args) w)
 (hob:W.cell? ⟨ob,0,none⟩=some (.func (.func gop) #[] lop)) (hop:Calls prog gop (#[.pointer (some ⟨xb,0,none⟩)]++lop) W fun e w'=>(∃ r:Nat,e=.returned (.int .i64 r)/\R r w'/\(∃ z:Int,w'.cell? ⟨fb,0,none⟩=some (.int .i64 z))/\w'.frozen? ⟨fb,0,none⟩=false) \/
  ∃ er evt ev,e=Au er evt ev/\R2 er evt ev w') :
 Calls prog 154 #[Pt xb,Pt ob,Pt fb] W fun e w'=>(e=.returned (.tuple #[])/\∃ r w1,R r w1/\w'=w1.setCell ⟨fb,0,none⟩ (.int .i64 (r:Nat)))\/∃ er evt ev,e=Au er evt ev/\R2 er evt ev w':=by
 have g0:=Hd hop;clear hop
 delta Pt;go_enter func154,ntmps154
 go_wp2_with fail;refine g0.o.mono ?_;rintro e w' (⟨r,rfl,hr,⟨z,hc⟩,hf⟩|⟨er,evt,ev,rfl,hr⟩)
 . have HR:=Hd hr;clear hr;go_wp2_with fail;go_end0;exact .inl ⟨rfl,r,w',HR.o,rfl⟩
 . have HR:=Hd hr;clear hr;unfold Au;go_wp2_with fail;exact⟨rfl,.inr ⟨er,evt,ev,rfl,HR.o⟩⟩
structure RunI (K:Law)(n:Nat)(Od:List Nat->Prop)(room:Nat)(w0:Wd)(mb:Nat)(fs:List (Int×BF))(nx:Int)(C:Nat->Prop)(B:Wd->Prop)(St:ManD->Prop)(gop:Nat)(lop:Array Value)(o0:Own)(w:Wd)(k:Nat)(full:Bool)(W:Wd)(o:Own)(m:ManD)(V:Nat->BF):Prop where
 sat:SatE K n Od room w0 mb fs nx W o m V
 bok:B W
 st:St m
 len:m.waits.length=k
 cok:∀ c,C c->c<w.heap.size/\o c=none
 chg:ChgX C o0 o w W
 size:w.heap.size+2<=W.heap.size
 obn:o w.heap.size=none
 fbn:o (w.heap.size+1)=none
 ob:W.heap[w.heap.size]?=some (.cells #[.func (.func gop) #[] lop] 177 (0,0))
 fb:∃ z:Int,W.heap[w.heap.size+1]?=some (.cells #[.int .i64 z] 113 (0,0))
 clean:full=true->m.d.dead=0
def RunF (K:Law)(n:Nat)(Od:List Nat->Prop)(room:Nat)(w0:Wd)(mb:Nat)(fs:List (Int×BF))(nx:Int)(C:Nat->Prop)(B:Wd->Prop)(Q:Wd->ManD->(Nat->BF)->Nat->Prop)(E:Int->ManD->ManD->Prop)(o0:Own)(w:Wd)(er:Int)(W:Wd):Prop :=
 ∃ o m V,SatE K n Od room w0 mb fs nx W o m V/\B W/\ChgX C o0 o w W/\w.heap.size+2<=W.heap.size/\o (w.heap.size+1)=none /\
  ((er=0/\∃ r:Nat,okE (Aa m.d) r/\Q W m V r/\W.heap[w.heap.size+1]?=some (.cells #[.int .i64 r] 113 (0,0))) \/
   (er≠0/\∃ m0:ManD,E er m0 m/\(er=7->m0.d.dead=0)))
theorem QZ {B:Wd->Prop}{St:ManD->Prop}{Q:Wd->ManD->(Nat->BF)->Nat->Prop}{E:Int->ManD->ManD->Prop}
 (hB:∀ W W',B W->(∀ c,C c->W'.heap[c]?=W.heap[c]?)->B W') (hQ:∀ W W' m V r,Q W m V r->(∀ c,C c->W'.heap[c]?=W.heap[c]?)->Q W' m V r) (hSt:∀ (m:ManD) (d:Ae),St m->AC m.d d->St { m with d:=d }) (hC0:∀ c,C c->w0.heap.size<=c) (eg:∀ args w,(callFunc gop args).run prog w=.ok (.enter gop args) w)
 (hop:OpG K n Od room w0 mb fs nx C B St gop lop Q E) {o:Own} {w:Wd} {m:ManD} {V:Nat->BF} (h:SatE K n Od room w0 mb fs nx w o m V) (hb:B w) (hC:∀ c,C c->c<w.heap.size/\o c=none) (hst:St m) :
 Calls prog 141 #[Pt mb,.func (.func 154) #[] #[Pt w.heap.size,Pt (w.heap.size+1)]] (doW gop lop w) fun x w'=>∃ er,x=.returned (.int .i64 er)/\RunF K n Od room w0 mb fs nx C B Q E o w er w':=by
 have hz:(doW gop lop w).heap.size=w.heap.size+2:=by simp[doW]
 have gh:Bw w (doW gop lop w):=(Af w _).alloc (by simp) _;have gr:(doW gop lop w).heap[w.heap.size+1]?=some (.cells #[.int .i64 0] 113 (0,0)):=by
  have:=WN (w.alloc (.cells #[.func (.func gop) #[] lop] 177)) (.cells #[.int .i64 0] 113);rw[WV] at this;exact this
 have gp:(doW gop lop w).heap[w.heap.size]?=some (.cells #[.func (.func gop) #[] lop] 177 (0,0)):=(WT _ _ (by simp)).trans (WN w _);have hw0:=h.chg.size;have gf:RunI K n Od room w0 mb fs nx C B St gop lop o w m.waits.length false (doW gop lop w) o m V :=
  ⟨h.below gh,hB _ _ hb (fun c hc=>gh.block c (hC c hc).1),hst,rfl,hC,ChgX.of_below gh o C,by omega,h.lt.none (WM _),h.lt.none (by omega),gp,⟨0,gr⟩,by simp⟩
 have g8:∀ {k full W W' o1 m1 V1},RunI K n Od room w0 mb fs nx C B St gop lop o w k full W o1 m1 V1->∀ {s:Nat},w.heap.size+2<=s->o1 s=none->o1 (s+1)=none->Ali s W W'->RunI K n Od room w0 mb fs nx C B St gop lop o w k full W' o1 m1 V1:=by
  intro k full W W' o1 m1 V1 hi s hs n0 n1 a;have gi:=hi.size;have hk:∀ k,k<w.heap.size+2->W'.heap[k]?=W.heap[k]?:=fun k hk=>a.keep k (by omega) (by omega)
  refine⟨hi.sat.other a (fun k _ e=>?_),hB _ _ hi.bok (fun c hc=>hk c (by have:=(hi.cok c hc).1;omega)),hi.st,hi.len,hi.cok,hi.chg.trans (ChgX.of_wr (C:=fun k=>w.heap.size<=k) a o1 (fun k _ e=>by omega)) (fun k hk e=>by omega),WU hi.size a.size,hi.obn,hi.fbn,(hk _ (by omega)).trans hi.ob,?_,hi.clean⟩
  ·rcases e with rfl|rfl
   . exact⟨by omega,n0⟩
   . exact⟨by omega,n1⟩
  . obtain⟨z,hz⟩:=hi.fb;exact⟨z,(hk _ (by omega)).trans hz⟩
 have ge:∀ {k full full' W W' o1 m1 V1 o2 m2 V2},RunI K n Od room w0 mb fs nx C B St gop lop o w k full W o1 m1 V1->SatE K n Od room w0 mb fs nx W' o2 m2 V2->ChgX NoB o1 o2 W W'->m2.waits=m1.waits->St m2->(full'=true->m2.d.dead=0)->RunI K n Od room w0 mb fs nx C B St gop lop o w k full' W' o2 m2 V2:=by
  intro k full full' W W' o1 m1 V1 o2 m2 V2 hi gl hc e1 e2 e3;have gi:=hi.size;obtain⟨z,hz⟩:=hi.fb
  exact⟨gl,hB _ _ hi.bok (fun c ga=>hc.block c (by have:=(hi.cok c ga).1;omega) (hi.cok c ga).2 (fun e=>e)),e2,by rw[e1];exact hi.len,fun c ga=>⟨(hi.cok c ga).1,hc.none' (by have:=(hi.cok c ga).1;omega) (hi.cok c ga).2⟩,
   hi.chg.trans hc (fun _ _ e=>e.elim),WU hi.size hc.size,hc.none' (by omega) hi.obn,hc.none' (by omega) hi.fbn,(hc.block _ (by omega) hi.obn (fun e=>e)).trans hi.ob,⟨z,(hc.block _ (by omega) hi.fbn (fun e=>e)).trans hz⟩,e3⟩
 refine KW mb _ _ _ Q5 (fun k full W=>∃ o1 m1 V1,RunI K n Od room w0 mb fs nx C B St gop lop o w k full W o1 m1 V1) _ ?_ _ ⟨o,m,V,gf⟩;rintro k full W ⟨o1,m1,V1,hi⟩;have gi:=hi.size;obtain⟨s,hs⟩:=Ex W.heap.size
 refine⟨fun st W1=>match st with
  | none=>∃ (o':Own) (m':ManD) (V':Nat->BF) (r:Nat) (w1:Wd),SatE K n Od room w0 mb fs nx w1 o' m' V'/\B w1/\ChgX C o o' w w1/\s+3<=w1.heap.size/\(∀ q,w.heap.size<=q->q<s+3->o1 q=none->o' q=none)/\(∃ z:Int,w1.heap[w.heap.size+1]?=some (.cells #[.int .i64 z] 113 (0,0)))/\okE (Aa m'.d) r/\Q w1 m' V' r/\W1=w1.setCell ⟨w.heap.size+1,0,none⟩ (.int .i64 (r:Nat))
  | some (er,evt,ev)=>∃ (o':Own) (m':ManD) (V':Nat->BF),RunI K n Od room w0 mb fs nx C B St gop lop o w m'.waits.length false W1 o' m' V'/\s+3<=W1.heap.size/\(∀ q,w.heap.size<=q->q<s+3->o1 q=none->o' q=none) /\
   ((evt=false/\er≠0/\m'.waits=m1.waits/\E er m1 m')\/(evt=true/\m1.waits=ev::m'.waits/\StE K n Od room w0 mb fs nx St m'/\HapG K n Od room w0 mb fs nx ev)),?_,?_,?_,?_,?_⟩
 ·unfold Fe;have g9:Bw W (tryW mb W):=((Af _ _).alloc (by simp) _).alloc (by simp;omega) _;have gn:(tryW mb W).heap.size=W.heap.size+3:=by unfold tryW;simp
  obtain⟨T,hT⟩:=Ex (tryW mb W);have h1:(tryW mb W).heap[W.heap.size+2]?=some (.cells #[.pointer (some ⟨mb,0,none⟩)] 212 (0,0)):=by
   have:=WN ((W.alloc (.cells #[.int .i64 0,.bool false,.int .i64 0,.int .i64 0,.int .i64 0] 214)).alloc (.cells #[.bool false] 4)) (.cells #[.pointer (some ⟨mb,0,none⟩)] 212);rw[WV,WV] at this;exact this
  rw[<- hT] at g9 gn h1 ⊢;clear hT;have g7:=hi.sat.below g9;have gt:AH o1 T (W.heap.size+2) mb:=⟨cell1 h1,hi.sat.lt.none (by omega)⟩;have gm:=hop o1 T m1 V1 (W.heap.size+2) g7 (hB _ _ hi.bok (fun c hc=>g9.block c (by have:=(hi.cok c hc).1;omega))) (fun c hc=>⟨by have:=(hi.cok c hc).1;omega,(hi.cok c hc).2⟩) hi.st gt (fun e=>by have:=(hi.cok _ e).1;omega);have gg:=(g9.block w.heap.size (by omega)).trans hi.ob;obtain⟨z,hz⟩:=hi.fb;have gd:=(g9.block (w.heap.size+1) (by omega)).trans hz;have gw:∀ q,w.heap.size<=q->¬ C q:=fun q hq e=>by have:=(hi.cok q e).1;omega
  have g0:∀ {o':Own} {w1:Wd},ChgX C o1 o' T w1->∀ q,w.heap.size<=q->q<s+3->o1 q=none->w1.heap[q]?=T.heap[q]?:=fun hc q h1 h2 h3=>hc.block q (by omega) h3 (gw q h1)
  refine(QY gop lop T (W.heap.size+2) w.heap.size (w.heap.size+1) (fun r w1=>∃ o' m' V',Bu C K o1 T mb m1 V1 o' w1 m' V'/\B w1/\okE (Aa m'.d) r/\Q w1 m' V' r)
   (fun er evt ev w1=>∃ o' m' V',Bu C K o1 T mb m1 V1 o' w1 m' V'/\B w1/\((evt=false/\er≠0/\m'.waits=m1.waits/\St m'/\E er m1 m')\/(evt=true/\m1.waits=ev::m'.waits/\StE K n Od room w0 mb fs nx St m'/\HapG K n Od room w0 mb fs nx ev))) eg (cell1 gg) (gm.mono ?_)).mono ?_
  ·rintro e w1 ⟨o',m',V',st,b1,(⟨r,rfl,q1,q2⟩|⟨er,rfl,q1,q2,q3,q4⟩|⟨ev,rfl,q1,q2,q3⟩)⟩
   . have hf:=(g0 st.chg (w.heap.size+1) (by omega) (by omega) hi.fbn).trans gd;exact .inl ⟨r,rfl,⟨o',m',V',st,b1,q1,q2⟩,⟨z,cell1 hf⟩,by simp[World.frozen?,hf]⟩
   . exact .inr ⟨er,false,ev0,rfl,o',m',V',st,b1,.inl ⟨rfl,q1,q2,q3,q4⟩⟩
   . exact .inr ⟨0,true,ev,rfl,o',m',V',st,b1,.inr ⟨rfl,q1,q2,q3⟩⟩
  ·have n0:o1 W.heap.size=none:=hi.sat.lt.none (WM _);have n1:o1 (W.heap.size+1)=none:=hi.sat.lt.none (by omega);rintro e W' (⟨rfl,r,w1,⟨o',m',V',st,b1,q1,q2⟩,rfl⟩|⟨er,evt,ev,rfl,o',m',V',st,b1,q⟩)
   ·have hf:=(g0 st.chg (w.heap.size+1) (by omega) (by omega) hi.fbn).trans gd;have gk:=st.chg.size;refine⟨by simp[World.setCell];omega,?_,?_,.inl ⟨rfl,o',m',V',r,w1,g7.step st hC0,b1,(hi.chg.trans (ChgX.of_below g9 o1 C) (fun _ _ e=>e)).trans st.chg (fun _ _ e=>e),by omega,fun q _ h2 h3=>st.chg.none' (by omega) h3,⟨z,hf⟩,q1,q2,rfl⟩⟩
    . exact(Aw (by show _≠w.heap.size+1;omega) _).trans (g0 st.chg _ (by omega) (by omega) n0)
    . exact(Aw (by show _≠w.heap.size+1;omega) _).trans (g0 st.chg _ (by omega) (by omega) n1)
   ·have gk:=st.chg.size;have b2:St m':=by
     rcases q with ⟨_,_,_,q,_⟩|⟨_,_,q,_⟩
     . exact q
     . exact q _ _ _ _ (g7.step st hC0) rfl rfl (.inl (WM _))
    have gu:=(hi.chg.trans (ChgX.of_below g9 o1 C) (fun _ _ e=>e)).trans st.chg (fun _ _ e=>e);refine⟨by omega,g0 st.chg _ (by omega) (by omega) n0,g0 st.chg _ (by omega) (by omega) n1,.inr ⟨er,evt,ev,rfl,o',m',V',?_,by omega,fun q _ h2 h3=>st.chg.none' (by omega) h3,q.imp (fun⟨a1,a2,a3,_,a4⟩=>⟨a1,a2,a3,a4⟩) id⟩⟩
    exact⟨g7.step st hC0,b1,b2,rfl,fun c hc=>⟨(hi.cok c hc).1,st.chg.none' (by have:=(hi.cok c hc).1;omega) (hi.cok c hc).2⟩,gu,by omega,st.chg.none' (by omega) hi.obn,st.chg.none' (by omega) hi.fbn,
     (g0 st.chg _ (by omega) (by omega) hi.obn).trans gg,⟨z,(g0 st.chg (w.heap.size+1) (by omega) (by omega) hi.fbn).trans gd⟩,by simp⟩
 ·rintro W1 W2 ⟨o',m',V',r,w1,a1,a2,a3,a4,a5,⟨z,a6⟩,a7,a8,rfl⟩ al;have gb:Wr (fun k=>k=w.heap.size+1\/k=s\/k=s+1) w1 W2:=Wr.trans ((Wr.refl (fun k=>k=w.heap.size+1) w1).setCell (p:=⟨w.heap.size+1,0,none⟩) (.inl rfl) _) al (fun k _ e=>.inl e) (fun k _ e=>.inr (by rw[hs];exact e));have n0:o' s=none:=a5 s (by omega) (by omega) (by rw[hs];exact hi.sat.lt.none (WM _));have n1:o' (s+1)=none:=a5 (s+1) (by omega) (by omega) (by rw[hs];exact hi.sat.lt.none (by omega));have nf:o' (w.heap.size+1)=none:=a5 _ (by omega) (by omega) hi.fbn;have hf:=(al.keep (w.heap.size+1) (by simp[World.setCell];omega) (by omega)).trans (Az a6 _);refine⟨o',m',V',a1.other gb (fun k _ e=>?_),hB _ _ a2 (fun c hc=>gb.keep c (by have:=(hi.cok c hc).1;omega) (by have:=(hi.cok c hc).1;omega)),a3.trans (ChgX.of_wr (C:=fun k=>w.heap.size<=k) gb o' (fun k _ e=>by omega)) (fun k hk e=>by omega),by have:=gb.size;omega,nf,.inl ⟨rfl,r,a7,hQ _ _ _ _ _ a8 (fun c hc=>gb.keep c (by have:=(hi.cok c hc).1;omega) (by have:=(hi.cok c hc).1;omega)),hf⟩⟩;rcases e with rfl|rfl|rfl
  . exact⟨by omega,nf⟩
  . exact⟨by omega,n0⟩
  . exact⟨by omega,n1⟩
 ·rintro er ev W1 W2 ⟨o',m',V',gc,a4,a5,(⟨h1,_⟩|⟨_,gs,go,gv⟩)⟩ al
  . cases h1
  rw[<- hs] at al;have n0:o' s=none:=a5 s (by omega) (by omega) (by rw[hs];exact hi.sat.lt.none (WM _));have n1:o' (s+1)=none:=a5 (s+1) (by omega) (by omega) (by rw[hs];exact hi.sat.lt.none (by omega));have g6:=g8 gc (by omega) n0 n1 al;refine(gv o' W2 m' V' g6.sat).mono ?_;rintro x w' ⟨rfl,o2,m2,V2,g1,g2,g3,g5,g4⟩;refine⟨rfl,m'.waits.length,by rw[<- hi.len,gs];simp,o2,m2,V2,ge g6 g1 g4 g2 (go _ _ _ _ g1 g2 g3 g5) (by simp)⟩
 ·rintro ev W1 W2 ⟨o',m',V',gc,a4,a5,(⟨_,_,hw,_⟩|⟨h1,_⟩)⟩ al gx
  . rw[<- hs] at al;have n0:o' s=none:=a5 s (by omega) (by omega) (by rw[hs];exact hi.sat.lt.none (WM _));have n1:o' (s+1)=none:=a5 (s+1) (by omega) (by omega) (by rw[hs];exact hi.sat.lt.none (by omega));have g6:=g8 gc (by omega) n0 n1 al;refine(Lj g6.sat).mono ?_;rintro x w' ⟨rfl,o2,d2,g1,g2,g3⟩;have gj:=ge (full':=true) g6 g1 (ChgX.of_chg g3 NoB) rfl (hSt _ _ g6.st g2) (fun _=>g2.dead);rw[hw,hi.len] at gj;exact⟨⟨_,rfl⟩,o2,_,V',gj⟩
  . cases h1
 ·rintro er ev W1 W2 ⟨o',m',V',gc,a4,a5,(⟨_,h0,hw,hE⟩|⟨h1,_⟩)⟩ al gq
  ·rw[<- hs] at al;have n0:o' s=none:=a5 s (by omega) (by omega) (by rw[hs];exact hi.sat.lt.none (WM _));have n1:o' (s+1)=none:=a5 (s+1) (by omega) (by omega) (by rw[hs];exact hi.sat.lt.none (by omega));have g6:=g8 gc (by omega) n0 n1 al;refine⟨o',m',V',g6.sat,g6.bok,g6.chg,g6.size,g6.fbn,.inr ⟨h0,m1,hE,fun e7=>hi.clean ?_⟩⟩;cases full with
   | true=>rfl
   | false=>exact(gq ⟨e7,rfl⟩).elim
  . cases h1
def II (K:Law)(n:Nat)(Od:List Nat->Prop)(room:Nat)(w0:Wd)(mb:Nat)(fs:List (Int×BF))(nx:Int)(C:Nat->Prop)(B:Wd->Prop)(Q:Wd->ManD->(Nat->BF)->Nat->Prop)(E:Int->ManD->ManD->Prop)(o:Own)(w:Wd)(x:Ending)(w':Wd):Prop :=
 ∃ o' m' V',B w'/\ChgX C o o' w w' /\
  ((∃ r m1,x=.returned (.tuple #[.int .i64 nx,.int .i64 0])/\SatE K n Od room w0 mb (fs++[(nx,ef V' r)]) (nx+1) w' o' m' V'/\Q w' m1 V' r/\okE (Aa m1.d) r/\Aa m'.d=Aa m1.d/\m'.d.vars=m1.d.vars/\m'.d.level=m1.d.level/\m'.d.pool.many=m1.d.pool.many/\m'.waits=m1.waits/\m'.calls=m1.calls) \/
   (∃ er m0,er≠0/\x=.returned (.tuple #[.int .i64 0,.int .i64 er])/\SatE K n Od room w0 mb fs nx w' o' m' V'/\E er m0 m'/\(er=7->m0.d.dead=0)))
theorem IJ (hK:A5 K){B:Wd->Prop}{St:ManD->Prop}{Q:Wd->ManD->(Nat->BF)->Nat->Prop}{E:Int->ManD->ManD->Prop}
 (hB:∀ W W',B W->(∀ c,C c->W'.heap[c]?=W.heap[c]?)->B W') (hQ:∀ W W' m V r,Q W m V r->(∀ c,C c->W'.heap[c]?=W.heap[c]?)->Q W' m V r) (hSt:∀ (m:ManD) (d:Ae),St m->AC m.d d->St { m with d:=d }) (hC0:∀ c,C c->w0.heap.size<=c) (eg:∀ args w,(callFunc gop args).run prog w=.ok (.enter gop args) w)
 (hop:OpG K n Od room w0 mb fs nx C B St gop lop Q E) {o:Own} {w:Wd} {m:ManD} {V:Nat->BF} (h:SatE K n Od room w0 mb fs nx w o m V) (hb:B w) (hC:∀ c,C c->c<w.heap.size/\o c=none) (hst:St m) (hn:nx<1099511627776) :
 Calls prog 115 #[Pt mb,.func (.func gop) #[] lop] w (II K n Od room w0 mb fs nx C B Q E o w):=by
 have gq:∀ (fn:Fn) (first cap:Array Value) (w:Wd),(Instr.makeFunc fn first cap).run prog w=.ok (.func fn first cap) w:=fun _ _ _ _=>rfl
 have g5:=Hd (QZ hB hQ hSt hC0 eg hop h hb hC hst);have gh:=Hd hK;have gl:=Hd hB;have gk:=Hd hQ;have gc:=Hd hn;have gd:=Hd hC;have gp:=Q6 (w.alloc (.cells #[.func (.func gop) #[] lop] 177)) (.func gop) #[] lop;have HW:Hq ((w.alloc (.cells #[.func (.func gop) #[] lop] 177)).alloc (.cells #[.int .i64 0] 113)=doW gop lop w):=Hd rfl;clear h hb hK hB hQ hSt hC0 hop hC hst hn
 delta Pt;go_enter func115,ntmps115
 go_wp2_with fail;rw[HW.o];refine g5.o.mono ?_;rintro x w1 ⟨er,rfl,o1,m1,V1,sat,b1,g6,g7,g4,(⟨rfl,r,hr,hq,ga⟩|⟨h0,m0,hE,h7⟩)⟩
 rotate_left
 ·have HF:Hq (II K n Od room w0 mb fs nx C B Q E o w (.returned (.tuple #[.int .i64 0,.int .i64 er])) w1):=Hd ⟨o1,m1,V1,b1,g6,.inr ⟨er,m0,h0,rfl,sat,hE,h7⟩⟩;have gr:(er == 0)=false:=by simpa using h0
  clear h0 hE h7 sat b1 g6 g7 g4 g5 HW;go_wp2_with fail
  go_ret2
  exact HF.o
 have g1:=cell1 ga;obtain⟨s1,g9⟩:=sat.is;obtain⟨c0,c1,c2,c3,c4,c5,f0⟩:=cells6 g9.blk;obtain⟨ss,g8⟩:=g9.store;have gg:r<eMax:=by have:=g8.edge_lt hr;unfold eMax;omega
 have gj:Hq (Calls prog 155 #[Pt s1.sb,.int .i64 r] w1.drew (Bl (.bool true) w1)):=by
  have h1:=Er (g8.below sat.lt (Ap w1 1)) (sat.lt.mono (Ap w1 1).size) r gg;rw[KJ hr] at h1;exact Hd (h1.mono fun x w' ⟨a,b⟩=>⟨a,DU (n:=1) b⟩)
 have gi:=Hd sat;have HR:=Hd hr;have HQ:=Hd hq;have gm:=Hd b1;have ge:=Hd g6;have gs:=Hd g4;have lmb:mb<w1.heap.size:=Ag c0;have lfb:w.heap.size+1<w1.heap.size:=Ag g1;clear sat g9 g8 hr hq b1 g6 g4 g7 g5 HW;go_upto_region 9 with fail;refine Is (fun W:Wd=>Bw w1 W) 7 (by kernel_rfl) (Ap w1 1) ?_;refine BZ 0 rfl rfl (by kernel_rfl) ?_;apply Exists.intro;refine⟨fun w' hw=>?_,?_⟩
 . have q1:=(hw.cell (p:=⟨mb,0,none⟩) lmb).trans c0;have q2:=(hw.cell (p:=⟨w.heap.size+1,0,none⟩) lfb).trans g1;go_simp;rfl
 simp only[Ac];refine BZ 1 rfl rfl (by kernel_rfl) ?_;apply Exists.intro;refine⟨fun w' hw=>?_,?_⟩
 . have q1:=(hw.cell (p:=⟨mb,0,none⟩) lmb).trans c0;have q2:=(hw.cell (p:=⟨w.heap.size+1,0,none⟩) lfb).trans g1;go_simp;rfl
 simp only[Ac];refine BZ 2 rfl rfl (by kernel_rfl) ?_;apply Exists.intro;refine⟨fun w' hw=>?_,?_⟩
 . have q1:=(hw.cell (p:=⟨mb,0,none⟩) lmb).trans c0;have q2:=(hw.cell (p:=⟨w.heap.size+1,0,none⟩) lfb).trans g1;go_simp;rfl
 simp only[Ac];refine BZ 3 rfl rfl (by kernel_rfl) ?_;apply Exists.intro;refine⟨fun w' hw=>?_,?_⟩
 . have q1:=(hw.cell (p:=⟨mb,0,none⟩) lmb).trans c0;have q2:=(hw.cell (p:=⟨w.heap.size+1,0,none⟩) lfb).trans g1;go_simp;rfl
 simp only[Ac];refine BZ 4 rfl rfl (by kernel_rfl) ?_;apply Exists.intro;refine⟨fun w' hw=>?_,?_⟩
 . have q1:=(hw.cell (p:=⟨mb,0,none⟩) lmb).trans c0;have q2:=(hw.cell (p:=⟨w.heap.size+1,0,none⟩) lfb).trans g1;go_simp;rfl
 simp only[Ac];refine D0 [5] (by kernel_rfl) (fun i hi hS o ho=>?_);simp only[Cr] at hi;subst hi;simp only[Ce] at ho;subst ho;refine⟨rfl,?_⟩;refine CQ (v:=.bool true) (R:=fun w'=>Bw w1 w') (by go_simp) gj.o ?_;rintro w2 g3;refine⟨g3,?_⟩;simp only[Ac];have go:=(g3.cell (p:=⟨w.heap.size+1,0,none⟩) lfb).trans g1;have d0:=(g3.cell (p:=⟨mb,0,none⟩) lmb).trans c0;have g0:=Hd (gi.o.below g3);refine BZ 6 rfl rfl (by kernel_rfl) ?_;apply Exists.intro;refine⟨fun w' hw=>?_,?_⟩
 . have q1:=(hw.cell (p:=⟨mb,0,none⟩) lmb).trans c0;have q2:=(hw.cell (p:=⟨w.heap.size+1,0,none⟩) lfb).trans g1;go_simp;rfl
 simp only[Ac];have gb:=g3;clear c0 c1 c2 c3 c4 c5 f0 g1 ga g3;refine FU (by kernel_rfl) ?_;have HG:=Hd (IA gh.o g0.o.is g0.o.lt g0.o.ok r HR.o (by rw[g0.o.next];exact gc.o));have HB2:=Hd gb;clear gb;go_wp2_with fail;refine HG.o.mono ?_;rintro x w3 ⟨rfl,o3,m3,hg⟩;have g2:=Hd hg;have gc:Hq (m1.next=nx):=Hd g0.o.next
 clear hg;go_wp2_with fail
 go_ret2
 have gn:=g0.o.lt;have gf:∀ c,C c->w3.heap[c]?=w1.heap[c]?:=fun c hc=>by
  have h1:=(gd.o c hc).1;have h2:=ge.o.size;have h3:=HB2.o.size;exact(g2.o.chg.alien (by omega) (ge.o.none' h1 (gd.o c hc).2)).trans (HB2.o.block c (by omega))
 refine⟨o3,m3,V1,gl.o _ _ gm.o gf,(ge.o.trans (ChgX.of_below HB2.o o1 C) (fun _ _ e=>e)).trans (ChgX.of_chg g2.o.chg C) (fun _ _ e=>e),.inl ⟨r,m1,by rw[<- gc.o];rfl,g0.o.gave g2.o,gk.o _ _ _ _ _ HQ.o gf,HR.o,g2.o.nodes,g2.o.vars,g2.o.level,g2.o.many,g2.o.waits,g2.o.calls⟩⟩
section
variable {R:List PanicEntry->Wd->Prop}{m:Nat}
def PP (R:List PanicEntry->Wd->Prop)(Q:Exit->Act->Wd->Prop):Exit->Act->Wd->Prop
 | .panic c,a,w=>a.defers=[]/\R c w
 | e,a,w=>Q e a w
theorem Ra (a:Act)(d:Option Nat)(v:Value):(a.put d v).defers=a.defers:=by cases d<;>rfl
theorem IK (c:List PanicEntry)(a:Act)(d:Option Nat)(v:Value)(w:Wd)(h:PP R Q (.panic c) (a.put d v) w):PP R Q (.panic c) a w:=⟨(Ra a d v).symm.trans h.1,h.2⟩
theorem Lk {s:Code}(hR:∀ c (a:Act) w,a.defers=[]->R c w->Q (.panic c) a w)(h:s.wp P (PP R Q) a w):s.wp P Q a w :=
 Code.wp_mono (fun e a w h=>by cases e<;>first|exact h|exact hR _ _ _ h.1 h.2) h
structure Di (P:Program)(l:List Oper)(Q:Exit->Act->Wd->Prop)(R:List PanicEntry->Wd->Prop)(S:Wd->Prop)(m f:Nat)(L:Array Bool)(a:Act)(w:Wd):Prop where
 goes:Closed l.toArray L->S w->DM P l.toArray (PP R Q) S m f L a w
theorem IL (S:Wd->Prop)(R:List PanicEntry->Wd->Prop)(m:Nat)(hR:∀ c (a:Act) w,a.defers=[]->R c w->Q (.panic c) a w)(hm:P.follows .mixedOrders=true)(hS:S w.drew)
 (h:Di P l Q R S m l.length (Array.replicate l.toArray.size false) a w.drew):(Code.region id l.toArray true).wp P Q a w :=
 Lk hR (wp_region_any hm (FH _ _ _ _ (h.goes (FG _) hS)))
theorem Rb (i:Nat)(o:Oper)(v:Value)(hi:l[i]?=some o)
 (hB:(Region.noSelect l.toArray&&(Region.ready .any l.toArray L).contains i&&Region.free .any l.toArray L i&&(decide (l.toArray.size<=m)||reaches l.toArray l.toArray.size i m))=true)
 (hy:∀ w,S w->YieldsIf P l.toArray S o v a) (h:Di P l Q R S m f (L.setIfInBounds i true) (a.put o.dst v) w):Di P l Q R S m (f+1) L a w:=by
 refine⟨fun hc hS=>?_⟩;simp only[Xq] at hB;obtain⟨⟨⟨hs,hr⟩,hf⟩,hm⟩:=hB;have g1:l.toArray[i]?=some o:=by simpa using hi
 have g0:i∈Region.ready .any l.toArray L:=by simpa using hr
 exact GZ g1 hs IK hm f L a w hc (Zs g1 hf) g0 (hy w hS) hS (h.goes (hc.set g0) hS)
theorem BT (i:Nat){o:Oper}(hi:l[i]?=some o)(hg:o.guard=none)
 (hB:(Region.noSelect l.toArray&&(Region.ready .any l.toArray L).contains i&&Region.free .any l.toArray L i&&(decide (l.toArray.size<=m)||reaches l.toArray l.toArray.size i m))=true)
 (h:∃ v,(∀ w,S w->(execOp a.eval o).run P w=.ok (.value v) w)/\Di P l Q R S m f (L.setIfInBounds i true) (a.put o.dst v) w):Di P l Q R S m (f+1) L a w:=by
 obtain⟨v,h1,h2⟩:=h;exact Rb i o v hi hB (fun w _=>.inl ⟨by simp[Region.wanted,hg],h1⟩) h2
theorem CS (is:List Nat)(hr:(decide (Region.ready .any l.toArray L=is) && !is.isEmpty)=true)
 (h:∀ i∈is,S w->∀ o,l[i]?=some o->Region.wanted o (yielded l.toArray a.tmps)=true/\o.wp P a w (fun a' w'=>S w'/\Di P l Q R S m f (L.setIfInBounds i true) a' w') (PP R Q)):Di P l Q R S m (f+1) L a w:=by
 refine⟨fun hc hS=>?_⟩;simp only[Xq,XD] at hr;obtain⟨hr,g1⟩:=hr;refine⟨fun h0=>(by rw[h0] at hr;subst hr;simp at g1),fun i hi=>?_⟩;have g2:i∈is:=by rw[<- hr];exact hi
 obtain⟨_,o,ho,_⟩:=Zd.1 hi;obtain⟨hw,g0⟩:=h i g2 hS o (by simpa using ho);unfold wpOp;rw[ho];simp only[hw,XP];left;refine Oper.wp_mono ?_ g0;intro a' w' ⟨h1,h2⟩;exact⟨.inr h1,h2.goes (hc.set hi) h1⟩
theorem IM (hr:(Region.ready .any l.toArray L).isEmpty=true)(h:Q .normal a w):Di P l Q R S m 0 L a w :=
 ⟨fun _ _=>⟨by simpa [YX] using hr,h⟩⟩
end
end Go.Proofs.YtgmbklaolcmljaaGreat
