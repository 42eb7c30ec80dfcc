/- Several texts in one file: contracts of the program's functions and what follows from them. -/
import Derived.Test.YtnphndlbfeagbaaGreatB2
import Derived.RangeFuncNested
import Derived.RangeFuncBound
import Derived.RangeFuncCalls
import Derived.RangeFuncLeaves
import Derived.RangeFuncWrites
import Derived.Shelf.Abstract
import Derived.Shelf.RegionOpen
import Derived.OwnWalkIn
import Derived.TacticsInMore
import Derived.LoopNIn
import Derived.LoopIn
import Derived.Recover
import Derived.Defers
set_option linter.all false
set_option maxRecDepth 100000
set_option maxHeartbeats 8000000
namespace Go.Proofs.YtnphndlbfeagbaaGreat
open Go.Proofs.Tryz
open Go.RowKit
variable {C M:Nat->Prop}{F:BF}{K:Law}{L:Array Bool}{N:Nat->Option BN}{Od:List Nat->Prop}{P:Program}{Q:Exit->Act->Wd->Prop}{R:Role->Prop}{S:Wd->Prop}{V V':Nat->BF}{W W' W0 W1 w w' w'' w0:Wd}{a:Act}{args lop:Array Value}{b e f f0 g g0 gf gop h h0 hi i id k lo mb n n₀ pb r room sb x xb:Nat}{bs:List Bool}{d d':Af}{ev:Ev}{fs:List (Int×BF)}{l:List Oper}{least nx:Int}{m m':ManD}{nt:Bool}{o' o'' oG:Own}{ops:Array Oper}{p:Ae}{pre:List Nat}{v v':Value}{ws:List Ev}
def atV (d:Af)(f:Nat):Value:=
 match Aa d (f/2)with
 | some b=>.tuple #[.int .i64 b.v,.int .i64 (eflip b.lo (eneg f):Nat),.int .i64 (eflip b.hi (eneg f):Nat),.bool true]
 | none=>.tuple #[.int .i64 (-1),.int .i64 0,.int .i64 0,.bool false]
def G1 {o:Own}(h:A3 o w sb d)(H:Ac o w)(hk:Ai d V)(f:Nat)(X:okE (Aa d) f):
 Cl 102 #[Pt sb,Iv f] w (Bl (atV d f) w):=by
 obtain⟨s,h⟩:=h;have lt:∀e,okE (Aa d) e->e<eMax:=λe Z=>by have:=h.edge_lt Z;unfold eMax;omega
 cases hb:Aa d (f/2)with
 | none=>
   have I:d.pool.tk (enode f)=false:=IQ hb;have O:d.pool.has (enode f)=rn0:=by unfold Ae.has;rw[I];rfl
   refine(Ll h H f (lt f X) (by rw[O];decide) (by rw[O];decide)).mono ?_;rintro x w' ⟨rfl,g1⟩;exact⟨by simp[I,atV,hb],g1⟩
 | some b=>
   have U:=BQ hb;have I:d.pool.tk (enode f)=true:=U.1;have g0:bnOf (d.pool.has (enode f))=b:=U.2.2;have e1:(d.pool.has (enode f)).v=b.v:=by rw[<-g0];rfl
   have e2:(d.pool.has (enode f)).lo=b.lo:=by rw[<-g0];rfl
   have Y:(d.pool.has (enode f)).hi=b.hi:=by rw[<-g0];rfl
   refine(Ll h H f (lt f X) (by rw[e2];exact lt _ (hk.dag.okLo _ _ hb)) (by rw[Y];exact lt _ (hk.dag.okHi _ _ hb))).mono ?_;rintro x w' ⟨rfl,g1⟩;exact⟨by simp[I,atV,hb,e1,e2,Y],g1⟩
def A3.below {o:Own}{w w':Wd}{sb:Nat}{d:Af}(h:A3 o w sb d)(H:Ac o w)(hb:Bw w w'):A3 o w' sb d:=by
 obtain⟨s,h⟩:=h;exact⟨s,h.below H hb⟩
def QW {F:Phi}{o:Own}(h:AF F o w mb m)(hx:AR o w xb mb)(hk:Ai m.d V)(v:Int):
 Cl 106 #[Pt xb,Iv v] w (Sm (Iv (CG m.d v)) w):=by
 obtain⟨s,h⟩:=h;obtain⟨st,g0⟩:=h.store;obtain⟨Y,c1,c2,X,U,O,f0⟩:=cells6 h.blk;have H:=Hd (IW g0 v (by rw[g0.len];have:=hk.small;omega));have I:=hx.cell;clear h g0 hx hk
 go_enter func106,ntmps106
 go_wp2_with fail;refine H.o.mono ?_;rintro x w' ⟨rfl,rfl⟩;go_wp2;go_ret;exact⟨rfl,rfl⟩
def cofs (d:Af)(f:Nat)(v:Int):Nat×Nat:=
 match Aa d (f/2)with
 | some b=>if(b.v:Int)=v then(eflip b.lo (eneg f),eflip b.hi (eneg f))else(f,f)
 | none=>(f,f)
def EM {F:Phi}{o:Own}(h:AF F o w mb m)(I:Ac o w)(hx:AR o w xb mb)(hk:Ai m.d V)(f:Nat)(X:okE (Aa m.d) f)(v:Int):
 Cl 62 #[Pt xb,Iv f,Iv v] w (Bl (.tuple #[Iv (cofs m.d f v).1,Iv (cofs m.d f v).2]) w):=by
 obtain⟨s,h⟩:=h;obtain⟨g,c1,c2,c,a,Z,f0⟩:=cells6 h.blk;have H:=Hd (G1 h.store I hk f X);have Y:=hx.cell;clear h hx hk I X;unfold atV at H;unfold cofs;cases hb:Aa m.d (f/2)with
 | none=>
   rw[hb]at H;clear hb
   go_enter func62,ntmps62
   go_wp2_with fail;refine H.o.mono ?_;rintro x w' ⟨rfl,hb⟩;have O:=Hd hb;clear hb;go_wp2
   go_ret2
   exact⟨rfl,O.o⟩
 | some b=>
   rw[hb]at H;clear hb
   by_cases e:(b.v:Int)=v
   ·subst e;have U:Hq ((if(b.v:Int)=b.v then(eflip b.lo (eneg f),eflip b.hi (eneg f))else(f,f))=(eflip b.lo (eneg f),eflip b.hi (eneg f))):=by show _=_;rw[Xx rfl]
    go_enter func62,ntmps62
    go_wp2_with fail;refine H.o.mono ?_;rintro x w' ⟨rfl,hb⟩;have O:=Hd hb;clear hb;go_wp2
    go_ret2
    exact⟨by first|rfl|(rw[U.o];rfl),O.o⟩
   ·have U:Hq ((if(b.v:Int)=v then(eflip b.lo (eneg f),eflip b.hi (eneg f))else(f,f))=(f,f)):=by show _=_;rw[Xu e]
    have i:((b.v:Int) == v)=false:=by simpa using e
    go_enter func62,ntmps62
    go_wp2_with fail;refine H.o.mono ?_;rintro x w' ⟨rfl,hb⟩;have O:=Hd hb;clear hb;go_wp2
    go_ret2
    exact⟨by first|rfl|(rw[U.o];rfl),O.o⟩
def TopS (d:Af)(zs:List Nat)(top least:Int):Prop:=
 (top= -1/\least=0/\∀e∈zs,Aa d (e/2)=none) \/
 ∃v:Nat,top=v/\least=(levN d v:Nat)/\v<d.vars.length/\(∃e∈zs,∃b,Aa d (e/2)=some b/\b.v=v)/\∀e∈zs,levN d v<=lvE d.vars.length (levN d) (Aa d) e
def TopS.none {d:Af}{zs:List Nat}{top least:Int}{e:Nat}(h:TopS d zs top least)(hl:∀v,v<d.vars.length->levN d v<d.vars.length)(H:Aa d (e/2)=none):TopS d (zs++[e]) top least:=by
 rcases h with ⟨h1,h2,h3⟩|⟨v,h1,h2,h3,⟨e0,g0,hb⟩,I⟩
 ·refine .inl ⟨h1,h2,λx hx=>?_⟩;rcases XD.1 hx with hx|hx
  . exact h3 x hx
  . simp at hx;subst hx;exact H
 ·refine .inr ⟨v,h1,h2,h3,⟨e0,by simp[g0],hb⟩,λx hx=>?_⟩;rcases XD.1 hx with hx|hx
  . exact I x hx
  . simp at hx;subst hx;unfold lvE;rw[H];exact aD (hl v h3)
def TopS.keep {zs:List Nat}{v:Nat}{b:BN}(h:TopS d zs v least)(I:Aa d (e/2)=some b)(H:¬ ((levN d b.v:Nat):Int)<least):TopS d (zs++[e]) v least:=by
 rcases h with ⟨h1,h2,h3⟩|⟨u,h1,h2,h3,⟨e0,g0,hb⟩,O⟩
 . omega
 ·obtain rfl:v=u:=by omega
  refine .inr ⟨v,rfl,h2,h3,⟨e0,by simp[g0],hb⟩,λx hx=>?_⟩;rcases XD.1 hx with hx|hx
  . exact O x hx
  . simp at hx;subst hx;unfold lvE;rw[I];dsimp only;omega
def TopS.take {zs:List Nat}{top:Int}{b:BN}(h:TopS d zs top least)(H:b.v<d.vars.length)(hl:∀v,v<d.vars.length->levN d v<d.vars.length)(I:Aa d (e/2)=some b)(O:top<0\/((levN d b.v:Nat):Int)<least):TopS d (zs++[e]) b.v (levN d b.v:Nat):=by
 refine .inr ⟨b.v,rfl,rfl,H,⟨e,by simp,b,I,rfl⟩,λx hx=>?_⟩;rcases XD.1 hx with hx|hx
 ·rcases h with ⟨h1,h2,h3⟩|⟨u,h1,h2,h3,⟨e0,g0,hb⟩,U⟩
  . unfold lvE;rw[h3 x hx];exact aD (hl _ H)
  . have:=U x hx;omega
 . simp at hx;subst hx;unfold lvE;rw[I];exact Xs _
def L3 {v:Nat}(h:v<d.level.length):CG d v=(levN d v:Nat):=by unfold CG;rw[Xx ⟨by omega,by omega⟩];rfl
abbrev XT:=@List.length_map
abbrev XM:=@List.getElem_mem
abbrev Zk:=@List.take_add_one
abbrev XP:=@List.take_length
def F4 {F:Phi}{o:Own}(h:AF F o w mb m)(Y:Ac o w)(hx:AR o w xb mb)(hk:Ai m.d V)(zs:List Nat)(u:∀e∈zs,okE (Aa m.d) e)(a:Option Addr)(c:Nat)(O:Aj w a (zs.map Int.ofNat)):
 Cl 61 #[Pt xb,.slice a zs.length c] w λx w'=>∃top least,x=.returned (Iv top)/\TopS m.d zs top least/\Bw w w':=by
 obtain⟨s,h⟩:=h;obtain⟨st,gc⟩:=h.store;have L:m.d.level.length=m.d.vars.length:=gc.len;have r:=Hd h;have Z:=Hd hx;have g5:=Hd Y;have l:=Hd hk;have M:=Hd u;have gk:=Hd O;have K:=O.len;simp only[XT]at K;clear h gc hx Y hk u O
 go_enter func61,ntmps61
 go_wp2
 go_loopw [5,6,15] (λD C i wr=>∃(k:Nat) (top least:Int),k<=zs.length/\i=Iv k/\D=Iv top/\C=Iv least/\TopS m.d (zs.take k) top least/\Bw w wr) (λ_ _ i _=>zs.length-(intOf i).toNat)
 case atStart=>exact⟨0,-1,0,by omega,rfl,rfl,rfl,.inl ⟨rfl,rfl,by simp⟩,X7 _ _⟩
 case round=>
  obtain⟨k,top,least,hk,rfl,rfl,rfl,j,I⟩:=hrel
  by_cases g2:k<zs.length
  ·obtain⟨b0,off,G,g3⟩:=(gk.o.below I).cells k (by simpa using g2);subst G;have z:at0 (zs.map Int.ofNat) k=(zs[k]:Int):=by rw[A8 (by simpa using g2)];simp
   rw[z]at g3;have g8:zs[k]∈zs:=XM g2;have g6:zs.take (k+1)=zs.take k++[zs[k]]:=by rw[Zk,Xy g2];rfl
   have g7:=M.o _ g8;obtain⟨f,y⟩:=Ex (zs[k]);rw[<-y]at g3 g7 g6;obtain⟨c0,c1,c2,T,S,R,f0⟩:=cells6 ((r.o.below g5.o I).blk);have Q:wr.cell? (Av xb)=_:=(I.cell (p:=Av xb) (Ad Z.o.cell)).trans Z.o.cell;have U:=Hd (G1 ((r.o.below g5.o I).store) (g5.o.mono I.size) l.o f g7);have g4:=Hd g6;have X:=Hd j;have H:=Hd I;have N:(k:Int)<zs.length:=by omega
   clear y g8 z j I g7 g6;unfold atV at U;have q:Hq (∀v,v<m.d.vars.length->levN m.d v<m.d.vars.length):=Hd l.o.dag.lt;have gf:=Hd (λW hb v=>QW ⟨s,r.o.below g5.o hb⟩ (o:=o) (w:=W) (xb:=xb) (mb:=mb) ⟨(hb.cell (p:=Av xb) (Ad Z.o.cell)).trans Z.o.cell,Z.o.own⟩ l.o v);cases hb:Aa m.d (f/2)with
   | none=>
     rw[hb]at U;have g:=Hd hb;clear hb;go_wp2_with fail;refine U.o.mono ?_;rintro x w' ⟨rfl,g0⟩;have HB2:=Hd (H.o.trans (g0.mono H.o.size));clear g0;go_wp2;go_roundw
     case rel=>exact⟨k+1,top,least,by omega,by simp,rfl,rfl,by rw[g4.o];exact X.o.none q.o g.o,HB2.o⟩
     case measure=>simp[intOf];omega
   | some b=>
     rw[hb]at U;have g:=Hd hb;have g9:=l.o.dag.var _ _ hb;have B:CG m.d b.v=(levN m.d b.v:Nat):=L3 (by rw[L];exact g9);have A:=Hd g9;have g1:=Hd (λW hb=>gf.o W hb b.v);rw[B]at g1;clear hb g9 B gf
     by_cases E:top<0
     ·have J:=Hd E;go_wp2_with fail;refine U.o.mono ?_;rintro x w' ⟨rfl,g0⟩;have HB2:=Hd (H.o.trans (g0.mono H.o.size));clear g0;go_wp2_with fail;refine(g1.o _ HB2.o).mono ?_;rintro x w'' ⟨rfl,rfl⟩;go_wp2;go_roundw
      case rel=>exact⟨k+1,_,_,by omega,by simp,rfl,rfl,by rw[g4.o];exact X.o.take A.o q.o g.o (.inl J.o),HB2.o⟩
      case measure=>simp[intOf];omega
     ·by_cases ge:((levN m.d b.v:Nat):Int)<least
      ·have n:=Hd ge;go_wp2_with fail;refine U.o.mono ?_;rintro x w' ⟨rfl,g0⟩;have HB2:=Hd (H.o.trans (g0.mono H.o.size));clear g0;go_wp2_with fail;refine(g1.o _ HB2.o).mono ?_;rintro x w'' ⟨rfl,rfl⟩;go_wp2_with fail;refine(g1.o _ HB2.o).mono ?_;rintro x w'' ⟨rfl,rfl⟩;go_wp2;go_roundw
       case rel=>exact⟨k+1,_,_,by omega,by simp,rfl,rfl,by rw[g4.o];exact X.o.take A.o q.o g.o (.inr n.o),HB2.o⟩
       case measure=>simp[intOf];omega
      ·obtain⟨t,gj⟩:∃t:Nat,top=t:=⟨top.toNat,by omega⟩;subst gj;have n:=Hd ge;go_wp2_with fail;refine U.o.mono ?_;rintro x w' ⟨rfl,g0⟩;have HB2:=Hd (H.o.trans (g0.mono H.o.size));clear g0;go_wp2_with fail;refine(g1.o _ HB2.o).mono ?_;rintro x w'' ⟨rfl,rfl⟩;go_wp2;go_roundw
       case rel=>exact⟨k+1,_,_,by omega,by simp,rfl,rfl,by rw[g4.o];exact X.o.keep g.o (by have:=n.o;omega),HB2.o⟩
       case measure=>simp[intOf];omega
  ·obtain rfl:k=zs.length:=by omega
   have X:=Hd j;have H:=Hd I;clear j I;go_wp2;go_ret;exact⟨top,least,rfl,by have:=X.o;rwa [XP]at this,H.o⟩
def A1 (er:Int)(event:Bool)(ev:Ev):Ending:=.panicked [{ v:=.iface 163 (.agg #[Iv er,.bool event,Iv ev.after,Iv ev.kind,Iv ev.level]),recovered:=false }]
def ev0:Ev:=⟨0,0,0⟩
def BR (c:Int):Int:=wrap64 (c+1)
def DP (d:Af)(v:Int)(lo hi:Nat)(er:Int):Prop:=
 (er=9/\¬ (0<=v/\v<d.vars.length)) \/
 (er=10/\0<=v/\v<d.vars.length/\(lvE d.vars.length (levN d) (Aa d) lo<=levN d v.toNat\/lvE d.vars.length (levN d) (Aa d) hi<=levN d v.toNat)) \/
 (er=7/\d.pool.many=d.pool.room)
def G2 (K:Law)(o:Own)(w:Wd)(mb:Nat)(m:ManD)(V:Nat->BF)(v:Int)(lo hi:Nat)(e:Ending)(w':Wd):Prop:=
 ∃o' m' V',Step K o w mb m V o' w' m' V' /\
  ((∃ev,m.waits=ev::m'.waits/\ev.after<=BR m.calls/\m'.calls=0/\m'.d=m.d/\V'=V/\e=A1 0 true ev) \/
   (m'.waits=m.waits/\m'.calls=BR m.calls/\(∀ev ws,m.waits=ev::ws->BR m.calls<ev.after) /\
    ((∃er,DP m.d v lo hi er/\m'.d=m.d/\V'=V/\e=A1 er false ev0) \/
     (0<=v/\v<m.d.vars.length/\∃r:Nat,e=.returned (Iv r)/\okE (Aa m'.d) r/\ef V' r=iteF v.toNat (ef V hi) (ef V lo) /\
      levN m.d v.toNat<=lvE m.d.vars.length (levN m'.d) (Aa m'.d) r/\m'.d.pool.many<=m.d.pool.many+1))))
def Chg.ofDrewN {o:Own}(h:Chg R o o' (w.drewN n) w'):Chg R o o' w w':=⟨h.os,h.tape,h.output,h.size,h.block,h.ext,h.new⟩
def Er (h:Below (w.drewN n).heap.size (w.drewN n) w'):Bw w w':=⟨h.os,h.tape,h.output,h.size,h.block⟩
def Chg.any {o:Own}(h:Chg R o o' w w'):Chg (λ_=>True) o o' w w':=h.mono λ_ _=>trivial
def QX {o:Own}(M:AC K)(h:AF (K m.d V) o w mb m)(l:Ac o w)(hx:AR o w xb mb)(hk:Ai m.d V)(v:Int)(lo hi:Nat)(z:okE (Aa m.d) lo)(A:okE (Aa m.d) hi)
 (i:∀ev ws,m.waits=ev::ws->BR m.calls<ev.after):
 Cl 88 #[Pt xb,Iv v,Iv lo,Iv hi] w (G2 K o w mb m V v lo hi):=by
 obtain⟨s,h⟩:=h;obtain⟨c0,c1,c2,c3,c4,c5,f0⟩:=cells6 h.blk;have cx:=hx.cell;obtain⟨W,B⟩:=Ex (w.setCell (Aw mb 5) (Iv (BR m.calls)));have g2:A9 (K m.d V) o W mb { m with calls:=BR m.calls } s:=by rw[B];exact h.field rfl rfl rfl rfl rfl h.waits rfl
 have g5:Chg (λ_=>True) o o w W:=by rw[B];exact(Chg.refl _ o w).setCell (p:=Aw mb 5) h.own trivial _
 have g4:Ac o W:=l.mono g5.size;have gf:=hx.chg g5;obtain⟨d0,d1,d2,d3,d4,d5,g0⟩:=cells6 g2.blk;have dx:=gf.cell;obtain⟨aw,cw,g9,J⟩:=g2.waits.slice;have Q:(m.waits=[]/\True)\/∃ev ws,m.waits=ev::ws:=by cases m.waits with
  | nil=>exact .inl ⟨rfl,trivial⟩
  | cons ev ws=>exact .inr ⟨ev,ws,rfl⟩
 have L:=Hd M;have C:=Hd g5;have g7:=Hd g4;have g6:=Hd g2;have gc:=Hd hk;have G:Hq (∀n,Cl 132 #[Pt s.sb,Iv v,Iv lo,Iv hi] (W.drewN n) (IX o (W.drewN n) s.sb m.d V v lo hi)):=
  Hd λn=>QM (g2.store.below g4 (An W n)) (g4.mono (An W n).size) hk v lo hi z A
 have g1:=Hd i;have HW:Hq (w.setCell (Aw mb 5) (Iv (wrap64 (m.calls+1)))=W):=Hd B.symm;have R:5≠4:=by decide
 clear h l hx hk z A g2 g5 g4 gf B i
 go_enter func88,ntmps88
 go_upto_region 3 with fail;rw[HW.o];obtain⟨cu,g3⟩:=Ex (wrap64 (m.calls+1));have S:W.cell? (Aw mb 5)=some (Iv cu):=by rw[g3];exact d5
 have gk:Hq (BR m.calls=cu):=Hd g3.symm;rw[<-g3];clear c0 c1 c2 c3 c4 c5 f0 cx R d5 g3;have Y:Hq (∀w',Bw W w'->Step K o w mb m V o w' { m with calls:=BR m.calls } V):=
  Hd λw' hb=>⟨⟨s,g6.o.below g7.o hb⟩,g7.o.mono hb.size,C.o.trans (Chg.of_below hb _ _),gc.o,Ext.refl _ _,rfl,rfl⟩
 rcases Q with ⟨hw0,_⟩|⟨ev,ws,g8⟩
 ·rw[g9]at d4;dsimp only at d4;rw[hw0]at d4;have T:W.cell? (Aw mb 4)=some (.slice aw 0 cw):=d4;clear d4 hw0 g9 J
  go_quiet (fail)
  go_wp2_with fail;refine(G.o nq).mono ?_;rintro x w' (⟨I,rfl,H⟩|⟨I,H,y,rfl,Z⟩|⟨I,rfl,H⟩|⟨I,H,r,d',V',o',rfl,Z,u,k,j,t,q,f,e,O⟩)
  . have X:=Hd (Y.o w' (Er H));have U:Hq (DP m.d v lo hi 9):=Hd (.inl ⟨rfl,I⟩);clear I H;go_wp2_with fail;refine⟨rfl,o,_,V,X.o,.inr ⟨rfl,rfl,g1.o,.inl ⟨9,U.o,rfl,rfl,rfl⟩⟩⟩
  . have X:=Hd (Y.o w' (Er Z));have U:Hq (DP m.d v lo hi 10):=Hd (.inr (.inl ⟨rfl,I,H,y⟩));clear I H y Z;go_wp2_with fail;refine⟨rfl,o,_,V,X.o,.inr ⟨rfl,rfl,g1.o,.inl ⟨10,U.o,rfl,rfl,rfl⟩⟩⟩
  . have X:=Hd (Y.o w' (Er H));have U:Hq (DP m.d v lo hi 7):=Hd (.inr (.inr ⟨rfl,I⟩));clear I H;go_wp2_with fail;refine⟨rfl,o,_,V,X.o,.inr ⟨rfl,rfl,g1.o,.inl ⟨7,U.o,rfl,rfl,rfl⟩⟩⟩
  . have X:Hq (Step K o w mb m V o' w' { m with calls:=BR m.calls,d:=d' } V'):=Hd ⟨⟨s,(g6.o.setStore g7.o Z O.ofDrewN).mono λop a b c r h=>L.o.ext _ _ _ _ _ _ _ _ _ gc.o k j h⟩,u,C.o.trans O.ofDrewN.any,k,j,rfl,rfl⟩;have U:Hq (_/\_/\_/\_/\_/\_):=Hd ⟨I,H,t,q,f,e⟩;clear I H Z u k j t q f e O;go_wp2;go_ret;obtain⟨F,a2,a3,a4,a5,E⟩:=U.o;exact⟨o',_,V',X.o,.inr ⟨rfl,rfl,g1.o,.inr ⟨F,a2,r,rfl,a3,a4,a5,E⟩⟩⟩
 ·have D:=g6.o.waits;have e0:({ m with calls:=BR m.calls }:ManD).waits=ev::ws:=g8;rw[e0]at D;obtain⟨g,off,cap,ge,N,gl,gm,k0,k1,k2,_⟩:=D.first
  have l:¬ ev.after<=cu:=by have:=g1.o ev ws g8;rw[gk.o]at this;omega
  rw[ge]at d4;have hp:(0:Int)<((ws.length+1:Nat):Int):=by omega
  clear g9 ge J D e0 g8 N
  go_quiet (fail)
  go_wp2_with fail;refine(G.o nq).mono ?_;rintro x w' (⟨I,rfl,H⟩|⟨I,H,y,rfl,Z⟩|⟨I,rfl,H⟩|⟨I,H,r,d',V',o',rfl,Z,u,k,j,t,q,f,e,O⟩)
  . have X:=Hd (Y.o w' (Er H));have U:Hq (DP m.d v lo hi 9):=Hd (.inl ⟨rfl,I⟩);clear I H;go_wp2_with fail;refine⟨rfl,o,_,V,X.o,.inr ⟨rfl,rfl,g1.o,.inl ⟨9,U.o,rfl,rfl,rfl⟩⟩⟩
  . have X:=Hd (Y.o w' (Er Z));have U:Hq (DP m.d v lo hi 10):=Hd (.inr (.inl ⟨rfl,I,H,y⟩));clear I H y Z;go_wp2_with fail;refine⟨rfl,o,_,V,X.o,.inr ⟨rfl,rfl,g1.o,.inl ⟨10,U.o,rfl,rfl,rfl⟩⟩⟩
  . have X:=Hd (Y.o w' (Er H));have U:Hq (DP m.d v lo hi 7):=Hd (.inr (.inr ⟨rfl,I⟩));clear I H;go_wp2_with fail;refine⟨rfl,o,_,V,X.o,.inr ⟨rfl,rfl,g1.o,.inl ⟨7,U.o,rfl,rfl,rfl⟩⟩⟩
  . have X:Hq (Step K o w mb m V o' w' { m with calls:=BR m.calls,d:=d' } V'):=Hd ⟨⟨s,(g6.o.setStore g7.o Z O.ofDrewN).mono λop a b c r h=>L.o.ext _ _ _ _ _ _ _ _ _ gc.o k j h⟩,u,C.o.trans O.ofDrewN.any,k,j,rfl,rfl⟩;have U:Hq (_/\_/\_/\_/\_/\_):=Hd ⟨I,H,t,q,f,e⟩;clear I H Z u k j t q f e O;go_wp2;go_ret;obtain⟨F,a2,a3,a4,a5,E⟩:=U.o;exact⟨o',_,V',X.o,.inr ⟨rfl,rfl,g1.o,.inr ⟨F,a2,r,rfl,a3,a4,a5,E⟩⟩⟩
def QY {o:Own}(h:AF (K m.d V) o w mb m)(U:Ac o w)(hx:AR o w xb mb)(hk:Ai m.d V)(v:Int)(lo hi:Nat)
 (O:m.waits=ev::ws) (H:ev.after<=BR m.calls):
 Cl 88 #[Pt xb,Iv v,Iv lo,Iv hi] w (G2 K o w mb m V v lo hi):=by
 obtain⟨s,h⟩:=h;obtain⟨c0,c1,c2,c3,c4,c5,f0⟩:=cells6 h.blk;have cx:=hx.cell;obtain⟨W,Z⟩:=Ex (w.setCell (Aw mb 5) (Iv (BR m.calls)));have a:A9 (K m.d V) o W mb { m with calls:=BR m.calls } s:=by rw[Z];exact h.field rfl rfl rfl rfl rfl h.waits rfl
 have i:Chg (λ_=>True) o o w W:=by rw[Z];exact(Chg.refl _ o w).setCell (p:=Aw mb 5) h.own trivial _
 have C:Ac o W:=U.mono i.size;obtain⟨d0,d1,d2,d3,d4,d5,g0⟩:=cells6 a.blk;have gf:mb<W.heap.size:=Ad d0;have l:=a.waits;have e0:({ m with calls:=BR m.calls }:ManD).waits=ev::ws:=O;rw[e0]at l;obtain⟨g,off,cap,go,gA,gD,gF,e,k1,k2,g8⟩:=l.first
 rw[go]at d4;have hp:(0:Int)<((ws.length+1:Nat):Int):=by omega
 have x:=Hd i;have ge:=Hd C;have y:=Hd a;have T:=Hd hk;have z:=Hd g8;have HW1:=Hd O;have HD:=Hd H;have Q:Hq (w.setCell (Aw mb 5) (Iv (wrap64 (m.calls+1)))=W):=Hd Z.symm;clear h U hx hk a i C Z g8 l e0 go gA O
 go_enter func88,ntmps88
 go_upto_region 3 with fail;rw[Q.o];obtain⟨cu,c⟩:=Ex (wrap64 (m.calls+1));have n:W.cell? (Aw mb 5)=some (Iv cu):=by rw[c];exact d5
 have gE:ev.after<=cu:=by rw[c];exact H
 rw[<-c];clear c0 c1 c2 c3 c4 c5 f0 cx d5 c H
 go_quiet (fail)
 obtain⟨W2,j⟩:=Ex (W.drewN nq);have g1:Bw W W2:=by rw[j];exact An W nq
 rw[<-j];have g6:=Hd (y.o.below ge.o g1);have g3:=Hd (ge.o.mono g1.size);have G:=Hd (x.o.trans (Chg.of_below g1 _ _));have X:W2.cell? (Aw mb 4)=_:=(g1.cell (p:=Aw mb 4) gf).trans d4;have g9:g<W.heap.size:=Ad e;have t:W2.cell? (Aw g off)=_:=(g1.cell (p:=Aw g off) g9).trans e;have S:W2.cell? (Aw g (off+1))=_:=(g1.cell (p:=(Aw g (off+1))) g9).trans k1;have R:W2.cell? (Aw g (off+2))=_:=(g1.cell (p:=(Aw g (off+2))) g9).trans k2;have gk:=Hd (z.o.keep (w':=W2) (o':=o) (λq f=>g1.block q (ge.o q _ f)) (λ_ h=>h));clear j e k1 k2 d0 d1 d2 d3 d4 n g0 g1 y ge x z Q;obtain⟨d0,d1,d2,d3,_,d5,g0⟩:=cells6 g6.o.blk;have gf:mb<W2.heap.size:=Ad d0;have g9:g<W2.heap.size:=Ad t;go_upto_region 5 with fail;obtain⟨bx,b⟩:=Ex W2.heap.size;obtain⟨Y,gc⟩:=Ex (W2.alloc (.cells #[Iv ev.after,Iv ev.kind,Iv ev.level] 76));have g4:Bw W2 Y:=by rw[gc];exact Ag W2 _
 have D:o bx=none:=by rw[b];exact g3.o.none (Xs _)
 have r:Y.heap[bx]?=some (.cells #[Iv ev.after,Iv ev.kind,Iv ev.level] 76 (0,0)):=by rw[gc,b];exact Xv W2 _
 rw[<-gc,<-b];have g2:=Hd (g6.o.below g3.o g4);have L:=Hd (g3.o.mono g4.size);have J:=Hd (G.o.trans (Chg.of_below g4 _ _));have d4:Y.cell? (Aw mb 4)=_:=(g4.cell (p:=Aw mb 4) gf).trans X;have M:=Hd (gk.o.keep (w':=Y) (o':=o) (λq f=>g4.block q (g3.o q _ f)) (λ_ h=>h));clear gc b t S R d0 d1 d2 d3 X d5 g0 g4 g6 g3 G gk;obtain⟨d0,d1,d2,d3,_,d5,g0⟩:=cells6 g2.o.blk;have E:bx≠mb:=by rintro rfl;rw[g2.o.own]at D;cases D
 obtain⟨I,g5⟩:=Ex ((Y.setCell (Aw mb 4) (.slice (if cap=1 then some (Aw g off)else some (Aw g (off+3))) ws.length (cap-1))).setCell (Aw mb 5) (Iv 0));have gt:A9 (K m.d V) o I mb { m with calls:=0,waits:=ws } { s with vw:=.slice (if cap=1 then some (Aw g off)else some (Aw g (off+3))) ws.length (cap-1) }:=by
  have N:=g2.o.field (k:=4) (u:=.slice (if cap=1 then some (Aw g off)else some (Aw g (off+3))) ws.length (cap-1)) (m':={ m with calls:=BR m.calls,waits:=ws }) (s':={ s with vw:=.slice (if cap=1 then some (Aw g off)else some (Aw g (off+3))) ws.length (cap-1) }) rfl rfl rfl rfl rfl M.o rfl;have a2:=N.field (k:=5) (u:=Iv 0) (m':={ m with calls:=0,waits:=ws }) (s':={ s with vw:=.slice (if cap=1 then some (Aw g off)else some (Aw g (off+3))) ws.length (cap-1) }) rfl rfl rfl rfl rfl N.waits rfl;rw[g5];exact a2
 have B:Chg (λ_=>True) o o w I:=by rw[g5];exact(J.o.setCell (p:=Aw mb 4) g2.o.own trivial _).setCell (p:=Aw mb 5) g2.o.own trivial _
 have g7:I.heap[bx]?=some (.cells #[Iv ev.after,Iv ev.kind,Iv ev.level] 76 (0,0)):=by rw[g5];exact(Az E _).trans ((Az E _).trans r)
 have F:Step K o w mb m V o I { m with calls:=0,waits:=ws } V:=⟨⟨_,gt⟩,L.o.mono (by rw[g5];simp[World.setCell]),B,T.o,Ext.refl _ _,rfl,rfl⟩;have gB:=Hd F;have y0:I.cell? (Av bx)=some (Iv ev.after):=by rw[Xw I bx 0 _ _ _ g7];rfl
 have y1:I.cell? (Aw bx 1)=some (Iv ev.kind):=by rw[Xw I bx 1 _ _ _ g7];rfl
 have y2:I.cell? (Aw bx 2)=some (Iv ev.level):=by rw[Xw I bx 2 _ _ _ g7];rfl
 have A:=Hd g5;clear gt B g7 F g5;go_upto_region 6 with fail;rw[<-A.o];clear A d0 d1 d2 d3 d4 d5 g0 r g2 L J M;go_wp2_with fail
 all_goals exact⟨rfl,o,_,V,gB.o,.inl ⟨ev,HW1.o,HD.o,rfl,rfl,rfl,rfl⟩⟩
def IY {o:Own}(Z:AC K)(h:AF (K m.d V) o w mb m)(H:Ac o w)(hx:AR o w xb mb)(hk:Ai m.d V)(v:Int)(lo hi:Nat)(O:okE (Aa m.d) lo)(U:okE (Aa m.d) hi):
 Cl 88 #[Pt xb,Iv v,Iv lo,Iv hi] w (G2 K o w mb m V v lo hi):=by
 by_cases X:∀ev ws,m.waits=ev::ws->BR m.calls<ev.after
 . exact QX Z h H hx hk v lo hi O U X
 ·cases I:m.waits with
  | nil=>exact absurd (λev ws e=>by rw[I]at e;cases e) X
  | cons ev ws=>exact QY h H hx hk v lo hi I (Int.not_lt.1 λhl=>X λa Y e=>by rw[I]at e;cases e;exact hl)
section
def F5 (hk:Ai d V)(h:e/2=0):lvE d.vars.length (levN d) (Aa d) e=d.vars.length:=by unfold lvE;rw[h,hk.dag.none0]
def G3 (h:e/2=f/2):lvE d.vars.length (levN d) (Aa d) e=lvE d.vars.length (levN d) (Aa d) f:=by unfold lvE;rw[h]
def IZ (h:e/2=f/2)(H:okE N f):okE N e:=by unfold okE;rw[h];exact H
def Bo (hk:Ai d V){v:Nat}(H:okE (Aa d) f)(O:v<d.vars.length)(hl:levN d v<=lvE d.vars.length (levN d) (Aa d) f):
 okE (Aa d) (cofs d f v).1/\okE (Aa d) (cofs d f v).2/\levN d v<lvE d.vars.length (levN d) (Aa d) (cofs d f v).1/\levN d v<lvE d.vars.length (levN d) (Aa d) (cofs d f v).2 /\
  ∀ρ,ef V f ρ=if ρ v then ef V (cofs d f v).2 ρ else ef V (cofs d f v).1 ρ:=by
 unfold cofs;cases hb:Aa d (f/2)with
 | none=>
   have g0:levN d v<lvE d.vars.length (levN d) (Aa d) f:=by unfold lvE;rw[hb];exact hk.dag.lt v O
   exact⟨H,H,g0,g0,fun ρ=>by simp⟩
 | some b=>
   by_cases e:(b.v:Int)=v
   ·have I:b.v=v:=by omega
    simp only[Xx e];refine⟨Du (hk.dag.okLo _ _ hb),Du (hk.dag.okHi _ _ hb),?_,?_,fun ρ=>?_⟩
    . rw[DO,<-I];exact hk.dag.lvLo _ _ hb
    . rw[DO,<-I];exact hk.dag.lvHi _ _ hb
    . rw[CD,CD];have h1:=hk.dag.eqn _ _ hb;unfold eneg;have h2:ef V f ρ=((f%2 == 1) != V (f/2) ρ):=rfl;rw[h2,h1];simp only[iteF,I];split<;>rfl
   ·simp only[Xu e];have g0:levN d v<lvE d.vars.length (levN d) (Aa d) f:=by
     rcases Nat.lt_or_eq_of_le hl with h|h
     . exact h
     . exfalso;unfold lvE at h;rw[hb]at h;have:=hk.dag.inj _ _ O (hk.dag.var _ _ hb) h;exact e (by omega)
    exact⟨H,H,g0,g0,fun ρ=>by simp⟩
def QZ (hk:Ai d V)(f g h:Nat):minL d f g h<=d.vars.length:=by unfold minL;have:=hk.dag.lvE_le f;omega
def Ja (h1:k<=lvE d.vars.length (levN d) (Aa d) f)(h2:k<=lvE d.vars.length (levN d) (Aa d) g)(h3:k<=lvE d.vars.length (levN d) (Aa d) h):k<=minL d f g h:=by unfold minL;omega
def Ca.ok (hk:Ai d V)(hi:Ca e f g h)(I:okE (Aa d) f)(H:okE (Aa d) g)(hh:okE (Aa d) h):
 okE (Aa d) e/\minL d f g h<=lvE d.vars.length (levN d) (Aa d) e:=by
 rcases hi with e0|e0|e0|e0
 . exact⟨.inl e0,by rw[F5 hk e0];exact QZ hk f g h⟩
 . exact⟨IZ e0 I,by rw[G3 e0];unfold minL;omega⟩
 . exact⟨IZ e0 H,by rw[G3 e0];unfold minL;omega⟩
 . exact⟨IZ e0 hh,by rw[G3 e0];unfold minL;omega⟩
structure IteS (d:Af)(V:Nat->BF)(f0 g0 h0:Nat)(f g h:Nat)(nt:Bool):Prop where
 okF:okE (Aa d) f
 okG:okE (Aa d) g
 okH:okE (Aa d) h
 lev:minL d f0 g0 h0<=minL d f g h
 val:∀ρ,iteB (ef V f0 ρ) (ef V g0 ρ) (ef V h0 ρ)=(nt != iteB (ef V f ρ) (ef V g ρ) (ef V h ρ))
def IteS.start (I:okE (Aa d) f)(H:okE (Aa d) g)(hh:okE (Aa d) h):IteS d V f g h f g h false:=⟨I,H,hh,Xs _,fun ρ=>by simp⟩
def IteS.next (hk:Ai d V)(s:IteS d V f0 g0 h0 f g h nt)(O:(iteR f g h).dn=false):
 IteS d V f0 g0 h0 (iteR f g h).a (iteR f g h).b (iteR f g h).c (nt != (iteR f g h).n)/\(iteR f g h).a/2≠0:=by
 obtain⟨X,hb,U,I,H⟩:=QV O;obtain⟨Y,a2⟩:=X.ok hk s.okF s.okG s.okH;obtain⟨b1,b2⟩:=hb.ok hk s.okF s.okG s.okH;obtain⟨c1,c2⟩:=U.ok hk s.okF s.okG s.okH;refine⟨⟨Y,b1,c1,Xz s.lev (Ja a2 b2 c2),fun ρ=>?_⟩,I⟩;rw[s.val,H hk.dag.one];cases nt<;>cases(iteR f g h).n<;>simp
def IteS.answer (s:IteS d V f0 g0 h0 f g h nt)(h1:okE (Aa d) f0)(h2:okE (Aa d) g0)(h3:okE (Aa d) h0)(I:okE (Aa d) r)(hl:minL d f g h<=lvE d.vars.length (levN d) (Aa d) r)
 (H:∀ρ,ef V r ρ=iteB (ef V f ρ) (ef V g ρ) (ef V h ρ)):IteP d V f0 g0 h0 (eflip r nt):=
 ⟨h1,h2,h3,Du I,fun ρ=>by rw[CD,H,<-s.val];rfl,by rw[DO];exact Xz s.lev hl⟩
def IteS.done (hk:Ai d V)(s:IteS d V f0 g0 h0 f g h nt)(h1:okE (Aa d) f0)(h2:okE (Aa d) g0)(h3:okE (Aa d) h0)(U:(iteR f g h).dn=true):IteP d V f0 g0 h0 (eflip (iteR f g h).r nt):=by
 obtain⟨hh,O⟩:=Lz U;obtain⟨I,H⟩:=hh.ok hk s.okF s.okG s.okH;exact s.answer h1 h2 h3 I H (O hk.dag.one)
def Ext.minL (x:Ext d V d' V')(hk:Ai d V)(H:Ai d' V'){f g h:Nat}(O:okE (Aa d) f)(I:okE (Aa d) g)(hh:okE (Aa d) h):minL d' f g h=Go.Proofs.YtnphndlbfeagbaaGreat.minL d f g h:=by
 unfold Go.Proofs.YtnphndlbfeagbaaGreat.minL;rw[x.vars,x.lvE O hk.dag.none0 H.dag.none0,x.lvE I hk.dag.none0 H.dag.none0,x.lvE hh hk.dag.none0 H.dag.none0]
def IteS.ext (s:IteS d V f0 g0 h0 f g h nt)(x:Ext d V d' V')(hk:Ai d V)(H:Ai d' V')(h1:okE (Aa d) f0)(h2:okE (Aa d) g0)(h3:okE (Aa d) h0):IteS d' V' f0 g0 h0 f g h nt:=
 ⟨x.ok s.okF,x.ok s.okG,x.ok s.okH,by rw[x.minL hk H h1 h2 h3,x.minL hk H s.okF s.okG s.okH];exact s.lev,fun ρ=>by rw[x.ef s.okF,x.ef s.okG,x.ef s.okH,x.ef h1,x.ef h2,x.ef h3];exact s.val ρ⟩
def IteP.ext (s:IteP d V f g h r)(x:Ext d V d' V')(hk:Ai d V)(H:Ai d' V'):IteP d' V' f g h r:=
 ⟨x.ok s.okA,x.ok s.okB,x.ok s.okC,x.ok s.okR,fun ρ=>by rw[x.ef s.okA,x.ef s.okB,x.ef s.okC,x.ef s.okR];exact s.val ρ,
  by rw[x.minL hk H s.okA s.okB s.okC,x.vars,x.lvE s.okR hk.dag.none0 H.dag.none0];exact s.lev⟩
def Ra (hk:Ai d V){v:Nat}(Y:okE (Aa d) f)(X:okE (Aa d) g)(hh:okE (Aa d) h)(H:v<d.vars.length)(hl:levN d v<=minL d f g h)
 (c1:∀ρ,ef V lo ρ=iteB (ef V (cofs d f v).1 ρ) (ef V (cofs d g v).1 ρ) (ef V (cofs d h v).1 ρ)) (c2:∀ρ,ef V hi ρ=iteB (ef V (cofs d f v).2 ρ) (ef V (cofs d g v).2 ρ) (ef V (cofs d h v).2 ρ))
 (U:ef V r=iteF v (ef V hi) (ef V lo)) (ρ:Nat->Bool):ef V r ρ=iteB (ef V f ρ) (ef V g ρ) (ef V h ρ):=by
 have O:=(Bo hk Y H (by unfold minL at hl;omega)).2.2.2.2 ρ;have I:=(Bo hk X H (by unfold minL at hl;omega)).2.2.2.2 ρ;have lh:=(Bo hk hh H (by unfold minL at hl;omega)).2.2.2.2 ρ;rw[U,O,I,lh];simp only[iteF];cases ρ v
 . simpa using c1 ρ
 . simpa using c2 ρ
def EN (x:Ext d V d' V')(h0:Aa d 0=none)(H:Aa d' 0=none)(I:okE (Aa d) f)(v:Int):cofs d' f v=cofs d f v:=by
 unfold cofs;rcases I with h|⟨b,hb⟩
 . rw[h,h0,H]
 . rw[hb,x.nodes _ _ hb]
end
def L4 (K:Law)(k:Nat)(o:Own)(w:Wd)(mb:Nat)(m:ManD)(V:Nat->BF)(f g h:Nat)(e:Ending)(w':Wd):Prop:=
 ∃o' m' V',Step K o w mb m V o' w' m' V' /\
  ((∃r:Nat,e=.returned (Iv r)/\IteP m'.d V' f g h r/\m'.waits=m.waits/\m'.d.pool.many+1<=m.d.pool.many+2^k) \/
   (e=A1 7 false ev0/\m'.waits=m.waits/\m'.d.pool.many=m'.d.pool.room/\m'.d.pool.many+2<=m.d.pool.many+2^k) \/
   (∃ev,e=A1 0 true ev/\m.waits=ev::m'.waits))
def Jb (K:Law)(k:Nat):Prop:=∀(o:Own) (w:Wd) (xb mb:Nat) (m:ManD) (V:Nat->BF) (f g h:Nat),AF (K m.d V) o w mb m->Ac o w->AR o w xb mb->Ai m.d V ->
 okE (Aa m.d) f->okE (Aa m.d) g->okE (Aa m.d) h->m.d.vars.length<=minL m.d f g h+k ->
 Cl 117 #[Pt xb,Iv f,Iv g,Iv h] w (L4 K k o w mb m V f g h)
def Rb {o:Own}(H:AF (K m.d V) o w mb m)(hl:Ac o w)(hk:Ai m.d V)(hb:Bw w w'):Step K o w mb m V o w' m V:=by
 obtain⟨s,h⟩:=H;exact⟨⟨s,h.below hl hb⟩,hl.mono hb.size,Chg.of_below hb _ _,hk,Ext.refl _ _,rfl,rfl⟩
def Step.below {o:Own}(h:Step K o w mb m V o' w' m' V')(hb:Bw w' w''):Step K o w mb m V o' w'' m' V':=h.trans (Rb h.is h.lt h.ok hb)
def top3 (hk:Ai d V)(X:okE (Aa d) f)(U:f/2≠0){top:Int}(O:TopS d [f,g,h] top least):
 ∃v:Nat,top=v/\v<d.vars.length/\levN d v=minL d f g h/\levN d v<d.vars.length:=by
 rcases O with ⟨_,_,h3⟩|⟨v,h1,_,h3,⟨e,I,b,hb,g0⟩,H⟩
 ·exfalso;rcases X with h0|⟨b,hb⟩
  . exact U h0
  . rw[h3 f (by simp)]at hb;cases hb
 ·refine⟨v,h1,h3,?_,hk.dag.lt v h3⟩;have e0:lvE d.vars.length (levN d) (Aa d) e=levN d v:=by unfold lvE;rw[hb,<-g0]
  have Y:=H f (by simp);have a2:=H g (by simp);have a3:=H h (by simp);simp only[Yy,ZQ,or_false]at I;unfold minL;rcases I with rfl|rfl|rfl<;>omega
abbrev aR:=@Classical.choose_spec
abbrev ZE:=@Nat.one_le_two_pow
abbrev XJ:=@Nat.pow_succ
def L5 (hK:AC K)(k:Nat)(IH:∀k',k=k'+1->Jb K k'):Jb K k:=by
 intro o w xb mb m V f g h hm gS hx hk hf hg hh gE;obtain⟨st0,gN⟩:∃s,Ap o w (Classical.choose hm).sb m.d s:=(aR hm).store;have N:Hq (∀e,okE (Aa m.d) e->e<eMax):=Hd λe he=>by have:=gN.edge_lt he;unfold eMax;omega
 have hp:=Hd hK;have HM:=Hd hm;have ha:=Hd gS;have t:=Hd hx;have l:=Hd hk;have HF:=Hd hf;have HG:=Hd hg;have HH:=Hd hh;have hX:=Hd gE;have h7:Hq (IteS m.d V f g h f g h false):=Hd (IteS.start hf hg hh);clear gN hm gS hx hk hf hg hh gE
 go_enter func117,ntmps117
 go_upto_block 0 with fail
 go_cut [1,2,3,9] from 27 (λs1 s2 s3 y wx=>∃(O g' U:Nat) (nt:Bool),s1=Iv O/\s2=Iv g'/\s3=Iv U/\y=.bool nt/\IteS m.d V f g h O g' U nt/\O/2≠0/\wx=w)
 case first=>
  go_wp2
  go_loopw [1,2,3,9,27] (λs1 s2 s3 y i wr=>∃(O g' U:Nat) (nt:Bool) (j:Nat),s1=Iv O/\s2=Iv g'/\s3=Iv U/\y=.bool nt/\i=Iv j/\j<=3/\IteS m.d V f g h O g' U nt/\(0<j->O/2≠0)/\wr=w) (λ_ _ _ _ i _=>3-(intOf i).toNat)
  case atStart=>exact⟨f,g,h,false,0,rfl,rfl,rfl,rfl,rfl,by omega,h7.o,by omega,rfl⟩
  case round=>
   obtain⟨O,g',U,nt,j,rfl,rfl,rfl,rfl,rfl,hj,p,z,rfl⟩:=hrel;clear h7
   by_cases gS:j<3
   ·have u:=Hd (λW:Wd=>QU O g' U W (N.o _ p.okF) (N.o _ p.okG) (N.o _ p.okH));have T:(iteR O g' U).dn=true->(iteR O g' U).r<eMax:=λe=>N.o _ (((Lz e).1.ok l.o p.okF p.okG p.okH).1)
    have Q:=λe=>p.next l.o (f:=O) (g:=g') (h:=U) e
    have go:=λe=>p.done l.o HF.o HG.o HH.o e
    have kk:(j:Int)<3:=by omega
    unfold iteV at u;obtain⟨R,hR⟩:=Ex (iteR O g' U);rw[<-hR]at u T Q go;clear hR p z;obtain⟨a,b,c,n,r,dn⟩:=R;dsimp only at u T Q go;cases dn with
    | true=>
      have L:=Hd (λW:Wd=>Cz r nt W (T rfl));have kj:=Hd (go rfl);clear T Q go;go_wp2_with fail;refine(u.o _).mono ?_;rintro x w' ⟨rfl,rfl⟩;go_wp2_with fail;refine(L.o _).mono ?_;rintro x w' ⟨rfl,rfl⟩;go_wp2;go_ret;exact⟨o,m,V,⟨HM.o,ha.o,Chg.refl _ _ _,l.o,Ext.refl _ _,rfl,rfl⟩,.inl ⟨_,rfl,kj.o,rfl,by have:=ZE (n:=k);omega⟩⟩
    | false=>
      have hL:(nt != n)=(!nt == n):=by cases nt<;>cases n<;>rfl
      have g8:=Hd (Q rfl);rw[hL]at g8;clear T Q go hL
      by_cases hD:a=O
      ·subst hD
       by_cases hp2:b=g'
       ·subst hp2
        by_cases hC:c=U
        . subst hC;go_wp2_with fail;refine(u.o _).mono ?_;rintro x w' ⟨rfl,rfl⟩;go_wp2_with fail;go_meet;exact⟨_,_,_,_,rfl,rfl,rfl,rfl,g8.o.1,g8.o.2,by trivial⟩
        ·have H3:(c == U)=false:=by simp[hC]
         go_wp2_with fail;refine(u.o _).mono ?_;rintro x w' ⟨rfl,rfl⟩;go_wp2;go_roundw
         case rel=>exact⟨_,_,_,_,j+1,rfl,rfl,rfl,rfl,by simp,by omega,g8.o.1,λ_=>g8.o.2,by trivial⟩
         case measure=>simp[intOf];omega
       ·have H2:(b == g')=false:=by simp[hp2]
        go_wp2_with fail;refine(u.o _).mono ?_;rintro x w' ⟨rfl,rfl⟩;go_wp2;go_roundw
        case rel=>exact⟨_,_,_,_,j+1,rfl,rfl,rfl,rfl,by simp,by omega,g8.o.1,λ_=>g8.o.2,by trivial⟩
        case measure=>simp[intOf];omega
      ·have H1:(a == O)=false:=by simp[hD]
       go_wp2_with fail;refine(u.o _).mono ?_;rintro x w' ⟨rfl,rfl⟩;go_wp2;go_roundw
       case rel=>exact⟨_,_,_,_,j+1,rfl,rfl,rfl,rfl,by simp,by omega,g8.o.1,λ_=>g8.o.2,by trivial⟩
       case measure=>simp[intOf];omega
   ·obtain rfl:j=3:=by omega
    have I:=Hd p;have HN:=Hd (z (by omega));clear p z;go_wp2_with fail;go_meet;exact⟨O,g',U,nt,rfl,rfl,rfl,rfl,I.o,HN.o,rfl⟩
 case rest=>
  obtain⟨O,g',U,nt,rfl,rfl,rfl,rfl,p,z,rfl⟩:=hcut
  rename Wd=>w
  clear h7;obtain⟨s,gB⟩:=HM.o;obtain⟨c0,c1,c2,c3,c4,c5,f0⟩:=cells6 gB.blk;have cx:=t.o.cell;have k8:=Hd (KW o s.me (K m.d V) 1 O g' U w gB.memo ha.o);have ke:=Hd gB;have I:=Hd p;have HN:=Hd z;clear gB p z;go_wp2_with fail;refine k8.o.mono ?_;rintro x w1 ⟨kc,gi,S,ge⟩;have h3:A9 (K m.d V) o w1 mb m s:=ke.o.setMemo ha.o gi (S.mono λr e=>.inl e);have hP:=t.o.chg S;have kr:=Hd S.any;have kp:=Hd h3;have kn:=Hd hP;have kq:=Hd ge;have gM:Step K o w mb m V o w1 m V:=⟨⟨s,h3⟩,ge,S.any,l.o,Ext.refl _ _,rfl,rfl⟩;have h6:=Hd gM;clear gi S ge h3 hP gM;rcases kc with rfl|⟨r,rfl,hG⟩
  ·clear c0 c1 c2 c3 c4 c5 f0 cx;go_upto_region 14 with fail;obtain⟨w2,gA⟩:=Ex (w1.alloc (.cells #[Iv O,Iv g',Iv U] 107));have hN:Bw w1 w2:=by rw[gA];exact Ag w1 _
   have hz:w2.heap[w1.heap.size]?=some (.cells #[Iv O,Iv g',Iv U] 107 (0,0)):=by rw[gA];exact Xv w1 _
   have gC:Aj w2 (some (Av w1.heap.size)) ([O,g',U].map Int.ofNat):=⟨by simp,λj hj=>⟨w1.heap.size,0,rfl,by
    rw[Xw w2 w1.heap.size (0+j) _ _ _ hz];simp at hj
    match j,hj with
    | 0,_=>rfl
    | 1,_=>rfl
    | 2,_=>rfl⟩⟩
   have gc:=h6.o.below hN;have hO:=t.o.chg gc.chg;have h4:Hq (Cl 61 #[Pt xb,.slice (some (Av w1.heap.size)) 3 3] w2 λx w'=>∃top least,x=.returned (Iv top)/\TopS m.d [O,g',U] top least/\Bw w2 w'):=
    Hd (F4 gc.is gc.lt hO l.o [O,g',U] (by simp;exact⟨I.o.okF,I.o.okG,I.o.okH⟩) (some (Av w1.heap.size)) 3 gC)
   have h5:=Hd gc;have hT:=Hd gA;clear hN hz gC gc hO gA;go_wp2_with fail;rw[<-hT.o];refine h4.o.mono ?_;rintro x w3 ⟨top,least,rfl,gI,hM⟩;obtain⟨v,rfl,F,gk,ka⟩:=top3 l.o I.o.okF HN.o gI;have k5:=Hd (h5.o.below hM);have HV:=Hd F;have hU:=Hd gk;obtain⟨k',gV⟩:∃k',k=k'+1:=⟨k-1,by have h1:=hX.o;have h2:=I.o.lev;omega⟩;have hW:=Hd (IH k' gV);have cf:=Bo l.o I.o.okF F (by rw[gk];unfold minL;omega);have cg:=Bo l.o I.o.okG F (by rw[gk];unfold minL;omega);have ch:=Bo l.o I.o.okH F (by rw[gk];unfold minL;omega);have ge:levN m.d v+1<=minL m.d (cofs m.d O v).1 (cofs m.d g' v).1 (cofs m.d U v).1:=Ja cf.2.2.1 cg.2.2.1 ch.2.2.1;have hF:levN m.d v+1<=minL m.d (cofs m.d O v).2 (cofs m.d g' v).2 (cofs m.d U v).2:=Ja cf.2.2.2.1 cg.2.2.2.1 ch.2.2.2.1;have hI:m.d.vars.length<=levN m.d v+1+k':=by have h1:=hX.o;have h2:=I.o.lev;omega
   have G:=Hd cf;have J:=Hd cg;have gt:=Hd ch;have hd:=Hd ge;have hc:=Hd hF;have hr:=Hd hI;have HKK:=Hd gV;have h8:Hq (∀(W:Wd) (e:Nat),okE (Aa m.d) e->Step K o w mb m V o W m V->Cl 62 #[Pt xb,Iv e,Iv v] W λx w'=>x=.returned (.tuple #[Iv (cofs m.d e v).1,Iv (cofs m.d e v).2])/\Step K o w mb m V o w' m V):=
    Hd λW e he st=>(EM st.is st.lt (t.o.chg st.chg) l.o e he v).mono λx w' ⟨h1,h2⟩=>⟨h1,st.below h2⟩
   clear gI hM F gk ka cf cg ch ge hF hI gV h4 hT h5;go_wp2_with fail;refine(h8.o _ _ I.o.okF k5.o).mono ?_;rintro x w4 ⟨rfl,gL⟩;have k4:=Hd gL;clear gL;go_wp2_with fail;refine(h8.o _ _ I.o.okG k4.o).mono ?_;rintro x w5 ⟨rfl,gK⟩;have k3:=Hd gK;clear gK;go_wp2_with fail;refine(h8.o _ _ I.o.okH k3.o).mono ?_;rintro x w6 ⟨rfl,gJ⟩;have A:=Hd gJ;clear gJ;go_wp2_with fail;refine(hW.o o w6 xb mb m V _ _ _ A.o.is A.o.lt (t.o.chg A.o.chg) l.o G.o.1 J.o.1 gt.o.1 (by have h1:=hr.o;have h2:=hd.o;omega)).mono ?_;have gG:Hq (2^k=2^k'+2^k'):=by show _=_;rw[HKK.o,XJ];omega
   have h9:Hq (1<=2^k'):=Hd ZE;rintro x w7 ⟨o7,m7,V7,Y,(⟨lo,rfl,hE,g5,gh⟩|⟨rfl,g5,gP,gh⟩|⟨ev,rfl,g5⟩)⟩
   ·have g2:=Hd (A.o.trans Y);have gH:=Hd Y.ok;have g7:=Hd Y.ext;have M:=Hd hE;have gd:=Hd g5;have gz:=Hd gh;have hH:m7.d.vars.length<=minL m7.d (cofs m.d O v).2 (cofs m.d g' v).2 (cofs m.d U v).2+k':=by
     rw[Y.ext.minL l.o Y.ok G.o.2.1 J.o.2.1 gt.o.2.1,Y.ext.vars];have h1:=hr.o;have h2:=hc.o;omega
    have ki:=Hd hH;clear Y hE g5 gh hH;go_wp2_with fail;refine(hW.o o7 w7 xb mb m7 V7 _ _ _ g2.o.is g2.o.lt (t.o.chg g2.o.chg) gH.o (g7.o.ok G.o.2.1) (g7.o.ok J.o.2.1) (g7.o.ok gt.o.2.1) ki.o).mono ?_;rintro x w8 ⟨o8,m8,V8,Z,(⟨hi,rfl,gY,g4,gg⟩|⟨rfl,g4,gO,gg⟩|⟨ev,rfl,g4⟩)⟩
    ·have g1:=Hd (g2.o.trans Z);have ho:=Hd Z.ok;have g6:=Hd Z.ext;have hq:=Hd gY;have gy:=Hd g4;have hb:=Hd gg;have hQ:=IY hp.o g1.o.is g1.o.lt (t.o.chg g1.o.chg) Z.ok v lo hi (Z.ext.ok M.o.okR) gY.okR;have kg:=Hd hQ;clear Z gY g4 gg hQ;go_wp2_with fail;refine kg.o.mono ?_;have gT:levN m8.d v<lvE m8.d.vars.length (levN m8.d) (Aa m8.d) lo:=by
      have e1:=g6.o.lvE (n:=m8.d.vars.length) M.o.okR gH.o.dag.none0 ho.o.dag.none0;have e2:=M.o.lev;have e3:=g7.o.minL l.o gH.o G.o.1 J.o.1 gt.o.1;have e4:=hd.o;have e5:=g7.o.lev;have e6:=g6.o.lev;have e7:=g6.o.vars;rw[e1,e6,e5,e7];rw[e5]at e2;omega
     have gX:levN m8.d v<lvE m8.d.vars.length (levN m8.d) (Aa m8.d) hi:=by
      have e2:=hq.o.lev;have D:=g7.o.trans g6.o;have e3:=D.minL l.o ho.o G.o.2.1 J.o.2.1 gt.o.2.1;have e4:=hc.o;have e5:=D.lev;rw[e5]at e2⊢;omega
     have hy:v<m8.d.vars.length:=by rw[(g7.o.trans g6.o).vars];exact HV.o
     have gZ:∀er,DP m8.d v lo hi er->er=7/\m8.d.pool.many=m8.d.pool.room:=by
      rintro er (⟨_,h1⟩|⟨_,_,_,h1⟩|h1)
      . exact absurd ⟨by omega,by omega⟩ h1
      . simp only[YH]at h1;omega
      . exact h1
     have kl:=Hd gT;have km:=Hd gX;have ko:=Hd hy;have k9:=Hd gZ;clear gT gX hy gZ;rintro x w9 ⟨o9,m9,B,X,(⟨ev,hw,_,_,gF,h0,rfl⟩|⟨gf,_,_,(⟨er,hJ,gF,h0,rfl⟩|⟨_,_,r,rfl,hB,hA,gR,hZ⟩)⟩)⟩
     . have g0:=Hd (g1.o.trans X);have kd:=Hd hw;clear X hw gF h0;unfold A1;go_wp2_with fail;exact⟨rfl,o9,m9,B,g0.o,.inr (.inr ⟨ev,rfl,by rw[<-gd.o,<-gy.o];exact kd.o⟩)⟩
     . have g0:=Hd (g1.o.trans X);obtain⟨rfl,gD⟩:=k9.o er hJ;have hu:=Hd gD;have hY:=Hd gF;have gx:=Hd gf;clear X hJ gF h0 gf gD;unfold A1;go_wp2_with fail;exact⟨rfl,o9,m9,B,g0.o,.inr (.inl ⟨rfl,by rw[gx.o,gy.o,gd.o],by rw[hY.o];exact hu.o,by rw[hY.o];have a1:=gz.o;have a2:=hb.o;have a3:=gG.o;have a4:=h9.o;omega⟩)⟩
     ·have g9:=g1.o.trans X;have H:=g9.ext;have q:=X.ok;have C:=g6.o.trans X.ext;have a0:=l.o.dag.none0;have a9:=q.dag.none0;have g3:IteP m9.d B O g' U r:=by
       refine⟨H.ok I.o.okF,H.ok I.o.okG,H.ok I.o.okH,hB,fun ρ=>?_,?_⟩
       ·refine Ra (lo:=lo) (hi:=hi) (v:=v) q (H.ok I.o.okF) (H.ok I.o.okG) (H.ok I.o.okH) (by rw[H.vars];exact HV.o) (by rw[H.lev,H.minL l.o q I.o.okF I.o.okG I.o.okH,hU.o];exact Xs _) ?_ ?_ ?_ ρ
        . intro ρ;rw[EN H a0 a9 I.o.okF,EN H a0 a9 I.o.okG,EN H a0 a9 I.o.okH];exact(M.o.ext C gH.o q).val ρ
        . intro ρ;rw[EN H a0 a9 I.o.okF,EN H a0 a9 I.o.okG,EN H a0 a9 I.o.okH];exact(hq.o.ext X.ext ho.o q).val ρ
        . rw[hA,X.ext.ef hq.o.okR,X.ext.ef (g6.o.ok M.o.okR)];rfl
       . rw[H.minL l.o q I.o.okF I.o.okG I.o.okH,<-hU.o];have e1:=(g7.o.trans g6.o).lev;have e2:=(g7.o.trans g6.o).vars;rw[e1,e2]at gR;rw[H.vars];exact gR
      have ht:=Hd ((I.o.ext H l.o q HF.o HG.o HH.o).answer (H.ok HF.o) (H.ok HG.o) (H.ok HH.o) g3.okR g3.lev g3.val);obtain⟨y,gj⟩:=g9.is;have k6:=Hd (Lf o9 y.me (K m9.d B) 1 O g' U r w9 gj.memo g9.lt ((hp.o.ite _ _ _ _ _ _).2 g3));have gQ:r<eMax:=by
       obtain⟨ss,kb⟩:=gj.store;have:=kb.edge_lt g3.okR;unfold eMax;omega
      have L:=Hd (λW:Wd=>Cz r nt W gQ);obtain⟨c0,c1,c2,c3,c4,c5,f0⟩:=cells6 gj.blk;have cx:=(t.o.chg g9.chg).cell;have kh:=Hd gj;have g0:=Hd g9;have gx:=Hd (gf.trans (gy.o.trans gd.o));have k7:Hq (m9.d.pool.many+1<=m.d.pool.many+2^k):=Hd (by have a1:=gz.o;have a2:=hb.o;have a3:=gG.o;omega);clear X g9 H q C a0 a9 g3 gj gQ gf hB hA gR hZ;go_wp2_with fail;refine k6.o.mono ?_;rintro x w10 ⟨rfl,E,gi,gw,gU⟩;have k0:Hq (Step K o w mb m V E w10 m9 B):=Hd ⟨⟨y,kh.o.setMemo g0.o.lt gi gw⟩,gU,g0.o.chg.trans gw.any,g0.o.ok,g0.o.ext,g0.o.hs,g0.o.next⟩;clear gi gw gU c0 c1 c2 c3 c4 c5 f0 cx;go_wp2_with fail;refine(L.o _).mono ?_;rintro x w' ⟨rfl,rfl⟩;go_wp2;go_ret;exact⟨E,m9,B,k0.o,.inl ⟨_,rfl,ht.o,gx.o,k7.o⟩⟩
    . have g1:=Hd (g2.o.trans Z);have HQ:Hq (m8.waits=m.waits/\m8.d.pool.many=m8.d.pool.room/\m8.d.pool.many+2<=m.d.pool.many+2^k):=Hd ⟨g4.trans gd.o,gO,by have a1:=gz.o;have a3:=gG.o;have a4:=h9.o;omega⟩;clear Z g4 gO gg;unfold A1;go_wp2_with fail;exact⟨rfl,o8,m8,V8,g1.o,.inr (.inl ⟨rfl,HQ.o.1,HQ.o.2.1,HQ.o.2.2⟩)⟩
    . have g1:=Hd (g2.o.trans Z);have HQ:=Hd g4;clear Z g4;unfold A1;go_wp2_with fail;exact⟨rfl,o8,m8,V8,g1.o,.inr (.inr ⟨ev,rfl,by rw[<-gd.o];exact HQ.o⟩)⟩
   . have g2:=Hd (A.o.trans Y);have HQ:Hq (m7.waits=m.waits/\m7.d.pool.many=m7.d.pool.room/\m7.d.pool.many+2<=m.d.pool.many+2^k):=Hd ⟨g5,gP,by have a3:=gG.o;have a4:=h9.o;omega⟩;clear Y g5 gP gh;unfold A1;go_wp2_with fail;exact⟨rfl,o7,m7,V7,g2.o,.inr (.inl ⟨rfl,HQ.o.1,HQ.o.2.1,HQ.o.2.2⟩)⟩
   . have g2:=Hd (A.o.trans Y);have HQ:=Hd g5;clear Y g5;unfold A1;go_wp2_with fail;exact⟨rfl,o7,m7,V7,g2.o,.inr (.inr ⟨ev,rfl,HQ.o⟩)⟩
  . have g3:IteP m.d V O g' U r:=(hp.o.ite _ _ _ _ _ _).1 hG;have ht:=Hd (I.o.answer HF.o HG.o HH.o g3.okR g3.lev g3.val);have L:=Hd (λW:Wd=>Cz r nt W (N.o _ g3.okR));clear hG g3 c0 c1 c2 c3 c4 c5 f0 cx;go_wp2_with fail;refine(L.o _).mono ?_;rintro x w' ⟨rfl,rfl⟩;go_wp2;go_ret;exact⟨o,m,V,h6.o,.inl ⟨_,rfl,ht.o,rfl,by have:=ZE (n:=k);omega⟩⟩
def L6 (H:AC K):∀k,Jb K k:=by
 intro k
 induction k with
 | zero=>exact L5 H 0 (λk' e=>absurd e (by omega))
 | succ k I=>
   refine L5 H (k+1) (λk' e=>?_);have e2:k'=k:=by omega
   rw[e2];exact I
open Go.RowKit Go.Shelf
structure Wr (M:Nat->Prop)(w w':Wd):Prop where
 os:w'.os=w.os
 tape:w'.tape=w.tape
 output:w'.output=w.output
 size:w.heap.size<=w'.heap.size
 keep:∀k,k<w.heap.size->¬ M k->w'.heap[k]?=w.heap[k]?
def Wr.refl (M:Nat->Prop)(w:Wd):Wr M w w:=⟨rfl,rfl,rfl,Xs _,λ_ _ _=>rfl⟩
def Wr.trans {M M' N:Nat->Prop}{w w' w'':Wd}(h:Wr M w w')(H:Wr M' w' w'')(U:∀k,k<w.heap.size->M k->N k)(I:∀k,k<w.heap.size->M' k->N k):Wr N w w'':=
 ⟨H.os.trans h.os,H.tape.trans h.tape,H.output.trans h.output,Xz h.size H.size,λk hk O=>(H.keep k (X5 hk h.size) (λe=>O (I k hk e))).trans (h.keep k hk (λe=>O (U k hk e)))⟩
def Wr.mono {N:Nat->Prop}(h:Wr M w w')(I:∀k,M k->N k):Wr N w w':=⟨h.os,h.tape,h.output,h.size,λk hk H=>h.keep k hk (λe=>H (I k e))⟩
def Wr.drew {M:Nat->Prop}{w w':Wd}(h:Wr M w w'):Wr M w w'.drew:=⟨h.os,h.tape,h.output,h.size,h.keep⟩
abbrev Yt:=@Below.heap_alloc
def Wr.alloc {M:Nat->Prop}{w w':Wd}(h:Wr M w w')(o:Obj):Wr M w (w'.alloc o):=
 ⟨h.os,h.tape,h.output,by simp;have:=h.size;omega,λk hk H=>(Yt w' o k (X5 hk h.size)).trans (h.keep k hk H)⟩
def Wr.setCell {M:Nat->Prop}{w w':Wd}(h:Wr M w w'){p:Addr}(H:M p.block\/w.heap.size<=p.block)(u:Value):Wr M w (w'.setCell p u):=
 ⟨h.os,h.tape,h.output,by simp[World.setCell];exact h.size,λk hk I=>(ZV _ _ _ _ (by rintro rfl;rcases H with H|H;exact I H;omega)).trans (h.keep k hk I)⟩
abbrev Yu:=@World.putObj_heap_other
def Wr.putObj {M:Nat->Prop}{w w':Wd}(h:Wr M w w'){l:Nat}(hl:M l\/w.heap.size<=l)(o:Obj):Wr M w (w'.putObj l o):=
 ⟨h.os,h.tape,h.output,by simp;exact h.size,λk hk H=>(Yu (by rintro rfl;rcases hl with hl|hl;exact H hl;omega)).trans (h.keep k hk H)⟩
def Wr.of_below (h:Bw w w')(M:Nat->Prop):Wr M w w':=⟨h.os,h.tape,h.output,h.size,λk hk _=>h.block k hk⟩
def Wr.below (h:Wr M w w')(H:∀k,M k->n₀<=k)(I:n₀<=w.heap.size):Below n₀ w w':=
 ⟨h.os,h.tape,h.output,h.size,λk hk=>h.keep k (by omega) (λe=>by have:=H k e;omega)⟩
def Wr.of_grown {row:Option Nat}(h:w.grownBy w' row)(M:Nat->Prop)(I:∀k,row=some k->M k):Wr M w w':=
 ⟨h.os,h.tape,h.output,h.size,λk hk H=>h.block k hk (λe=>H (I k e.symm))⟩
section
variable {F:Fence}{α:Type}
def G4 (n₀:Nat)(J:List α->(Nat->Prop)->Wd->Prop):Prop:=∀pre M W,J pre M W->∀k,M k->n₀<=k/\k<W.heap.size
def Minds (n₀:Nat)(J:List α->(Nat->Prop)->Wd->Prop):Prop:=∀pre M W W',J pre M W->Wr (λk=>n₀<=k/\¬ M k) W W'->J pre M W'
def Gives (F:Fence)(n d:Nat)(P:Program)(g:Nat)(lb:Array Value)(encs:α->Array Value)(n₀:Nat)(I:Nat->Prop)(xs:List α)(w:Wd):Prop:=
 ∀(l:Nat) (J:List α->(Nat->Prop)->Wd->Prop) (M:Nat->Prop) (W:Wd),G4 n₀ J->Minds n₀ J->Wr (λk=>n₀<=k/\¬ I k) w W->(∀k,I k->¬ M k) ->
  (∀pre x M W1,J pre M W1->(∃H,pre++x::H=xs)->YieldAt F (n-1-d) P l (encs x) W1 λe W'=>
   e=.returned (.bool true)/\∃M',J (pre++[x]) M' W'/\Wr M W1 W'/\∀k,M' k->M k\/W1.heap.size<=k) ->
  J [] M W ->
  CallsIn F n P g (#[.func (.yield l) #[] #[]]++lb) W λe W'=>(∃v,e=.returned v)/\∃M',J xs M' W'/\Wr (λk=>n₀<=k) W W'/\∀k,M' k->M k\/W.heap.size<=k
abbrev aH:=@World.putObj_heap_same
theorem L7 {g:Operand}{ps:Array Tmp}{assign body:Code}(A:F.round=none)(h1:1<=n){lb:Array Value}(hg:a.eval g=.func (.func gf) #[] lb)
 (G:F.fn gf) (eg:∀args w,(callFunc gf args).run P w=.ok (.enter gf args) w) {encs:α->Array Value} {n₀:Nat} {R:Nat->Prop} {xs:List α} {d:Nat} (q:Gives F (n-1) d P gf lb encs n₀ R xs w) (C:n₀<=w.heap.size)
 (J:∀k,R k->k<w.heap.size) (B:∀x,(encs x).size=ps.size) (I:List α->(Nat->Prop)->Wd->Prop) (s:G4 n₀ I) (O:Minds n₀ I) (c:Nat->Prop) (E:∀k,R k->¬ c k) (h0:I [] c w)
 (y:α->Act->Wd->Wd->Prop) (L:∀x X W W1 W2 l,l<W.heap.size->y x X W W1->Wr (· = l) W1 W2->y x X W W2)
 (U:∀(l:Nat) (pre:List α) (x:α) (M:Nat->Prop) (W:Wd) (K:Act->Wd->Prop),I pre M W->(∀X W',Wr (λ_=>False) W W'->y x X W W'->K X W') ->
  assign.wpIn (F.inRound l) (n-1-1-d) P (Exit.then K (λ_ _ _=>False)) { tmps:=(ps.zip (encs x)).foldl (λt (p,v)=>t.setIfInBounds p v) a.tmps,defers:=[] } W)
 (j:∀(l:Nat) (pre:List α) (x:α) (X:Act) (M:Nat->Prop) (W0 W:Wd),I pre M W->y x X W0 W->W0.heap.size<=W.heap.size->w.heap.size<=W0.heap.size->(∃z,pre++x::z=xs)->body.wpIn (F.inRound l) (n-1-1-d) P
  (λe _ W'=>match e with|.normal=>∃M',I (pre++[x]) M' W'/\Wr (λk=>M k\/W0.heap.size<=k) W W'/\(∀k,M' k->M k\/W0.heap.size<=k)|_=>False) X W)
 (i:∀(D:Nat) (M:Nat->Prop) (W:Wd),w.heap.size<=D->¬ M D->I xs M W->(∀k,M k->c k\/w.heap.size<=k)->Wr (λk=>n₀<=k) w W->W.heap[D]?=some (.deferred (some []))->Q .normal { a with defers:={ target:=.collected D,args:=#[] }::a.defers } W):
 (Code.rangeFunc g ps assign body).wpIn F n P Q a w:=by
 refine wpIn_rangeFunc ?_;intro fn gm;rw[A]
 let rec0:LoopState->Loop:=λst=>{ state:=st,pending:=none,fn,tmps:=a.tmps,params:=ps,assign,body,defers:=w.heap.size }
 obtain⟨W1,g1⟩:=Ex ((w.alloc (.deferred (some []))).alloc (.loop (rec0 .ready)));have gr:W1.heap[w.heap.size+1]?=some (.loop (rec0 .ready)):=by
  rw[g1];have:=World.alloc_heap_new (w.alloc (.deferred (some []))) (.loop (rec0 .ready))
  rwa [X3]at this
 have gu:W1.heap[w.heap.size]?=some (.deferred (some [])):=by
  rw[g1];exact(Yt _ _ _ (by simp)).trans (World.alloc_heap_new w _)
 have g5:∀N:Nat->Prop,Wr N w W1:=λN=>by rw[g1];exact((Wr.refl N w).alloc _).alloc _
 have g2:=s [] c w h0;have gt:I [] c W1:=O _ _ _ _ h0 (g5 _)
 refine⟨w.heap.size+1,[{ target:=.collected w.heap.size,args:=#[] }],W1,{ target:=.fn (.func gf) lb,args:=#[.func (.yield (w.heap.size+1)) #[] #[]] },W1,gf,
  #[.func (.yield (w.heap.size+1)) #[] #[]]++lb,W1,?_,?_,?_,?_,λ_=>h1,?_⟩
 . rw[g1];exact run_enterLoop_outer _ _ _ _ _
 . simp only[resolve,hg];simp[go_sem]
 . intro f' S;simp[Target.leads]at S;subst S;exact G
 . simp[invoke,go_sem,eg]
 refine(q (w.heap.size+1)
  (λpre N W=>∃M,I pre M W/\(∀k,N k↔(M k\/k=w.heap.size+1\/k=w.heap.size))/\¬ M (w.heap.size+1)/\¬ M w.heap.size/\(∀k,M k->c k\/w.heap.size<=k) /\
   W.heap[w.heap.size+1]?=some (.loop (rec0 .ready))/\W.heap[w.heap.size]?=some (.deferred (some [])))
  (λk=>c k\/k=w.heap.size+1\/k=w.heap.size) W1 ?_ ?_ (g5 _) ?_ ?_ ?_).mono ?_
 ·rintro pre N W ⟨M,hi,H,_,_,_,hl,Y⟩ k hk;rcases(H k).1 hk with hk|hk|hk
  . exact s _ _ _ hi k hk
  . subst hk;exact⟨by omega,(Xt.1 hl).1⟩
  . subst hk;exact⟨C,(Xt.1 Y).1⟩
 ·rintro pre N W W' ⟨M,hi,H,h2,h3,u,hl,Y⟩ f;refine⟨M,O _ _ _ _ hi ?_,H,h2,h3,u,?_,?_⟩
  . exact⟨f.os,f.tape,f.output,f.size,λk hk hn=>f.keep k hk (λ⟨a,b⟩=>hn ⟨a,λe=>b ((H k).2 (.inl e))⟩)⟩
  . exact(f.keep _ (Xt.1 hl).1 (λ⟨_,b⟩=>b ((H _).2 (.inr (.inl rfl))))).trans hl
  . exact(f.keep _ (Xt.1 Y).1 (λ⟨_,b⟩=>b ((H _).2 (.inr (.inr rfl))))).trans Y
 ·intro k hk r;have:=J k hk;rcases r with r|r|r
  . exact E k hk r
  . omega
  . omega
 ·rintro pre x N W ⟨M,hi,H,h2,h3,u,hl,Y⟩ gc;have g9:w.heap.size+1<W.heap.size:=(Xt.1 hl).1;have V:=run_yield (P:=P) (args:=encs x) hl (B x);refine⟨fn,_,assign,body,V,roundIn_of_wpIn gm (U _ pre x M W _ hi ?_)⟩;intro X Z g0 gq;have gi:=(g0.keep _ g9 (λh=>h)).trans hl;have go:=(g0.keep _ (by omega) (λh=>h)).trans Y;have g6:w.heap.size+1<Z.heap.size:=by have:=g0.size;omega
  refine⟨_,run_beginRound gi rfl,?_⟩;have gk:I pre M Z:=O _ _ _ _ hi (g0.mono (λ_ h=>h.elim));have g7:Wr (· = w.heap.size+1) Z (Z.putObj (w.heap.size+1) (.loop { rec0 .ready with state:=.busy })):=(Wr.refl (· = w.heap.size+1) Z).putObj (l:=w.heap.size+1) (.inl rfl) _;have gj:I pre M (Z.putObj (w.heap.size+1) (.loop { rec0 .ready with state:=.busy })):=O _ _ _ _ gk (g7.mono (λk e=>by have e':k=w.heap.size+1:=e;subst e';exact⟨by omega,h2⟩));have gh:(Z.putObj (w.heap.size+1) (.loop { rec0 .ready with state:=.busy })).heap[w.heap.size+1]?=some (.loop { rec0 .ready with state:=.busy }):=aH g6;have gn:(Z.putObj (w.heap.size+1) (.loop { rec0 .ready with state:=.busy })).heap[w.heap.size]?=some (.deferred (some [])):=(Yu (by omega)).trans go;refine wpIn_mono (j _ pre x X M W _ gj (L _ _ _ _ _ _ g9 gq g7) (by simp;exact g0.size) (by omega) gc) ?_;intro e a3 W3 m;cases e with
  | normal=>
    obtain⟨M',gl,g4,g3⟩:=m;have T:=(g4.keep _ (by simp;exact g6) (λe=>by rcases e with e|e;exact h2 e;omega)).trans gh;have gp:=(g4.keep _ (by simp;omega) (λe=>by rcases e with e|e;exact h3 e;omega)).trans gn;have gd:=(Xt.1 T).1;have g8:¬ M' (w.heap.size+1):=λe=>by rcases g3 _ e with h|h;exact h2 h;omega
    have gg:¬ M' w.heap.size:=λe=>by rcases g3 _ e with h|h;exact h3 h;omega
    refine⟨_,_,run_endRound (P:=P) none T,rfl,λk=>M' k\/k=w.heap.size+1\/k=w.heap.size,⟨M',?_,λk=>Iff.rfl,g8,gg,?_,aH gd,(Yu (by omega)).trans gp⟩,?_,?_⟩
    . exact O _ _ _ _ gl ((Wr.refl _ _).putObj (.inl ⟨by omega,g8⟩) _)
    ·intro k hk;rcases g3 k hk with h|h
     . exact u k h
     . right;omega
    ·refine((((g0.mono (N:=N) (λ_ h=>h.elim)).putObj (l:=w.heap.size+1) (.inl ((H _).2 (.inr (.inl rfl)))) _).trans (N:=N) g4 (λk _ h=>h) (λk hk h=>?_)).putObj (l:=w.heap.size+1) (.inl ((H _).2 (.inr (.inl rfl)))) _);rcases h with h|h
     . exact(H k).2 (.inl h)
     . omega
    ·rintro k (hk|hk)
     ·rcases g3 k hk with h|h
      . exact .inl ((H k).2 (.inl h))
      . exact .inr h
     . exact .inl ((H k).2 (.inr hk))
  | ret=>exact m.elim
  | exit id=>exact m.elim
  | goto t=>exact m.elim
  | panic ch=>exact m.elim
  | outgrown=>exact m.elim
 . exact⟨c,gt,λk=>Iff.rfl,λe=>by have:=(g2 _ e).2;omega,λe=>by have:=(g2 _ e).2;omega,λk h=>.inl h,gr,gu⟩
 ·rintro e W2 ⟨⟨v,rfl⟩,N,⟨M,hi,H,h2,h3,u,hl,Y⟩,ge,_⟩;refine⟨none,_,run_endLoop (P:=P) hl (by simp[rec0]),i _ M _ (Xs _) h3 ?_ u ?_ ((Yu (by omega)).trans Y)⟩
  . exact O _ _ _ _ hi ((Wr.refl _ _).putObj (.inl ⟨by omega,h2⟩) _)
  . exact((g5 (λk=>n₀<=k)).trans ge (λ_ _ h=>h) (λ_ _ h=>h)).putObj (.inl (by omega)) _
end
structure Caught (sb:Nat)(er:Int)(evt:Bool)(ev:Ev)(w w':Wd):Prop where
 size:w.heap.size<=w'.heap.size
 os:w'.os=w.os
 tape:w'.tape=w.tape
 output:w'.output=w.output
 keep:∀k,k<w.heap.size->k≠sb->w'.heap[k]?=w.heap[k]?
 blk:w'.heap[sb]?=some (.cells #[Iv er,.bool evt,Iv ev.after,Iv ev.kind,Iv ev.level] 163 (0,0))
def L8 {er:Int}{H:Bool}{a0 U a2 a3 a4:Value}(hs:w.heap[sb]?=some (.cells #[a0,U,a2,a3,a4] 163 (0,0)))(ob:Obj):
 Caught sb er H ev w ((((((w.setCell (Av sb) (Iv er)).setCell (Aw sb 1) (.bool H)).setCell (Aw sb 2) (Iv ev.after)).setCell (Aw sb 3) (Iv ev.kind)).setCell (Aw sb 4) (Iv ev.level)).alloc ob):=by
 have w1:=(Wr.refl (· = sb) w).setCell (p:=Av sb) (.inl rfl) (Iv er);have h1:(w.setCell (Av sb) (Iv er)).heap[sb]?=some (.cells #[Iv er,U,a2,a3,a4] 163 (0,0)):=A2 hs _
 generalize w.setCell (Av sb) (Iv er)=W1 at *
 have w2:=w1.setCell (p:=Aw sb 1) (.inl rfl) (.bool H);have h2:(W1.setCell (Aw sb 1) (.bool H)).heap[sb]?=some (.cells #[Iv er,.bool H,a2,a3,a4] 163 (0,0)):=A2 h1 _
 generalize W1.setCell (Aw sb 1) (.bool H)=W2 at *
 have Z:=w2.setCell (p:=Aw sb 2) (.inl rfl) (Iv ev.after);have h3:(W2.setCell (Aw sb 2) (Iv ev.after)).heap[sb]?=some (.cells #[Iv er,.bool H,Iv ev.after,a3,a4] 163 (0,0)):=A2 h2 _
 generalize W2.setCell (Aw sb 2) (Iv ev.after)=W3 at *
 have Y:=Z.setCell (p:=Aw sb 3) (.inl rfl) (Iv ev.kind);have a:(W3.setCell (Aw sb 3) (Iv ev.kind)).heap[sb]?=some (.cells #[Iv er,.bool H,Iv ev.after,Iv ev.kind,a4] 163 (0,0)):=A2 h3 _
 generalize W3.setCell (Aw sb 3) (Iv ev.kind)=W4 at *
 have X:=Y.setCell (p:=Aw sb 4) (.inl rfl) (Iv ev.level);have O:(W4.setCell (Aw sb 4) (Iv ev.level)).heap[sb]?=some (.cells #[Iv er,.bool H,Iv ev.after,Iv ev.kind,Iv ev.level] 163 (0,0)):=A2 a _
 generalize W4.setCell (Aw sb 4) (Iv ev.level)=W5 at *
 have I:=X.alloc ob;exact⟨I.size,I.os,I.tape,I.output,λk hk g0=>I.keep k hk g0,(X1 _ _ (Xt.1 O).1).trans O⟩
def Rc (v:Value)(w:Wd):(Instr.typeAssert (.iface 163 v) 20 163 true).run prog w=.ok (.tuple #[v,.bool true]) w:=by
 simp[Instr.typeAssert,XZ underlying163,go_sem,Result.andThen]
def Re (dn st:Addr)(w:Wd)(H:w.cell? dn=some (.bool true)):
 CallsD prog 168 #[.pointer (some dn),.pointer (some st)] .returning w λe u' w'=>e=.returned (.tuple #[])/\u'=.returning/\w'=w:=by
 refine callsD_of_wpS func168 rfl λc₀ cs hu=>?_
 apply wpS_seq;apply wpS_seq;apply wpS_region;simp[wpOpsS,go_sem,H,ntmps168,Exit.thenS];refine wpS_cond (t:=true) (by simp[Act.eval,Array.replicate]) ?_;simp only[Y1];refine wpS_of_wp (wp_ret ?_);cases c₀
 simp_all [Exit.thenS,bodyPostS,results,Tryz.results168]
abbrev YJ:=@Array.replicate_succ
abbrev YK:=@Array.replicate_zero
abbrev Za:=@List.push_toArray
abbrev YP:=@List.append_toArray
abbrev YX:=@List.cons_append
abbrev ZF:=@Bool.false_eq_true
def Rf (dn sb:Nat)(er:Int)(H:Bool)(ev:Ev)(older:List PanicEntry)(w:Wd)(a0 Y a2 a3 a4:Value)(X:w.cell? (Av dn)=some (.bool false))(hs:w.heap[sb]?=some (.cells #[a0,Y,a2,a3,a4] 163 (0,0))):
 CallsD prog 168 #[Pt dn,Pt sb] (.panicking ({ v:=.iface 163 (.agg #[Iv er,.bool H,Iv ev.after,Iv ev.kind,Iv ev.level]),recovered:=false }::older)) w λe u' w'=>
  e=.returned (.tuple #[])/\u'=.panicking ({ v:=.iface 163 (.agg #[Iv er,.bool H,Iv ev.after,Iv ev.kind,Iv ev.level]),recovered:=true }::older) /\
  Caught sb er H ev w w':=by
 refine callsD_of_wpS func168 rfl λc₀ cs hu=>?_
 simp only[ntmps168,Y6,XL,Y2,Nat.reduceAdd,Nat.reduceSub,YJ,YK,Za,YP,Yv,YX];apply wpS_seq;apply wpS_seq;apply wpS_region;simp[wpOpsS,go_sem,X,Exit.thenS];refine wpS_cond (t:=false) (by simp[Act.eval]) ?_;simp only[ZF,if_false];refine wpS_of_wp (wp_skip ?_);simp only[Exit.thenS];apply wpS_seq;apply wpS_region;simp[wpOpsS,go_sem,recoverD,hu,Exit.thenS];have U:sb<w.heap.size:=(Xt.1 hs).1;obtain⟨b,c1,c2,a,Z,f0⟩:=cells5 hs;refine wpS_of_wp (wp_mono (Q:=λe I w'=>e=.normal/\I.defers=[]/\Caught sb er H ev w w') ?_ ?_)
 ·have O:=Hd hs;have g0:=λv=>Rc v w
  clear hs;go_wp2_with fail
  first|exact⟨rfl,rfl,L8 O.o _⟩|exact L8 O.o _
 . rintro e I w' ⟨rfl,h1,h2⟩;refine⟨h1,_,rfl,_,Y7 rfl _ _ _,?_⟩;exact⟨rfl,rfl,h2⟩
abbrev Stop:=Int×Bool×Ev
def Jc (r:Option Stop):Value:=
 match r with
 | some (er,H,ev)=>.agg #[.int .i64 er,.bool H,.int .i64 ev.after,.int .i64 ev.kind,.int .i64 ev.level]
 | none=>.agg #[.int .i64 0,.bool false,.int .i64 0,.int .i64 0,.int .i64 0]
def tryW (mb:Nat)(w:Wd):Wd:=
 ((w.alloc (.cells #[Iv 0,.bool false,Iv 0,Iv 0,Iv 0] 163)).alloc (.cells #[.bool false] 4)).alloc (.cells #[Pt mb] 161)
def Rg (w:Wd)(R:Option Stop->Wd->Prop)(x:Ending)(w':Wd):Prop:=
 ∃r W',R r W'/\Wr (λk=>k=w.heap.size\/k=w.heap.size+1) W' w'/\x=.returned (.tuple #[Jc r,.bool r.isNone])
def F6 (gf:Nat)(lb:Array Value)(mb:Nat)(w:Wd)(R:Option Stop->Wd->Prop):Prop:=
 Calls prog gf (#[Pt (w.heap.size+2)]++lb) (tryW mb w) λe W'=>
  (tryW mb w).heap.size<=W'.heap.size/\W'.heap[w.heap.size]?=(tryW mb w).heap[w.heap.size]?/\W'.heap[w.heap.size+1]?=(tryW mb w).heap[w.heap.size+1]? /\
   ((e=.returned (.tuple #[])/\R none W')\/∃er H ev,e=A1 er H ev/\R (some (er,H,ev)) W')
def Rh {s:Nat}(h0:W.heap[s]?=some (.cells #[Iv 0,.bool false,Iv 0,Iv 0,Iv 0] 163 (0,0)))(h1:W.heap[s+1]?=some (.cells #[.bool false] 4 (0,0))){W2:Wd}
 (X:W2=(((((W.setCell (Av s) (Iv 0)).setCell (Aw s 1) (.bool false)).setCell (Aw s 2) (Iv 0)).setCell (Aw s 3) (Iv 0)).setCell (Aw s 4) (Iv 0)).setCell (Av (s+1)) (.bool true)):
 Wr (λk=>k=s\/k=s+1) W W2/\W2.heap[s]?=some (.cells #[Iv 0,.bool false,Iv 0,Iv 0,Iv 0] 163 (0,0))/\W2.heap[s+1]?=some (.cells #[.bool true] 4 (0,0)):=by
 have H:s+1≠s:=by omega
 have w1:=(Wr.refl (λk=>k=s\/k=s+1) W).setCell (p:=Av s) (.inl (.inl rfl)) (Iv 0);have b:(W.setCell (Av s) (Iv 0)).heap[s]?=some (.cells #[Iv 0,.bool false,Iv 0,Iv 0,Iv 0] 163 (0,0)):=A2 h0 _;have b1:=(Az (p:=Av s) (w:=W) H (Iv 0)).trans h1
 generalize W.setCell (Av s) (Iv 0)=W1 at *
 have w2:=w1.setCell (p:=Aw s 1) (.inl (.inl rfl)) (.bool false);have a2:(W1.setCell (Aw s 1) (.bool false)).heap[s]?=some (.cells #[Iv 0,.bool false,Iv 0,Iv 0,Iv 0] 163 (0,0)):=A2 b _;have b2:=(Az (p:=Aw s 1) (w:=W1) H (.bool false)).trans b1
 generalize W1.setCell (Aw s 1) (.bool false)=W3 at *
 have U:=w2.setCell (p:=Aw s 2) (.inl (.inl rfl)) (Iv 0);have a3:(W3.setCell (Aw s 2) (Iv 0)).heap[s]?=some (.cells #[Iv 0,.bool false,Iv 0,Iv 0,Iv 0] 163 (0,0)):=A2 a2 _;have a:=(Az (p:=Aw s 2) (w:=W3) H (Iv 0)).trans b2
 generalize W3.setCell (Aw s 2) (Iv 0)=W4 at *
 have O:=U.setCell (p:=Aw s 3) (.inl (.inl rfl)) (Iv 0);have a4:(W4.setCell (Aw s 3) (Iv 0)).heap[s]?=some (.cells #[Iv 0,.bool false,Iv 0,Iv 0,Iv 0] 163 (0,0)):=A2 a3 _;have Z:=(Az (p:=Aw s 3) (w:=W4) H (Iv 0)).trans a
 generalize W4.setCell (Aw s 3) (Iv 0)=W5 at *
 have I:=O.setCell (p:=Aw s 4) (.inl (.inl rfl)) (Iv 0);have a5:(W5.setCell (Aw s 4) (Iv 0)).heap[s]?=some (.cells #[Iv 0,.bool false,Iv 0,Iv 0,Iv 0] 163 (0,0)):=A2 a4 _;have Y:=(Az (p:=Aw s 4) (w:=W5) H (Iv 0)).trans Z
 generalize W5.setCell (Aw s 4) (Iv 0)=W6 at *
 subst X;exact⟨I.setCell (p:=(Av (s+1))) (.inl (.inr rfl)) _,(Az (Ye H) _).trans a5,A2 Y _⟩
def Ri (mb gf:Nat)(lb:Array Value)(w:Wd)(R:Option Stop->Wd->Prop)(q:∀args w,(callFunc gf args).run prog w=.ok (.enter gf args) w)(H:F6 gf lb mb w R):
 Cl 138 #[Pt mb,.func (.func gf) #[] lb] w (Rg w R):=by
 have ge:∀(fn:Fn) (first cap:Array Value) (w:Wd),(Instr.makeFunc fn first cap).run prog w=.ok (.func fn first cap) w:=λ_ _ _ _=>rfl
 unfold F6 at H;obtain⟨W,c⟩:=Ex (tryW mb w);have d:Hq (_=W):=Hd c.symm;rw[<-c]at H;have g8:=Hd H;clear H c
 go_enter_defers func138,ntmps138
 go_wp2_with fail
 change Calls _ _ _ (tryW mb w) _
 have g4:(tryW mb w).heap[w.heap.size]?=some (.cells #[Iv 0,.bool false,Iv 0,Iv 0,Iv 0] 163 (0,0)):=by
  unfold tryW;exact(X1 _ _ (by simp;omega)).trans ((X1 _ _ (by simp)).trans (Xv w _))
 have g3:(tryW mb w).heap[w.heap.size+1]?=some (.cells #[.bool false] 4 (0,0)):=by
  unfold tryW;refine(X1 _ _ (by simp)).trans ?_;have:=Xv (w.alloc (.cells #[Iv 0,.bool false,Iv 0,Iv 0,Iv 0] 163)) (.cells #[.bool false] 4)
  rwa [X3]at this
 rw[d.o]at g4 g3⊢;have p:W.heap.size=w.heap.size+3:=by rw[<-d.o];simp[tryW]
 refine g8.o.mono ?_;rintro e W' ⟨gc,g7,g6,g5⟩;have g1:=g7.trans g4;have g0:=g6.trans g3;obtain⟨Y,c1,c2,X,U,f0⟩:=cells5 g1;have I:W'.cell? (Av (w.heap.size+1))=some (.bool false):=by rw[Xw W' _ 0 _ _ _ g0];rfl
 have f1:∀k,W'.frozen? ⟨w.heap.size+1,k,none⟩=false:=λk=>by simp[World.frozen?,g0]
 obtain⟨s,hs⟩:=Ex w.heap.size;rw[<-hs]at g1 g0 Y c1 c2 X U f0 I f1⊢;have hs1:s<W'.heap.size:=by omega
 have n:s+1<W'.heap.size:=by omega
 have h:=Hd g1;have g9:=Hd g0;have i:=Hd hs;clear g4 g3 g7 g6 g1 g0 hs p gc g8 d;rcases g5 with ⟨rfl,Z⟩|⟨er,a,ev,rfl,Z⟩
 ·have g:=Hd Z;clear Z;go_wp2_with fail;obtain⟨W2,g2⟩:=Ex ((((((W'.setCell (Av s) (Iv 0)).setCell (Aw s 1) (.bool false)).setCell (Aw s 2) (Iv 0)).setCell (Aw s 3) (Iv 0)).setCell (Aw s 4) (Iv 0)).setCell (Av (s+1)) (.bool true));obtain⟨l,j,b⟩:=Rh h.o g9.o g2;rw[<-g2];clear g2 Y c1 c2 X U f0 I f1;obtain⟨Y,c1,c2,X,U,f0⟩:=cells5 j;have I:W2.cell? (Av (s+1))=some (.bool true):=by rw[Xw W2 _ 0 _ _ _ b];rfl
  refine leaves_cons (f:=168) (args:=#[Pt (s+1),Pt s]) (by simp) (by simp[go_sem]) ?_;refine(Re (Av (s+1)) (Av s) _ I).mono ?_;rintro e u' w'' ⟨rfl,rfl,rfl⟩;simp[Leaves,settle,results,Tryz.results138,go_sem,Y,c1,c2,X,U,I];exact⟨none,W',g.o,by rw[<-i.o];exact l,rfl⟩
 ·have g:=Hd Z;clear Z;unfold A1;go_wp2_with fail;refine leaves_cons (f:=168) (args:=#[Pt (s+1),Pt s]) (by simp) (by simp[go_sem]) ?_;refine(Rf (s+1) s er a ev [] _ _ _ _ _ _ I h.o).mono ?_;rintro e u' w'' ⟨rfl,rfl,O⟩;have b:=(O.keep (s+1) n (by omega)).trans g9.o;clear Y c1 c2 X U f0 I f1;obtain⟨Y,c1,c2,X,U,f0⟩:=cells5 O.blk;have I:w''.cell? (Av (s+1))=some (.bool false):=by rw[Xw w'' _ 0 _ _ _ b];rfl
  simp[Leaves,settle,results,Tryz.results138,go_sem,Y,c1,c2,X,U,I];exact⟨some (er,a,ev),W',g.o,⟨O.os,O.tape,O.output,O.size,λk hk m=>O.keep k hk (λe=>m (.inl (e.trans i.o)))⟩,rfl⟩
abbrev Ali (s:Nat)(W W':Wd):Prop:=Wr (λk=>k=s\/k=s+1) W W'
structure Rj (gf:Nat)(lb:Array Value)(mb:Nat)(I:Nat->Bool->Wd->Prop)(Fin:Int->Wd->Prop)(n:Nat)(room:Bool)(W:Wd)(R:Option Stop->Wd->Prop):Prop where
 op:F6 gf lb mb W R
 fin:∀W1 W2,R none W1->Ali W.heap.size W1 W2->Fin 0 W2
 event:∀er ev W1 W2,R (some (er,true,ev)) W1->Ali W.heap.size W1 W2->Cl 139 #[Pt mb,evA ev] W2 λx w'=>x=.returned (.tuple #[])/\∃n',n'<n/\I n' false w'
 full:∀ev W1 W2,R (some (7,false,ev)) W1->Ali W.heap.size W1 W2->room=false->Cl 140 #[Pt mb] W2 λx w'=>(∃v,x=.returned v)/\I n true w'
 err:∀er ev W1 W2,R (some (er,false,ev)) W1->Ali W.heap.size W1 W2->¬ (er=7/\room=false)->Fin er W2
def L9 (mb gf:Nat)(lb:Array Value)(w:Wd)(j:∀args w,(callFunc gf args).run prog w=.ok (.enter gf args) w)(I:Nat->Bool->Wd->Prop)(Y:Int->Wd->Prop)
 (f:∀n room W,I n room W->∃R,Rj gf lb mb I Y n room W R) (n0:Nat) (h0:I n0 false w):
 Cl 104 #[Pt mb,.func (.func gf) #[] lb] w λx w'=>∃er,x=.returned (Iv er)/\Y er w':=by
 have l:=Hd f;clear f
 go_enter func104,ntmps104
 go_wp2
 go_loopg [5] (2*n0+1) (λgk i wx=>∃(n:Nat) (room:Bool),i=.bool room/\I n room wx/\gk=2*n+(if room then 0 else 1))
 case atStart=>exact⟨n0,false,rfl,h0,rfl⟩
 case round=>
  obtain⟨n,room,rfl,hi,g4⟩:=hrel;obtain⟨R,Z⟩:=l.o n room wr hi;have g6:=Hd (Ri mb gf lb wr R j Z.op);have X:=Hd Z;have g5:=Hd g4;clear hi Z g4 h0;go_wp2_with fail;refine g6.o.mono ?_;rintro x w2 ⟨r,W1,U,O,rfl⟩;obtain⟨bx,g8⟩:=Ex w2.heap.size;cases r with
  | none=>
    have H:=Hd λW2 (h:Wr (λ_=>False) w2 W2)=>X.o.fin W1 W2 U (O.trans h (λ_ _ e=>e) (λ_ _ e=>e.elim))
    clear U O;unfold Jc;go_wp2;go_ret;exact⟨0,rfl,H.o _ ((Wr.refl _ w2).alloc _)⟩
  | some st=>
    obtain⟨er,b,ev⟩:=st;unfold Jc;cases b with
    | true=>
      have H:=Hd λW2 (h:Wr (λ_=>False) w2 W2)=>X.o.event er ev W1 W2 U (O.trans h (λ_ _ e=>e) (λ_ _ e=>e.elim))
      clear U O;go_wp2_with fail;refine(H.o _ ((Wr.refl _ w2).alloc _)).mono ?_;rintro x g ⟨rfl,d,g3,g0⟩;have g7:=Hd g3;have g2:=Hd g0;clear g3 g0;go_wp2
      go_roundg (2*d+1)
      case rel=>exact⟨d,false,rfl,g2.o,rfl⟩
      case measure=>have h1:=g7.o;have h2:=g5.o;omega
    | false=>
      have c:=Hd λW2 (h:Wr (λ_=>False) w2 W2)=>O.trans h (N:=λk=>k=wr.heap.size\/k=wr.heap.size+1) (λ_ _ e=>e) (λ_ _ e=>e.elim)
      have g1:=Hd U;clear U O
      by_cases a:er=7
      ·subst a;cases room with
       | false=>
         have H:=Hd λW2 (h:Wr (λ_=>False) w2 W2)=>X.o.full ev W1 W2 g1.o (c.o W2 h) rfl
         go_wp2_with fail;refine(H.o _ ((Wr.refl _ w2).alloc _)).mono ?_;rintro x g ⟨⟨vv,rfl⟩,g0⟩;have g2:=Hd g0;clear g0;go_wp2
         go_roundg (2*n)
         case rel=>exact⟨n,true,rfl,g2.o,rfl⟩
         case measure=>have h2:=g5.o;simp at h2;omega
       | true=>
         have H:=Hd λW2 (h:Wr (λ_=>False) w2 W2)=>X.o.err 7 ev W1 W2 g1.o (c.o W2 h) (by simp)
         go_wp2;go_ret;exact⟨_,rfl,H.o _ ((Wr.refl _ w2).alloc _)⟩
      ·have m:((er:Int) == 7)=false:=by simpa using a
       have H:=Hd λW2 (h:Wr (λ_=>False) w2 W2)=>X.o.err er ev W1 W2 g1.o (c.o W2 h) (λe=>a e.1)
       go_wp2;go_ret;exact⟨_,rfl,H.o _ ((Wr.refl _ w2).alloc _)⟩
def LC (hk:Ai d V):Acy (Aa d) (λi=>d.vars.length-lvE d.vars.length (levN d) (Aa d) (2*i)):=by
 have e2:∀i:Nat,2*i/2=i:=λi=>by omega
 have hl:∀i b,Aa d i=some b->lvE d.vars.length (levN d) (Aa d) (2*i)=levN d b.v:=λi b h=>by unfold lvE;rw[e2,h]
 have hh:∀e,lvE d.vars.length (levN d) (Aa d) (2*(e/2))=lvE d.vars.length (levN d) (Aa d) e:=λe=>G3 (e2 _)
 refine⟨hk.dag.none0,hk.dag.okLo,hk.dag.okHi,λi b c h1 h2=>?_,λi b c h1 h2=>?_⟩
 . have H:=hk.dag.lvLo _ _ h1;have a2:=hk.dag.lt _ (hk.dag.var _ _ h1);have a3:=hh b.lo;rw[hl i b h1];omega
 . have H:=hk.dag.lvHi _ _ h1;have a2:=hk.dag.lt _ (hk.dag.var _ _ h1);have a3:=hh b.hi;rw[hl i b h1];omega
def Rk {o:Own}(h:A3 o w sb d)(I:Ac o w)(hk:Ai d V)(f:Nat)(X:okE (Aa d) f)(H:∀y b,Aa d y=some b->Al d y<1099511627776):
 Cl 151 #[Pt sb,Iv f] w λx w'=>x=.returned (Iv 0)/\∃d',A3 o w' sb d'/\Ac o w'/\DM d d' f 1/\Chg Am o o w w':=by
 obtain⟨s,h⟩:=h;have g0:=h.edge_lt X;rcases X with h0|⟨b,hb⟩
 . refine(Q3 h I hk.live f (by unfold eMax;omega) h0).mono ?_;rintro e w' ⟨d',h1,h2,h3,U,O⟩;exact⟨h1,d',⟨s,h2⟩,h3,U,O⟩
 . refine(Q4 h I hk.live (LC hk) f (b:=b) hb H).mono ?_;rintro e w' ⟨d',h1,h2,h3,U,O⟩;exact⟨h1,d',⟨s,h2⟩,h3,U,O⟩
def DM.ok {H:Int}(r:DM d d' f H)(hk:Ai d V):Ai d' V:=by
 have hl:levN d'=levN d:=by funext v;unfold levN;rw[r.level]
 exact⟨by rw[r.vars,hl,r.nodes];exact hk.dag,r.live,by rw[r.vars,r.nodes,r.tab];exact hk.tab,by rw[r.clen];exact hk.clen,by rw[r.vars];exact hk.small,by rw[r.vars,hl];exact hk.inv,by rw[r.vars,hl];exact hk.vlt⟩
abbrev Yi:=@List.filter_append
def Rl (hs:List (Int×Nat))(n:Int)(f i:Nat)(H:1<n):AT (hs++[(n,f)]) i=AT hs i+(if f/2=i then 1 else 0):=by
 unfold AT;rw[Yi,X4];congr 1
 by_cases e:f/2=i
 . simp[e,H]
 ·have:(f/2 == i)=false:=by simp[e]
  simp[e,this,List.filter]
abbrev Yj:=@List.length_filter_le
def Rm (hs:List (Int×Nat))(i:Nat):AT hs i<=hs.length:=Yj _ _
structure Gave (K:Law)(o:Own)(w:Wd)(mb:Nat)(m:ManD)(V:Nat->BF)(f:Nat)(o':Own)(w':Wd)(m':ManD):Prop where
 is:AF (K m'.d V) o' w' mb m'
 lt:Ac o' w'
 chg:Chg (λ_=>True) o o' w w'
 ok:EK m' V
 hs:m'.hs=m.hs++[(m.next,f)]
 next:m'.next=m.next+1
 waits:m'.waits=m.waits
 calls:m'.calls=m.calls
 nodes:Aa m'.d=Aa m.d
 vars:m'.d.vars=m.d.vars
 level:m'.d.level=m.d.level
 room:m'.d.pool.room=m.d.pool.room
 many:m'.d.pool.many=m.d.pool.many
def Rn (h:Ct m)(r:DM m.d d' f 1)(I:okE (Aa m.d) f)(h0:Aa m.d 0=none):Ct { m with d:=d',hs:=m.hs++[(m.next,f)],next:=m.next+1 }:=by
 have U:=h.next
 refine⟨?_,by simp[h.zero],by simp[h.one],?_,by dsimp only;omega,?_,?_,?_⟩
 . dsimp only;rw[XG,Yl];refine⟨h.nodup,by simp,λa O b hb=>?_⟩;simp at hb;subst hb;rintro rfl;obtain⟨p,H,e⟩:=X6.1 O;have:=(h.lt p H).2;omega
 ·intro p H;rcases XD.1 H with H|H
  . have:=h.lt p H;dsimp only;omega
  . simp at H;subst H;dsimp only;omega
 ·intro p H;dsimp only;rw[r.nodes];rcases XD.1 H with H|H
  . exact h.ok p H
  . simp at H;subst H;exact I
 . have:=h.len;simp;omega
 ·intro i b hb;dsimp only at hb⊢;rw[r.nodes]at hb;have hi:i≠0:=by rintro rfl;rw[h0]at hb;cases hb
  rw[r.ext i hi,h.refs i b hb,Rl _ _ _ _ (by omega)];unfold toE;split<;>simp
def Ro {k:Int}{l:List (Int×Value)}(h:∀p∈l,p.1≠k):putL k v l=l++[(k,v)]:=by
 have h1:=Db.2 h;unfold getL at h1;unfold putL;cases e:AH k l 0 with
 | none=>rfl
 | some p=>rw[e]at h1;cases h1
def A9.setMap {F:Phi}{o:Own}{s:ManW}(h:A9 F o w mb m s)(O:Ac o w){hs':List (Int×Nat)}(U:Au w' s.hb (Value.int .i64) (encH hs'))(X:w.grownBy w' (some s.hb)):A9 F o w' mb { m with hs:=hs' } s:=by
 have k:∀{g r},o g=some r->r ≠ .handles->w'.heap[g]?=w.heap[g]?:=λH I=>X.block _ (O _ _ H) (λe=>by cases e;have:=h.ownh;rw[H]at this;cases this;exact I rfl)
 exact⟨h.own,(k h.own (by simp)).trans h.blk,h.store.keepR (λg r H I=>k H (by rintro rfl;simp[Am,Bm]at I)) (λ_ _ h=>h),h.memo.keep (λg r H I=>k H (by rintro rfl;rcases I with e|e<;>cases e)) (λ_ _ h=>h),h.ownh,U,
  h.waits.keep (λg H=>k H (by simp)) (λ_ h=>h)⟩
def kI:Da prog 3 (Value.int .i64):=IE underlying3
def Jd (j:AC K){o:Own}(O:AF (K m.d V) o w mb m)(I:Ac o w)(hk:EK m V)(f:Nat)(i:okE (Aa m.d) f)(hb:m.next<1099511627776):
 Cl 131 #[Pt mb,Iv f] w λx w'=>x=.returned (Iv m.next)/\∃o' m',Gave K o w mb m V f o' w' m':=by
 obtain⟨s,O⟩:=O;obtain⟨Z,c1,c2,Y,X,U,f0⟩:=cells6 O.blk
 have D:=Hd (Rk O.store I hk.store f i (λy b t=>by
  rw[hk.handles.refs y b t];have h1:=Rm m.hs y;have h2:=hk.handles.len;omega))
 have gk:=hk.handles.next
 have G:=Hd O;have J:=Hd I;have e:=Hd hk;have L:=Hd i;have E:=Hd j;clear O I hk i j
 go_enter func131,ntmps131
 go_wp2_with fail;refine D.o.mono ?_;rintro x w1 ⟨rfl,d',g8,n,H,g3⟩;have g5:=G.o.setStore J.o g8 g3;have g0:∀p∈encH m.hs,p.1≠m.next:=by
  intro p v e0;obtain⟨q,u,rfl⟩:=X6.1 v;have h1:=e.o.handles.lt q u;have h2:q.1<m.next:=h1.2
  have h3:q.1=m.next:=e0
  omega
 have C:=Hd g0;have g7:=Hd g5;have gc:=Hd n;have F:=Hd H;have A:=Hd g3;clear g8 n H g3 g0 Z c1 c2 Y X U f0;obtain⟨Z,c1,c2,Y,X,U,f0⟩:=cells6 g5.blk;clear g5;go_upto_region 3 with fail
 go_wp2_with (refine KT (l:= encH m.hs) rfl _ _ _ rfl kI underlying115 m.next (Iv (f: Nat)) rfl rfl rfl g7.o.map ?_
              intro w2 g2 g1;have g9:Ac o w2:=gc.o.mono g1.size;rw[Ro C.o]at g2;have g4:=g7.o.setMap gc.o (hs':=m.hs++[(m.next,f)]) (by simpa [encH]using g2) g1;have k:Chg (λ_=>True) o o w w2:=A.o.any.grown g1 (λg z=>by cases z;exact⟨_,g7.o.ownh,trivial⟩);have g6:=Hd g4;have gf:=Hd g9;have B:=Hd k;clear Z c1 c2 Y X U f0 g2 g1 g9 k;obtain⟨Z,c1,c2,Y,X,U,f0⟩:=cells6 g4.blk;clear g4)
 go_ret;have H:=F.o;have ge:A9 (K m.d V) o (w2.setCell (Aw mb 3) (Iv (m.next+1))) mb { m with d:=d',hs:=m.hs++[(m.next,f)],next:=m.next+1 } s:=g6.o.field rfl rfl rfl rfl rfl g6.o.waits rfl;refine⟨rfl,o,_,⟨⟨s,ge.mono λop a b c r h=>E.o.same _ _ _ _ _ _ _ _ H.vars H.level H.nodes h⟩,gf.o.mono (by simp[World.setCell]),B.o.setCell (p:=Aw mb 3) g6.o.own trivial _,⟨H.ok e.o.store,Rn e.o.handles H L.o e.o.store.dag.none0⟩,rfl,rfl,rfl,rfl,H.nodes,H.vars,H.level,H.room,H.many⟩⟩
def doW (gop:Nat)(lop:Array Value)(w:Wd):Wd:=(w.alloc (.cells #[.func (.func gop) #[] lop] 146)).alloc (.cells #[Iv 0] 107)
abbrev YF:=@enters_of
def Rp:∀args w,(callFunc 129 args).run prog w=.ok (.enter 129 args) w:=YF func129 (by kernel_rfl) rfl
def Rq (w:Wd)(g:Fn)(fs cs:Array Value):(binOp .eql 146 (.func g fs cs) .nilFunc).run prog w=.ok (.bool false) w:=by
 have H:Op.maxDepth=9999+1:=rfl;have h:(Op.equal 146 (.func g fs cs) .nilFunc).run prog w=.ok false w:=by
  unfold Op.equal;rw[H];unfold Op.equalIn;simp only[Yx,XZ underlying146,XY];simp
 simp only[binOp];simp[h]
def varF (v:Nat):BF:=fun ρ=>ρ v
def Rr:∀args w,(callFunc 87 args).run prog w=.ok (.enter 87 args) w:=YF func87 (by kernel_rfl) rfl
def LD (w:Wd):(zeroValue 107).run prog w=.ok (Iv 0) w:=by
 have s:(prog.info? 107).map (λi=>i.zero)=some (some (Iv 0)):=by kernel_rfl
 cases hi:prog.info? 107 with
 | none=>rw[hi]at s;cases s
 | some i=>
   rw[hi]at s;simp only[Y3,Yd]at s;simp[zeroValue,typeInfo,hi,s]
def EO {hs:List (Int×Nat)}(h:(hs.map Prod.fst).Nodup):((encH hs).map Prod.fst).Nodup:=by
 have:(encH hs).map Prod.fst=hs.map Prod.fst:=by simp[encH]
 rw[this];exact h
section
variable {F:Phi}{o:Own}{s:ManW}
def EP (h:A9 F o w mb m s)(H:(m.hs.map Prod.fst).Nodup){k:Int}(hk:(k,f)∈m.hs):
 (Instr.lookup 115 (.map (some s.hb)) (Iv k) true).run prog w=.ok (.tuple #[Iv f,.bool true]) w:=by
 have h1:=h.map.lookup kI underlying115 LD k true;have h2:getL (encH m.hs) k=some (Iv (f:Nat)):=DG (EO H) (X6.2 ⟨(k,f),hk,rfl⟩);rw[h1,h2];rfl
def Rs (h:A9 F o w mb m s){k:Int}(hk:∀f,(k,f)∉m.hs):
 (Instr.lookup 115 (.map (some s.hb)) (Iv k) true).run prog w=.ok (.tuple #[Iv 0,.bool false]) w:=by
 have h1:=h.map.lookup kI underlying115 LD k true
 have h2:getL (encH m.hs) k=none:=Db.2 (by
  rintro p I rfl;obtain⟨q,H,rfl⟩:=X6.1 I;exact hk q.2 H)
 rw[h1,h2];rfl
end
def DQ {F:Phi}{o:Own}(h:AF F o w mb m)(hx:AR o w xb mb)(H:(m.hs.map Prod.fst).Nodup){k:Int}(hk:(k,f)∈m.hs):
 Cl 58 #[Pt xb,Iv k] w (Sm (Iv f) w):=by
 obtain⟨s,h⟩:=h;obtain⟨Y,c1,c2,X,U,O,f0⟩:=cells6 h.blk;have I:=hx.cell;have hl:=EP h H hk;clear h hx H hk
 go_enter func58,ntmps58
 go_wp2;go_ret;exact⟨rfl,rfl⟩
def Xr {F:Phi}{o:Own}(h:AF F o w mb m):
 Cl 55 #[Pt mb] w (Sm (Iv m.hs.length) w):=by
 obtain⟨s,h⟩:=h;obtain⟨U,c1,c2,O,I,H,f0⟩:=cells6 h.blk;have hl:=h.map.size (P:=prog) underlying115 3;have e:(encH m.hs).length=m.hs.length:=by simp[encH]
 rw[e]at hl;clear h e
 go_enter func55,ntmps55
 go_wp2;go_ret;exact⟨rfl,rfl⟩
def Rt:∀args w,(callFunc 136 args).run prog w=.ok (.enter 136 args) w:=YF func136 (by kernel_rfl) rfl
def box3 (a b c:Int)(w:Wd):Wd:=((w.alloc (.cells #[Iv a] 3)).alloc (.cells #[Iv b] 3)).alloc (.cells #[Iv c] 3)
def Ru (a b c:Int)(w:Wd):Bw w (box3 a b c w)/\(box3 a b c w).cell? (Av w.heap.size)=some (Iv a)/\(box3 a b c w).cell? (Av (w.heap.size+1))=some (Iv b)/\(box3 a b c w).cell? (Av (w.heap.size+2))=some (Iv c):=by
 have h0:=Xv w (.cells #[Iv a] 3);have h1:=Xv (w.alloc (.cells #[Iv a] 3)) (.cells #[Iv b] 3);have h2:=Xv ((w.alloc (.cells #[Iv a] 3)).alloc (.cells #[Iv b] 3)) (.cells #[Iv c] 3);rw[X3]at h1;rw[X3,X3]at h2;have a0:(box3 a b c w).heap[w.heap.size]?=some (.cells #[Iv a] 3 (0,0)):=(X1 _ _ (by simp;omega)).trans ((X1 _ _ (by simp)).trans h0);have H:(box3 a b c w).heap[w.heap.size+1]?=some (.cells #[Iv b] 3 (0,0)):=(X1 _ _ (by simp)).trans h1;have a2:(box3 a b c w).heap[w.heap.size+2]?=some (.cells #[Iv c] 3 (0,0)):=h2;exact⟨((Ag w _).alloc (by simp) _).alloc (by simp;omega) _,by rw[Xw _ _ 0 _ _ _ a0];rfl,by rw[Xw _ _ 0 _ _ _ H];rfl,by rw[Xw _ _ 0 _ _ _ a2];rfl⟩
def man0 (n room:Nat):ManD:=⟨store0 n room,[(0,1),(1,0)],2,[],0⟩
def nodes0 (n room:Nat):Aa (store0 n room)=λ_=>none:=by
 funext i;have H:(pool0 room).tk i=false:=by
  unfold Ae.tk pool0;cases i with
  | zero=>rfl
  | succ i=>rfl
 unfold Aa store0 Ae.get;simp[H]
def Je (n v:Nat)(h:v<n):(List.range n).getD v 0=v:=by simp[List.getD,h]
theorem Rv (n room:Nat)(I:n<=64):Ai (store0 n room) (λ_ _=>true):=by
 have hl:∀v,v<n->levN (store0 n room) v=v:=λv H=>Je n v H
 have g1:(store0 n room).vars.length=n:=by simp[store0]
 have g0:∀i b,Aa (store0 n room) i=some b->False:=λi b h=>by rw[nodes0]at h;cases h
 refine⟨⟨λ_=>rfl,by rw[nodes0],λi b h=>(g0 i b h).elim,λu v hu H e=>?_,λv H=>?_,λi b h=>(g0 i b h).elim,λi b h=>(g0 i b h).elim,λi b h=>(g0 i b h).elim,λi b h=>(g0 i b h).elim,λi b h=>(g0 i b h).elim,λi b h=>(g0 i b h).elim,λi j b h=>(g0 i b h).elim,λi b h=>(g0 i b h).elim⟩,
  ?_,λv H lo hi id=>⟨λh=>absurd (show(none:Option Nat)=some id from h) (by simp),λh=>(g0 _ _ h).elim⟩,by simp[store0],by rw[g1];exact I,λv H=>?_,λi hi=>?_⟩
 . rw[g1]at hu H;rw[hl u hu,hl v H]at e;exact e
 . rw[g1]at H⊢;rw[hl v H];exact H
 ·refine⟨⟨λi b h=>(g0 i b h).elim,λi b h=>(g0 i b h).elim⟩,?_,λi b h=>(g0 i b h).elim⟩;have h1:Bb (store0 n room).pool.at_.length (Aa (store0 n room)) (Ak (store0 n room))=Ah (store0 n room).pool.at_.length (dead1 (Aa (store0 n room)) (Ak (store0 n room))):=rfl;rw[h1,nodes0];have h2:dead1 (λ_=>none) (Ak (store0 n room)) 0=0:=rfl
  show(0:Int)=Ah 1 _
  simp[Ah,h2]
 . rw[g1]at H;rw[hl v H];exact Je n v H
 . rw[g1]at hi⊢;have e:(store0 n room).vars.getD i 0=i:=Je n i hi;rw[e];exact⟨hi,hl i hi⟩
def Rw (n room:Nat)(I:n<=64):EK (man0 n room) (λ_ _=>true):=
 ⟨Rv n room I,⟨by simp[man0],by simp[man0],by simp[man0],by simp[man0],by simp[man0],λp H=>by simp[man0]at H;rcases H with rfl|rfl<;>exact .inl rfl,by simp[man0],λi b h=>by rw[show(man0 n room).d=store0 n room from rfl,nodes0]at h;cases h⟩⟩
def Rx:Law:=λd V op a b c r=>op=1->IteP d V a b c r
def EQ:AC Rx:=⟨λd V a b c r=>⟨λh=>h rfl,λh _=>h⟩,λd V d' V' op a b c r hk H x h e=>(h e).ext x hk H,λd d' V op a b c r h1 h2 h3 h e=>by
 have q:=h e;have hl:levN d'=levN d:=by funext v;unfold levN;rw[h2]
 have I:minL d' a b c=minL d a b c:=by unfold minL;rw[h1,hl,h3]
 exact⟨by rw[h3];exact q.okA,by rw[h3];exact q.okB,by rw[h3];exact q.okC,by rw[h3];exact q.okR,q.val,by rw[I,h1,hl,h3];exact q.lev⟩⟩
def Ry {F:Phi}(o:Own)(n room:Nat)(w:Wd)(O:Ac o w)(a:n<=64)(h1:1<=room)(h2:room<=1048576):
 Cl 37 #[Iv n,Iv room] w λx w'=>∃mb o',x=.returned (.tuple #[Pt mb,Iv 0])/\AF F o' w' mb (man0 n room)/\Chg (λ_=>True) o o' w w'/\Ac o' w'/\w.heap.size<=mb:=by
 have p:=Hd (QR o n room w O a h1 h2);clear O a h1 h2
 go_enter func37,ntmps37
 go_wp2_with fail;refine p.o.mono ?_;rintro x w1 ⟨sb,o1,rfl,ge,gk,h,z⟩;have m:=Hd ge;have k:=Hd gk;have g3:=Hd h;clear ge gk h;have v:=Ek (P:=prog) w1 115;obtain⟨s,y,i,g2⟩:=(EC w1 (Value.int .i64)).update (P:=prog) kI underlying115 0 (Iv 1);obtain⟨wB,gt,Y,g6⟩:=i.update (P:=prog) kI underlying115 1 (Iv 0);have f:=g3.o.allocR (.map #[] 0) .handles;have d:Chg (λ_=>True) o (AL o1 w1.heap.size .handles) w wB:=
  ((k.o.any.allocR (r:=.handles) g3.o (.map #[] 0) trivial).grown g2 (λg H=>by cases H;exact⟨_,B4 _ _ _,trivial⟩)).grown g6 (λg H=>by cases H;exact⟨_,B4 _ _ _,trivial⟩)
 have gc:Ac (AL o1 w1.heap.size .handles) wB:=f.mono (Xz g2.size g6.size);have Z:∀g r,o1 g=some r->g≠w1.heap.size:=λg r H e=>by have:=g3.o g r H;omega
 have g5:∀g r,o1 g=some r->wB.heap[g]?=w1.heap[g]?:=λg r H=>by
  have a0:=g3.o g r H;have U:g<(w1.alloc (.map #[] 0)).heap.size:=by simp;omega
  rw[g6.block g (X5 U g2.size) (by intro e;cases e;exact Z _ _ H rfl),g2.block g U (by intro e;cases e;exact Z _ _ H rfl)];exact X1 _ _ a0
 have go:=Hd (m.o.keepR (o':=AL o1 w1.heap.size .handles) (λg r H _=>g5 g r H) (λg r H=>CX g3.o (Xs _) H));have l:Hq (Au wB w1.heap.size (Value.int .i64) [(0,Iv 1),(1,Iv 0)]):=Hd Y;have b:=Hd d;have c:=Hd gc;have HME:=Hd (Qg (AL o1 w1.heap.size .handles) F wB gc);have u:w1.heap.size<wB.heap.size:=Y.lt;clear i g2 Y g6 f d gc Z g5;go_wp2_with fail;refine HME.o.mono ?_;rintro x w2 ⟨me,o2,rfl,gf,g0,g1,t⟩;have g7:=go.o.keepR (o':=o2) (w':=w2) (λg r H j=>g0.same c.o H (by rintro rfl;simp[Am,Bm]at j)) g0.ext;have g4:=l.o.keepB (g0.same c.o (B4 o1 w1.heap.size .handles) (by simp));have g8:=g0.ext _ _ (B4 o1 w1.heap.size .handles);have q:Hq (∀I,I=w2.alloc (.cells #[Pt sb,Pt me,.map (some w1.heap.size),Iv 2,.slice none 0 0,Iv 0] 117)->AF F (AL o2 w2.heap.size .man) I w2.heap.size (man0 n room)/\Chg (λ_=>True) o (AL o2 w2.heap.size .man) w I/\Ac (AL o2 w2.heap.size .man) I/\w.heap.size<=w2.heap.size):=by
  refine Hd ?_;rintro I rfl;have X:∀g r,o2 g=some r->(w2.alloc (.cells #[Pt sb,Pt me,.map (some w1.heap.size),Iv 2,.slice none 0 0,Iv 0] 117)).heap[g]?=w2.heap[g]?:=λg r H=>X1 _ _ (g1 g r H)
  have g9:∀g r,o2 g=some r->AL o2 w2.heap.size .man g=some r:=λg r H=>CX g1 (Xs _) H
  exact⟨⟨⟨sb,me,w1.heap.size,.slice none 0 0⟩,B4 _ _ _,Xv w2 _,g7.keepR (λg r H _=>X g r H) g9,gf.keep (λg r H _=>X g r H) g9,g9 _ _ g8,g4.keepB (X _ _ g8),Be.nil _ _⟩,
   (b.o.trans g0.any).allocR g1 _ trivial,g1.allocR _ _,(b.o.trans g0.any).size⟩
 clear g7 g4 g8 gf g0 g1;go_wp2
 go_ret2
 obtain⟨U,a2,a3,a4⟩:=q.o _ rfl;exact⟨_,_,rfl,U,a2,a3,a4⟩
section
variable {F:Phi}{o:Own}
def Rz (h:A3 o w sb d):Cl 101 #[Pt sb] w (Sm (Iv d.vars.length) w):=by
 obtain⟨s,h⟩:=h;obtain⟨U,c1,c2,O,I,f0⟩:=cells5 h.blk;obtain⟨d0,d1,_⟩:=cells2 h.lev;obtain⟨a,cap,H,_⟩:=h.vars.slice;rw[H]at d0;clear h H
 go_enter func101,ntmps101
 go_wp2;go_ret;exact⟨rfl,rfl⟩
def DR (h:AF F o w mb m):Cl 46 #[Pt mb] w (Sm (Iv m.d.vars.length) w):=by
 obtain⟨s,h⟩:=h;obtain⟨U,c1,c2,O,I,H,f0⟩:=cells6 h.blk;have HP:=Hd (Rz h.store);clear h
 go_enter func46,ntmps46
 go_wp2_with fail;refine HP.o.mono ?_;rintro x w' ⟨rfl,rfl⟩;go_wp2;go_ret;exact⟨rfl,rfl⟩
end
structure AM (w:Wd)(a:Option Addr)(bs:List Bool):Prop where
 len:bs.length<=1000000
 cells:∀k,k<bs.length->∃b off,a=some (Aw b off)/\w.cell? (Aw b (off+k))=some (.bool (bs.getD k false))
def AM.below {a:Option Addr}(h:AM w a bs)(hb:Bw w w'):AM w' a bs:=
 ⟨h.len,λk hk=>by
  obtain⟨b,off,rfl,H⟩:=h.cells k hk;exact⟨b,off,rfl,(Cq hb H)⟩⟩
def A4 (bs:List Bool):Nat->Bool:=λv=>bs.getD v false
def R4 {F:Phi}{o:Own}(h:AF F o w mb m)(Y:Ac o w)(hk:EK m V){k:Int}(I:(k,f)∈m.hs)(a:Option Addr)(c:Nat)(bs:List Bool)(O:AM w a bs):
 Cl 47 #[Pt mb,Iv k,.slice a bs.length c] w (Bl (.tuple #[.bool (ef V f (A4 bs)),Iv 0]) w):=by
 obtain⟨s,h⟩:=h;obtain⟨u,c1,c2,t,r,q,f0⟩:=cells6 h.blk;have T:=EP h hk.handles.nodup I;have HM:=Hd h;have D:=Hd Y;have X:=Hd hk.store;have gm:=Hd (hk.handles.ok _ I);have gt:=Hd O;have gu:=O.len;clear h Y hk I O
 go_enter func47,ntmps47
 go_wp2
 go_loopg [8] (m.d.vars.length-lvE m.d.vars.length (levN m.d) (Aa m.d) f) (λgk N wx=>∃e:Nat,N=Iv e/\okE (Aa m.d) e/\ef V e (A4 bs)=ef V f (A4 bs)/\Bw w wx/\gk=m.d.vars.length-lvE m.d.vars.length (levN m.d) (Aa m.d) e)
 case atStart=>exact⟨f,rfl,gm.o,rfl,X7 _ _,rfl⟩
 case round=>
  obtain⟨e,rfl,g0,gc,n,K⟩:=hrel;clear u c1 c2 t r q f0 T;have j:=HM.o.below D.o n;obtain⟨u,c1,c2,t,r,q,f0⟩:=cells6 j.blk;have J:e<eMax:=by
   obtain⟨ss,go⟩:=j.store;have:=go.edge_lt g0;unfold eMax;omega
  have p:=Hd (λW=>DC e W J);have Z:=Hd (G1 j.store (D.o.mono n.size) X.o e g0);have g5:=Hd gc;have y:=Hd n;have g4:=Hd K;clear j J gc n K;cases hb:Aa m.d (e/2)with
  | none=>
    have h0:e/2=0:=by
     rcases g0 with h|⟨b,E⟩
     . exact h
     . rw[hb]at E;cases E
    have A:decide (enode e=0)=true:=by simp[enode,h0]
    rw[A]at p;have HR:Hq (ef V f (A4 bs)=((e:Int) == 0)):=by
     show _=_
     rw[<-g5.o];have h1:=X.o.dag.one (A4 bs);have h2:e=0\/e=1:=by omega
     rcases h2 with rfl|rfl<;>simp[ef,h1]
    clear g0 hb h0 A;go_wp2_with fail;refine(p.o _).mono ?_;rintro x w' ⟨rfl,rfl⟩;go_wp2
    go_ret2
    exact⟨by rw[HR.o];rfl,y.o⟩
  | some b=>
    have g8:=X.o.dag.var _ _ hb;have g6:lvE m.d.vars.length (levN m.d) (Aa m.d) e=levN m.d b.v:=by unfold lvE;rw[hb]
    have ge:=Bo X.o g0 g8 (by rw[g6];exact Xs _);have gf:cofs m.d e b.v=(eflip b.lo (eneg e),eflip b.hi (eneg e)):=by unfold cofs;rw[hb];simp
    rw[gf]at ge;obtain⟨k1,k2,i,g,U⟩:=ge;have U:=U (A4 bs);dsimp only at k1 k2 i g U;have g7:=X.o.dag.lt _ g8;have M:decide (enode e=0)=false:=by
     have:enode e≠0:=by rintro h0;have h1:e/2=0:=h0;rw[h1,X.o.dag.none0]at hb;cases hb
     simp[this]
    rw[M]at p;unfold atV at Z;rw[hb]at Z;obtain⟨L,l⟩:=Ex (eflip b.lo (eneg e));obtain⟨H,hH⟩:=Ex (eflip b.hi (eneg e));rw[<-l,<-hH]at U;rw[<-l]at k1 i;rw[<-hH]at k2 g;dsimp only at Z;rw[<-l,<-hH]at Z;rw[g6]at g4;have B:=Hd k1;have R:=Hd k2;have C:=Hd i;have S:=Hd g;have g1:=Hd U;have g9:=Hd g7;clear g0 hb g8 g6 gf k1 k2 i g U g7 M l hH;go_wp2_with fail;refine(p.o _).mono ?_;rintro x w' ⟨rfl,rfl⟩;go_wp2_with fail;refine Z.o.mono ?_;rintro x w2 ⟨rfl,G⟩;have HB2:=Hd (y.o.trans (G.mono y.o.size));clear G u c1 c2 t r q f0
    by_cases z:b.v<bs.length
    ·obtain⟨b0,off,Q,g2⟩:=(gt.o.below HB2.o).cells b.v z;subst Q;have gn:(b.v:Int)<bs.length:=by omega
     have hx:A4 bs b.v=bs.getD b.v false:=rfl;rw[<-hx]at g2;cases g3:A4 bs b.v with
     | true=>
       rw[g3]at g2 g1;clear g3 hx;go_wp2
       go_roundg (m.d.vars.length-lvE m.d.vars.length (levN m.d) (Aa m.d) H)
       case rel=>exact⟨H,rfl,R.o,by rw[<-g5.o,g1.o];rfl,HB2.o,rfl⟩
       case measure=>have h1:=g4.o;have h2:=S.o;have h3:=g9.o;omega
     | false=>
       rw[g3]at g2 g1;clear g3 hx;go_wp2
       go_roundg (m.d.vars.length-lvE m.d.vars.length (levN m.d) (Aa m.d) L)
       case rel=>exact⟨L,rfl,B.o,by rw[<-g5.o,g1.o];rfl,HB2.o,rfl⟩
       case measure=>have h1:=g4.o;have h2:=C.o;have h3:=g9.o;omega
    ·have gn:¬ (b.v:Int)<bs.length:=by omega
     have hx:A4 bs b.v=false:=by unfold A4;simp[List.getD,XC (Nat.le_of_not_lt z)]
     rw[hx]at g1;clear hx;go_wp2
     go_roundg (m.d.vars.length-lvE m.d.vars.length (levN m.d) (Aa m.d) L)
     case rel=>exact⟨L,rfl,B.o,by rw[<-g5.o,g1.o];rfl,HB2.o,rfl⟩
     case measure=>have h1:=g4.o;have h2:=C.o;have h3:=g9.o;omega
def R5 {o:Own}{r:Role}{a:Option Addr}{cap:Nat}{xs:List Nat}(h:RowR o w r 3 1 (.slice a xs.length cap) xs.length (xs.map nat64))(hl:xs.length<=1000000):Aj w a (xs.map Int.ofNat):=by
 refine⟨by simp;omega,λk hk=>?_⟩;simp only[XT]at hk;obtain⟨g,cap',H,_⟩:=h.shape (by omega);cases H;refine⟨g,0,rfl,?_⟩;have h1:=h.cell k (by simpa using hk);rw[XO,h1,A8 (by simpa using hk)];simp[nat64,hk]
def LF {o:Own}(h:A3 o w sb d)(U:Ac o w)(hl:d.vars.length<=64):
 Cl 63 #[Pt sb] w λx w'=>∃v,x=.returned v/\OwnI w' w.heap.size v (d.vars.map Int.ofNat)/\Bw w w':=by
 obtain⟨s,h⟩:=h;obtain⟨X,c1,c2,c,b,f0⟩:=cells5 h.blk;obtain⟨d0,d1,_⟩:=cells2 h.lev;have I:sb<w.heap.size:=Ad X;have O:s.lb<w.heap.size:=Ad d0;obtain⟨a,cap,H,_,_,g1,_⟩:=h.vars.slice;have g0:=h.vars;rw[H]at d0 g0;have Z:=Hd (R5 g0 (by omega));have Y:=Hd g1;have e:d.vars.length=(d.vars.map Int.ofNat).length:=by simp
 rw[e]at d0;have g6:(d.vars.map Int.ofNat).length<=64:=by rw[<-e];exact hl
 generalize d.vars.map Int.ofNat=zs at *
 clear h H g0 e g1 hl
 go_enter func63,ntmps63
 go_wp2_with (at_builtin;refine Ix rfl _ _ rfl w.heap.size w _ [] zs _ _ rfl rfl (Ga w w.heap.size (Xs _)) (Z.o.below (Ag _ _)) (by simp;omega) (by simp) (Ag _ _) Y.o ?_;intro v1 w1 g2 g3 g4 g5);go_ret;exact⟨_,rfl,by simpa using g2,g3⟩
def LG {F:Phi}{o:Own}(h:AF F o w mb m)(H:Ac o w)(hl:m.d.vars.length<=64):
 Cl 21 #[Pt mb] w λx w'=>∃v,x=.returned v/\OwnI w' w.heap.size v (m.d.vars.map Int.ofNat)/\Bw w w':=by
 obtain⟨s,h⟩:=h;obtain⟨Z,c1,c2,Y,X,U,f0⟩:=cells6 h.blk;have HP:=Hd (LF h.store H hl);clear h H hl
 go_enter func21,ntmps21
 go_wp2_with fail;refine HP.o.mono ?_;rintro x w' ⟨v,rfl,h1,h2⟩;have O:=Hd h1;have I:=Hd h2;clear h1 h2;go_wp2;go_ret;exact⟨v,rfl,O.o,I.o⟩
attribute [local go_sem] Oper.semAt_some
def Cb (p:Ae)(k:Nat):List Nat:=(List.range k).filter p.tk
def BI (p:Ae):List Nat:=Cb p p.at_.length
def Jf (h:p.tk k=true):Cb p (k+1)=Cb p k++[k]:=by
 unfold Cb;rw[Zn,Yi];simp[h]
def LH (h:p.tk k=false):Cb p (k+1)=Cb p k:=by
 unfold Cb;rw[Zn,Yi];simp[h]
def R6 (p:Ae){m:Nat}:k<=m->∃H,Cb p k++H=Cb p m:=by
 induction m with
 | zero=> intro h; obtain rfl: k=0:= by omega
          exact⟨[],by simp⟩
 | succ m I=>
   intro h
   by_cases e:k=m+1
   . subst e;exact⟨[],by simp⟩
   ·obtain⟨H,hs⟩:=I (by omega);cases h2:p.tk m with
    | false=>exact⟨H,by rw[LH h2];exact hs⟩
    | true=>exact⟨H++[m],by rw[Jf h2,<-hs,XF]⟩
def R7 (h:p.tk k=true)(hk:k<p.at_.length):∃H,Cb p k++k::H=BI p:=by
 obtain⟨H,hs⟩:=R6 p (k:=k+1) (m:=p.at_.length) (by omega);rw[Jf h,XF]at hs;exact⟨H,hs⟩
abbrev YA:=@List.mem_filter
def LI {H:List Nat}(h:pre++x::H=BI p):p.tk x=true:=by
 have:x∈BI p:=by rw[<-h];simp
 exact(YA.1 this).2
structure ItS (n₀:Nat)(o:Own)(w0:Wd)(pb:Nat)(p:Ae)(Bp:Nat)(M0 M:Nat->Prop)(W0 W:Wd):Prop where
 low:Below n₀ w0 W
 box:W.cell? (Av Bp)=some (Pt pb)
 wr:Wr (λk=>n₀<=k) W0 W
 sub:∀k,M k->M0 k\/W0.heap.size<=k
 nb:¬ M Bp
def ItS.go {o:Own}{I:Nat}{X M':Nat->Prop}(h:ItS n₀ o w0 pb p I X M W0 W)(Y:n₀<=W0.heap.size)(H:∀k,M k->n₀<=k)(O:Wr M W W')
 (U:∀k,M' k->M k\/W.heap.size<=k):ItS n₀ o w0 pb p I X M' W0 W':=by
 have hs:=h.wr.size;have hb:=Ad h.box;refine⟨h.low.trans (O.below H (by omega)),?_,h.wr.trans O (λ_ _ h=>h) (λk _ hk=>H k hk),λk hk=>?_,λe=>?_⟩
 . exact(Co h.box (O.keep I hb h.nb))
 ·rcases U k hk with h1|h1
  . exact h.sub k h1
  . right;omega
 ·rcases U I e with h1|h1
  . exact h.nb h1
  . have g0:I<W.heap.size:=hb;omega
abbrev X0:=@Nat.zero_le
def R8 (F:Fence)(n:Nat)(u:F.fn 191)(f:F.round=none)(L:1<=n)(Z n₀ pb:Nat){o:Own}(b:Aq o w0 pb p)(H:Ac o w0)(h0:w0.heap.size<=n₀)(w:Wd)
 (g:Below n₀ w0 w) (O:n₀<=w.heap.size) (X:w.cell? (Av Z)=some (Pt pb)):
 Gives F n 0 prog 191 #[Pt Z] (λi:Nat=>#[Iv i]) n₀ (· = Z) (BI p) w:=by
 intro l J M W g9 gf g1 gc j d;have g8:=Ad X;have g2:ItS n₀ o w0 pb p Z M M W W:=⟨g.trans (g1.below (λk h=>h.1) O),Co X (g1.keep Z g8 (λh=>h.2 rfl)),Wr.refl _ _,λk h=>.inl h,gc Z rfl⟩;have C:n₀<=W.heap.size:=Xz O g1.size;have HP:∀W',Below n₀ w0 W'->Aq o W' pb p:=λW' hb=>b.below (hb.mono h0) H
 obtain⟨vs,vt,vf,c0,c1,c2,V,T,hs,a,_⟩:=(HP W g2.low).cells;have ge:=g2.box;have g3:=b.pos;obtain⟨gs,cs,rfl,_⟩:=hs.shape g3;have g4:=b.len;have Q:=b.top;have R:=b.room;have z:=Hd HP;have B:=Hd j;have A:=Hd g2;have y:=Hd g9;clear HP j hs a b H h0 g2 g9 gf g1 gc g O X g8;refine callsIn_of_wp func191 rfl u ?_ f;simp only[ntmps191,Y6,XL,Y2,Nat.reduceAdd,Nat.reduceSub,YJ,YK,Za,YP,Yv,YX]
 gi_wp2
 gi_loopw [11] (λi wr=>∃(k:Nat) (I:Nat->Prop),k<=p.at_.length/\i=Iv k/\J (Cb p k) I wr/\ItS n₀ o w0 pb p Z M I W wr) (λi _=>p.at_.length-(intOf i).toNat)
 case atStart=>exact⟨0,M,X0 _,rfl,d,A.o⟩
 case round=>
  obtain⟨k,I,hk,rfl,g0,U⟩:=hrel
  by_cases H:k<p.at_.length
  ·obtain⟨vs,vt,vf,d0,d1,d2,d3,d4,hs,a,_⟩:=(z.o wr U.low).cells;have ge:=U.box;obtain⟨gt,S,rfl,_⟩:=a.shape (by rw[g4];exact g3);have g7:=Aq.flag a (k:=k) (by omega);rw[g4]at d2;have N:(k:Int)<p.at_.length:=by omega
   have c:=Hd U;cases Y:p.tk k with
   | false=>
     rw[Y]at g7;have g5:Hq (J (Cb p (k+1)) I wr):=by show J _ _ _;rw[LH Y];exact g0
     clear Y hs a U g0 d
     gi_wp2
     refine⟨λ_ h=>(by cases h),?_⟩
     gi_wp2
     go_roundw
     case rel=>exact⟨k+1,I,by omega,by simp,g5.o,c.o⟩
     case measure=>simp[intOf];omega
   | true=>
     rw[Y]at g7;have v:=Hd (λq (t:I q)=>(y.o _ _ _ g0 q t).1);obtain⟨fn,tmps,assign,body,K,m⟩:=B.o _ k I wr g0 (R7 Y H);have E:=Hd (Jf Y);have G:=Hd m;clear hs a U g0 m Y d
     gi_wp2
     refine G.o.mono ?_;rintro e W3 ⟨rfl,D,r,g6,s⟩;have x:=Hd r;have gk:=Hd (c.o.go C v.o g6 s);clear r g6 s
     gi_wp2
     go_roundw
     case rel=>exact⟨k+1,D,by omega,by simp,by rw[E.o];exact x.o,gk.o⟩
     case measure=>simp[intOf];omega
  ·obtain rfl:k=p.at_.length:=by omega
   have g5:=Hd g0;have c:=Hd U;clear g0 U d
   gi_wp2
   go_end0;exact⟨⟨_,rfl⟩,I,g5.o,c.o.wr,c.o.sub⟩
def R9 (F:Fence)(n:Nat)(I:F.fn 184)(H:F.round=none)(pb:Nat)(w:Wd):
 CallsIn F n prog 184 #[Pt pb] w λe w'=>e=.returned (.func (.func 191) #[] #[Pt w.heap.size])/\w'=w.alloc (.cells #[Pt pb] 166):=by
 refine callsIn_of_wp func184 rfl I ?_ H;simp only[ntmps184,Y6,XL,Y2,Nat.reduceAdd,Nat.reduceSub,YJ,YK,Za,YP,Yv,YX]
 gi_wp2
 go_ret;exact⟨rfl,rfl⟩
def RA (F:Fence)(n:Nat)(I:F.fn 173)(H:F.round=none)(pb:Nat)(w:Wd):
 CallsIn F n prog 173 #[Pt pb] w λe w'=>e=.returned (.func (.func 183) #[] #[Pt w.heap.size])/\w'=w.alloc (.cells #[Pt pb] 166):=by
 refine callsIn_of_wp func173 rfl I ?_ H;simp only[ntmps173,Y6,XL,Y2,Nat.reduceAdd,Nat.reduceSub,YJ,YK,Za,YP,Yv,YX]
 gi_wp2
 go_ret;exact⟨rfl,rfl⟩
attribute [local go_sem] Oper.semAt_some
structure EaS (n₀:Nat)(o:Own)(w0:Wd)(pb:Nat)(p:Ae)(Bp By l:Nat)(M0 M:Nat->Prop)(W0 W:Wd):Prop where
 it:ItS n₀ o w0 pb p Bp M0 M W0 W
 boxy:W.cell? (Av By)=some (.func (.yield l) #[] #[])
 ny:¬ M By
 ge:∀k,M k->n₀<=k
def G5 (h:Wr M W W')(H:W.cell? (Aw b k)=some v)(I:¬ M b):W'.cell? (Aw b k)=some v:=
 (Co H (h.keep b (Ad H) I))
def EaS.go {n₀:Nat}{o:Own}{w0:Wd}{pb:Nat}{p:Ae}{X H l:Nat}{U M M':Nat->Prop}{W0 W W':Wd}(h:EaS n₀ o w0 pb p X H l U M W0 W)(Y:n₀<=W0.heap.size)(O:Wr M W W')
 (I:∀k,M' k->M k\/W.heap.size<=k):EaS n₀ o w0 pb p X H l U M' W0 W':=by
 have hs:=h.it.wr.size;have hb:H<W.heap.size:=Ad h.boxy;refine⟨h.it.go Y h.ge O I,G5 O h.boxy h.ny,λe=>?_,λk hk=>?_⟩
 ·rcases I H e with h1|h1
  . exact h.ny h1
  . omega
 ·rcases I k hk with h1|h1
  . exact h.ge k h1
  . omega
def RB (F:Fence)(n:Nat)(t:F.fn 183)(s:F.fn 184)(j:F.fn 191)(X:F.round=none)(A:4<=n)(I n₀ pb:Nat){o:Own}(c:Aq o w0 pb p)(d:Ac o w0)(h0:w0.heap.size<=n₀)(w:Wd)
 (Z:Below n₀ w0 w) (g:n₀<=w.heap.size) (u:n₀<=I) (f:w.cell? (Av I)=some (Pt pb)):
 Gives F n 2 prog 183 #[Pt I] (λi:Nat=>#[Ao (p.nd i)]) n₀ (· = I) (BI p) w:=by
 intro l J M W g6 g7 g3 G B r;have gw:I<w.heap.size:=Ad f;have gS:I<W.heap.size:=X5 gw g3.size;have gc:n₀<=W.heap.size:=Xz g g3.size;have gg:W.cell? (Av I)=some (Pt pb):=G5 g3 f (λh=>h.2 rfl);have gd:Below n₀ w0 W:=Z.trans (g3.below (λk h=>h.1) g);obtain⟨V,hV⟩:=Ex ((W.alloc (.cells #[.func (.yield l) #[] #[]] 259)).alloc (.cells #[Pt pb] 166));have g4:∀N,Wr N W V:=λN=>by rw[hV];exact((Wr.refl N W).alloc _).alloc _
 have R:J [] M V:=g7 _ _ _ _ r (g4 _);have g2:=g6 _ _ _ r;have g9:V.cell? (Av W.heap.size)=some (.func (.yield l) #[] #[]):=by rw[hV];simp
 have gb:V.cell? (Av (W.heap.size+1))=some (Pt pb):=by rw[hV];simp
 have L:V.cell? (Av I)=some (Pt pb):=G5 (g4 (λ_=>False)) gg (λh=>h);have g1:Below n₀ w0 V:=gd.trans ((g4 (λk=>n₀<=k)).below (λ_ h=>h) gc);have T:V.heap.size=W.heap.size+2:=by rw[hV];simp
 have gk:EaS n₀ o w0 pb p I W.heap.size l M M V V:=⟨⟨g1,L,Wr.refl _ _,λk h=>.inl h,G I rfl⟩,g9,λe=>by have:=(g2 _ e).2;omega,λk h=>(g2 k h).1⟩;have HP:∀W',Below n₀ w0 W'->Aq o W' pb p:=λW' hb=>c.below (hb.mono h0) d
 have HG:=Hd (R8 F (n-1) j X (by omega) (W.heap.size+1) n₀ pb c d h0 V g1 (by omega) gb);have E:=Hd HP;have gA:=Hd B;have gE:=Hd gk;have gC:=Hd g6;have gr:=Hd g2;have g8:=Hd g7;have gD:=Hd R;have gB:=Hd g4;have gH:=c.len;have gq:=c.pos;have gG:=c.top;have gF:=c.room;have h1:1<=n:=by omega
 have gO:(W.alloc (.cells #[.func (.yield l) #[] #[]] 259)).cell? (Av I)=some (Pt pb):=G5 ((Wr.refl (λ_=>False) W).alloc _) gg (λh=>h);refine callsIn_of_wp_marks func183 rfl t ?_ X;simp only[ntmps183,Y6,XL,Y2,Nat.reduceAdd,Nat.reduceSub,YJ,YK,Za,YP,Yv,YX];clear g6 g7 g3 G B r R g2 g9 gb L g1 gk HP c d h0 Z f gd g4 T
 gi_wp2_with (gi_at_call 184;refine(R9 F (n-1) s X _ _).mono ?_;rintro e w' ⟨rfl,rfl⟩)
 rw[<-hV];have T:V.heap.size=W.heap.size+2:=by rw[hV];simp
 clear hV;have gK:prog.follows .mixedOrders=true:=by kernel_rfl
 refine L7 X h1 (gf:=191) (lb:=#[Pt (W.heap.size+1)]) rfl j (YF func191 (by kernel_rfl) rfl) HG.o
  (by omega) (by rintro k rfl;omega) (λx=>rfl)
  (λpre N V'=>∃O,(∀k,N k↔O k\/k=W.heap.size\/k=I)/\J pre O V'/\EaS n₀ o w0 pb p I W.heap.size l M O V V')
  ?_ ?_ (λk=>M k\/k=W.heap.size\/k=I) ?_ ⟨M,λk=>Iff.rfl,gD.o,gE.o⟩
  (λx v _ _=>v={
   tmps:=
    #[Value.func (Fn.yield l) #[] #[],Value.pointer (some { block:=I,off:=0 }),
     Value.pointer (some { block:=W.heap.size,off:=0 }),Value.int IntKind.i64 ↑x,
     Value.pointer (some { block:=pb,off:=0 }),
     Value.func (Fn.func 191) #[] #[Value.pointer (some { block:=W.heap.size+1,off:=0 })],
     Value.int IntKind.i64 ↑x,undef,undef,undef,undef,undef,undef,undef,undef,undef,undef],
   defers:=[] }) ?_ ?_ ?_ ?_
 ·rintro pre N V' ⟨O,U,Y,H⟩ k hk;rcases(U k).1 hk with h|h|h
  . exact gC.o _ _ _ Y k h
  . subst h;exact⟨gc,Ad H.boxy⟩
  . subst h;exact⟨u,Ad H.it.box⟩
 ·rintro pre N V' y ⟨O,U,Y,H⟩ Z
  have g5:∀k,k<V'.heap.size->(k<n₀\/N k)->y.heap[k]?=V'.heap[k]?:=λk hk A=>Z.keep k hk (λ⟨a,b⟩=>by
   rcases A with h|h
   . omega
   . exact b h)
  refine⟨O,U,g8.o _ _ _ _ Y (Z.mono λk ⟨a,b⟩=>⟨a,λh=>b ((U k).2 (.inl h))⟩),⟨⟨?_,?_,?_,H.it.sub,H.it.nb⟩,?_,H.ny,H.ge⟩⟩
  . exact H.it.low.trans (Z.below (λk h=>h.1) (by have:=H.it.wr.size;omega))
  . exact(Co H.it.box (g5 _ (Ad H.it.box) (.inr ((U _).2 (.inr (.inr rfl))))))
  . exact H.it.wr.trans Z (λ_ _ h=>h) (λk _ h=>h.1)
  . exact(Co H.boxy (g5 _ (Ad H.boxy) (.inr ((U _).2 (.inr (.inl rfl))))))
 ·rintro k rfl h;have gQ:W.heap.size+1<W.heap.size\/W.heap.size+1=W.heap.size\/W.heap.size+1=I:=by
   rcases h with h|h
   . left;exact(gr.o _ h).2
   . right;exact h
  omega
 . intro x v W' W1 W2 z _ h _;exact h
 ·intro z pre x N V' K hI hK
  gi_wp2
  exact hK _ _ (Wr.refl _ _) rfl
 ·rintro z pre x v N W0 W1 ⟨O,U,Y,H⟩ rfl gJ hs1 g0;obtain⟨q,g0⟩:=g0;have hx:p.tk x=true:=LI g0;obtain⟨vs,vt,vf,d0,d1,d2,d3,d4,hs,ht,_⟩:=(E.o W1 H.it.low).cells;have gN:=H.it.box;have gM:=H.boxy;obtain⟨gs,cs,rfl,gv⟩:=hs.shape gq;have gt:=((E.o W1 H.it.low).tk_lt hx).2;have gL:=Aq.node hs (k:=x) gt;have gI:(x:Int)<p.at_.length:=by omega
  obtain⟨fn,tmps,assign,body,hy,C⟩:=gA.o _ x O W1.drew (g8.o _ _ _ _ Y ((Wr.refl _ W1).drew)) ⟨q,g0⟩;simp only[Ao]at hy;have HR:=Hd C;have HE:=Hd H;have m:=Hd U;clear hs H Y C U g0 gv
  gi_wp2
  gi_region_with_o (refine⟨λ_=>by omega,HR.o.mono ?_⟩;rintro e W3 ⟨rfl,M3,gx,ga,S⟩)
  all_goals gi_wp2
  all_goals exact⟨λk=>M3 k\/k=W.heap.size\/k=I,⟨M3,λk=>Iff.rfl,gx,HE.o.go (by omega) (Wr.trans ((Wr.refl O W1).drew) ga (λ_ _ h=>h) (λ_ _ h=>h)) S⟩,
   Wr.trans ((Wr.refl O W1).drew) ga (λk _ h=>.inl ((m.o k).2 (.inl h))) (λk _ h=>.inl ((m.o k).2 (.inl h))),
   λk hk=>by
    rcases hk with hk|hk
    ·rcases S k hk with h|h
     . exact .inl ((m.o k).2 (.inl h))
     . right;have:W1.heap.size<=k:=h;omega
    . exact .inl ((m.o k).2 (.inr hk))⟩
 ·rintro D N W2 gR gz ⟨O,U,Y,H⟩ gP gu gy
  gi_wp2
  refine⟨by simp,.inl ⟨_,_,rfl,run_takeDeferred gy,?_⟩⟩;have Q:n₀<=D:=by omega
  refine⟨_,Y7 rfl _ _ _,⟨_,rfl⟩,O,?_,?_,?_⟩
  . exact g8.o _ _ _ _ Y ((Wr.refl _ _).putObj (.inl ⟨Q,λh=>gz ((U D).2 (.inl h))⟩) _)
  . exact((gB.o (λk=>n₀<=k)).trans gu (λ_ _ h=>h) (λ_ _ h=>h)).putObj (.inl Q) _
  ·intro k hk;rcases H.it.sub k hk with h|h
   . exact .inl h
   . right;omega
def AK (d:Af):List Nat:=(BI d.pool).filter (λi=>decide (Ak d i=0))
def RC (p:Ae):(BI p).Nodup:=(List.nodup_range).filter _
def RD (d:Af):(AK d).Nodup:=(RC d.pool).filter _
def Jg (h:i∈AK d):d.pool.tk i=true/\Ak d i=0:=by
 unfold AK at h;rw[YA]at h;exact⟨(YA.1 h.1).2,by simpa using h.2⟩
def LL (f g:Nat->Bool):∀k,((((List.range k).filter f).filter g).length:Int)=Ah k (λi=>if f i=true then(if g i=true then 1 else 0)else 0)
 | 0=>by simp[Ah]
 | k+1=>by
   rw[Zn,Yi,Yi,X4];have H:=LL f g k;rw[Int.natCast_add,H];cases O:f k<;>cases I:g k<;>simp[Ah,O,I,List.filter]
def LM {ext:Nat->Int}(h:AD d ext):(AK d).length=d.dead:=by
 have h1:=h.dead;have h2:((AK d).length:Int)=Ah d.pool.at_.length (dead1 (Aa d) (Ak d)):=by
  unfold AK BI Cb;rw[LL];refine B5 _ λi _=>?_
  unfold dead1 Aa Ae.get;cases H:d.pool.tk i<;>simp
 unfold Bb at h1;omega
structure C5 (d:Af)(k:Nat)(d':Af):Prop where
 vars:d'.vars=d.vars
 level:d'.level=d.level
 counts:d'.counts=d.counts
 dead:d'.dead=d.dead
 room:d'.pool.room=d.pool.room
 alen:d'.pool.at_.length=d.pool.at_.length
 keep:∀i,i∉(AK d).take k->d'.pool.tk i=d.pool.tk i/\d'.pool.nd i=d.pool.nd i
 gone:∀i,i∈(AK d).take k->d'.pool.tk i=false
 tab:∀v,v<d.vars.length->∀lo hi id,d'.tab v (lo,hi)=some id↔Aa d' id=some ⟨v,lo,hi⟩
 many:d'.pool.many+k=d.pool.many
theorem C5.start (H:∀v,v<d.vars.length->∀lo hi id,d.tab v (lo,hi)=some id↔Aa d id=some ⟨v,lo,hi⟩):C5 d 0 d:=
 ⟨rfl,rfl,rfl,rfl,rfl,rfl,λ_ _=>⟨rfl,rfl⟩,λi h=>by simp at h,H,rfl⟩
def Jh (d:Af)(i:Nat)(b:BN):Af:={ d with pool:=d.pool.give i,tab:=λv=>if v=b.v then putF (d.tab v) (b.lo,b.hi) none else d.tab v }
abbrev Zd:=@List.pairwise_iff_getElem
def C5.at {d d':Af}{k i:Nat}(h:C5 d k d')(hi:(AK d)[k]?=some i):d'.pool.tk i=true/\d'.pool.nd i=d.pool.nd i:=by
 obtain⟨g0,e⟩:=XI.1 hi;have I:i∈AK d:=e ▸ XM g0;have H:i∉(AK d).take k:=by
  intro hh;rw[List.mem_take_iff_getElem]at hh;obtain⟨j,O,e2⟩:=hh;have g1:=Zd.1 (RD d) j k (by omega) g0 (by omega);exact g1 (e2.trans e.symm)
 have:=h.keep i H;exact⟨this.1.trans (Jg I).1,this.2⟩
abbrev XA:=@List.take_succ_eq_append_getElem
theorem C5.next (h:C5 d k d')(hi:(AK d)[k]?=some i)(hl:d'.pool.taken.length=d'.pool.at_.length)(I:i<d'.pool.at_.length)(a:1<=d'.pool.many):
 C5 d (k+1) (Jh d' i (bnOf (d'.pool.nd i))):=by
 obtain⟨g2,e⟩:=XI.1 hi;obtain⟨Z,g3⟩:=h.at hi;have e1:(AK d).take (k+1)=(AK d).take k++[i]:=by rw[XA g2,e]
 have tk:∀j,(d'.pool.give i).tk j=if j=i then false else d'.pool.tk j:=λj=>Ft (by rw[hl];exact I) j
 have nd:∀j,(d'.pool.give i).nd j=if j=i then rn0 else d'.pool.nd j:=λj=>Dw I j
 have g0:Aa d' i=some (bnOf (d'.pool.nd i)):=by unfold Aa Ae.get;rw[Xx Z];rfl
 have g1:∀j,Aa (Jh d' i (bnOf (d'.pool.nd i))) j=if j=i then none else Aa d' j:=λj=>by
  unfold Aa
  show((d'.pool.give i).get j).map bnOf=_
  rw[Ae.give_get (by rw[hl];exact I) I]
  by_cases e:j=i<;>simp[e]
 refine⟨h.vars,h.level,h.counts,h.dead,h.room,?_,λj H=>?_,λj H=>?_,λv Y lo X id=>?_,?_⟩
 ·show(d'.pool.at_.set i rn0).length=_
  rw[XE];exact h.alen
 ·rw[e1]at H;simp only[XD,XB,not_or]at H
  show(d'.pool.give i).tk j=_/\(d'.pool.give i).nd j=_
  rw[tk,nd,Xu H.2,Xu H.2];exact h.keep j H.1
 ·rw[e1]at H;simp only[XD,XB]at H
  show(d'.pool.give i).tk j=_
  rw[tk]
  by_cases e2:j=i
  . rw[Xx e2]
  . rw[Xu e2];exact h.gone j (H.resolve_right e2)
 ·rw[g1];have h0:=h.tab v Y lo X id
  show(if v=(bnOf (d'.pool.nd i)).v then putF (d'.tab v) ((bnOf (d'.pool.nd i)).lo,(bnOf (d'.pool.nd i)).hi) none else d'.tab v) (lo,X)=some id↔_
  by_cases e2:id=i
  ·subst e2;simp only[Y1];constructor
   ·intro hh;exfalso
    by_cases U:v=(bnOf (d'.pool.nd id)).v
    ·rw[Xx U]at hh;unfold putF at hh
     by_cases O:(lo,X)=((bnOf (d'.pool.nd id)).lo,(bnOf (d'.pool.nd id)).hi)
     . rw[Xx O]at hh;cases hh
     . rw[Xu O,h0,g0]at hh;cases hh;exact O rfl
    . rw[Xu U,h0,g0]at hh;cases hh;exact U rfl
   . intro hh;cases hh
  ·rw[Xu e2,<-h0]
   by_cases U:v=(bnOf (d'.pool.nd i)).v
   ·rw[Xx U];unfold putF
    by_cases O:(lo,X)=((bnOf (d'.pool.nd i)).lo,(bnOf (d'.pool.nd i)).hi)
    ·rw[Xx O];constructor
     . intro hh;cases hh
     . intro hh;exfalso;have q:=(h.tab v Y lo X i).2 (by rw[g0];cases O;rw[U]);rw[hh]at q;cases q;exact e2 rfl
    . rw[Xu O]
   . rw[Xu U]
 ·show d'.pool.many-1+(k+1)=_
  have:=h.many;omega
structure AN (d d':Af):Prop where
 vars:d'.vars=d.vars
 level:d'.level=d.level
 counts:d'.counts=d.counts
 room:d'.pool.room=d.pool.room
 dead:d'.dead=0
 alen:d'.pool.at_.length=d.pool.at_.length
 nodes:∀i,Aa d' i=if 0<Ak d i then Aa d i else none
 ext:∀i b,Aa d' i=some b->Al d' i=Al d i
 tab:∀v,v<d.vars.length->∀lo hi id,d'.tab v (lo,hi)=some id↔Aa d' id=some ⟨v,lo,hi⟩
 many:d'.pool.many+d.dead=d.pool.many
abbrev YE:=@List.mem_range
def C5.done {ext:Nat->Int}(h:C5 d (AK d).length d')(hl:AD d ext)(O:∀i,d.pool.tk i=true->i<d.pool.at_.length):AN d { d' with dead:=0 }:=by
 have hk:(AK d).take (AK d).length=AK d:=XP;have g1:∀i,d.pool.tk i=true->Ak d i=0->i∈AK d:=λi h1 h2=>by
  unfold AK BI Cb;simp only[YA,YE,Yk];exact⟨⟨O i h1,h1⟩,h2⟩
 refine⟨h.vars,h.level,h.counts,h.room,rfl,h.alen,λi=>?_,λi b hb=>?_,h.tab,by rw[<-LM hl];exact h.many⟩
 ·show(d'.pool.get i).map bnOf=if 0<Ak d i then(d.pool.get i).map bnOf else none
  unfold Ae.get
  by_cases H:i∈AK d
  . have h1:=h.gone i (by rw[hk];exact H);have h2:=(Jg H).2;simp[h1,h2]
  ·obtain⟨h1,h2⟩:=h.keep i (by rw[hk];exact H);rw[h1,h2]
   by_cases h3:0<Ak d i
   . rw[Xx h3]
   ·rw[Xu h3];cases I:d.pool.tk i with
    | false=>rfl
    | true=>exact absurd (g1 i I (by omega)) H
 ·have g0:(d'.pool.get i).map bnOf=some b:=hb;have I:d'.pool.tk i=true:=by
   unfold Ae.get at g0;cases I:d'.pool.tk i with
   | true=>rfl
   | false=>rw[I]at g0;simp at g0
  have H:i∉AK d:=λH=>by rw[h.gone i (by rw[hk];exact H)]at I;cases I
  obtain⟨h1,h2⟩:=h.keep i (by rw[hk];exact H)
  show(if d'.pool.tk i=true then((d'.pool.nd i).refs:Int)else 0)=if d.pool.tk i=true then((d.pool.nd i).refs:Int)else 0
  rw[h1,h2]
def G6 {ext:Nat->Int}(hl:AD d ext)(h0:d.dead=0){b:BN}(hb:Aa d i=some b):0<Ak d i:=by
 have h1:=hl.dead;rw[h0]at h1;have h2:=Gj (f:=dead1 (Aa d) (Ak d)) d.pool.at_.length (λi _=>KL _ _ i) (hl.cnt.lt i b hb);unfold Bb at h1;unfold dead1 at h2;rw[hb]at h2
 by_cases h:Ak d i=0
 . simp only[h,Y1]at h2;unfold dead1 at h1;omega
 . omega
def AN.none {d:Af}{V:Nat->BF}(hk:Ai d V)(h0:d.dead=0):AN d d:=by
 refine⟨rfl,rfl,rfl,rfl,h0,rfl,λi=>?_,λ_ _ _=>rfl,hk.tab,by omega⟩;cases hb:Aa d i with
 | none=>simp
 | some b=>rw[Xx (G6 hk.live h0 hb)]
def RE (d:Af)(i:Nat):0<=Al d i:=by unfold Al;split<;>omega
section
def AN.sub (r:AN d d'){b:BN}(h:Aa d' i=some b):Aa d i=some b/\0<Ak d i:=by
 rw[r.nodes]at h;split at h
 . rename_i H;exact⟨h,H⟩
 . cases h
def AN.cnt (r:AN d d'):Ak d'=Ak d:=by funext i;unfold Ak;rw[r.counts]
def AN.lev (r:AN d d'):levN d'=levN d:=by funext v;unfold levN;rw[r.level]
def AN.kid (r:AN d d')(hk:Ai d V){b:BN}(h:Aa d' i=some b)(H:e=b.lo\/e=b.hi):okE (Aa d') e:=by
 obtain⟨h1,h2⟩:=r.sub h;have O:okE (Aa d) e:=by
  rcases H with rfl|rfl
  . exact hk.dag.okLo i b h1
  . exact hk.dag.okHi i b h1
 rcases O with h0|⟨c,I⟩
 . exact .inl h0
 . refine .inr ⟨c,?_⟩;rw[r.nodes,Xx (hk.live.cnt.pos_of_live h1 h2 H I (RE d _))];exact I
def AN.lvE (r:AN d d')(h0:Aa d 0=Option.none){n:Nat}{lev:Nat->Nat}{e:Nat}(H:okE (Aa d') e):Go.Proofs.YtnphndlbfeagbaaGreat.lvE n lev (Aa d') e=Go.Proofs.YtnphndlbfeagbaaGreat.lvE n lev (Aa d) e:=by
 unfold Go.Proofs.YtnphndlbfeagbaaGreat.lvE;rcases H with H|⟨b,hb⟩
 ·have:Aa d' 0=Option.none:=by rw[r.nodes,h0];simp
  rw[H,h0,this]
 . rw[hb,(r.sub hb).1]
def AN.ok (r:AN d d')(hk:Ai d V):Ai d' V:=by
 have g0:∀e,okE (Aa d') e->Go.Proofs.YtnphndlbfeagbaaGreat.lvE d.vars.length (levN d) (Aa d') e=Go.Proofs.YtnphndlbfeagbaaGreat.lvE d.vars.length (levN d) (Aa d) e:=λe H=>r.lvE hk.dag.none0 H
 refine⟨?_,⟨?_,?_,λi b hb=>by rw[r.counts];exact hk.live.has i b (r.sub hb).1⟩,by rw[r.vars];exact r.tab,by rw[r.counts];exact hk.clen,by rw[r.vars];exact hk.small,by rw[r.vars,r.lev];exact hk.inv,by rw[r.vars,r.lev];exact hk.vlt⟩
 . rw[r.vars,r.lev];exact hk.dag.restrict (Aa d') (λi b h=>(r.sub h).1) (λi b h=>⟨r.kid hk h (.inl rfl),r.kid hk h (.inr rfl)⟩)
 . rw[r.alen,r.cnt];exact(hk.live.cnt.collect (Aa d') r.nodes).congr (λx b hb=>r.ext x b hb)
 ·rw[r.dead];unfold Bb;rw[B5 (g:=λ_=>0) _ (λi _=>?_),DD]
  . rfl
  ·unfold dead1;cases hb:Aa d' i with
   | none=>rfl
   | some b=>have:=(r.sub hb).2;rw[r.cnt];simp;omega
end
attribute [local go_sem] Oper.semAt_some
def Ji {F:Fence}{Y:Nat}(T e:TypeId)(size bytes:Nat)(z:Value)(j:prog.underlying T=some (.slice e))(d:(prog.info? e).map (λi=>(i.zero,i.size,i.bytes))=some (some z,size,bytes))(I:z.cells.size=size)(O:0<size)
 {wr:Wd} {ops:Array Oper} {rest:List Oper} {op:Oper} {a:Act} {Q:Exit->Act->Wd->Prop} {W:Wd} (X:op.guard=none) (s x:Operand)
 (H:op.op=.call { callee:=.builtin .append,args:=#[s,x],argTypes:=#[T,T] })
 {o:Own} {r:Role} {v:Value} {n:Nat} {xs:List Value} (hs:a.eval s=v) {N:Nat} (hx:a.eval x=.slice (some (Av N)) 1 1) {news:Array Value}
 (f:W=wr.alloc (.cells news e)) (k:N=wr.heap.size) (hl:news.size=size) (h1:∀u∈news.toList,u.oneCell'=true) (h:RowR o wr r e size v n xs) (U:Ac o wr) (b:n<1000000000) (hb:bytes<=10000)
 (l:∀g cap w' o',RowR o' w' r e size (.slice (some (Av g)) (n+1) cap) (n+1) (xs++news.toList)->Chg (· = r) o o' wr w'->Ac o' w'->wpListIn F Y prog ops Q rest (a.put op.dst (.slice (some (Av g)) (n+1) cap)) w'):wpListIn F Y prog ops Q (op::rest) a W:=by
 subst k;subst f
 obtain⟨g,cap,w',o',Z,h2,h3,m⟩:=I7 T e op.type size bytes z j d I O news hl h1 h U b hb;refine wpListIn_plain X λK g1=>?_
 unfold Oper.wpIn;refine⟨?_,?_⟩
 . simp[Oper.about,H,resolve,Target.leads,Sem.run_pure]
 . rw[Oper.semAt_plain F _ _ (by rw[H];intro c g0;cases g0)];simp only[execOp,H,resolve,invoke,builtin,Yx,Sem.run_pure,XY,List.map_toArray,Yz,aE,hs,hx,Z];exact g1 _ _ (l g cap w' o' h2 h3 m)
def G7 (w:Wd)(o:Obj):(w.alloc o).drew=w.drew.alloc o:=rfl
def LN {F:Fence}{c:Code}(W1:Wd)(h:∃A,c.wpIn F n P (λe H W'=>e=.normal/\H=A/\W'=W1) a w/\Q .normal A W1):c.wpIn F n P Q a w:=by
 obtain⟨A,h1,h2⟩:=h;refine wpIn_mono h1 ?_;rintro _ _ _ ⟨rfl,rfl,rfl⟩;exact h2
def B8 (d:Af)(pre:List Nat):List Nat:=pre.filter (λi=>decide (Ak d i=0))
structure GatS (d:Af)(w:Wd)(sb:Nat)(pre:List Nat)(M:Nat->Prop)(W:Wd)(v:Value)(oG:Own):Prop where
 mm:∀k,M k↔(k=w.heap.size\/k=w.heap.size+1\/oG k=some .slots)
 low:Bw w W
 boxs:W.heap[w.heap.size]?=some (.cells #[Pt sb] 113 (0,0))
 boxg:W.heap[w.heap.size+1]?=some (.cells #[v] 217 (0,0))
 row:RowR oG W .slots 203 5 v (B8 d pre).length ((B8 d pre).flatMap λi=>rnV (d.pool.nd i))
 lt:Ac oG W
 ge:∀k r,oG k=some r->r=.slots/\w.heap.size+2<=k
def Gat (d:Af)(w:Wd)(sb:Nat)(pre:List Nat)(M:Nat->Prop)(W:Wd):Prop:=∃v oG,GatS d w sb pre M W v oG
def GatS.minds (h:GatS d w sb pre M W v oG)(I:Wr (λk=>w.heap.size<=k/\¬ M k) W W'):GatS d w sb pre M W' v oG:=by
 have hk:∀k,k<W.heap.size->M k->W'.heap[k]?=W.heap[k]?:=λk h1 h2=>I.keep k h1 (λe=>e.2 h2)
 have H:=h.mm
 refine⟨H,h.low.trans (I.below (λk h=>h.1) h.low.size),(hk _ (Xt.1 h.boxs).1 ((H _).2 (.inl rfl))).trans h.boxs,(hk _ (Xt.1 h.boxg).1 ((H _).2 (.inr (.inl rfl)))).trans h.boxg,
  h.row.keep (λg O=>hk g (h.lt g _ O) ((H g).2 (.inr (.inr O)))) (λ_ h=>h),h.lt.mono I.size,h.ge⟩
def RF (h:Ak d x=0):B8 d (pre++[x])=B8 d pre++[x]:=by unfold B8;rw[Yi];simp[h]
def RG (h:Ak d x≠0):B8 d (pre++[x])=B8 d pre:=by unfold B8;rw[Yi];simp[h]
def GatS.add {H:Own}(h:GatS d w sb pre M W v oG)(Z:Ak d x=0)
 (U:RowR H W1 .slots 203 5 v' ((B8 d pre).length+1) (((B8 d pre).flatMap λi=>rnV (d.pool.nd i))++rnV (d.pool.nd x))) (I:Chg (· = .slots) oG H W W1) (hl:Ac H W1) {n:Nat} (a:n<=W.heap.size):
 ∃M',Gat d w sb (pre++[x]) M' (W1.setCell (Av (w.heap.size+1)) v')/\Wr (λk=>M k\/n<=k) W (W1.setCell (Av (w.heap.size+1)) v')/\∀k,M' k->M k\/n<=k:=by
 have none:∀k,k<w.heap.size+2->oG k=Option.none:=λk hk=>by
  cases e:oG k with
  | none=>rfl
  | some r=>have:=(h.ge k r e).2;omega
 have g0:w.heap.size+1<W.heap.size:=(Xt.1 h.boxg).1;have X:=(I.alien (by omega) (none w.heap.size (by omega))).trans h.boxs;have k1:=(I.alien g0 (none (w.heap.size+1) (by omega))).trans h.boxg;have O:∀k r,H k=some r->r=.slots/\w.heap.size+2<=k:=λk r hk=>by
  by_cases e:H k=oG k
  . rw[e]at hk;exact h.ge k r hk
  ·obtain⟨b,q,a2,a3⟩:=I.new k e;rw[hk]at a2;cases a2
   exact⟨a3,by omega⟩
 refine⟨λk=>k=w.heap.size\/k=w.heap.size+1\/H k=some .slots,⟨v',H,⟨λk=>Iff.rfl,?_,?_,A2 k1 _,?_,hl.mono (by simp[World.setCell]),O⟩⟩,?_,λk hk=>?_⟩
 . have:Bw w W1:=h.low.trans ⟨I.os,I.tape,I.output,I.size,λk hk=>I.alien (X5 hk h.low.size) (none k (by omega))⟩;exact this.setCell (p:=⟨w.heap.size+1,0,Option.none⟩) (by show _<=w.heap.size+1;omega) _
 . exact(Az (by show _≠w.heap.size+1;omega) _).trans X
 . rw[RF Z,X4,Z2];simp only[Ze,YY,List.flatMap_nil,Y5];exact U.setCell_other (λe=>by have:=(O _ _ e).2;simp at this) _
 . have:Wr (λk=>M k\/n<=k) W W1:=⟨I.os,I.tape,I.output,I.size,λk hk Y=>I.block k hk λr U e=>Y (.inl ((h.mm k).2 (.inr (.inr (by rw[U,e])))))⟩;exact this.setCell (p:=⟨w.heap.size+1,0,Option.none⟩) (.inl (.inl ((h.mm _).2 (.inr (.inl rfl))))) _
 ·rcases hk with hk|hk|hk
  . exact .inl ((h.mm k).2 (.inl hk))
  . exact .inl ((h.mm k).2 (.inr (.inl hk)))
  ·by_cases e:H k=oG k
   . rw[e]at hk;exact .inl ((h.mm k).2 (.inr (.inr hk)))
   . have:=(I.new k e).1;right;omega
def GatS.no (h:GatS d w sb pre M W v oG)(k:Nat)(hk:k<w.heap.size+2):oG k=none:=by
 cases e:oG k with
 | none=>rfl
 | some r=>have:=(h.ge k r e).2;omega
def GatS.drew {d:Af}{w:Wd}{sb:Nat}{pre:List Nat}{M:Nat->Prop}{W:Wd}{v:Value}{oG:Own}(h:GatS d w sb pre M W v oG):GatS d w sb pre M W.drew v oG:=h.minds ((Wr.refl _ W).drew)
def G8 (o:Own)(W2:Wd)(sb:Nat)(d:Af)(s:BP)(k:Nat)(wr:Wd):Prop:=∃o1 d1,Ap o1 wr sb d1 s/\Ac o1 wr/\C5 d k d1/\Chg Am o o1 W2 wr
def G8.next {o o1 o2:Own}{W2 wr l b O a:Wd}{sb:Nat}{d d1:Af}{s:BP}{k i:Nat}{N:RN}(hs1:Ap o1 wr sb d1 s)(X:Ac o1 wr)(H:C5 d k d1)(g:Chg Am o o1 W2 wr)(hi:(AK d)[k]?=some i)(q:d1.pool.nd i=N)(I:Bw wr l)
 (n:AS o1 b N.v (s.ts.getD N.v 0) (putF (d1.tab N.v) (N.lo,N.hi) none)) (Y:Chg (· = .tmap N.v) o1 o1 l b) (U:Ac o1 b) (hb:Bw b O)
 (p:Aq o2 a s.pb (d1.pool.give i)) (Z:Chg (λr=>r=.pool\/r=.slots\/r=.taken\/r=.free) o1 o2 O a) (c:Ac o2 a):G8 o W2 sb d s (k+1) a:=by
 have h3:=hs1.below X I;have g1:=X.mono I.size;have t:=h3.setTab g1 n Y;have g2:=t.below U hb;have m:=g2.setPool (U.mono hb.size) p Z;have g0:i<d1.pool.at_.length:=(hs1.pool.tk_lt (H.at hi).1).2;have e:(λu=>if u=N.v then putF (d1.tab N.v) (N.lo,N.hi) none else d1.tab u)=(λu=>if u=N.v then putF (d1.tab u) (N.lo,N.hi) none else d1.tab u):=by
  funext u
  by_cases h:u=N.v
  . subst h;rfl
  . simp[h]
 rw[e]at m;refine⟨o2,Jh d1 i (bnOf N),m,c,?_,g.trans ((Chg.of_below I _ o1).trans ((Y.mono ?_).trans ((Chg.of_below hb _ o1).trans (Z.mono ?_))))⟩
 ·have:=H.next hi hs1.pool.len g0 (by
   have h1:=hs1.pool.cnt;have h2:=KP (f:=λj=>if d1.pool.tk j=true then(1:Int)else 0) (λj _=>by split<;>omega) g0 (by simp[(H.at hi).1]);omega)
  rw[q]at this;exact this
 . rintro r rfl;exact .inr (.inr (.inr (.inr (.inr (.inr (.inl ⟨_,.inr rfl⟩))))))
 . rintro r h;exact .inr (.inr (.inr (.inr (.inl h))))
def ER {o:Oper}{f:FuncId}{R:Value->Wd->Prop}(H:o.guard=none)
 (I:(execOp a.eval o).run P w=.ok (.enter f args) w) (O:Calls P f args w λe w'=>∃v,e=.returned v/\R v w') (h:∀v w',R v w'->Q .normal (a.put o.dst v) w'):AG P ops Q S true [(some o,true)] a w:=by
 refine DE H λK U=>?_
 unfold Oper.wp;simp only[I,Oper.upon];exact O.mono λe w' ⟨v,h1,h2⟩=>by subst h1;exact U _ _ (h v w' h2)
abbrev aI:=@callsIn_wide
abbrev YD:=@results_tmp
def LO {o:Own}(h:A3 o w sb d)(h0:d.dead=0):
 Cl 157 #[Pt sb] w (Bl (Iv 0) w):=by
 obtain⟨s,h⟩:=h;obtain⟨U,c1,c2,O,H,f0⟩:=cells5 h.blk;rw[h0]at H;obtain⟨w1,g0⟩:=Ex (w.alloc (.cells #[Pt sb] 113));have g1:Bw w w1:=by rw[g0];exact Ag w _
 have Z:w1.cell? (Av w.heap.size)=some (Pt sb):=by rw[g0];exact cell1 (Xv w _)
 have I:=Cq g1 H;have X:Hq (_=w1):=Hd g0.symm;have Y:=Hd g1;clear h U c1 c2 O H f0 g0 g1 h0;refine(aI (n:=9)).1 ?_;refine callsIn_of_wp_marks func157 rfl trivial ?_;refine wpIn_wide.2 ?_;simp only[ntmps157,Y6,XL,Y2,Nat.reduceAdd,Nat.reduceSub,YJ,YK,Za,YP,Yv,YX];go_upto_region 1 with fail;rw[X.o];go_wp2_with fail;exact⟨_,YD rfl _ _ _,rfl,Y.o⟩
abbrev Zh:=@Nat.add_zero
def LP {o:Own}(h:A3 o w sb d)(C:Ac o w)(hk:Ai d V)(h0:d.dead≠0):
 Cl 157 #[Pt sb] w λx w'=>x=.returned (Iv d.dead)/\∃o' d',A3 o' w' sb d'/\Ac o' w'/\AN d d'/\Chg Am o o' w w':=by
 obtain⟨s,h⟩:=h;obtain⟨c0,c1,c2,c3,c4,f0⟩:=cells5 h.blk;have ko:((d.dead:Int) == 0)=false:=by simpa using h0
 obtain⟨w1,Q⟩:=Ex (w.alloc (.cells #[Pt sb] 113));have gL:Bw w w1:=by rw[Q];exact Ag w _
 have hB:w1.heap[w.heap.size]?=some (.cells #[Pt sb] 113 (0,0)):=by rw[Q];exact Xv w _
 have hs1:w1.heap.size=w.heap.size+1:=by rw[Q];simp
 obtain⟨w2,g6⟩:=Ex (w1.alloc (.cells #[.slice none 0 0] 217));have gK:Bw w w2:=by rw[g6];exact gL.alloc (by omega) _
 have gN:w2.heap[w.heap.size]?=some (.cells #[Pt sb] 113 (0,0)):=by rw[g6];exact(Yt w1 _ _ (by omega)).trans hB
 have ho:w2.heap[w.heap.size+1]?=some (.cells #[.slice none 0 0] 217 (0,0)):=by rw[g6,<-hs1];exact Xv w1 _
 have gF:w2.heap.size=w.heap.size+2:=by rw[g6];simp[hs1]
 have cB1:=cell1 hB;have cB2:=cell1 gN;have cS1:=Cq gL c4;have cS2:=Cq gK c1;have HW1:Hq (_=w1):=Hd Q.symm;have hu:Hq (_=w2):=Hd g6.symm;have HB2:=Hd gK;have HH:=Hd h;have HE:=Hd (aI.1 (RA Fence.wide 9 trivial rfl s.pb w2));clear h c0 c1 c2 c3 c4 f0 Q g6 gL gK;refine(aI (n:=9)).1 ?_;refine callsIn_of_wp_marks func157 rfl trivial ?_;refine wpIn_wide.2 ?_;simp only[ntmps157,Y6,XL,Y2,Nat.reduceAdd,Nat.reduceSub,YJ,YK,Za,YP,Yv,YX];go_upto_region 1 with fail;rw[HW1.o];go_upto_region 4 with fail;rw[hu.o];go_wp2_with fail;refine HE.o.mono ?_;rintro x U ⟨rfl,R⟩;go_wp2_with fail;obtain⟨O,g4⟩:=Ex (w2.alloc (.cells #[Pt s.pb] 166));rw[<-g4];have kk:O.heap.size=w.heap.size+3:=by rw[g4];simp[gF]
 have g5:Bw w O:=by rw[g4];exact HB2.o.alloc (by omega) _
 have ht:O.heap[w.heap.size]?=some (.cells #[Pt sb] 113 (0,0)):=by rw[g4];exact(Yt w2 _ _ (by omega)).trans gN
 have hn:O.heap[w.heap.size+1]?=some (.cells #[.slice none 0 0] 217 (0,0)):=by rw[g4];exact(Yt w2 _ _ (by omega)).trans ho
 have hh:O.cell? (Av (w.heap.size+2))=some (Pt s.pb):=by rw[g4,<-gF];exact cell1 (Xv w2 _)
 have t:Hq (Ap o w sb d s):=HH;have g7:=Hd C;have HK:=Hd hk;have HG:=Hd (RB Fence.wide 8 trivial trivial trivial rfl (by omega) (w.heap.size+2) w.heap.size s.pb HH.o.pool C (Xs _) O g5 (by omega) (by omega) hh);clear g4 hB gN ho cB1 cB2 cS1 cS2 HE HW1 hu hs1 gF hh;refine(wpIn_wide (n:=9)).1 ?_;refine L7 rfl (by omega) (gf:=183) (lb:=#[Pt (w.heap.size+2)]) rfl trivial (YF func183 (by kernel_rfl) rfl) HG.o (by omega) (by rintro k rfl;omega) (λx=>rfl)
  (Gat d w sb) ?_ ?_ (λk=>k=w.heap.size\/k=w.heap.size+1) (by rintro k rfl h;omega) ⟨.slice none 0 0,λ_=>none,(⟨λk=>by simp,g5,ht,hn,RowR.nil _ _ _ _ _,λk r h=>(by cases h),λk r h=>(by cases h)⟩:GatS d w sb [] _ O (.slice none 0 0) (λ_=>none))⟩
  (λx a' W W1=>∃c,W.heap.size<=c/\W1.heap[c]?=some (.cells #[Iv (d.pool.nd x).id,Iv (d.pool.nd x).v,Iv (d.pool.nd x).lo,Iv (d.pool.nd x).hi,Iv (d.pool.nd x).refs] 203 (0,0))/\a'={ tmps:=#[Value.pointer (some { block:=sb,off:=0 }),Value.pointer (some { block:=w.heap.size,off:=0 }),Value.int IntKind.i64 0,Value.pointer (some { block:=w.heap.size+1,off:=0 }),Value.pointer (some { block:=c,off:=0 }),undef,undef,Value.pointer (some { block:=sb,off:=0 }),Value.bool false,Value.bool false,Value.pointer (some { block:=sb,off:=0 }),Value.pointer (some { block:=sb,off:=0 }),Value.pointer (some { block:=sb,off:=4 }),Value.int IntKind.i64 ↑d.dead,Value.bool false,Value.bool false,Value.pointer (some { block:=sb,off:=0 }),Value.pointer (some { block:=sb,off:=0 }),Value.pointer (some { block:=sb,off:=1 }),Value.pointer (some { block:=s.pb,off:=0 }),Value.func (Fn.func 183) #[] #[Value.pointer (some { block:=w.heap.size+2,off:=0 })],Ao (d.pool.nd x),undef,undef,undef,undef,undef,undef,undef,undef,undef,undef,undef,undef,undef,undef,undef,undef,undef,undef,undef,undef,undef,undef,undef,undef,undef,undef,undef,undef,undef,undef,undef,undef,undef,undef,undef,undef,undef,undef,undef,undef,undef,undef,undef,undef,undef],defers:=[] }) ?_ ?_ ?_ ?_
 ·rintro pre M W ⟨v,oG,I⟩ k hk;rcases(I.mm k).1 hk with rfl|rfl|E
  . exact⟨Xs _,(Xt.1 I.boxs).1⟩
  . exact⟨by omega,(Xt.1 I.boxg).1⟩
  . have:=(I.ge k _ E).2;exact⟨by omega,I.lt k _ E⟩
 . rintro pre M W W' ⟨v,oG,I⟩ Z;exact⟨v,oG,I.minds Z⟩
 . rintro x a' W W1 W2 l hl ⟨c,h1,h2,h3⟩ Z;exact⟨c,h1,(Z.keep c (Xt.1 h2).1 (by omega)).trans h2,h3⟩
 ·intro l pre x M W K hI hK;simp only[Ao]
  gi_wp2
  exact hK _ _ ((Wr.refl _ W).alloc _) ⟨W.heap.size,Xs _,Xv W _,rfl⟩
 ·rintro l pre x a' M W0 W ⟨v,oG,I⟩ ⟨c,kp,ha,rfl⟩ hW hs1 g9;obtain⟨suf,g9⟩:=g9;have hx:d.pool.tk x=true:=LI g9;have go:=t.o.below g7.o I.low;obtain⟨q0,q1,A,z,q4,_⟩:=cells5 go.blk;obtain⟨n0,n1,n2,n3,n4,_⟩:=cells5 ha;have Y:=go.pool.id x hx;rw[Y]at n0;have y:Aa d x=some (bnOf (d.pool.nd x)):=by unfold Aa Ae.get;rw[Xx hx];rfl
  have gC:x<d.counts.length:=HK.o.live.has x _ y;obtain⟨gc,cc,gU,_⟩:=go.counts.shape (by omega);have gl:=go.counts;rw[gU]at gl z;have h8:=gl.cell x (by simpa using gC);have gD:(d.counts.map nat64)[x]?=some (Iv (Ak d x:Nat)):=by
   rw[Yq,Xy gC];simp[nat64,Ak,List.getD,gC]
  rw[gD]at h8;have kh:(x:Int)<d.counts.length:=by omega
  have cb:=cell1 I.boxs;have cg:=cell1 I.boxg;have H:=Hd I;have kr:=Hd ha;have hH:=Hd g9;have kb:=Hd Y;have kl:prog.follows .mixedOrders=true:=by kernel_rfl
  clear go gl gD gU g9 I Y y
  by_cases X:Ak d x=0
  ·rw[X]at h8;have gk:(B8 d pre).length<1000000000:=by
    have h1:=t.o.below g7.o H.o.low;have h2:=h1.pool.top;have h3:=h1.pool.room;have h4:(B8 d pre).length<=(BI d.pool).length:=by rw[<-hH.o];unfold B8;refine Xz (Yj _ _) ?_;simp
    have h5:(BI d.pool).length<=d.pool.at_.length:=by unfold BI Cb;refine Xz (Yj _ _) ?_;simp
    omega
   have hP:=Hd gk;have HC:=Hd X;clear gk
   gi_wp2
   refine LN W.drew ?_;apply Exists.intro;refine⟨?_,?_⟩
   ·gi_region_o
    all_goals exact⟨rfl,rfl,rfl⟩
   gi_wp2_with (gi_at_builtin
                rw[G7];refine Ji (wr:=W.drew) 217 203 5 40 _ underlying217 Gv rfl (by decide) rfl _ _ rfl rfl rfl rfl rfl rfl (by simp[Value.oneCell']) H.o.drew.row H.o.drew.lt hP.o (by decide) ?_;intro g1 k1 w1 o1 g2 g0 g3;have G:=Hd g2;have g8:=Hd g0;have q:=Hd g3;clear g2 g0 g3 q0 q1 A z q4 cb;have gx:=(g8.o.alien (Xt.1 H.o.boxg).1 (H.o.no _ (by omega))).trans H.o.boxg;have cg1:=cell1 gx;have fz:∀k,w1.frozen? ⟨w.heap.size+1,k,none⟩=false:=λk=>by simp[World.frozen?,gx]
                clear cg gx)
   have hG:=H.o.drew.add HC.o (W1:=w1) (v':=.slice (some (Av g1)) ((B8 d pre).length+1) k1) (by
    have e:rnV (d.pool.nd x)=[Iv (x:Nat),Iv (d.pool.nd x).v,Iv (d.pool.nd x).lo,Iv (d.pool.nd x).hi,Iv (d.pool.nd x).refs]:=by unfold rnV;rw[kb.o]
    rw[e];exact G.o) g8.o q.o hW
   obtain⟨M',a1,a2,a3⟩:=hG;exact⟨M',a1,Wr.trans ((Wr.refl (λ_=>False) W).drew) a2 (λ_ _ e=>e.elim) (λ_ _ e=>e),a3⟩
  ·have g0:((Ak d x:Int) == 0)=false:=by simpa using X
   gi_wp2
   refine LN W.drew ?_;apply Exists.intro;refine⟨?_,?_⟩
   ·gi_region_o
    all_goals exact⟨rfl,rfl,rfl⟩
   gi_wp2
   exact⟨M,⟨v,oG,by have:=H.o.drew;exact⟨this.mm,this.low,this.boxs,this.boxg,by rw[RG X];exact this.row,this.lt,this.ge⟩⟩,(Wr.refl _ W).drew,λk hk=>.inl hk⟩
 ·rintro D M W2 hD k3 ⟨v,oG,I⟩ _ g6 hq;have H:=Hd I;have hz:=Hd hq;have cg:=cell1 I.boxg;obtain⟨ag,cpg,rfl,_⟩:=I.row.slice;clear I hq k3 g6 HG ht hn g5;go_wp2_with fail;have gq:∀k i,(AK d)[k]?=some i->∃g,ag=some (Av g)/\o g=none/\∀j u,(rnV (d.pool.nd i))[j]?=some u->W2.cell? (Aw g (k*5+j))=some u:=by
   intro k i hi;have km:k<(AK d).length:=(XI.1 hi).1;obtain⟨g,cp,he,b,_⟩:=H.o.row.shape (by show 0<(AK d).length;omega);cases he;refine⟨g,rfl,?_,λj u hj=>?_⟩
   . have:=(H.o.ge g _ b).2;exact g7.o.none (by omega)
   ·have h5:j<5:=by have:=(XI.1 hj).1;simpa [rnV]using this
    have hf:=Ef (λi=>rnV (d.pool.nd i)) 5 (λ_=>rfl) (AK d) k j i hi h5;have gk:((AK d).flatMap λi=>rnV (d.pool.nd i)).length=(AK d).length*5:=Ch _ 5 (λ_=>rfl) _;have X:=H.o.row.cell (k*5+j) (by show _<((AK d).flatMap λi=>rnV (d.pool.nd i)).length;rw[gk];omega);rw[X];exact hf.trans hj
  have kc:=Hd gq;have gO:Hq ((B8 d (BI d.pool)).length=(AK d).length):=Hd rfl;have F:Hq (o w.heap.size=none/\o (w.heap.size+1)=none):=Hd ⟨g7.o.none (by omega),g7.o.none (by omega)⟩;have gj:=t.o.below g7.o H.o.low;have gG:Ac o W2:=g7.o.mono H.o.low.size;have hL:=Hd gj;have hO:=Hd gG;have gH:w.heap.size<W2.heap.size:=(Xt.1 H.o.boxs).1;have gX:w.heap.size+1<W2.heap.size:=(Xt.1 H.o.boxg).1;have hF:(B8 d (BI d.pool)).length<=1048577:=by
   show(AK d).length<=_
   have h2:=gj.pool.top;have h3:=gj.pool.room;have h5:(AK d).length<=d.pool.at_.length:=by unfold AK BI Cb;refine Xz (Yj _ _) (Xz (Yj _ _) ?_);simp
   omega
  clear gq cg gj gG;obtain⟨m,hm⟩:=Ex ((B8 d (BI d.pool)).length);rw[<-hm]at hF gO⊢;have HM:=Hd hm;clear hm
  go_loopw [37] (λi wr=>∃k:Nat,k<=m/\i=Iv k/\G8 o W2 sb d s k wr) (λi _=>m-(intOf i).toNat)
  case atStart=>exact⟨0,X0 _,rfl,o,d,hL.o,hO.o,C5.start HK.o.tab,Chg.refl _ _ _⟩
  case round=>
   obtain⟨k,hk,rfl,h7⟩:=hrel;have gI:=h7;obtain⟨o1,d1,hs1,g3,g2,g0⟩:=h7
   by_cases kg:k<m
   ·obtain⟨i,hi⟩:∃i,(AK d)[k]?=some i:=⟨_,Xy (by have:=gO.o;omega)⟩;obtain⟨gy,L⟩:=g2.at hi;obtain⟨g,hZ,b,a⟩:=kc.o k i hi;subst hZ;obtain⟨N,hN⟩:=Ex (d.pool.nd i);rw[<-hN]at a L;have e0:=g0.cell (a 0 _ rfl) b;have e1:=g0.cell (a 1 _ rfl) b;have e2:=g0.cell (a 2 _ rfl) b;have e3:=g0.cell (a 3 _ rfl) b;have e4:=g0.cell (a 4 _ rfl) b;rw[Zh]at e0;have cb:=cell1 ((g0.alien gH F.o.1).trans H.o.boxs);have kn:(k:Int)<m:=by omega
    obtain⟨U,R⟩:=Ex (wr.alloc (.cells #[Iv N.id,Iv N.v,Iv N.lo,Iv N.hi,Iv N.refs] 203));obtain⟨b6,gJ⟩:=Ex wr.heap.size;have g5:Bw wr U:=by rw[R];exact Ag _ _
    have y:U.heap[b6]?=some (.cells #[Iv N.id,Iv N.v,Iv N.lo,Iv N.hi,Iv N.refs] 203 (0,0)):=by rw[R,gJ];exact Xv _ _
    have hC:o1 b6=none:=g3.none (by omega);have hM:Hq (o1 w.heap.size=none):=Hd (g0.alien' gH F.o.1);have k5:Hq (_=U):=Hd R.symm;have ke:Hq (_=b6):=Hd gJ.symm;have HN:=Hd hN;have Y:N.id=i:=by rw[<-L];exact hs1.pool.id i gy
    have hb:Aa d1 i=some ⟨N.v,N.lo,N.hi⟩:=by unfold Aa Ae.get;rw[Xx gy,L];rfl
    have hv:N.v<d1.vars.length:=by rw[g2.vars];exact HK.o.dag.var i ⟨N.v,N.lo,N.hi⟩ (by unfold Aa Ae.get;rw[Xx (Jg ((XI.1 hi).2 ▸ XM _)).1,<-hN];rfl)
    have h6:d1.tab N.v (N.lo,N.hi)=some i:=(g2.tab N.v (by rw[<-g2.vars];exact hv) _ _ _).2 hb;have S:=hs1.below g3 g5;have gA:=g3.mono g5.size;obtain⟨gt,ct,gS,hY,gT,ki⟩:=S.tabAt hv;obtain⟨q0,q1,A,z,q4,_⟩:=cells5 S.blk;rw[gS]at A;obtain⟨n0,n1,n2,n3,n4,_⟩:=cells5 y;have T:=Cq g5 cb;have hT:(N.v:Int)<s.ts.length:=by omega
    have hR:=Hd (KV o1 N.v (s.ts.getD N.v 0) (d1.tab N.v) N.lo N.hi i U.drew ((S.below gA (An U 1)).tab N.v gT) (gA.mono (An U 1).size) h6);have gB:=Hd hs1;have q:=Hd g3;have G:=Hd g2;have g8:=Hd g0;have HI:=Hd hi;have k9:=Hd L;have hA:=Hd g5;have kq:=Hd y;have k6:=Hd gy;have hQ:=Hd Y;have hJ:=Hd S;have hy:=Hd gA;clear a gI hs1 g3 g2 g0 hi L g5 y gy Y hb hv h6 S gA gS R gJ hN gT;go_upto_region 11 with fail;rw[k5.o,ke.o];refine AJ (λW:Wd=>W=U.drew) true 12 [(0,false),(1,false),(2,false),(3,false),(4,false),(5,false),(6,false),(7,false),(8,false),(9,false),(10,false),(11,false),(12,true)] (by kernel_rfl) (by kernel_rfl) rfl ?_;simp only[planned,AI]
    iterate 12
     refine A0 rfl ?_;apply Exists.intro;refine⟨λw' Z=>?_,?_⟩
     . subst Z;go_simp;rfl
     simp only[Ab]
    refine ER rfl (by go_simp) (hR.o.mono (R':=λe w'=>∃v,e=.returned v/\(v=Iv 0/\AS o1 w' N.v (s.ts.getD N.v 0) (putF (d1.tab N.v) (N.lo,N.hi) none)/\Chg (· = .tmap N.v) o1 o1 U.drew w'/\Ac o1 w')) (λe w' h=>⟨_,h.1,rfl,h.2⟩)) ?_;rintro _ f ⟨rfl,gE,J,gz⟩;simp only[Ab];refine C2 ?_;have gw:=(hJ.o.below hy.o (An U 1)).setTab (hy.o.mono (An U 1).size) gE J;have cb4:=J.cell (w:=U.drew) (p:=Av w.heap.size) T (hM.o);have B:=J.cell (w:=U.drew) (p:=Av b6) n0 hC;obtain⟨p0,p1,p2,p3,p4,_⟩:=cells5 gw.blk;rw[hQ.o]at B;have gR:=Hd (PI o1 s.pb d1.pool i f.drew (gw.below gz (An f 1)).pool (gz.mono (An f 1).size) k6.o);have k7:=Hd gE;have kd:=Hd J;have ka:=Hd gz;clear gE J gz gw n0 n1 n2 n3 n4 q0 q1 A z q4 T cb e0 e1 e2 e3 e4 hY hT;go_upto_region 12 with fail;refine AJ (λW:Wd=>W=f.drew) true 6 [(0,false),(1,false),(2,false),(3,false),(4,false),(5,false),(6,true)] (by kernel_rfl) (by kernel_rfl) rfl ?_;simp only[planned,AI]
    iterate 6
     refine A0 rfl ?_;apply Exists.intro;refine⟨λw' Z=>?_,?_⟩
     . subst Z;go_simp;rfl
     simp only[Ab]
    refine ER rfl (by go_simp) (gR.o.mono (R':=λe w'=>∃v,e=.returned v/\(v=Iv 0/\∃o',Aq o' w' s.pb (d1.pool.give i)/\Chg (λr=>r=.pool\/r=.slots\/r=.taken\/r=.free) o1 o' f.drew w'/\Ac o' w')) (λe w' h=>⟨_,h.1,rfl,h.2⟩)) ?_;rintro _ w5 ⟨rfl,o2,gV,h9,gY⟩;simp only[Ab];refine C2 ?_;have k8:=Hd (G8.next gB.o q.o G.o g8.o HI.o k9.o (hA.o.trans ((An U 1).mono hA.o.size)) k7.o kd.o ka.o (An f 1) gV h9 gY);clear gV h9 gY p0 p1 p2 p3 p4 cb4 B gX;go_wp2;go_roundw
    case rel=>exact⟨k+1,by omega,by go_num,k8.o⟩
    case measure=>simp[intOf];omega
   ·obtain rfl:k=m:=by omega
    have hd:=(g0.alien gH F.o.1).trans H.o.boxs;have gZ:=(g0.alien gX F.o.2).trans H.o.boxg;have cb:=cell1 hd;have cg:=cell1 gZ;obtain⟨q0,q1,A,z,q4,qf⟩:=cells5 hs1.blk;have gB:=Hd hs1;have q:=Hd g3;have G:=Hd g2;have g8:=Hd g0;have kj:sb≠w.heap.size+1:=λe=>by have h1:=F.o.2;have h2:=t.o.own;rw[e]at h2;rw[h1]at h2;cases h2
    clear gI hs1 g3 g2 g0 hd gZ;go_wp2_with fail;have gM:o D=none:=g7.o.none (by omega);have hp:D<W2.heap.size:=(Xt.1 hz.o).1;have k0:=(g8.o.alien hp gM).trans hz.o;have k4:o1 D=none:=g8.o.alien' hp gM;have hU:D≠sb:=by rintro rfl;have:=t.o.own;rw[gM]at this;cases this
    have hX:k=(AK d).length:=gO.o;refine⟨by simp,.inl ⟨D,_,rfl,run_takeDeferred ((Az hU _).trans k0),?_⟩⟩;have hE:Ap o1 (wr.setCell (Aw sb 4) (Iv 0)) sb (d1.cd d1.counts 0) s:=gB.o.setDead q.o 0;have gQ:AN d (d1.cd d1.counts 0):=(hX ▸ G.o:C5 d (AK d).length d1).done HK.o.live (λi hi=>(t.o.pool.tk_lt hi).2);have gP:A3 o1 ((wr.setCell (Aw sb 4) (Iv 0)).putObj D (.deferred none)) sb (d1.cd d1.counts 0):=
     A3.keepR ⟨s,hE⟩ (λg r E _=>Yu (by rintro rfl;rw[k4]at E;cases E)) (λ_ _ h=>h)
    refine⟨_,YD rfl _ _ _,?_,o1,_,gP,q.o.mono (by simp[World.setCell]),gQ,?_⟩
    ·show Ending.returned (Iv ((B8 d (BI d.pool)).length:Nat))=_
     have:(B8 d (BI d.pool)).length=d.dead:=LM HK.o.live;rw[this]
    . have X:=(Chg.of_below H.o.low Am o).trans (g8.o.setCell (p:=Aw sb 4) (r:=.store) gB.o.own (.inl rfl) (Iv 0));exact⟨X.os,X.tape,X.output,by have:=X.size;simpa [World.setCell]using this,λk hk hr=>(Yu (by omega)).trans (X.block k hk hr),X.ext,X.new⟩
structure ChgX (C:Nat->Prop)(o o':Own)(w w':Wd):Prop where
 os:w'.os=w.os
 tape:w'.tape=w.tape
 output:w'.output=w.output
 size:w.heap.size<=w'.heap.size
 block:∀k,k<w.heap.size->o k=none->¬ C k->w'.heap[k]?=w.heap[k]?
 ext:∀k r,o k=some r->o' k=some r
 new:∀k,o' k≠o k->w.heap.size<=k
abbrev NoB:Nat->Prop:=λ_=>False
section
variable {D:Nat->Prop}{o:Own}
def ChgX.of_chg (h:Chg R o o' w w')(C:Nat->Prop):ChgX C o o' w w':=⟨h.os,h.tape,h.output,h.size,λ_ hk H _=>h.alien hk H,h.ext,λk hk=>(h.new k hk).1⟩
def ChgX.of_wr (h:Wr D w w')(o:Own)(I:∀k,k<w.heap.size->D k->C k):ChgX C o o w w':=⟨h.os,h.tape,h.output,h.size,λk hk _ H=>h.keep k hk (λe=>H (I k hk e)),λ_ _ h=>h,λ_ h=>(h rfl).elim⟩
def ChgX.of_below (h:Bw w w')(o:Own)(C:Nat->Prop):ChgX C o o w w':=ChgX.of_wr (Wr.of_below h NoB) o (λ_ _ h=>h.elim)
def ChgX.none' (h:ChgX C o o' w w')(hk:k<w.heap.size)(H:o k=none):o' k=none:=by
 by_cases e:o' k=o k
 . rw[e];exact H
 . have:=h.new k e;omega
def ChgX.trans (h:ChgX C o o' w w')(H:ChgX D o' o'' w' w'')(X:∀k,k<w.heap.size->D k->C k):ChgX C o o'' w w'':=by
 refine⟨H.os.trans h.os,H.tape.trans h.tape,H.output.trans h.output,Xz h.size H.size,λk hk I O=>?_,λk r U=>H.ext k r (h.ext k r U),λk hk=>?_⟩
 . exact(H.block k (X5 hk h.size) (h.none' hk I) (λe=>O (X k hk e))).trans (h.block k hk I O)
 ·by_cases e:o' k=o k
  . have:=H.new k (by rw[e];exact hk);exact Xz h.size this
  . exact h.new k e
def ChgX.cell (h:ChgX C o o' w w'){p:Addr}{v:Value}(H:w.cell? p=some v)(hb:o p.block=none)(I:¬ C p.block):w'.cell? p=some v:=
 (XR (w:=w) (h.block p.block (Z5 w p H) hb I)).trans H
def ChgX.below0 (h:ChgX NoB (λ_=>none) o w w'):Bw w w':=⟨h.os,h.tape,h.output,h.size,λk hk=>h.block k hk rfl (λe=>e)⟩
def ChgX.lower (h:ChgX C (λ_=>none) o w w')(I:ChgX D o o' w' w'')(H:∀k,D k->w.heap.size<=k):ChgX C (λ_=>none) o' w w'':=h.trans I (λk hk e=>by have:=H k e;omega)
end
structure B9 (C:Nat->Prop)(K:Law)(o:Own)(w:Wd)(mb:Nat)(m:ManD)(V:Nat->BF)(o':Own)(w':Wd)(m':ManD)(V':Nat->BF):Prop where
 is:AF (K m'.d V') o' w' mb m'
 lt:Ac o' w'
 chg:ChgX C o o' w w'
 ok:Ai m'.d V'
 ext:Ext m.d V m'.d V'
 hs:m'.hs=m.hs
 next:m'.next=m.next
def Step.toX {o:Own}(h:Step K o w mb m V o' w' m' V')(C:Nat->Prop):B9 C K o w mb m V o' w' m' V':=⟨h.is,h.lt,ChgX.of_chg h.chg C,h.ok,h.ext,h.hs,h.next⟩
abbrev Zl:=@List.length_eq_zero_iff
def RH (h:Ct m)(ext:Ext m.d V m'.d V')(ok:Ai m'.d V')(e1:m'.hs=m.hs)(e2:m'.next=m.next):Ct m':=by
 refine⟨by rw[e1];exact h.nodup,by rw[e1];exact h.zero,by rw[e1];exact h.one,by rw[e1,e2];exact h.lt,by rw[e2];exact h.next,λp H=>?_,by rw[e1,e2];exact h.len,λi b hb=>?_⟩
 . rw[e1]at H;exact ext.ok (h.ok p H)
 ·rw[e1];cases I:Aa m.d i with
  | some O=>rw[ext.ext i O I];exact h.refs i O I
  | none=>
    rw[ext.ext0 i I];have hi:i≠0:=by rintro rfl;rw[ok.dag.none0]at hb;cases hb
    have:AT m.hs i=0:=by
     unfold AT;rw[Zl,List.filter_eq_nil_iff];intro p H;have U:=h.ok p H;simp only[XH,Yk,ZO,not_and];rintro _ rfl;rcases U with h0|⟨b1,g0⟩
     . exact hi h0
     . rw[I]at g0;cases g0
    rw[this];rfl
structure SatE (K:Law)(n:Nat)(Od:List Nat->Prop)(room:Nat)(w0:Wd)(mb:Nat)(fs:List (Int×BF))(nx:Int)(w:Wd)(o:Own)(m:ManD)(V:Nat->BF):Prop where
 is:AF (K m.d V) o w mb m
 lt:Ac o w
 ok:EK m V
 vars:m.d.vars.length=n
 od:Od m.d.vars
 room:m.d.pool.room=room
 next:m.next=nx
 hs:m.hs.map (λp=>(p.1,ef V p.2))=fs
 chg:ChgX NoB (λ_=>none) o w0 w
section
variable {o:Own}
def SatE.find (h:SatE K n Od room w0 mb fs nx w o m V){k:Int}(hk:(k,F)∈fs):∃f,(k,f)∈m.hs/\ef V f=F:=by
 rw[<-h.hs]at hk;obtain⟨p,H,e⟩:=X6.1 hk;cases e;exact⟨p.2,H,rfl⟩
def SatE.none0 (h:SatE K n Od room w0 mb fs nx w o m V)(hk:k<w0.heap.size):o k=none:=h.chg.none' hk rfl
abbrev YQ:=@List.map_congr_left
def LQ {hs:List (Int×Nat)}(H:∀p∈hs,okE (Aa d) p.2)(I:∀i,(i=0\/∃b,Aa d i=some b)->V' i=V i):hs.map (λp=>(p.1,ef V' p.2))=hs.map (λp=>(p.1,ef V p.2)):=by
 refine YQ λp O=>?_
 have e:ef V' p.2=ef V p.2:=by
  funext ρ;unfold ef;rw[I (p.2/2) (H p O)]
 rw[e]
def SatE.withOd {Od':List Nat->Prop}(h:SatE K n Od room w0 mb fs nx w o m V)(hO:Od' m.d.vars):SatE K n Od' room w0 mb fs nx w o m V:=
 ⟨h.is,h.lt,h.ok,h.vars,hO,h.room,h.next,h.hs,h.chg⟩
def SatE.step (h:SatE K n Od room w0 mb fs nx w o m V)(s:B9 C K o w mb m V o' w' m' V')(H:∀k,C k->w0.heap.size<=k):SatE K n Od room w0 mb fs nx w' o' m' V':=
 ⟨s.is,s.lt,⟨s.ok,RH h.ok.handles s.ext s.ok s.hs s.next⟩,by rw[s.ext.vars];exact h.vars,by rw[s.ext.vars];exact h.od,by rw[s.ext.room];exact h.room,s.next.trans h.next,
  by rw[s.hs,LQ h.ok.handles.ok s.ext.val];exact h.hs,h.chg.lower s.chg H⟩
def SatE.other (h:SatE K n Od room w0 mb fs nx w o m V)(hx:Wr C w w')(I:∀k,k<w.heap.size->C k->w0.heap.size<=k/\o k=none):SatE K n Od room w0 mb fs nx w' o m V:=by
 obtain⟨s,O⟩:=h.is;refine⟨⟨s,O.keep (λg r H=>hx.keep g (h.lt g r H) (λe=>?_)) (λ_ _ h=>h)⟩,h.lt.mono hx.size,h.ok,h.vars,h.od,h.room,h.next,h.hs,h.chg.trans (ChgX.of_wr (C:=λk=>w0.heap.size<=k) hx o (λk hk e=>(I k hk e).1)) (λk hk e=>by omega)⟩;have:=(I g (h.lt g r H) e).2;rw[H]at this;cases this
def SatE.below (h:SatE K n Od room w0 mb fs nx w o m V)(hb:Bw w w'):SatE K n Od room w0 mb fs nx w' o m V:=h.other (Wr.of_below hb NoB) (λ_ _ e=>e.elim)
def SatE.gave (h:SatE K n Od room w0 mb fs nx w o m V)(g:Gave K o w mb m V r o' w' m'):SatE K n Od room w0 mb (fs++[(nx,ef V r)]) (nx+1) w' o' m' V:=
 ⟨g.is,g.lt,g.ok,by rw[g.vars];exact h.vars,by rw[g.vars];exact h.od,by rw[g.room];exact h.room,by rw[g.next,h.next],by rw[g.hs,XG,h.hs,<-h.next];rfl,h.chg.lower (ChgX.of_chg g.chg NoB) (λ_ e=>e.elim)⟩
abbrev aJ:=@List.length_pos_of_mem
def Jj (h:Ct m)(hk:Ai m.d V)(r:AN m.d d'):Ct { m with d:=d' }:=by
 have g1:∀p∈m.hs,okE (Aa d') p.2:=by
  intro p H;rcases h.ok p H with h0|⟨b,hb⟩
  . exact .inl h0
  ·by_cases h1:1<p.1
   ·refine .inr ⟨b,?_⟩;rw[r.nodes,Xx]
    . exact hb
    ·refine hk.live.cnt.pos_of_ext hb ?_;rw[h.refs _ _ hb];have:0<AT m.hs (p.2/2):=by
      unfold AT;refine aJ (YA.2 ⟨H,?_⟩);simp[h1]
     omega
   ·refine .inl ?_;have g2:=h.lt p H;have hu:∀q∈m.hs,q.1=p.1->q=p:=by
     intro q I e;have g0:=h.nodup;have h1:=DG (l:=encH m.hs) (EO g0) (X6.2 ⟨q,I,rfl⟩);have h2:=DG (l:=encH m.hs) (EO g0) (X6.2 ⟨p,H,rfl⟩);rw[e,h2]at h1;have e2:(p.2:Int)=(q.2:Int):=by injection h1 with h1;injection h1
     exact Prod.ext e (by omega)
    rcases(by omega:p.1=0\/p.1=1)with e|e
    . rw[<-hu _ h.zero e.symm];rfl
    . rw[<-hu _ h.one e.symm];rfl
 exact⟨h.nodup,h.zero,h.one,h.lt,h.next,g1,h.len,λi b hb=>by rw[r.ext i b hb];exact h.refs i b (r.sub hb).1⟩
end
def wclear {o:Own}{s:ManW}(h:SatE K n Od room w0 mb fs nx w o m V)(hs:A9 (K m.d V) o w mb m s)(G:Phi):
 Cl 134 #[Pt s.me] w λx w'=>x=.returned (.tuple #[])/\A9 G o w' mb m s/\Chg (· = .entries) o o w w'/\Ac o w':=by
 refine(Qf o s.me (K m.d V) G w hs.memo h.lt).mono ?_;rintro x w' ⟨h1,h2,h3,H⟩;exact⟨h1,hs.setMemo h.lt h2 (h3.mono λr e=>.inr e),h3,H⟩
def LR {o:Own}(h:SatE K n Od room w0 mb fs nx w o m V):
 Cl 140 #[Pt mb] w λx w'=>x=.returned (Iv m.d.dead)/\∃o' d',SatE K n Od room w0 mb fs nx w' o' { m with d:=d' } V/\AN m.d d'/\Chg (λ_=>True) o o' w w':=by
 obtain⟨s,hs⟩:=h.is;obtain⟨a,c1,c2,Z,Y,X,f0⟩:=cells6 hs.blk;have U:Hq (∀w1,A9 (λ_ _ _ _ _=>False) o w1 mb m s/\Chg (· = .entries) o o w w1/\Ac o w1->Cl 157 #[Pt s.sb] w1 λx w'=>x=.returned (Iv m.d.dead)/\∃o' d',SatE K n Od room w0 mb fs nx w' o' { m with d:=d' } V/\AN m.d d'/\Chg (λ_=>True) o o' w w'):=by
  refine Hd ?_;rintro w1 ⟨g1,g2,g3⟩;have fin:∀o' w' d',A9 (λ_ _ _ _ _=>False) o' w' mb { m with d:=d' } s->Ac o' w'->AN m.d d'->Chg Am o o' w1 w'->∃o' d',SatE K n Od room w0 mb fs nx w' o' { m with d:=d' } V/\AN m.d d'/\Chg (λ_=>True) o o' w w':=by
   intro o' w' d' c a2 a3 a4;have I:Chg (λ_=>True) o o' w w':=g2.any.trans a4.any;refine⟨o',d',⟨⟨s,c.mono λ_ _ _ _ _ e=>e.elim⟩,a2,⟨a3.ok h.ok.store,Jj h.ok.handles h.ok.store a3⟩,by dsimp only;rw[a3.vars];exact h.vars,by dsimp only;rw[a3.vars];exact h.od,by dsimp only;rw[a3.room];exact h.room,h.next,h.hs,h.chg.lower (ChgX.of_chg I NoB) (λ_ e=>e.elim)⟩,a3,I⟩
  by_cases h0:m.d.dead=0
  . refine(LO g1.store h0).mono ?_;rintro x w' ⟨rfl,hb⟩;exact⟨by rw[h0];rfl,fin o w' m.d (g1.below g3 hb) (g3.mono hb.size) (AN.none h.ok.store h0) (Chg.of_below hb _ _)⟩
  . refine(LP g1.store g3 h.ok.store h0).mono ?_;rintro x w' ⟨rfl,o',d',b1,b2,b,O⟩;exact⟨rfl,fin o' w' d' (g1.setStore g3 b1 O) b2 b O⟩
 have g0:=Hd (wclear h hs (λ_ _ _ _ _=>False));clear h hs
 go_enter func140,ntmps140
 go_wp2_with fail;refine g0.o.mono ?_;rintro x w1 ⟨rfl,g1,g2,g3⟩;obtain⟨d0,d1,d2,d3,d4,d5,f1⟩:=cells6 g1.blk;have g4:=Hd (U.o w1 ⟨g1,g2,g3⟩);clear g1 g2 g3 a c1 c2 Z Y X f0 g0 U;go_wp2_with fail;refine g4.o.mono ?_;rintro x w2 ⟨rfl,H⟩;have HQ:=Hd H;clear H;go_wp2;go_ret;exact⟨rfl,HQ.o⟩
def HapG (K:Law)(n:Nat)(Od:List Nat->Prop)(room:Nat)(w0:Wd)(mb:Nat)(fs:List (Int×BF))(nx:Int)(ev:Ev):Prop:=
 ∀(o:Own) (W:Wd) (m:ManD) (V:Nat->BF),SatE K n Od room w0 mb fs nx W o m V->Cl 139 #[Pt mb,evA ev] W λx w'=>x=.returned (.tuple #[]) /\
  ∃o' m' V',SatE K n Od room w0 mb fs nx w' o' m' V'/\m'.waits=m.waits/\m'.calls=m.calls/\(m'.d.pool.many<=m.d.pool.many\/m'.d.pool.many<=fs.length*2^n)/\ChgX NoB o o' W w'
def StE (K:Law)(n:Nat)(Od:List Nat->Prop)(room:Nat)(w0:Wd)(mb:Nat)(fs:List (Int×BF))(nx:Int)(St:ManD->Prop)(m':ManD):Prop:=
 ∀(o:Own) (W:Wd) (m:ManD) (V:Nat->BF),SatE K n Od room w0 mb fs nx W o m V->m.waits=m'.waits->m.calls=m'.calls->(m.d.pool.many<=m'.d.pool.many\/m.d.pool.many<=fs.length*2^n)->St m
def OpG (K:Law)(n:Nat)(Od:List Nat->Prop)(room:Nat)(w0:Wd)(mb:Nat)(fs:List (Int×BF))(nx:Int)(C:Nat->Prop)(B:Wd->Prop)(St:ManD->Prop)(gop:Nat)(lop:Array Value)(Q:Wd->ManD->(Nat->BF)->Nat->Prop)(E:Int->ManD->ManD->Prop):Prop:=
 ∀(o:Own) (W:Wd) (m:ManD) (V:Nat->BF) (xb:Nat),SatE K n Od room w0 mb fs nx W o m V->B W->(∀k,C k->k<W.heap.size/\o k=none)->St m->AR o W xb mb->¬ C xb ->
  Calls prog gop (#[Pt xb]++lop) W λe w'=>∃(o':Own) (m':ManD) (V':Nat->BF),B9 C K o W mb m V o' w' m' V'/\B w' /\
   ((∃r:Nat,e=.returned (Iv r)/\okE (Aa m'.d) r/\Q w' m' V' r) \/
    (∃er:Int,e=A1 er false ev0/\er≠0/\m'.waits=m.waits/\St m'/\E er m m') \/
    (∃ev,e=A1 0 true ev/\m.waits=ev::m'.waits/\StE K n Od room w0 mb fs nx St m'/\HapG K n Od room w0 mb fs nx ev))
def RI (gop:Nat)(lop:Array Value)(W:Wd)(xb ob fb:Nat)(R:Nat->Wd->Prop)(R2:Int->Bool->Ev->Wd->Prop)(a:∀args w,(callFunc gop args).run prog w=.ok (.enter gop args) w)
 (X:W.cell? (Av ob)=some (.func (.func gop) #[] lop)) (O:Calls prog gop (#[Pt xb]++lop) W λe w'=>(∃r:Nat,e=.returned (Iv r)/\R r w'/\(∃z:Int,w'.cell? (Av fb)=some (Iv z))/\w'.frozen? (Av fb)=false) \/
  ∃er H ev,e=A1 er H ev/\R2 er H ev w'):
 Cl 129 #[Pt xb,Pt ob,Pt fb] W λe w'=>(e=.returned (.tuple #[])/\∃r w1,R r w1/\w'=w1.setCell (Av fb) (Iv (r:Nat)))\/∃er H ev,e=A1 er H ev/\R2 er H ev w':=by
 have g0:=Hd O;clear O
 go_enter func129,ntmps129
 go_wp2_with fail;refine g0.o.mono ?_;rintro e w' (⟨r,rfl,I,⟨z,Z⟩,Y⟩|⟨er,H,ev,rfl,I⟩)
 . have U:=Hd I;clear I;go_wp2;go_end0;exact .inl ⟨rfl,r,w',U.o,rfl⟩
 . have U:=Hd I;clear I;unfold A1;go_wp2_with fail;exact⟨rfl,.inr ⟨er,H,ev,rfl,U.o⟩⟩
structure RunI (K:Law)(n:Nat)(Od:List Nat->Prop)(room:Nat)(w0:Wd)(mb:Nat)(fs:List (Int×BF))(nx:Int)(C:Nat->Prop)(B:Wd->Prop)(St:ManD->Prop)(gop:Nat)(lop:Array Value)(o0:Own)(w:Wd)(k:Nat)(full:Bool)(W:Wd)(o:Own)(m:ManD)(V:Nat->BF):Prop where
 sat:SatE K n Od room w0 mb fs nx W o m V
 bok:B W
 st:St m
 len:m.waits.length=k
 cok:∀c,C c->c<w.heap.size/\o c=none
 chg:ChgX C o0 o w W
 size:w.heap.size+2<=W.heap.size
 obn:o w.heap.size=none
 fbn:o (w.heap.size+1)=none
 ob:W.heap[w.heap.size]?=some (.cells #[.func (.func gop) #[] lop] 146 (0,0))
 fb:∃z:Int,W.heap[w.heap.size+1]?=some (.cells #[Iv z] 107 (0,0))
 clean:full=true->m.d.dead=0
def RunF (K:Law)(n:Nat)(Od:List Nat->Prop)(room:Nat)(w0:Wd)(mb:Nat)(fs:List (Int×BF))(nx:Int)(C:Nat->Prop)(B:Wd->Prop)(Q:Wd->ManD->(Nat->BF)->Nat->Prop)(E:Int->ManD->ManD->Prop)(o0:Own)(w:Wd)(er:Int)(W:Wd):Prop:=
 ∃o m V,SatE K n Od room w0 mb fs nx W o m V/\B W/\ChgX C o0 o w W/\w.heap.size+2<=W.heap.size/\o (w.heap.size+1)=none /\
  ((er=0/\∃r:Nat,okE (Aa m.d) r/\Q W m V r/\W.heap[w.heap.size+1]?=some (.cells #[Iv r] 107 (0,0))) \/
   (er≠0/\∃m0:ManD,E er m0 m/\(er=7->m0.d.dead=0)))
theorem RJ {B:Wd->Prop}{St:ManD->Prop}{Q:Wd->ManD->(Nat->BF)->Nat->Prop}{E:Int->ManD->ManD->Prop}
 (i:∀W W',B W->(∀c,C c->W'.heap[c]?=W.heap[c]?)->B W') (hQ:∀W W' m V r,Q W m V r->(∀c,C c->W'.heap[c]?=W.heap[c]?)->Q W' m V r) (v:∀(m:ManD) (d:Af),St m->AN m.d d->St { m with d:=d }) (Z:∀c,C c->w0.heap.size<=c) (eg:∀args w,(callFunc gop args).run prog w=.ok (.enter gop args) w)
 (u:OpG K n Od room w0 mb fs nx C B St gop lop Q E) {o:Own} {w:Wd} {m:ManD} {V:Nat->BF} (h:SatE K n Od room w0 mb fs nx w o m V) (hb:B w) (L:∀c,C c->c<w.heap.size/\o c=none) (t:St m):
 Cl 104 #[Pt mb,.func (.func 129) #[] #[Pt w.heap.size,Pt (w.heap.size+1)]] (doW gop lop w) λx w'=>∃er,x=.returned (Iv er)/\RunF K n Od room w0 mb fs nx C B Q E o w er w':=by
 have b:(doW gop lop w).heap.size=w.heap.size+2:=by simp[doW]
 have y:Bw w (doW gop lop w):=(Ag w _).alloc (by simp) _;have gr:(doW gop lop w).heap[w.heap.size+1]?=some (.cells #[Iv 0] 107 (0,0)):=by
  have:=Xv (w.alloc (.cells #[.func (.func gop) #[] lop] 146)) (.cells #[Iv 0] 107);rw[X3]at this;exact this
 have gp:(doW gop lop w).heap[w.heap.size]?=some (.cells #[.func (.func gop) #[] lop] 146 (0,0)):=(X1 _ _ (by simp)).trans (Xv w _);have hw0:=h.chg.size;have gf:RunI K n Od room w0 mb fs nx C B St gop lop o w m.waits.length false (doW gop lop w) o m V:=
  ⟨h.below y,i _ _ hb (λc H=>y.block c (L c H).1),t,rfl,L,ChgX.of_below y o C,by omega,h.lt.none (Xs _),h.lt.none (by omega),gp,⟨0,gr⟩,by simp⟩
 have g8:∀{k full W W' o1 m1 V1},RunI K n Od room w0 mb fs nx C B St gop lop o w k full W o1 m1 V1->∀{s:Nat},w.heap.size+2<=s->o1 s=none->o1 (s+1)=none->Ali s W W'->RunI K n Od room w0 mb fs nx C B St gop lop o w k full W' o1 m1 V1:=by
  intro k full W W' o1 m1 V1 hi s hs n0 O a;have N:=hi.size;have hk:∀k,k<w.heap.size+2->W'.heap[k]?=W.heap[k]?:=λk hk=>a.keep k (by omega) (by omega)
  refine⟨hi.sat.other a (λk _ e=>?_),i _ _ hi.bok (λc H=>hk c (by have:=(hi.cok c H).1;omega)),hi.st,hi.len,hi.cok,hi.chg.trans (ChgX.of_wr (C:=λk=>w.heap.size<=k) a o1 (λk _ e=>by omega)) (λk hk e=>by omega),Xz hi.size a.size,hi.obn,hi.fbn,(hk _ (by omega)).trans hi.ob,?_,hi.clean⟩
  ·rcases e with rfl|rfl
   . exact⟨by omega,n0⟩
   . exact⟨by omega,O⟩
  . obtain⟨z,b⟩:=hi.fb;exact⟨z,(hk _ (by omega)).trans b⟩
 have ge:∀{k full full' W W' o1 m1 V1 o2 m2 V2},RunI K n Od room w0 mb fs nx C B St gop lop o w k full W o1 m1 V1->SatE K n Od room w0 mb fs nx W' o2 m2 V2->ChgX NoB o1 o2 W W'->m2.waits=m1.waits->St m2->(full'=true->m2.d.dead=0)->RunI K n Od room w0 mb fs nx C B St gop lop o w k full' W' o2 m2 V2:=by
  intro k full full' W W' o1 m1 V1 o2 m2 V2 hi gl H e1 e2 e3;have N:=hi.size;obtain⟨z,b⟩:=hi.fb
  exact⟨gl,i _ _ hi.bok (λc g=>H.block c (by have:=(hi.cok c g).1;omega) (hi.cok c g).2 (λe=>e)),e2,by rw[e1];exact hi.len,λc g=>⟨(hi.cok c g).1,H.none' (by have:=(hi.cok c g).1;omega) (hi.cok c g).2⟩,
   hi.chg.trans H (λ_ _ e=>e.elim),Xz hi.size H.size,H.none' (by omega) hi.obn,H.none' (by omega) hi.fbn,(H.block _ (by omega) hi.obn (λe=>e)).trans hi.ob,⟨z,(H.block _ (by omega) hi.fbn (λe=>e)).trans b⟩,e3⟩
 refine L9 mb _ _ _ Rp (λk full W=>∃o1 m1 V1,RunI K n Od room w0 mb fs nx C B St gop lop o w k full W o1 m1 V1) _ ?_ _ ⟨o,m,V,gf⟩;rintro k full W ⟨o1,m1,V1,hi⟩;have N:=hi.size;obtain⟨s,hs⟩:=Ex W.heap.size
 refine⟨λst W1=>match st with
  | none=>∃(o':Own) (m':ManD) (V':Nat->BF) (r:Nat) (w1:Wd),SatE K n Od room w0 mb fs nx w1 o' m' V'/\B w1/\ChgX C o o' w w1/\s+3<=w1.heap.size/\(∀q,w.heap.size<=q->q<s+3->o1 q=none->o' q=none)/\(∃z:Int,w1.heap[w.heap.size+1]?=some (.cells #[.int .i64 z] 107 (0,0)))/\okE (Aa m'.d) r/\Q w1 m' V' r/\W1=w1.setCell ⟨w.heap.size+1,0,none⟩ (.int .i64 (r:Nat))
  | some (er,I,ev)=>∃(o':Own) (m':ManD) (V':Nat->BF),RunI K n Od room w0 mb fs nx C B St gop lop o w m'.waits.length false W1 o' m' V'/\s+3<=W1.heap.size/\(∀q,w.heap.size<=q->q<s+3->o1 q=none->o' q=none) /\
   ((I=false/\er≠0/\m'.waits=m1.waits/\E er m1 m')\/(I=true/\m1.waits=ev::m'.waits/\StE K n Od room w0 mb fs nx St m'/\HapG K n Od room w0 mb fs nx ev)),?_,?_,?_,?_,?_⟩
 ·unfold F6;have g9:Bw W (tryW mb W):=((Ag _ _).alloc (by simp) _).alloc (by simp;omega) _;have gn:(tryW mb W).heap.size=W.heap.size+3:=by unfold tryW;simp
  obtain⟨T,J⟩:=Ex (tryW mb W);have h1:(tryW mb W).heap[W.heap.size+2]?=some (.cells #[Pt mb] 161 (0,0)):=by
   have:=Xv ((W.alloc (.cells #[Iv 0,.bool false,Iv 0,Iv 0,Iv 0] 163)).alloc (.cells #[.bool false] 4)) (.cells #[Pt mb] 161);rw[X3,X3]at this;exact this
  rw[<-J]at g9 gn h1⊢;clear J;have g7:=hi.sat.below g9;have gu:AR o1 T (W.heap.size+2) mb:=⟨cell1 h1,hi.sat.lt.none (by omega)⟩;have gm:=u o1 T m1 V1 (W.heap.size+2) g7 (i _ _ hi.bok (λc H=>g9.block c (by have:=(hi.cok c H).1;omega))) (λc H=>⟨by have:=(hi.cok c H).1;omega,(hi.cok c H).2⟩) hi.st gu (λe=>by have:=(hi.cok _ e).1;omega);have R:=(g9.block w.heap.size (by omega)).trans hi.ob;obtain⟨z,b⟩:=hi.fb;have A:=(g9.block (w.heap.size+1) (by omega)).trans b;have gx:∀q,w.heap.size<=q->¬ C q:=λq hq e=>by have:=(hi.cok q e).1;omega
  have g0:∀{o':Own} {w1:Wd},ChgX C o1 o' T w1->∀q,w.heap.size<=q->q<s+3->o1 q=none->w1.heap[q]?=T.heap[q]?:=λH q h1 h2 h3=>H.block q (by omega) h3 (gx q h1)
  refine(RI gop lop T (W.heap.size+2) w.heap.size (w.heap.size+1) (λr w1=>∃o' m' V',B9 C K o1 T mb m1 V1 o' w1 m' V'/\B w1/\okE (Aa m'.d) r/\Q w1 m' V' r)
   (λer I ev w1=>∃o' m' V',B9 C K o1 T mb m1 V1 o' w1 m' V'/\B w1/\((I=false/\er≠0/\m'.waits=m1.waits/\St m'/\E er m1 m')\/(I=true/\m1.waits=ev::m'.waits/\StE K n Od room w0 mb fs nx St m'/\HapG K n Od room w0 mb fs nx ev))) eg (cell1 R) (gm.mono ?_)).mono ?_
  ·rintro e w1 ⟨o',m',V',st,b1,(⟨r,rfl,Y,X⟩|⟨er,rfl,Y,X,l,S⟩|⟨ev,rfl,Y,X,l⟩)⟩
   . have f:=(g0 st.chg (w.heap.size+1) (by omega) (by omega) hi.fbn).trans A;exact .inl ⟨r,rfl,⟨o',m',V',st,b1,Y,X⟩,⟨z,cell1 f⟩,by simp[World.frozen?,f]⟩
   . exact .inr ⟨er,false,ev0,rfl,o',m',V',st,b1,.inl ⟨rfl,Y,X,l,S⟩⟩
   . exact .inr ⟨0,true,ev,rfl,o',m',V',st,b1,.inr ⟨rfl,Y,X,l⟩⟩
  ·have n0:o1 W.heap.size=none:=hi.sat.lt.none (Xs _);have O:o1 (W.heap.size+1)=none:=hi.sat.lt.none (by omega);rintro e W' (⟨rfl,r,w1,⟨o',m',V',st,b1,Y,X⟩,rfl⟩|⟨er,I,ev,rfl,o',m',V',st,b1,q⟩)
   ·have f:=(g0 st.chg (w.heap.size+1) (by omega) (by omega) hi.fbn).trans A;have gk:=st.chg.size;refine⟨by simp[World.setCell];omega,?_,?_,.inl ⟨rfl,o',m',V',r,w1,g7.step st Z,b1,(hi.chg.trans (ChgX.of_below g9 o1 C) (λ_ _ e=>e)).trans st.chg (λ_ _ e=>e),by omega,λq _ h2 h3=>st.chg.none' (by omega) h3,⟨z,f⟩,Y,X,rfl⟩⟩
    . exact(Az (by show _≠w.heap.size+1;omega) _).trans (g0 st.chg _ (by omega) (by omega) n0)
    . exact(Az (by show _≠w.heap.size+1;omega) _).trans (g0 st.chg _ (by omega) (by omega) O)
   ·have gk:=st.chg.size;have b2:St m':=by
     rcases q with ⟨_,_,_,q,_⟩|⟨_,_,q,_⟩
     . exact q
     . exact q _ _ _ _ (g7.step st Z) rfl rfl (.inl (Xs _))
    have gv:=(hi.chg.trans (ChgX.of_below g9 o1 C) (λ_ _ e=>e)).trans st.chg (λ_ _ e=>e);refine⟨by omega,g0 st.chg _ (by omega) (by omega) n0,g0 st.chg _ (by omega) (by omega) O,.inr ⟨er,I,ev,rfl,o',m',V',?_,by omega,λq _ h2 h3=>st.chg.none' (by omega) h3,q.imp (λ⟨D,a2,a3,_,a4⟩=>⟨D,a2,a3,a4⟩) id⟩⟩
    exact⟨g7.step st Z,b1,b2,rfl,λc H=>⟨(hi.cok c H).1,st.chg.none' (by have:=(hi.cok c H).1;omega) (hi.cok c H).2⟩,gv,by omega,st.chg.none' (by omega) hi.obn,st.chg.none' (by omega) hi.fbn,
     (g0 st.chg _ (by omega) (by omega) hi.obn).trans R,⟨z,(g0 st.chg (w.heap.size+1) (by omega) (by omega) hi.fbn).trans A⟩,by simp⟩
 ·rintro W1 W2 ⟨o',m',V',r,w1,D,a2,a3,a4,a5,⟨z,a6⟩,a7,a8,rfl⟩ U;have j:Wr (λk=>k=w.heap.size+1\/k=s\/k=s+1) w1 W2:=Wr.trans ((Wr.refl (λk=>k=w.heap.size+1) w1).setCell (p:=(Av (w.heap.size+1))) (.inl rfl) _) U (λk _ e=>.inl e) (λk _ e=>.inr (by rw[hs];exact e));have n0:o' s=none:=a5 s (by omega) (by omega) (by rw[hs];exact hi.sat.lt.none (Xs _));have O:o' (s+1)=none:=a5 (s+1) (by omega) (by omega) (by rw[hs];exact hi.sat.lt.none (by omega));have F:o' (w.heap.size+1)=none:=a5 _ (by omega) (by omega) hi.fbn;have f:=(U.keep (w.heap.size+1) (by simp[World.setCell];omega) (by omega)).trans (A2 a6 _);refine⟨o',m',V',D.other j (λk _ e=>?_),i _ _ a2 (λc H=>j.keep c (by have:=(hi.cok c H).1;omega) (by have:=(hi.cok c H).1;omega)),a3.trans (ChgX.of_wr (C:=λk=>w.heap.size<=k) j o' (λk _ e=>by omega)) (λk hk e=>by omega),by have:=j.size;omega,F,.inl ⟨rfl,r,a7,hQ _ _ _ _ _ a8 (λc H=>j.keep c (by have:=(hi.cok c H).1;omega) (by have:=(hi.cok c H).1;omega)),f⟩⟩;rcases e with rfl|rfl|rfl
  . exact⟨by omega,F⟩
  . exact⟨by omega,n0⟩
  . exact⟨by omega,O⟩
 ·rintro er ev W1 W2 ⟨o',m',V',gc,a4,a5,(⟨h1,_⟩|⟨_,gt,go,gw⟩)⟩ U
  . cases h1
  rw[<-hs]at U;have n0:o' s=none:=a5 s (by omega) (by omega) (by rw[hs];exact hi.sat.lt.none (Xs _));have O:o' (s+1)=none:=a5 (s+1) (by omega) (by omega) (by rw[hs];exact hi.sat.lt.none (by omega));have g6:=g8 gc (by omega) n0 O U;refine(gw o' W2 m' V' g6.sat).mono ?_;rintro x w' ⟨rfl,o2,m2,V2,g1,g2,g3,g5,g4⟩;refine⟨rfl,m'.waits.length,by rw[<-hi.len,gt];simp,o2,m2,V2,ge g6 g1 g4 g2 (go _ _ _ _ g1 g2 g3 g5) (by simp)⟩
 ·rintro ev W1 W2 ⟨o',m',V',gc,a4,a5,(⟨_,_,G,_⟩|⟨h1,_⟩)⟩ U gy
  . rw[<-hs]at U;have n0:o' s=none:=a5 s (by omega) (by omega) (by rw[hs];exact hi.sat.lt.none (Xs _));have O:o' (s+1)=none:=a5 (s+1) (by omega) (by omega) (by rw[hs];exact hi.sat.lt.none (by omega));have g6:=g8 gc (by omega) n0 O U;refine(LR g6.sat).mono ?_;rintro x w' ⟨rfl,o2,d2,g1,g2,g3⟩;have M:=ge (full':=true) g6 g1 (ChgX.of_chg g3 NoB) rfl (v _ _ g6.st g2) (λ_=>g2.dead);rw[G,hi.len]at M;exact⟨⟨_,rfl⟩,o2,_,V',M⟩
  . cases h1
 ·rintro er ev W1 W2 ⟨o',m',V',gc,a4,a5,(⟨_,h0,G,hE⟩|⟨h1,_⟩)⟩ U gq
  ·rw[<-hs]at U;have n0:o' s=none:=a5 s (by omega) (by omega) (by rw[hs];exact hi.sat.lt.none (Xs _));have O:o' (s+1)=none:=a5 (s+1) (by omega) (by omega) (by rw[hs];exact hi.sat.lt.none (by omega));have g6:=g8 gc (by omega) n0 O U;refine⟨o',m',V',g6.sat,g6.bok,g6.chg,g6.size,g6.fbn,.inr ⟨h0,m1,hE,λe7=>hi.clean ?_⟩⟩;cases full with
   | true=>rfl
   | false=>exact(gq ⟨e7,rfl⟩).elim
  . cases h1
def Jk (K:Law)(n:Nat)(Od:List Nat->Prop)(room:Nat)(w0:Wd)(mb:Nat)(fs:List (Int×BF))(nx:Int)(C:Nat->Prop)(B:Wd->Prop)(Q:Wd->ManD->(Nat->BF)->Nat->Prop)(E:Int->ManD->ManD->Prop)(o:Own)(w:Wd)(x:Ending)(w':Wd):Prop:=
 ∃o' m' V',B w'/\ChgX C o o' w w' /\
  ((∃r m1,x=.returned (.tuple #[Iv nx,Iv 0])/\SatE K n Od room w0 mb (fs++[(nx,ef V' r)]) (nx+1) w' o' m' V'/\Q w' m1 V' r/\okE (Aa m1.d) r/\Aa m'.d=Aa m1.d/\m'.d.vars=m1.d.vars/\m'.d.level=m1.d.level/\m'.d.pool.many=m1.d.pool.many/\m'.waits=m1.waits/\m'.calls=m1.calls) \/
   (∃er m0,er≠0/\x=.returned (.tuple #[Iv 0,Iv er])/\SatE K n Od room w0 mb fs nx w' o' m' V'/\E er m0 m'/\(er=7->m0.d.dead=0)))
def Jl (F:AC K){B:Wd->Prop}{St:ManD->Prop}{Q:Wd->ManD->(Nat->BF)->Nat->Prop}{E:Int->ManD->ManD->Prop}
 (s:∀W W',B W->(∀c,C c->W'.heap[c]?=W.heap[c]?)->B W') (l:∀W W' m V r,Q W m V r->(∀c,C c->W'.heap[c]?=W.heap[c]?)->Q W' m V r) (g:∀(m:ManD) (d:Af),St m->AN m.d d->St { m with d:=d }) (j:∀c,C c->w0.heap.size<=c) (eg:∀args w,(callFunc gop args).run prog w=.ok (.enter gop args) w)
 (f:OpG K n Od room w0 mb fs nx C B St gop lop Q E) {o:Own} {w:Wd} {m:ManD} {V:Nat->BF} (h:SatE K n Od room w0 mb fs nx w o m V) (hb:B w) (q:∀c,C c->c<w.heap.size/\o c=none) (Z:St m) (z:nx<1099511627776):
 Cl 86 #[Pt mb,.func (.func gop) #[] lop] w (Jk K n Od room w0 mb fs nx C B Q E o w):=by
 have gq:∀(fn:Fn) (first cap:Array Value) (w:Wd),(Instr.makeFunc fn first cap).run prog w=.ok (.func fn first cap) w:=λ_ _ _ _=>rfl
 have g5:=Hd (RJ s l g j eg f h hb q Z);have gh:=Hd F;have gl:=Hd s;have gk:=Hd l;have gc:=Hd z;have L:=Hd q;have gp:=Rq (w.alloc (.cells #[.func (.func gop) #[] lop] 146)) (.func gop) #[] lop;have t:Hq ((w.alloc (.cells #[.func (.func gop) #[] lop] 146)).alloc (.cells #[Iv 0] 107)=doW gop lop w):=Hd rfl;clear h hb F s l g j f q Z z
 go_enter func86,ntmps86
 go_wp2_with fail;rw[t.o];refine g5.o.mono ?_;rintro x w1 ⟨er,rfl,o1,m1,V1,sat,b1,g6,g7,g4,(⟨rfl,r,k,u,N⟩|⟨h0,m0,G,J⟩)⟩
 rotate_left
 ·have HF:Hq (Jk K n Od room w0 mb fs nx C B Q E o w (.returned (.tuple #[Iv 0,Iv er])) w1):=Hd ⟨o1,m1,V1,b1,g6,.inr ⟨er,m0,h0,rfl,sat,G,J⟩⟩;have gr:(er == 0)=false:=by simpa using h0
  clear h0 G J sat b1 g6 g7 g4 g5 t;go_wp2
  go_ret2
  exact HF.o
 have g1:=cell1 N;obtain⟨s1,g9⟩:=sat.is;obtain⟨U,c1,c2,c3,c4,c5,f0⟩:=cells6 g9.blk;obtain⟨ss,g8⟩:=g9.store;have gg:r<eMax:=by have:=g8.edge_lt k;unfold eMax;omega
 have gj:Hq (Cl 130 #[Pt s1.sb,Iv r] w1.drew (Bl (.bool true) w1)):=by
  have h1:=EG (g8.below sat.lt (An w1 1)) (sat.lt.mono (An w1 1).size) r gg;rw[Lt k]at h1;exact Hd (h1.mono λx w' ⟨a,b⟩=>⟨a,Er (n:=1) b⟩)
 have gi:=Hd sat;have S:=Hd k;have HQ:=Hd u;have gm:=Hd b1;have ge:=Hd g6;have gt:=Hd g4;have I:mb<w1.heap.size:=Ad U;have O:w.heap.size+1<w1.heap.size:=Ad g1;clear sat g9 g8 k u b1 g6 g4 g7 g5 t;go_upto_region 9 with fail;refine IK (λW:Wd=>Bw w1 W) 7 (by kernel_rfl) (An w1 1) ?_;refine Cs 0 rfl rfl (by kernel_rfl) ?_;apply Exists.intro;refine⟨λw' H=>?_,?_⟩
 . have Y:=(H.cell (p:=Av mb) I).trans U;have X:=(H.cell (p:=(Av (w.heap.size+1))) O).trans g1;go_simp;rfl
 simp only[Ab];refine Cs 1 rfl rfl (by kernel_rfl) ?_;apply Exists.intro;refine⟨λw' H=>?_,?_⟩
 . have Y:=(H.cell (p:=Av mb) I).trans U;have X:=(H.cell (p:=(Av (w.heap.size+1))) O).trans g1;go_simp;rfl
 simp only[Ab];refine Cs 2 rfl rfl (by kernel_rfl) ?_;apply Exists.intro;refine⟨λw' H=>?_,?_⟩
 . have Y:=(H.cell (p:=Av mb) I).trans U;have X:=(H.cell (p:=(Av (w.heap.size+1))) O).trans g1;go_simp;rfl
 simp only[Ab];refine Cs 3 rfl rfl (by kernel_rfl) ?_;apply Exists.intro;refine⟨λw' H=>?_,?_⟩
 . have Y:=(H.cell (p:=Av mb) I).trans U;have X:=(H.cell (p:=(Av (w.heap.size+1))) O).trans g1;go_simp;rfl
 simp only[Ab];refine Cs 4 rfl rfl (by kernel_rfl) ?_;apply Exists.intro;refine⟨λw' H=>?_,?_⟩
 . have Y:=(H.cell (p:=Av mb) I).trans U;have X:=(H.cell (p:=(Av (w.heap.size+1))) O).trans g1;go_simp;rfl
 simp only[Ab];refine DJ [5] (by kernel_rfl) (λi hi hS o y=>?_);simp only[CA]at hi;subst hi;simp only[Cx]at y;subst y;refine⟨rfl,?_⟩;refine Dd (v:=.bool true) (R:=λw'=>Bw w1 w') (by go_simp) gj.o ?_;rintro w2 g3;refine⟨g3,?_⟩;simp only[Ab];have go:=(g3.cell (p:=(Av (w.heap.size+1))) O).trans g1;have d0:=(g3.cell (p:=Av mb) I).trans U;have g0:=Hd (gi.o.below g3);refine Cs 6 rfl rfl (by kernel_rfl) ?_;apply Exists.intro;refine⟨λw' H=>?_,?_⟩
 . have Y:=(H.cell (p:=Av mb) I).trans U;have X:=(H.cell (p:=(Av (w.heap.size+1))) O).trans g1;go_simp;rfl
 simp only[Ab];have M:=g3;clear U c1 c2 c3 c4 c5 f0 g1 N g3;refine Gy (by kernel_rfl) ?_;have HG:=Hd (Jd gh.o g0.o.is g0.o.lt g0.o.ok r S.o (by rw[g0.o.next];exact gc.o));have HB2:=Hd M;clear M;go_wp2_with fail;refine HG.o.mono ?_;rintro x T ⟨rfl,o3,m3,A⟩;have g2:=Hd A;have gc:Hq (m1.next=nx):=Hd g0.o.next
 clear A;go_wp2
 go_ret2
 have gn:=g0.o.lt;have gf:∀c,C c->T.heap[c]?=w1.heap[c]?:=λc D=>by
  have h1:=(L.o c D).1;have h2:=ge.o.size;have h3:=HB2.o.size;exact(g2.o.chg.alien (by omega) (ge.o.none' h1 (L.o c D).2)).trans (HB2.o.block c (by omega))
 refine⟨o3,m3,V1,gl.o _ _ gm.o gf,(ge.o.trans (ChgX.of_below HB2.o o1 C) (λ_ _ e=>e)).trans (ChgX.of_chg g2.o.chg C) (λ_ _ e=>e),.inl ⟨r,m1,by rw[<-gc.o];rfl,g0.o.gave g2.o,gk.o _ _ _ _ _ HQ.o gf,S.o,g2.o.nodes,g2.o.vars,g2.o.level,g2.o.many,g2.o.waits,g2.o.calls⟩⟩
section
variable {R:List PanicEntry->Wd->Prop}{m:Nat}
def PP (R:List PanicEntry->Wd->Prop)(Q:Exit->Act->Wd->Prop):Exit->Act->Wd->Prop
 | .panic c,a,w=>a.defers=[]/\R c w
 | e,a,w=>Q e a w
def RK (a:Act)(d:Option Nat)(v:Value):(a.put d v).defers=a.defers:=by cases d<;>rfl
def Jm (c:List PanicEntry)(a:Act)(d:Option Nat)(v:Value)(w:Wd)(h:PP R Q (.panic c) (a.put d v) w):PP R Q (.panic c) a w:=⟨(RK a d v).symm.trans h.1,h.2⟩
def LS {s:Code}(H:∀c (a:Act) w,a.defers=[]->R c w->Q (.panic c) a w)(h:s.wp P (PP R Q) a w):s.wp P Q a w:=
 Code.wp_mono (λe a w h=>by cases e<;>first|exact h|exact H _ _ _ h.1 h.2) h
structure D0 (P:Program)(l:List Oper)(Q:Exit->Act->Wd->Prop)(R:List PanicEntry->Wd->Prop)(S:Wd->Prop)(m f:Nat)(L:Array Bool)(a:Act)(w:Wd):Prop where
 goes:Closed l.toArray L->S w->Eg P l.toArray (PP R Q) S m f L a w
theorem Jn (S:Wd->Prop)(R:List PanicEntry->Wd->Prop)(m:Nat)(O:∀c (a:Act) w,a.defers=[]->R c w->Q (.panic c) a w)(H:P.follows .mixedOrders=true)(I:S w.drew)
 (h:D0 P l Q R S m l.length (Array.replicate l.toArray.size false) a w.drew):(Code.region id l.toArray true).wp P Q a w:=
 LS O (wp_region_any H (Gm _ _ _ _ (h.goes (Gl _) I)))
def RL (i:Nat)(o:Oper)(v:Value)(hi:l[i]?=some o)
 (O:(Region.noSelect l.toArray&&(Region.ready .any l.toArray L).contains i&&Region.free .any l.toArray L i&&(decide (l.toArray.size<=m)||reaches l.toArray l.toArray.size i m))=true)
 (U:∀w,S w->YieldsIf P l.toArray S o v a) (h:D0 P l Q R S m f (L.setIfInBounds i true) (a.put o.dst v) w):D0 P l Q R S m (f+1) L a w:=by
 refine⟨λI H=>?_⟩;simp only[XH]at O;obtain⟨⟨⟨hs,X⟩,Z⟩,Y⟩:=O;have g1:l.toArray[i]?=some o:=by simpa using hi
 have g0:i∈Region.ready .any l.toArray L:=by simpa using X
 exact I3 g1 hs Jm Y f L a w I (aU g1 Z) g0 (U w H) H (h.goes (I.set g0) H)
def Ck (i:Nat){o:Oper}(hi:l[i]?=some o)(H:o.guard=none)
 (I:(Region.noSelect l.toArray&&(Region.ready .any l.toArray L).contains i&&Region.free .any l.toArray L i&&(decide (l.toArray.size<=m)||reaches l.toArray l.toArray.size i m))=true)
 (h:∃v,(∀w,S w->(execOp a.eval o).run P w=.ok (.value v) w)/\D0 P l Q R S m f (L.setIfInBounds i true) (a.put o.dst v) w):D0 P l Q R S m (f+1) L a w:=by
 obtain⟨v,h1,h2⟩:=h;exact RL i o v hi I (λw _=>.inl ⟨by simp[Region.wanted,H],h1⟩) h2
def Df (is:List Nat)(H:(decide (Region.ready .any l.toArray L=is) && !is.isEmpty)=true)
 (h:∀i∈is,S w->∀o,l[i]?=some o->Region.wanted o (yielded l.toArray a.tmps)=true/\o.wp P a w (λO w'=>S w'/\D0 P l Q R S m f (L.setIfInBounds i true) O w') (PP R Q)):D0 P l Q R S m (f+1) L a w:=by
 refine⟨λX Y=>?_⟩;simp only[XH,Yk]at H;obtain⟨H,g1⟩:=H;refine⟨λh0=>(by rw[h0]at H;subst H;simp at g1),λi hi=>?_⟩;have g2:i∈is:=by rw[<-H];exact hi
 obtain⟨_,o,I,_⟩:=ZZ.1 hi;obtain⟨U,g0⟩:=h i g2 Y o (by simpa using I);unfold wpOp;rw[I];simp only[U,Y1];left;refine Oper.wp_mono ?_ g0;intro O w' ⟨h1,h2⟩;exact⟨.inr h1,h2.goes (X.set hi) h1⟩
def Jo (H:(Region.ready .any l.toArray L).isEmpty=true)(h:Q .normal a w):D0 P l Q R S m 0 L a w:=
 ⟨λ_ _=>⟨by simpa [ZR]using H,h⟩⟩
end
end Go.Proofs.YtnphndlbfeagbaaGreat
