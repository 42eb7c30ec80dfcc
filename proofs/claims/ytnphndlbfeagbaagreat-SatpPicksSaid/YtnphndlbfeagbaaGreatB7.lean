/- Several texts in one file: contracts of the program's functions and what follows from them. -/
import Derived.Test.YtnphndlbfeagbaaGreatB6
import Derived.Laws.CopyOwn
set_option linter.all false
set_option maxRecDepth 100000
set_option maxHeartbeats 8000000
namespace Go.Proofs.YtnphndlbfeagbaaGreat
open Go.Proofs.Tryz
open Go.RowKit
variable {A:Af->(Nat->BF)->Nat->Prop}{C:Nat->Prop}{F G:BF}{Fs:List BF}{K:Law}{L:Array Bool}{P:Program}{Q:Exit->Act->Wd->Prop}{S:Wd->Prop}{T t:TypeId}{V V':Nat->BF}{W W' w w' w'':Wd}{a:Act}{args:Array Value}{b c f g i id j k mb n r x y:Nat}{d:Af}{ds dy met os pl rs:List Nat}{fv u v:Value}{fx:Nat->Option Bool}{l:List Oper}{least:Int}{m m':ManD}{o':Own}{ops:Array Oper}{xs:List Value}
def AQ (n:Nat):Nat:=4*2^(2*n)+192*2^n
def Uy (n:Nat)(X:n<=8)(w:Wd):Cl 91 #[Iv n,Iv 40] w (Sm (Iv (AQ n)) w):=by
 have H:Hq (∀(z:Int) (k:Nat),z=k->k<=16->Cl 64 #[Iv z] w (Sm (Iv (2^k:Nat)) w)):=Hd λz k e hk=>by subst e;exact J8 k (by omega) w
 have U:2^(2*n)<=65536:=Xz (X8 (by omega) (show 2*n<=16 by omega)) (by decide);have O:2^n<=65536:=Xz (X8 (by omega) (show n<=16 by omega)) (by decide);have g0:=Hd (λz e=>H.o z (2*n) e (by omega));have HB2:=Hd (λz e=>H.o z n e (by omega));unfold AQ;obtain⟨a,I⟩:=Ex (2^(2*n));obtain⟨b,hb⟩:=Ex (2^n);rw[<-I]at U g0⊢;rw[<-hb]at O HB2⊢;clear I hb H
 go_enter func91,ntmps91
 go_wp2_with fail;refine(g0.o _ (by omega)).mono ?_;rintro x w' ⟨rfl,rfl⟩;go_wp2_with fail;refine(HB2.o _ (by omega)).mono ?_;rintro x w' ⟨rfl,rfl⟩;go_wp2;go_ret;exact⟨by congr 2,rfl⟩
def Uz (n:Nat)(H:n<=8)(w:Wd):Cl 40 #[Iv n,Iv 40] w (Sm (Iv (AQ n)) w):=by
 have I:=Hd (Uy n H w)
 go_enter func40,ntmps40
 go_wp2_with fail;refine I.o.mono ?_;rintro x w' ⟨rfl,rfl⟩;go_wp2;go_ret;exact⟨rfl,rfl⟩
def U0 (H:n<=6):1<=AQ n/\AQ n<=1048576:=by
 have h1:2^(2*n)<=4096:=Xz (X8 (by omega) (show 2*n<=12 by omega)) (by decide);have h2:2^n<=64:=Xz (X8 (by omega) H) (by decide);have h3:0<2^n:=Yg (by omega);unfold AQ;omega
def GP (hk:k<=192):k*2^n<=AQ n:=by
 have:=XS (2^n) hk;unfold AQ;omega
def U1 {s:Nat}(H:1<=n)(hs:s<=40)(I:j<5):2*2^n+j*(39*2^n+1)+s*2^n<=AQ n:=by
 have h1:=XS (2^n) hs;have h2:=XS (39*2^n+1) (Nat.le_of_lt_succ I);have h3:2^1<=2^n:=X8 (by omega) H;have O:2^(n+1)<=2^(2*n):=X8 (by omega) (by omega);rw[XJ]at O;unfold AQ;omega
def U2 {s:Nat}(hs:s<=40)(h1:1<=s)(h:k<=2*2^n+j*(39*2^n+1)+Cm n s):k<=2*2^n+(j+1)*(39*2^n+1):=by
 have h2:=GO n h1;have h3:=XS (2^n) hs;rw[Y8];have H:0<2^n:=Yg (by omega);omega
def U3 (I:j<=5)(h:k<=2*2^n+j*(39*2^n+1))(H:2<=n):k+7<=AQ n:=by
 have h2:=XS (39*2^n+1) I;have h3:2^2<=2^n:=X8 (by omega) H;have O:2^(n+2)<=2^(2*n):=X8 (by omega) (by omega);rw[Zr]at O;unfold AQ;omega
def two:List (Int×BF):=[(0,λ_=>false),(1,λ_=>true)]
def N6:B2 two:=⟨by simp[two],by simp[two]⟩
def N7 (n room:Nat)(w:Wd)(H:n<=64)(h1:1<=room)(h2:room<=1048576):
 Cl 37 #[Iv n,Iv room] w λx w'=>∃mb,x=.returned (.tuple #[Pt mb,Iv 0])/\∃o m V,SatE K n (λ_=>True) room w mb two 2 w' o m V/\m.waits=[]/\m.calls=0/\m.d.pool.many=0:=by
 refine(Ry (F:=K (man0 n room).d (λ_ _=>true)) (λ_=>none) n room w (λk r h=>by cases h) H h1 h2).mono ?_;rintro x w1 ⟨mb,o1,rfl,g0,g2,g1,_⟩;exact⟨mb,rfl,o1,man0 n room,λ_ _=>true,⟨g0,g1,Rw n room H,by simp[man0,store0],trivial,by simp[man0,store0,pool0],rfl,by simp[man0,two,ef];constructor<;>rfl,ChgX.of_chg g2 NoB⟩,rfl,rfl,rfl⟩
def OrdP (zs:List Int)(l:List Nat):Prop:=∀j,j<zs.length->((l.getD j 0:Nat):Int)=at0 zs j
def SetP (K:Law)(q:AskD)(n:Nat)(w:Wd)(y:Ending)(w':Wd):Prop:=
 ∃mb vl vx wb hs nx,y=.returned (.tuple #[Pt mb,vl,vx,.bool true])/\Bw w wb/\hs.map Prod.snd=q.es.map fnT/\nx<=1000/\∃o m V,LawT K n (OrdP q.order) (AQ n) wb mb (two++hs) nx (λws c=>ws=q.plan/\c=0) hs hs w' o m V vl vx/\(2<=n->m.d.pool.many+7<=AQ n)
def SetI (K:Law)(q:AskD)(n:Nat)(wb:Wd)(mb:Nat)(j:Nat)(I H:Value)(W:Wd):Prop:=
 ∃hs nx,hs.map Prod.snd=(q.es.take j).map fnT/\nx<=2+120*(j:Int)/\∃o m V,LawT K n (OrdP q.order) (AQ n) wb mb (two++hs) nx (λws c=>ws=[]/\True) hs hs W o m V I H/\m.d.pool.many<=2*2^n+j*(39*2^n+1)
def JT (hK:AC K)(q:AskD)(t u s:Option Addr)(r E f:Nat)(w:Wd)(h:AskAt w q t u s)(I:Dl q)(n:Nat)(X:q.vars=n):
 Cl 9 #[askV q t u s r E f] w (SetP K q n w):=by
 have hL:=I.lo;have hN:=I.hi;have hO:=I.es;have hJ:=I.plan;have gK:=Hd I;have hq:=Hd h;have ht:n<=6:=by omega
 have hu:1<=n:=by omega
 have gC:=U0 ht;obtain⟨Q,hQ⟩:=Ex (SetP K q n w:Ending->Wd->Prop);rw[<-hQ];have HQ:=Hd hQ;obtain⟨w1,gf⟩:=Ex (w.alloc (.cells #[Iv q.vars,.slice t q.order.length r,.slice u q.es.length E,.slice s q.plan.length f] 26));have HW1:Hq (_=w1):=Hd gf.symm;have hb:Hq (Bw w w1):=by rw[gf];exact Hd (Ag _ _)
 have g0:w1.heap[w.heap.size]?=some (.cells #[Iv q.vars,.slice t q.order.length r,.slice u q.es.length E,.slice s q.plan.length f] 26 (0,0)):=by rw[gf];exact Xv _ _
 have hs1:w1.heap.size=w.heap.size+1:=by rw[gf];simp
 have gO:=Hd X;rw[X]at g0 HW1;have d0:w1.cell? (Av w.heap.size)=some (Iv (n:Nat)):=by rw[Xw _ _ 0 _ _ _ g0];rfl
 have d1:w1.cell? (Aw w.heap.size 1)=some (.slice t q.order.length r):=by rw[Xw _ _ 1 _ _ _ g0];rfl
 have d2:w1.cell? (Aw w.heap.size 2)=some (.slice u q.es.length E):=by rw[Xw _ _ 2 _ _ _ g0];rfl
 have d3:w1.cell? (Aw w.heap.size 3)=some (.slice s q.plan.length f):=by rw[Xw _ _ 3 _ _ _ g0];rfl
 have gY:=X;unfold askV;rw[gY];obtain⟨rm,gk⟩:=Ex (AQ n);have gL:=Hd gk;have gM:=Hd (λW=>Uz n (by omega) W);rw[<-gk]at gM gC;clear h I hQ gf g0 gk X gY;have gQ:=Hd (N7 (K:=K) n rm w1.drew (by omega) gC.1 gC.2)
 go_enter func9,ntmps9
 go_upto_region 1 with fail;rw[HW1.o];refine AJ (λW:Wd=>W.cell? (Av w.heap.size)=some (Iv (n:Nat))/\True) false 11 [(0,false),(1,false),(2,false),(3,false),(4,true),(5,true),(6,false),(7,false),(8,false),(9,false),(10,false)] (by kernel_rfl) (by kernel_rfl) ⟨d0,trivial⟩ ?_;simp only[planned,AI]
 iterate 4
  refine A0 rfl ?_;apply Exists.intro;refine⟨λw' hw=>?_,?_⟩
  . obtain⟨h1,_⟩:=hw;go_simp;rfl
  simp only[Ab]
 refine B7 (R:=λv w'=>v=Iv (rm:Nat)/\w'=w1.drew) rfl (by go_simp) ((gM.o _).mono (λe w' a=>?_)) ?_
 . obtain⟨rfl,rfl⟩:=a;exact⟨_,rfl,⟨d0,trivial⟩,rfl,rfl⟩
 rintro v w'-⟨rfl,rfl⟩;simp only[Ab];refine B7 (R:=λv w'=>∃mb,v=.tuple #[Pt mb,Iv 0]/\∃o m V,SatE K n (λ_=>True) rm w1.drew mb two 2 w' o m V/\m.waits=[]/\m.calls=0/\m.d.pool.many=0) rfl (by go_simp) (gQ.o.mono (λe w' a=>?_)) ?_
 . obtain⟨mb,rfl,o,m,V,g5,gT⟩:=a;exact⟨_,rfl,⟨(g5.chg.below0.cell (p:=Av w.heap.size) (Ad (w:=w1.drew) d0)).trans d0,trivial⟩,mb,rfl,o,m,V,g5,gT⟩
 rintro v w2-⟨mb,rfl,o,m,V,g5,gU,hC,gZ⟩;simp only[Ab]
 iterate 5
  refine A0 rfl ?_;apply Exists.intro;refine⟨λw' hw=>?_,?_⟩
  . obtain⟨h1,_⟩:=hw;go_simp;rfl
  simp only[Ab]
 refine B6 ?_;obtain⟨wb,g7⟩:=Ex w1.drew;rw[<-g7]at g5;have ha:Hq (Bw w wb):=Hd (by rw[g7];exact hb.o.trans ((An w1 1).mono hb.o.size));have c0:wb.cell? (Av w.heap.size)=some (Iv (n:Nat)):=by rw[g7];exact d0
 have c1:wb.cell? (Aw w.heap.size 1)=some (.slice t q.order.length r):=by rw[g7];exact d1
 have c2:wb.cell? (Aw w.heap.size 2)=some (.slice u q.es.length E):=by rw[g7];exact d2
 have c3:wb.cell? (Aw w.heap.size 3)=some (.slice s q.plan.length f):=by rw[g7];exact d3
 have hP:w.heap.size<wb.heap.size:=Ad c0;have B:=Hd (hq.o.below ha.o);clear g7 gQ gM d0 d1 d2 d3 HW1 hs1
 have gS:=Hd (Up (K:=K) g5 (by omega) (by rw[gL.o];have:=GP (n:=n) (k:=6) (by omega);simp[two];omega) (c:=r) (B.o.order.below g5.chg.below0) (λh0 x hx=>by
  obtain⟨b,off,e,hc⟩:=B.o.order.cells 0 h0;rw[hx]at e;cases e;exact g5.none0 (Ad hc)) (by
  rcases ZC q.order.length with h0|h0
  . exact .inl h0
  . have:=gK.o.order h0;rw[gO.o]at this;exact .inr (TM this)))
 have e0:=Cq g5.chg.below0 c0;have e1:=Cq g5.chg.below0 c1;have HWT:=Hd gU;have hH:=Hd gZ;clear g5 gU hC gZ;go_wp2_with fail;refine gS.o.mono ?_;rintro y w3 ⟨rfl,o3,m3,V3,S,gx,hm,hD,gE⟩;have h9:Hq (SetI K q n wb mb 0 (.slice none 0 0) (.slice none 0 0) w3):=Hd ⟨[],2,rfl,by omega,o3,m3,V3,⟨by rw[gL.o]at S;exact S,N6,⟨by rw[gx,HWT.o],trivial⟩,⟨J7 _ _ _,λk hk=>by cases hk⟩,⟨⟨[],rfl,J7 _ _ _,λi v hv=>by simp at hv⟩,λk hk=>by cases hk⟩⟩,by have:=hH.o;simp[two]at gE;omega⟩;have f2:=Cq S.chg.below0 c2;clear S gx hm hD gE gS e0 e1;go_wp2
 go_loopw [8,9,40] (λs8 s9 Z wr=>∃j:Nat,j<=q.es.length/\Z=Iv j/\Hq (SetI K q n wb mb j s8 s9 wr)) (λ_ _ Z _=>q.es.length-(intOf Z).toNat)
 case atStart=>exact⟨0,X0 _,rfl,h9⟩
 case round=>
  clear h9 f2
  rename Wd=>wy
  obtain⟨j,hj,rfl,HI⟩:=hrel;obtain⟨hs,nx,gj,hnx,hy⟩:=HI.o;obtain⟨o0,m0,V0,gl,gF⟩:=hy;have G:Hq (∃o m V,LawT K n (OrdP q.order) (AQ n) wb mb (two++hs) nx (λws c=>ws=[]/\True) hs hs wy o m V u8 u9/\m.d.pool.many<=2*2^n+j*(39*2^n+1)):=Hd ⟨o0,m0,V0,gl,gF⟩;have gH:=gl.below0;have hp:=Hd gH;have gJ:=Hd gj;have hB:hs.length=j:=by have:=Yf List.length gj;simpa [Zo hj]using this
  clear HI gj gl gF gH o0 m0 V0
  by_cases gG:j<q.es.length
  ·have hz:(j:Int)<q.es.length:=by omega
   have J:=hp.o;obtain⟨b,off,x0,x1,x2,ea,k0,k1,k2,hx⟩:=B.o.es.cells j gG;subst ea;obtain⟨zo,T,za,zn,zc,rfl,rfl,rfl⟩:=hx.parts;have C:=Hd (gK.o.expr _ (XM gG));have ga:=C.o.1;have gy:=ExT.size_pos q.es[j];obtain⟨e,a⟩:=Ex (q.es[j]);rw[<-a]at hx C ga gy;have HX:=Hd hx;have q0:=Cq J k0;have q1:=Cq J k1;have q2:=Cq J k2;have hG:Hq ((q.es.take (j+1)).map fnT=(q.es.take j).map fnT++[fnT e]):=Hd (by rw[XA gG,XG,a];rfl);obtain⟨Y,M⟩:=Ex (wy.alloc (.cells #[Iv zo,Iv T,.slice za zn zc] 78));have hE:Hq (_=Y):=Hd M.symm;have h4:Bw wy Y:=by rw[M];exact Ag _ _
   have g0:Y.heap[wy.heap.size]?=some (.cells #[Iv zo,Iv T,.slice za zn zc] 78 (0,0)):=by rw[M];exact Xv _ _
   have p0:Y.cell? (Av wy.heap.size)=some (Iv zo):=by rw[Xw _ _ 0 _ _ _ g0];rfl
   have p1:Y.cell? (Aw wy.heap.size 1)=some (Iv T):=by rw[Xw _ _ 1 _ _ _ g0];rfl
   have p2:Y.cell? (Aw wy.heap.size 2)=some (.slice za zn zc):=by rw[Xw _ _ 2 _ _ _ g0];rfl
   obtain⟨o4,m4,V4,U,O⟩:=G.o;have H:=U.below h4;have F:o4 wy.heap.size=none:=U.sat.lt.none (Xs _);have h2:∀g,u8.ownBlock=some g->g<wy.heap.size:=λg hg=>(U.l.own.lt g hg).2
   have hM:(two++hs).length=2+j:=by simp[two,hB];omega
   have gw:=Hd (Nz hK e _ (two++hs) nx Y o4 m4 V4 _ H.sat ⟨H.st.1,O⟩ H.b2 C.o.2.1.valid (by have:=C.o.2.2;rw[gO.o]at this;exact this) hx (by omega) (U1 hu ga (by omega)));have g8:=Hd H;clear J k0 k1 k2 hx h4 g0 M H G a U;go_upto_region 9 with fail;rw[hE.o];clear q0 q1 q2;go_wp2_with fail;refine gw.o.mono ?_;rintro y z ⟨k,rfl,hk,A,m5,V5,g9,⟨gX,gD⟩,gz⟩;have hn:Hq (m5.d.pool.many<=2*2^n+(j+1)*(39*2^n+1)):=Hd (U2 ga gy gD);have gm:Hq (LawT K n (OrdP q.order) (AQ n) wb mb (two++(hs++[(k,fnT e)])) (k+1) (λws c=>ws=[]/\True) hs hs z A m5 V5 u8 u9):=Hd (g8.o.go (by rw[<-XF];exact gz) (N6.app _) ⟨gX,trivial⟩ g9);have r0:=g9.cell (p:=Av wy.heap.size) p0 F (λe=>e);have r1:=g9.cell (p:=Aw wy.heap.size 1) p1 F (λe=>e);have r2:=g9.cell (p:=Aw wy.heap.size 2) p2 F (λe=>e);have n5:=g9.none' (Ad p0) F;have hf:wb.heap.size<=z.heap.size:=gz.chg.size;clear g9 gX gz gD gw p0 p1 p2 g8;go_upto_region 13 with (at_builtin;refine Dh GF _ rfl _ _ rfl wb.heap.size _ (Ar (hs.map Prod.fst)) _ rfl rfl rfl rfl rfl (by exact gm.o.l.own) (by simp[Ar];omega) hf ?_;intro v6 w6 gr g1 g2 g3 g4 gI)
   have gV:=GH g1 g2 g3 g4 gI;have N:w6.heap[wy.heap.size]?=z.heap[wy.heap.size]?:=gV.keep _ (Ad r0) (λe=>by have:=h2 _ e;omega);have t0:=Co r0 N;have t1:=Co r1 N;have t2:=Co r2 N;have g6:=Hd (gm.o.appL gr g1 g2 g3 g4 gI (p:=(k,fnT e)));have a0:=Cq g6.o.below0 c0;have h6:=Hd (Us e _ n (by omega) w6 (by omega) C.o.2.1 (HX.o.below g6.o.below0));clear gV N gr g1 g2 g3 g4 gI r0 r1 r2 gm h2;go_wp2_with fail;refine h6.o.mono ?_;rintro y w7 ⟨v7,rfl,gc,h5⟩;obtain⟨av,cv,rfl,_⟩:=gc.slice;have h8:Hq (LawB w7 A wb.heap.size (.slice av (AA (tabB n (fnT e))).length cv) (tabB n (fnT e))):=Hd (T1 (n:=n) gc (by rw[BU];exact FJ (by omega)) g6.o.sat.lt g6.o.sat.chg.size);have ge:=Hd (g6.o.below h5);obtain⟨rs,hh,gB,gA⟩:=ge.o.x.ex;have gN:=Hd gB;have h7:=Hd gA;have hr:rs.length=hs.length:=by rw[hh];simp
   have hd:wb.heap.size<=w7.heap.size:=ge.o.sat.chg.size;clear gc h5 gB gA h6 g6 t0 t1 t2 a0;go_upto_region 14 with (at_builtin;refine Dh Tu _ rfl _ _ rfl wb.heap.size _ rs _ rfl rfl rfl rfl rfl (by exact gN.o) (by omega) hd ?_;intro v8 w8 gq g1 g2 g3 g4 h3)
   have gR:=Hd (ge.o.appX h8.o rfl hr gN.o h7.o gq g1 g2 g3 g4 h3 (p:=(k,fnT e)));have hI:Hq (SetI K q n wb mb (j+1) v6 v8 w8):=Hd ⟨hs++[(k,fnT e)],k+1,by rw[XG,gJ.o,hG.o];rfl,by omega,A,m5,V5,gR.o,hn.o⟩;clear gq g1 g2 g3 g4 h3 gN h7 ge h8 gR;go_wp2;go_roundw
   case rel=>exact⟨j+1,by omega,by go_num,hI⟩
   case measure=>simp[intOf];omega
  ·have hA:j=q.es.length:=by omega
   have hz:¬ (j:Int)<q.es.length:=by omega
   obtain⟨o4,m4,V4,H,O⟩:=G.o;have ho:=Hd O;clear O;have e3:=Cq H.below0 c3;have L:m4.waits=[]:=H.st.1;have gt:Bj n m4.waits.length q.plan=0:=by
    rw[L];have:=gK.o.planOk;rw[gO.o]at this;exact this
   have gP:=Hd (Ux H.sat (c:=f) (B.o.plan.below H.below0) (λh0 x hx=>by
    obtain⟨b,off,e,hc,_⟩:=B.o.plan.cells 0 h0;rw[hx]at e;cases e;exact H.sat.none0 (Ad hc)) (by rw[L];simp))
   rw[gt]at gP;have g8:=Hd H;have hF:=Hd L;clear H L gt G;go_wp2_with fail;refine gP.o.mono ?_;rintro y z ⟨rfl,A,m5,D⟩
   have HF:Hq (Q (.returned (.tuple #[Pt mb,u8,u9,.bool true])) z):=Hd (by
    rw[HQ.o];refine⟨mb,u8,u9,wb,hs,nx,rfl,ha.o,by rw[gJ.o,hA,XP],by omega,A,m5,V4,g8.o.go D.sat g8.o.b2 ?_ (ChgX.of_chg D.chg NoB),?_⟩
    rotate_left
    . rw[D.d];exact U3 (by omega) ho.o
    have:=D.yes rfl;rw[hF.o]at this;exact⟨by simpa using this.1,by simpa using this.2⟩)
   clear D gP;go_wp2_with fail;refine X2 (IP rfl _ _ _) rfl ?_;exact HF.o
def SatE.dep {K:Law}{n:Nat}{Od:List Nat->Prop}{room:Nat}{w0 w:Wd}{mb:Nat}{fs:List (Int×BF)}{nx:Int}{o:Own}{m:ManD}{V:Nat->BF}(h:SatE K n Od room w0 mb fs nx w o m V){k:Int}{F:BF}(hk:(k,F)∈fs):DepF n F:=by
 obtain⟨f,H,rfl⟩:=h.find hk;have:=h.ok.store.dep (h.ok.handles.ok _ H)
 rwa [h.vars]at this
def GQ (l:List BF)(F:BF):Prop:=∃i,∃h:i<l.length,l[i]=F\/l[i]=notF F
section
def GR (h:Ai d V){b:BN}(hb:Aa d (f/2)=some b):(okE (Aa d) (cofs d f b.v).1/\ef V (cofs d f b.v).1=cofF (ef V f) b.v false)/\okE (Aa d) (cofs d f b.v).2/\ef V (cofs d f b.v).2=cofF (ef V f) b.v true:=by
 have I:okE (Aa d) f:=.inr ⟨b,hb⟩;have g0:=h.dag.var _ _ hb;obtain⟨h1,h2,h3,O,H⟩:=Bo h I g0 (by unfold lvE;rw[hb];exact Xs _);refine⟨⟨h1,?_⟩,h2,?_⟩
 . funext ρ;rw[Bq,H,CY,h.dag.indep_var h1 h3];rfl
 . funext ρ;rw[Bq,H,CY,h.dag.indep_var h2 O];rfl
end
section
def JU {top:Int}(h:TopS d [f] top least):(top= -1/\Aa d (f/2)=none)\/∃b,Aa d (f/2)=some b/\top=(b.v:Nat):=by
 rcases h with ⟨h1,_,h3⟩|⟨v,h1,_,_,⟨e,H,b,hb,I⟩,_⟩
 . exact .inl ⟨h1,h3 f (by simp)⟩
 . simp only[XB]at H;subst H;exact .inr ⟨b,hb,by rw[h1,I]⟩
end
def Ind (F:BF)(v:Nat):Prop:=∀b,cofF F v b=F
def SatF (C:BF):Prop:=∃ρ,C ρ=true
open Classical in
noncomputable def conB (C:BF)(v:Nat)(x:Bool):Bool:=if SatF (cofF C v x)then x else !x
noncomputable def constrF:List Nat->BF->BF->BF
 | [],F,_=>F
 | v::l,F,C=>fun ρ=>constrF l (cofF F v (conB C v (ρ v))) (cofF C v (conB C v (ρ v))) ρ
def N8 (F:BF)(v:Nat)(b c:Bool):cofF (cofF F v b) v c=cofF F v b:=by
 funext ρ;unfold cofF;congr 1;funext u
 by_cases h:u=v<;>simp[h]
def N9 (F:BF){u v:Nat}(h:u≠v)(a b:Bool):cofF (cofF F u a) v b=cofF (cofF F v b) u a:=by
 funext ρ;unfold cofF;congr 1;funext x;dsimp only
 by_cases h1:x=u
 ·have h2:¬ x=v:=λe=>h (h1.symm.trans e)
  simp only[Xx h1,Xu h2]
 ·by_cases h2:x=v
  . simp only[Xu h1,Xx h2]
  . simp only[Xu h1,Xu h2]
def GS (F:BF)(v:Nat)(ρ:Nat->Bool):cofF F v (ρ v) ρ=F ρ:=by
 unfold cofF;congr 1;funext u
 by_cases h:u=v
 . rw[Xx h,h]
 . rw[Xu h]
def NA {v:Nat}{ρ:Nat->Bool}{b:Bool}(h:ρ v=b):cofF F v b ρ=F ρ:=by rw[<-h,GS]
def Ind.cof {u:Nat}(h:Ind F u)(v:Nat)(b:Bool):Ind (cofF F v b) u:=λc=>by
 by_cases e:u=v
 . subst e;exact N8 F u b c
 . rw[N9 F (λh=>e h.symm),h c]
def GT (F:BF)(v:Nat)(b:Bool):Ind (cofF F v b) v:=λc=>N8 F v b c
def Ind.at {F:BF}{v:Nat}(h:Ind F v)(ρ:Nat->Bool)(b:Bool):F (upd ρ v b)=F ρ:=by
 have:=congrFun (h b) ρ
 rwa [Bq]at this
def Ind.of {v:Nat}(h:∀ρ b,F (upd ρ v b)=F ρ):Ind F v:=λb=>by
 funext ρ;rw[Bq];exact h ρ b
def JV {C:BF}(h:SatF C)(v:Nat)(b:Bool):SatF (cofF C v b)\/SatF (cofF C v (!b)):=by
 obtain⟨ρ,hρ⟩:=h
 by_cases e:ρ v=b
 . exact .inl ⟨ρ,by rw[NA e];exact hρ⟩
 ·have:ρ v= !b:=by cases hb:b<;>cases H:ρ v<;>simp_all
  exact .inr ⟨ρ,by rw[NA this];exact hρ⟩
def U4 {C:BF}(h:SatF C)(v:Nat)(x:Bool):SatF (cofF C v (conB C v x)):=by
 unfold conB
 by_cases e:SatF (cofF C v x)
 . rw[Xx e];exact e
 . rw[Xu e];exact(JV h v x).resolve_left e
def GU {C:BF}{v:Nat}{x:Bool}(h:SatF (cofF C v x)):conB C v x=x:=Xx h
def U5 {C:BF}{v:Nat}{x:Bool}(h:¬ SatF (cofF C v x)):conB C v x= !x:=Xu h
def NB {l:List Nat}{C:BF}{v:Nat}(H:Ind F v)(I:Ind C v):constrF (v::l) F C=constrF l F C:=by
 funext ρ
 show constrF l (cofF F v _) (cofF C v _) ρ=_
 rw[H,I]
def NC {l:List Nat}{C:BF}{v:Nat}(b:Bool)(hs:SatF C)(h:¬ SatF (cofF C v (!b))):constrF (v::l) F C=constrF l (cofF F v b) (cofF C v b):=by
 have hb:SatF (cofF C v b):=(JV hs v b).resolve_right h;have e:∀x,conB C v x=b:=λx=>by
  by_cases e:x=b
  . rw[e];exact GU hb
  ·have:x= !b:=by cases x<;>cases b<;>simp_all
   subst this;rw[U5 h];simp
 funext ρ
 show constrF l (cofF F v _) (cofF C v _) ρ=_
 rw[e]
def U6 {l:List Nat}{C:BF}{v:Nat}(h0:SatF (cofF C v false))(h1:SatF (cofF C v true)):constrF (v::l) F C=iteF v (constrF l (cofF F v true) (cofF C v true)) (constrF l (cofF F v false) (cofF C v false)):=by
 funext ρ
 show constrF l (cofF F v _) (cofF C v _) ρ=if ρ v then _ else _
 cases H:ρ v with
 | true=>rw[GU h1];rfl
 | false=>rw[GU h0];rfl
def GV:∀(l:List Nat) {F C:BF} {u:Nat},Ind F u->Ind C u->Ind (constrF l F C) u
 | [],F,C,u,hF,_=>hF
 | v::l,F,C,u,hF,hC=>by
   refine Ind.of fun ρ b=>?_
   show constrF l (cofF F v (conB C v (upd ρ u b v))) (cofF C v (conB C v (upd ρ u b v))) (upd ρ u b)=constrF l (cofF F v (conB C v (ρ v))) (cofF C v (conB C v (ρ v))) ρ
   by_cases e:v=u
   . subst e;rw[hF,hC,hF,hC];exact(GV l hF hC).at ρ b
   . rw[Ge ρ b e];exact(GV l (hF.cof v _) (hC.cof v _)).at ρ b
def JW:∀(l:List Nat) {F C:BF} {ρ:Nat->Bool},C ρ=true->constrF l F C ρ=F ρ
 | [],F,C,ρ,_=>rfl
 | v::l,F,C,ρ,h=>by
   have hs:SatF (cofF C v (ρ v)):=⟨ρ,by rw[GS];exact h⟩
   show constrF l (cofF F v (conB C v (ρ v))) (cofF C v (conB C v (ρ v))) ρ=_
   rw[GU hs,JW l (by rw[GS];exact h),GS]
def U7 {l:List Nat}{C:BF}(h:∀ρ ρ',F ρ=F ρ'):constrF l F C=F:=by
 induction l generalizing F C with
 | nil=>rfl
 | cons v l H=>
   have e:∀b,cofF F v b=F:=λb=>by funext ρ;exact h _ _
   funext ρ
   show constrF l (cofF F v _) (cofF C v _) ρ=_
   rw[e,H h]
def U8 {l:List Nat}{C:BF}(h:∀ρ,C ρ=true):constrF l F C=F:=by
 funext ρ;exact JW l (h ρ)
def GW:∀(p:List Nat) {l:List Nat} {F C:BF},(∀u∈p,Ind F u/\Ind C u)->constrF (p++l) F C=constrF l F C
 | [],l,F,C,_=>rfl
 | v::p,l,F,C,h=>by
   obtain⟨h1,h2⟩:=h v (XX ..);rw[YX,NB h1 h2];exact GW p λu hu=>h u (Ys _ hu)
def U9 (F C R:BF):Prop:=(∀ρ,C ρ=true->R ρ=F ρ)/\∀u,Ind F u->Ind R u
def ND (h:Ai d V){L:Nat}(U:okE (Aa d) r)(Y:L<d.vars.length)(hi:∀u,u<d.vars.length->levN d u<=L->Ind (ef V r) u):L<lvE d.vars.length (levN d) (Aa d) r:=by
 rcases X9 L (lvE d.vars.length (levN d) (Aa d) r)with c|c
 . exact c
 ·exfalso;unfold lvE at c;cases hb:Aa d (r/2)with
  | none=>rw[hb]at c;dsimp only at c;omega
  | some b=>
    rw[hb]at c;have O:=h.dag.var _ _ hb;have g0:lvE d.vars.length (levN d) (Aa d) r=levN d b.v:=by unfold lvE;rw[hb]
    obtain⟨I,_,H,_,X⟩:=Bo h U O (by rw[g0];exact Xs _);have e:ef V (cofs d r b.v).1=ef V r:=by
     funext ρ;rw[<-(hi b.v O c).at ρ false,X,CY,h.dag.indep_var I H];rfl
    rw[h.dag.canon I U e,g0]at H;omega
def FL (h:Ai d V){v:Nat}(Z:okE (Aa d) f)(Y:v<d.vars.length)(hl:levN d v<=lvE d.vars.length (levN d) (Aa d) f):
 ef V (cofs d f v).1=cofF (ef V f) v false/\ef V (cofs d f v).2=cofF (ef V f) v true:=by
 obtain⟨X,U,O,I,H⟩:=Bo h Z Y hl;constructor
 . funext ρ;rw[Bq,H,CY,h.dag.indep_var X O];rfl
 . funext ρ;rw[Bq,H,CY,h.dag.indep_var U I];rfl
def Fb (h:Ai d V){u:Nat}(H:okE (Aa d) f)(hl:levN d u<lvE d.vars.length (levN d) (Aa d) f):Ind (ef V f) u:=Ind.of fun ρ b=>h.dag.indep_var H hl ρ b
section
variable {u' u'' x:Value}{B:Nat}
def NE (p:Nat->Bool):∀m,(∃i,i<m/\p i=true)->∃q,q<m/\p q=true/\∀j,j<q->p j=false
 | 0,h=>by obtain⟨i,hi,_⟩:=h;omega
 | m+1,h=>by
   by_cases c:∃i,i<m/\p i=true
   . obtain⟨q,h1,h2,h3⟩:=NE p m c;exact⟨q,by omega,h2,h3⟩
   ·have H:∀j,j<m->p j=false:=λj I=>by
     cases e:p j with
     | false=>rfl
     | true=>exact absurd ⟨j,I,e⟩ c
    obtain⟨i,hi,e⟩:=h;obtain rfl:i=m:=by
     rcases X9 i m with h1|h1
     . rw[H i h1]at e;cases e
     . omega
    exact⟨i,hi,e,H⟩
def UA {l:List Nat}(h:∃v∈l,A5 n F v=true):∃q,q<l.length/\topR n F l=(l.getD q 0:Nat)/\A5 n F (l.getD q 0)=true/\∀j,j<q->A5 n F (l.getD j 0)=false:=by
 obtain⟨v,H,hh⟩:=h;obtain⟨i,hi,rfl⟩:=Yn H;obtain⟨q,h1,h2,h3⟩:=NE (λq=>A5 n F (l.getD q 0)) l.length ⟨i,hi,by simpa [List.getD,hi]using hh⟩;exact⟨q,h1,JN l q h1 h2 h3,h2,h3⟩
end
open Classical in
noncomputable def belF (n:Nat)(os:List Nat):Nat->List BF->BF->List BF
 | 0,l,_=>l
 | k+1,l,F=>if(∃c,F=λ_=>c)\/GQ l F then l else belF n os k (belF n os k (l++[F]) (cofF F (topR n F os).toNat false)) (cofF F (topR n F os).toNat true)
section
variable {p:Nat}{l:List BF}
def NF (h:(∃c,F=λ_=>c)\/GQ l F):belF n os k l F=l:=by
 cases k with
 | zero=>rfl
 | succ k=>unfold belF;rw[Xx h]
def UB {v:Nat}(h:¬ ((∃c,F=λ_=>c)\/GQ l F))(H:topR n F os=(v:Nat)):belF n os (k+1) l F=belF n os k (belF n os k (l++[F]) (cofF F v false)) (cofF F v true):=by
 rw[belF,Xu h,H];rfl
end
noncomputable def nodesF (n:Nat)(os:List Nat)(H:List BF):List BF:=H.foldl (λl G=>belF n os n l G) []
def AB (d:Af):Nat->List Nat->Nat->List Nat
 | 0,met,_=>met
 | k+1,met,f=>match Aa d (f/2)with
   | none=>met
   | some b=>if f/2∈met then met else AB d k (AB d k (met++[f/2]) (cofs d f b.v).1) (cofs d f b.v).2
structure RelN (d:Af)(V:Nat->BF)(met:List Nat)(l:List BF):Prop where
 len:met.length=l.length
 node:∀i∈met,∃b,Aa d i=some b
 fn:∀i (h:i<met.length) (h2:i<l.length),l[i]=V met[i]\/l[i]=notF (V met[i])
section
def NG (F:BF):notF (notF F)=F:=funext fun ρ=>by show(!(!F ρ))=F ρ;simp
def JX (f:Nat):ef V f=V (f/2)\/ef V f=notF (V (f/2)):=by
 rcases(show f%2=0\/f%2=1 by omega)with h|h
 . exact .inl (funext fun ρ=>by simp[ef,h])
 . exact .inr (funext fun ρ=>by simp[ef,h,notF])
def JY (h:Ai d V)(h0:Aa d 0=none)(H:okE (Aa d) f):(∃c,ef V f=λ_=>c)↔Aa d (f/2)=none:=by
 constructor
 ·rintro⟨c,hc⟩;have:f=0\/f=1:=by
   cases c with
   | true=>exact .inl ((h.dag.canon_iff H (.inl rfl)).1 (by rw[hc,h.dag.ef0]))
   | false=>exact .inr ((h.dag.canon_iff H (.inl rfl)).1 (by rw[hc,h.dag.ef1]))
  rcases this with rfl|rfl<;>exact h0
 ·intro I;rcases H with h1|⟨b,hb⟩
  . rw[JJ h h1];exact⟨_,rfl⟩
  . rw[I]at hb;cases hb
def NH (h:Ai d V)(X:okE (Aa d) f){l:List BF}(I:RelN d V met l):GQ l (ef V f)↔f/2∈met:=by
 constructor
 ·rintro⟨i,hi,H⟩;have O:i<met.length:=by rw[I.len];exact hi
  obtain⟨b,hb⟩:=I.node _ (XM O);have Y:∀c,c<2->okE (Aa d) (2*met[i]+c):=λc Z=>.inr ⟨b,by rw[show(2*met[i]+c)/2=met[i]by omega];exact hb⟩
  have g1:ef V (2*met[i]+0)=V met[i]:=funext fun ρ=>by unfold ef;rw[show(2*met[i]+0)/2=met[i]by omega,show(2*met[i]+0)%2=0 by omega];simp
  have g0:ef V (2*met[i]+1)=notF (V met[i]):=funext fun ρ=>by unfold ef notF;rw[show(2*met[i]+1)/2=met[i]by omega,show(2*met[i]+1)%2=1 by omega];simp
  have U:=Nf V f;have key:∀e,okE (Aa d) e->e/2=met[i]->(ef V e=ef V f\/ef V e=ef V (enot f))->f/2=met[i]:=λe H h2 h3=>by
   rcases h3 with h3|h3
   . rw[<-(h.dag.canon_iff H X).1 h3];exact h2
   . have:=(h.dag.canon_iff H (Iz X)).1 h3;rw[this,DA]at h2;exact h2
  have:f/2=met[i]:=by
   rcases I.fn i O hi with e|e
   . exact key _ (Y 0 (by omega)) (by omega) (by rw[g1,<-e,U];exact H)
   . exact key _ (Y 1 (by omega)) (by omega) (by rw[g0,<-e,U];exact H)
  rw[this];exact XM O
 ·intro O;obtain⟨i,hi,H⟩:=Yn O;refine⟨i,by rw[<-I.len];exact hi,?_⟩;have h1:=I.fn i hi (by rw[<-I.len];exact hi);rw[H]at h1;rcases JX (V:=V) f with e|e<;>rcases h1 with e2|e2<;>rw[e,e2]
  . exact .inl rfl
  . exact .inr rfl
  . exact .inr (NG _).symm
  . exact .inl rfl
def JZ (h:Ai d V)(h0:Aa d 0=none):∀(k:Nat) (met:List Nat) (l:List BF) (f:Nat),okE (Aa d) f->RelN d V met l->RelN d V (AB d k met f) (belF d.vars.length d.vars k l (ef V f))
 | 0,met,l,f,_,hr=>hr
 | k+1,met,l,f,hf,hr=>by
   cases hb:Aa d (f/2)with
   | none=>
     rw[NF (.inl ((JY h h0 hf).2 hb))];unfold AB;rw[hb];exact hr
   | some b=>
     unfold AB;rw[hb]
     show RelN d V (if f/2∈met then met else _) _
     by_cases O:f/2∈met
     . rw[Xx O,NF (.inr ((NH h hf hr).2 O))];exact hr
     ·have U:¬ ∃c,ef V f=λ_=>c:=λe=>by rw[(JY h h0 hf).1 e]at hb;cases hb
      obtain⟨H,I⟩:=JP h hb;rw[Xu O,UB (λe=>e.elim U λe=>O ((NH h hf hr).1 e)) H];have hl:levN d b.v<=lvE d.vars.length (levN d) (Aa d) f:=by unfold lvE;rw[hb];exact Xs _
      obtain⟨Y,X,_⟩:=Bo h hf I hl;obtain⟨e1,e2⟩:=FL h hf I hl;rw[<-e1,<-e2];refine JZ h h0 k _ _ _ X (JZ h h0 k _ _ _ Y ⟨by simp[hr.len],λi hi=>?_,λi h1 h2=>?_⟩)
      ·rcases XD.1 hi with c|c
       . exact hr.node i c
       . simp at c;subst c;exact⟨b,hb⟩
      ·rcases X9 i met.length with c|c
       . rw[XU c,XU (by rw[<-hr.len];exact c)];exact hr.fn i c _
       ·have e:i=met.length:=by simp at h1;omega
        subst e;rw[XV (Xs _),XV (by rw[hr.len];exact Xs _)];simpa using JX (V:=V) f
end
def BC (v:Nat):List (Nat×Nat)->List (Nat×Nat)
 | []=>[(v,1)]
 | p::r=>if p.1=v then(v,p.2+1)::r else p::BC v r
def getC (v:Nat):List (Nat×Nat)->Nat
 | []=>0
 | p::r=>if p.1=v then p.2 else getC v r
def sumC (l:List (Nat×Nat)):Nat:=(l.map (·.2)).sum
def NI (v:Nat):∀l,sumC (BC v l)=sumC l+1
 | []=>rfl
 | p::r=>by
   unfold BC;split
   . simp only[sumC,Yz,List.sum_cons];omega
   . have:=NI v r;simp only[sumC,Yz,List.sum_cons]at this⊢;omega
def NJ (v u:Nat):∀l,getC u (BC v l)=getC u l+(if u=v then 1 else 0)
 | []=>by
   show(if v=u then 1 else 0)=0+_
   by_cases h:u=v
   . subst h;simp
   . rw[Xu h,Xu (λe=>h e.symm)]
 | p::r=>by
   unfold BC
   by_cases h:p.1=v
   ·rw[Xx h]
    show(if v=u then p.2+1 else getC u r)=(if p.1=u then p.2 else getC u r)+_
    rw[h]
    by_cases e:v=u
    . rw[Xx e,Xx e,Xx e.symm]
    . rw[Xu e,Xu e,Xu (λc=>e c.symm),Zh]
   ·rw[Xu h]
    show(if p.1=u then p.2 else getC u (BC v r))=(if p.1=u then p.2 else getC u r)+_
    by_cases e:p.1=u
    . rw[Xx e,Xx e,Xu (λc=>h (e.trans c)),Zh]
    . rw[Xu e,Xu e,NJ v u r]
def NK (v:Nat):∀l,getC v l<=sumC l
 | []=>Xs _
 | p::r=>by
   have:=NK v r;simp only[getC,sumC,Yz,List.sum_cons]at this⊢;split<;>omega
def vrD (d:Af)(i:Nat):Nat:=match Aa d i with|some b=>b.v|none=>0
def tally (d:Af)(met:List Nat):List (Nat×Nat):=met.foldl (λc i=>BC (vrD d i) c) []
section
def UC (met:List Nat)(i:Nat):tally d (met++[i])=BC (vrD d i) (tally d met):=by
 unfold tally;rw[Zz];rfl
def UD (met:List Nat){b:BN}(hb:Aa d i=some b):tally d (met++[i])=BC b.v (tally d met):=by
 rw[UC,show vrD d i=b.v by unfold vrD;rw[hb]]
def NL (c:List (Nat×Nat))(v:Nat):∀met:List Nat,sumC (met.foldl (λc i=>BC (vrD d i) c) c)=sumC c+met.length/\getC v (met.foldl (λc i=>BC (vrD d i) c) c)=getC v c+met.countP λi=>vrD d i=v:=by
 intro met
 induction met generalizing c with
 | nil=>exact⟨rfl,rfl⟩
 | cons i r H=>
   obtain⟨h1,h2⟩:=H (BC (vrD d i) c);refine⟨?_,?_⟩
   . rw[List.foldl_cons,h1,NI,XL];omega
   ·rw[List.foldl_cons,h2,NJ,List.countP_cons]
    by_cases e:v=vrD d i
    . rw[Xx e,Xx (by simp[e])];omega
    . rw[Xu e,Xu (by simpa using λc=>e c.symm)];omega
def Ka (met:List Nat):sumC (tally d met)=met.length:=by
 have:=(NL (d:=d) [] 0 met).1;unfold tally;rw[this];simp[sumC]
def UE (met:List Nat)(v:Nat):getC v (tally d met)=met.countP λi=>vrD d i=v:=by
 have:=(NL (d:=d) [] v met).2;unfold tally;rw[this];simp[getC]
structure C9 (d:Af)(met:List Nat):Prop where
 nd:met.Nodup
 node:∀i∈met,∃b,Aa d i=some b
def C9.snoc (h:C9 d met){b:BN}(hb:Aa d i=some b)(I:i∉met):C9 d (met++[i]):=by
 refine⟨Yl.2 ⟨h.nd,by simp,λa U c H e=>?_⟩,λj O=>?_⟩
 . simp at H;subst H;subst e;exact I U
 ·rcases XD.1 O with c|c
  . exact h.node j c
  . simp at c;subst c;exact⟨b,hb⟩
def C9.len (h:C9 d met)(H:∀e,okE (Aa d) e->e<eMax):met.length<=2305843009213693952:=by
 refine CQ _ _ h.nd λi hi=>?_
 obtain⟨b,hb⟩:=h.node i hi;have:=H (2*i) (.inr ⟨b,by rw[show 2*i/2=i by omega];exact hb⟩);unfold eMax at this;omega
def Kb (h:Ai d V):∀(k:Nat) (met:List Nat) (f:Nat),C9 d met->C9 d (AB d k met f)
 | 0,met,f,hm=>hm
 | k+1,met,f,hm=>by
   unfold AB;cases hb:Aa d (f/2)with
   | none=>exact hm
   | some b=>
     show C9 d (if f/2∈met then met else _)
     by_cases c:f/2∈met
     . rw[Xx c];exact hm
     . rw[Xu c];exact Kb h k _ _ (Kb h k _ _ (hm.snoc hb c))
def Dn (d:Af)(l:List Nat):List Nat:=l.foldl (λmet f=>AB d d.vars.length met f) []
def UF (l:List Nat)(hi:i<l.length):Dn d (l.take (i+1))=AB d d.vars.length (Dn d (l.take i)) l[i]:=by
 unfold Dn;rw[Zk,Xy hi,Zz];rfl
def NM (h:Ai d V)(l:List Nat):C9 d (Dn d l):=by
 unfold Dn;have:∀(l met:List Nat),C9 d met->C9 d (l.foldl (λmet f=>AB d d.vars.length met f) met):=by
  intro l
  induction l with
  | nil=>intro met H;exact H
  | cons f r I=>intro met H;exact I _ (Kb h _ _ _ H)
 exact this l [] ⟨List.nodup_nil,by simp⟩
def UG (h:Ai d V)(l:List Nat)(hl:∀f∈l,okE (Aa d) f):(Dn d l).length=(nodesF d.vars.length d.vars (l.map (ef V))).length:=by
 have:∀(l:List Nat) (met:List Nat) (gs:List BF),(∀f∈l,okE (Aa d) f)->RelN d V met gs->RelN d V (l.foldl (λmet f=>AB d d.vars.length met f) met) ((l.map (ef V)).foldl (λl G=>belF d.vars.length d.vars d.vars.length l G) gs):=by
  intro l
  induction l with
  | nil=>intro met gs _ H;exact H
  | cons f r I=>
    intro met gs hl H;exact I _ _ (λg O=>hl g (Ys _ O)) (JZ h h.dag.none0 _ _ _ f (hl f (XX ..)) H)
 exact(this l [] [] hl ⟨rfl,λi hi=>by simp at hi,λi h1=>by simp at h1⟩).len
end
def Indep (F:BF)(v:Nat):Prop:=∀ρ b,F (upd ρ v b)=F ρ
def NN {v:Nat}(h:Indep F v)(u:Nat)(c:Bool):Indep (cofF F u c) v:=fun ρ b=>by
 show F (upd (upd ρ v b) u c)=F (upd ρ u c)
 by_cases e:v=u
 . subst e;exact Yf F (funext λx=>by unfold upd;split<;>rfl)
 ·rw[show upd (upd ρ v b) u c=upd (upd ρ u c) v b from funext λx=>by
   unfold upd
   by_cases h1:x=u<;>by_cases h2:x=v<;>simp_all]
  exact h _ b
def UH {u v:Nat}(H:v≠u)(h0:Indep (cofF F u false) v)(h1:Indep (cofF F u true) v):Indep F v:=fun ρ b=>by
 have key:∀σ:Nat->Bool,F σ=cofF F u (σ u) σ:=fun σ=>Yf F (funext λx=>by
  by_cases e:x=u
  . subst e;simp
  . simp[e])
 rw[key (upd ρ v b),key ρ,show upd ρ v b u=ρ u by unfold upd;rw[Xu (λe=>H e.symm)]];cases ρ u
 . exact h0 ρ b
 . exact h1 ρ b
def NO {v:Nat}(h:Indep F v):Indep (notF F) v:=fun ρ b=>by
 show(!F (upd ρ v b))= !F ρ
 rw[h]
def Fc {v:Nat}:Indep F v↔cofF F v false=cofF F v true:=by
 constructor
 ·intro h;funext ρ
  exact(h ρ false).trans (h ρ true).symm
 ·intro h ρ b
  have key:∀σ:Nat->Bool,F σ=cofF F v (σ v) σ:=fun σ=>Yf F (funext λx=>by
   by_cases e:x=v
   . subst e;simp
   . simp[e])
  have e2:cofF F v b ρ=cofF F v (ρ v) ρ:=by
   cases b<;>cases ρ v<;>first|rfl|rw[h]
  exact e2.trans (key ρ).symm
section
def NQ {v:Nat}:Indep (ef V f) v↔Indep (V (f/2)) v:=by
 rcases JX (V:=V) f with e|e
 . rw[e]
 . rw[e];exact⟨λh=>by have:=NO h;rwa [NG]at this,NO⟩
def InM (d:Af)(met:List Nat)(f:Nat):Prop:=Aa d (f/2)=none\/f/2∈met
def ClM (d:Af)(met met':List Nat):Prop:=∀i∈met',i∉met->∀b,Aa d i=some b->InM d met' b.lo/\InM d met' b.hi
def NR {b:BN}(hb:Aa d (f/2)=some b):(cofs d f b.v).1/2=b.lo/2/\(cofs d f b.v).2/2=b.hi/2:=by
 unfold cofs;simp only[hb,Y1];constructor<;>(unfold eflip;split<;>first|exact DA _|rfl)
def Fe:∀(k:Nat) (met:List Nat) (f:Nat),∀i∈met,i∈AB d k met f
 | 0,met,f,i,hi=>hi
 | k+1,met,f,i,hi=>by
   unfold AB;cases hb:Aa d (f/2)with
   | none=>exact hi
   | some b=>
     show i∈(if f/2∈met then met else _)
     by_cases c:f/2∈met
     . rw[Xx c];exact hi
     . rw[Xu c];exact Fe k _ _ _ (Fe k _ _ _ (YL _ hi))
theorem InM.mono {met':List Nat}(h:InM d met f)(hs:∀i∈met,i∈met'):InM d met' f:=h.imp id (hs _)
def Kc (h:Ai d V):∀(k:Nat) (met:List Nat) (f:Nat),okE (Aa d) f->d.vars.length<=lvE d.vars.length (levN d) (Aa d) f+k->InM d (AB d k met f) f/\ClM d met (AB d k met f)
 | 0,met,f,hf,hl=>by
   refine⟨.inl ?_,λi hi H=>absurd hi H⟩;cases hb:Aa d (f/2)with
   | none=>rfl
   | some b=>
     exfalso;have h1:=h.dag.lt b.v (h.dag.var _ _ hb);unfold lvE at hl;rw[hb]at hl;simp at hl;omega
 | k+1,met,f,hf,hl=>by
   unfold AB;cases hb:Aa d (f/2)with
   | none=>exact⟨.inl hb,λi hi H=>absurd hi H⟩
   | some b=>
     show InM d (if f/2∈met then met else _) f/\ClM d met (if f/2∈met then met else _)
     by_cases c:f/2∈met
     . rw[Xx c];exact⟨.inr c,λi hi H=>absurd hi H⟩
     ·rw[Xu c];have O:=h.dag.var _ _ hb;have I:levN d b.v<=lvE d.vars.length (levN d) (Aa d) f:=by unfold lvE;rw[hb];exact Xs _
      have g2:lvE d.vars.length (levN d) (Aa d) f=levN d b.v:=by unfold lvE;rw[hb]
      obtain⟨Y,X,e,a,_⟩:=Bo h hf O I;obtain⟨e1,e2⟩:=NR hb;obtain⟨Z,a2⟩:=Kc h k (met++[f/2]) _ Y (by omega);obtain⟨b1,b2⟩:=Kc h k (AB d k (met++[f/2]) (cofs d f b.v).1) _ X (by omega);have hs1:=Fe (d:=d) k (AB d k (met++[f/2]) (cofs d f b.v).1) (cofs d f b.v).2;have g1:=Fe (d:=d) k (met++[f/2]) (cofs d f b.v).1;refine⟨.inr (hs1 _ (g1 _ (by simp))),λi hi H U g0=>?_⟩
      by_cases m2:i∈AB d k (met++[f/2]) (cofs d f b.v).1
      ·by_cases m1:i∈met++[f/2]
       ·have:i=f/2:=by
         rcases XD.1 m1 with m|m
         . exact absurd m H
         . simpa using m
        subst this;rw[hb]at g0;cases g0
        have w1:=Z.mono hs1;unfold InM at w1 b1;rw[e1]at w1;rw[e2]at b1;exact⟨w1,b1⟩
       . obtain⟨w1,w2⟩:=a2 i m2 m1 U g0;exact⟨w1.mono hs1,w2.mono hs1⟩
      . exact b2 i hi m2 U g0
def Kd (h:Ai d V):∀(k:Nat) (met:List Nat) (f:Nat),okE (Aa d) f->∀i∈AB d k met f,i∈met\/∀v,Indep (ef V f) v->Indep (V i) v
 | 0,met,f,hf,i,hi=>.inl hi
 | k+1,met,f,hf,i,hi=>by
   unfold AB at hi;cases hb:Aa d (f/2)with
   | none=>rw[hb]at hi;exact .inl hi
   | some b=>
     rw[hb]at hi
     replace hi:i∈(if f/2∈met then met else AB d k (AB d k (met++[f/2]) (cofs d f b.v).1) (cofs d f b.v).2):=hi
     by_cases c:f/2∈met
     . rw[Xx c]at hi;exact .inl hi
     ·rw[Xu c]at hi;have O:=h.dag.var _ _ hb;have I:levN d b.v<=lvE d.vars.length (levN d) (Aa d) f:=by unfold lvE;rw[hb];exact Xs _
      obtain⟨X,U,_⟩:=Bo h hf O I;obtain⟨e1,e2⟩:=FL h hf O I;rcases Kd h k _ _ U i hi with m|m
      ·rcases Kd h k _ _ X i m with m|m
       ·rcases XD.1 m with m|m
        . exact .inl m
        ·simp at m;subst m
         exact .inr λv H=>NQ.1 H
       . exact .inr λv H=>m v (by rw[e1];exact NN H _ _)
      . exact .inr λv H=>m v (by rw[e2];exact NN H _ _)
def UI (h:Ai d V)(I:ClM d [] met){v:Nat}(g:∀i∈met,∀b,Aa d i=some b->b.v≠v):∀(k:Nat) (f:Nat),okE (Aa d) f->d.vars.length<=lvE d.vars.length (levN d) (Aa d) f+k->InM d met f->Indep (ef V f) v:=by
 have Y:∀f,okE (Aa d) f->Aa d (f/2)=none->Indep (ef V f) v:=λf H j=>by
  obtain⟨c,e⟩:=(JY h h.dag.none0 H).2 j;rw[e];exact λ_ _=>rfl
 intro k
 induction k with
 | zero=>
   intro f H hl hi;cases hb:Aa d (f/2)with
   | none=>exact Y f H hb
   | some b=>
     exfalso;have h1:=h.dag.lt b.v (h.dag.var _ _ hb);unfold lvE at hl;rw[hb]at hl;simp at hl;omega
 | succ k O=>
   intro f H hl hi;cases hb:Aa d (f/2)with
   | none=>exact Y f H hb
   | some b=>
     have X:f/2∈met:=by
      rcases hi with e|e
      . rw[hb]at e;cases e
      . exact e
     have g1:=h.dag.var _ _ hb;have g0:levN d b.v<=lvE d.vars.length (levN d) (Aa d) f:=by unfold lvE;rw[hb];exact Xs _
     have g2:lvE d.vars.length (levN d) (Aa d) f=levN d b.v:=by unfold lvE;rw[hb]
     obtain⟨a,Z,m,l,_⟩:=Bo h H g1 g0;obtain⟨e1,e2⟩:=FL h H g1 g0;obtain⟨k1,k2⟩:=NR hb;obtain⟨w1,w2⟩:=I _ X (by simp) b hb;have U:=O _ a (by omega) (by unfold InM;rw[k1];exact w1);have i2:=O _ Z (by omega) (by unfold InM;rw[k2];exact w2);rw[e1]at U;rw[e2]at i2;exact UH (λe=>g _ X b hb e.symm) U i2
def UJ {a b c:List Nat}(h1:ClM d a b)(h2:ClM d b c)(hs:∀i∈b,i∈c):ClM d a c:=λi hi O I H=>by
 by_cases m:i∈b
 . obtain⟨w1,w2⟩:=h1 i m O I H;exact⟨w1.mono hs,w2.mono hs⟩
 . exact h2 i hi m I H
def NS (h:Ai d V):∀(l met:List Nat),(∀f∈l,okE (Aa d) f)->ClM d [] met->ClM d [] (l.foldl (λmet f=>AB d d.vars.length met f) met)/\(∀i∈met,i∈l.foldl (λmet f=>AB d d.vars.length met f) met)/\(∀f∈l,InM d (l.foldl (λmet f=>AB d d.vars.length met f) met) f)/\∀i∈l.foldl (λmet f=>AB d d.vars.length met f) met,i∈met\/∃f∈l,∀v,Indep (ef V f) v->Indep (V i) v
 | [],met,_,hc=>⟨hc,λi hi=>hi,λf I=>by simp at I,λi hi=>.inl hi⟩
 | f::r,met,hl,hc=>by
   have I:=hl f (XX ..);obtain⟨c1,c2⟩:=Kc h d.vars.length met f I (by omega);obtain⟨Y,O,X,U⟩:=NS h r (AB d d.vars.length met f) (λg H=>hl g (Ys _ H)) (UJ hc c2 (Fe _ _ _));refine⟨Y,λi hi=>O i (Fe _ _ _ i hi),λg H=>?_,λi hi=>?_⟩
   ·rcases Yy.1 H with rfl|H
    . exact c1.mono O
    . exact X g H
   ·rcases U i hi with m|⟨g,H,m⟩
    ·rcases Kd h _ _ f I i m with m|m
     . exact .inl m
     . exact .inr ⟨f,XX ..,m⟩
    . exact .inr ⟨g,Ys _ H,m⟩
structure GX (n:Nat)(os:List Nat)(Fs:List BF)(cs:List (Nat×Nat)):Prop where
 sum:sumC cs=(nodesF n os Fs).length
 le:sumC cs<=2305843009213693952
 dep:∀v,0<getC v cs↔∃F∈Fs,A5 n F v=true
abbrev ZH:=@Int.ofNat.inj
abbrev Yo:=@Classical.byContradiction
def UK (h:Ai d V)(l:List Nat)(hl:∀f∈l,okE (Aa d) f)(I:∀e,okE (Aa d) e->e<eMax):GX d.vars.length d.vars (l.map (ef V)) (tally d (Dn d l)):=by
 refine⟨?_,?_,λv=>?_⟩
 . rw[Ka,UG h l hl]
 . rw[Ka];exact(NM h l).len I
 ·obtain⟨Y,Z,X,U⟩:=NS h l [] hl (λi hi=>by simp at hi);rw[UE,List.countP_pos_iff];constructor
  ·rintro⟨i,hi,hv⟩;rcases U i hi with m|⟨f,H,m⟩
   . simp at m
   ·refine⟨ef V f,X6.2 ⟨f,H,rfl⟩,(FK (h.dep (hl f H)) v).2 λe=>?_⟩;have h1:=m v (Fc.2 e);obtain⟨b,hb⟩:=(NM h l).node i hi;have g4:b.v=v:=by
     have:vrD d i=v:=by simpa using hv
     unfold vrD at this;rw[hb]at this;exact this
    have g0:Aa d (2*i/2)=some b:=by rw[show 2*i/2=i by omega];exact hb
    have h2:=(NQ (V:=V) (f:=2*i) (v:=v)).2 (by rw[show 2*i/2=i by omega];exact h1);have O:=(JP h g0).1;have g1:=h.dep (f:=2*i) (.inr ⟨b,g0⟩)
    by_cases hx:∃u∈d.vars,A5 d.vars.length (ef V (2*i)) u=true
    . obtain⟨q,_,g2,g3,_⟩:=UA hx;rw[O]at g2;rw[<-ZH g2,g4,FK g1]at g3;exact g3 (Fc.1 h2)
    ·have:=Nr (n:=d.vars.length) (F:=ef V (2*i)) (l:=d.vars) (λu hu=>by
      cases e:A5 d.vars.length (ef V (2*i)) u with
      | false=>rfl
      | true=>exact absurd ⟨u,hu,e⟩ hx)
     rw[O]at this;omega
  ·rintro⟨F,hF,hh⟩;obtain⟨f,H,rfl⟩:=X6.1 hF;refine Yo λg5=>?_
   refine(FK (h.dep (hl f H)) v).1 hh (Fc.1 (UI h Y (v:=v) (λi hi b hb e=>g5 ⟨i,hi,by unfold vrD;rw[hb];simp[e]⟩) d.vars.length f (hl f H) (by omega) (X f H)))
end
def cntN:Nat->BF->(Nat->Bool)->Nat
 | 0,F,ρ=>if F ρ then 1 else 0
 | n+1,F,ρ=>cntN n F (upd ρ n false)+cntN n F (upd ρ n true)
def UL (h:∀ρ,F ρ=G ρ)(n:Nat)(ρ:Nat->Bool):cntN n F ρ=cntN n G ρ:=by rw[show F=G from funext h]
def NT (n:Nat)(ρ:Nat->Bool):cntN n (λ_=>true) ρ=2^n:=by
 induction n generalizing ρ with
 | zero=>rfl
 | succ n H=>show cntN n _ _+cntN n _ _=_;rw[H,H,XJ];omega
def Ke (n:Nat)(F:BF)(ρ:Nat->Bool):cntN n (notF F) ρ+cntN n F ρ=2^n:=by
 induction n generalizing ρ with
 | zero=>show(if(!F ρ)=true then 1 else 0)+(if F ρ=true then 1 else 0)=1;cases F ρ<;>rfl
 | succ n H=>
   have h1:=H (upd ρ n false);have h2:=H (upd ρ n true)
   show(cntN n (notF F) _+cntN n (notF F) _)+(cntN n F _+cntN n F _)=_
   rw[XJ];omega
def UM (n:Nat)(F:BF)(ρ:Nat->Bool):cntN n F ρ<=2^n:=by
 have:=Ke n F ρ;omega
def NU (ρ:Nat->Bool){u v:Nat}(h:u≠v)(a b:Bool):upd (upd ρ u a) v b=upd (upd ρ v b) u a:=funext λx=>by
 unfold upd
 by_cases h1:x=u<;>by_cases h2:x=v<;>simp_all
def CR (F:BF)(v:Nat)(b:Bool):∀(n:Nat) (ρ:Nat->Bool),n<=v->cntN n (cofF F v b) ρ=cntN n F (upd ρ v b)
 | 0,ρ,_=>rfl
 | n+1,ρ,h=>by
   show cntN n _ _+cntN n _ _=cntN n _ _+cntN n _ _
   rw[CR F v b n _ (by omega),CR F v b n _ (by omega),NU ρ (by omega) false b,NU ρ (by omega) true b]
def Kf (F:BF){v:Nat}:∀(n:Nat) (ρ:Nat->Bool),v<n->cntN n (cofF F v false) ρ+cntN n (cofF F v true) ρ=2*cntN n F ρ
 | 0,_,h=>absurd h (by omega)
 | n+1,ρ,h=>by
   show(cntN n _ _+cntN n _ _)+(cntN n _ _+cntN n _ _)=2*(cntN n _ _+cntN n _ _)
   rcases X9 v n with c|c
   . have h1:=Kf F n (upd ρ n false) c;have h2:=Kf F n (upd ρ n true) c;omega
   ·obtain rfl:v=n:=by omega
    have e:∀a b,upd (upd ρ v a) v b=upd ρ v b:=λa b=>funext λx=>by unfold upd;split<;>rfl
    rw[CR F v false v _ (Xs _),CR F v false v _ (Xs _),CR F v true v _ (Xs _),CR F v true v _ (Xs _),e,e,e,e];omega
def fixV (fx:Nat->Option Bool)(F:BF):BF:=fun ρ=>F λv=>(fx v).getD (ρ v)
def UN (fx:Nat->Option Bool)(F:BF):fixV fx (notF F)=notF (fixV fx F):=rfl
def UO {v:Nat}{b:Bool}(h:fx v=some b)(F:BF):fixV fx (cofF F v b)=fixV fx F:=funext fun ρ=>by
 show F _=F _
 congr 1;funext u
 by_cases e:u=v
 . subst e;simp[h]
 . simp[e]
def NV {v:Nat}(h:fx v=none)(F:BF)(b:Bool):fixV fx (cofF F v b)=cofF (fixV fx F) v b:=funext fun ρ=>by
 show F _=F _
 congr 1;funext u
 by_cases e:u=v
 . subst e;simp[h]
 . simp[e]
def totN (n:Nat)(fx:Nat->Option Bool)(F:BF):Nat:=cntN n (fixV fx F) λ_=>false
def NW (n:Nat)(fx:Nat->Option Bool):totN n fx (λ_=>true)=2^n:=NT n _
def UP (n:Nat)(fx:Nat->Option Bool)(F:BF):totN n fx (notF F)=2^n-totN n fx F:=by
 have:=Ke n (fixV fx F) λ_=>false
 unfold totN;rw[UN];omega
def NX (n:Nat)(fx:Nat->Option Bool)(F:BF):totN n fx F<=2^n:=UM _ _ _
def NY {v:Nat}{b:Bool}(h:fx v=some b)(F:BF):totN n fx (cofF F v b)=totN n fx F:=by
 unfold totN;rw[UO h]
def NZ {v:Nat}(h:fx v=none)(H:v<n)(F:BF):(totN n fx (cofF F v false)+totN n fx (cofF F v true))/2=totN n fx F:=by
 unfold totN;rw[NV h,NV h,Kf _ _ _ H];omega
def D3:Da prog 3 (Value.int .i64):=IE underlying3
def mtL (met:List Nat):List (Int×Value):=met.map λi:Nat=>((i:Int),(.bool true:Value))
def Oa (met:List Nat)(f:Nat):getL (mtL met) (f:Int)=if f∈met then some (.bool true)else none:=by
 by_cases h:f∈met
 ·rw[Xx h];unfold getL;have:∀(l:List Nat) (i:Nat),f∈l->(AH (f:Int) (mtL l) i).map (·.2)=some (.bool true):=by
   intro l
   induction l with
   | nil=>intro i h;simp at h
   | cons x r H=>
     intro i h
     show(if(x:Int)=(f:Int)then some (i,(.bool true:Value))else AH (f:Int) (mtL r) (i+1)).map (·.2)=_
     by_cases e:(x:Int)=(f:Int)
     . rw[Xx e];rfl
     ·rw[Xu e];refine H _ ?_;rcases Yy.1 h with h|h
      . exact absurd (by rw[h]) e
      . exact h
  exact this met 0 h
 ·rw[Xu h];refine Db.2 λp I=>?_
  obtain⟨i,hi,rfl⟩:=X6.1 I;intro e;have e2:i=f:=ZH e;rw[e2]at hi;exact h hi
def Ob (h:Au w b (Value.int .i64) (mtL met))(f:Nat):
 (Instr.lookup 120 (.map (some b)) (Iv (f:Nat)) false).run prog w=.ok (.bool (decide (f∈met))) w:=by
 have:=h.lookup D3 underlying120 zeroValue4 (f:Int) false;rw[Oa]at this
 by_cases c:f∈met
 . rw[Xx c]at this;simpa [c]using this
 . rw[Xu c]at this;simpa [c]using this
def UQ (h:Au w b (Value.int .i64) (mtL met))(I:f∉met):
 ∃w',(Instr.mapUpdate 120 (.map (some b)) (Iv (f:Nat)) (.bool true)).run prog w=.ok () w'/\Au w' b (Value.int .i64) (mtL (met++[f]))/\w.grownBy w' (some b):=by
 obtain⟨w',h1,h2,h3⟩:=h.update D3 underlying120 (f:Int) (.bool true);refine⟨w',h1,?_,h3⟩;have e:putL (f:Int) (.bool true) (mtL met)=mtL (met++[f]):=by
  have H:=Oa met f;rw[Xu I]at H;unfold getL at H;unfold putL;cases O:AH (f:Int) (mtL met) 0 with
  | none=>simp[mtL]
  | some q=>rw[O]at H;simp at H
 rw[<-e];exact h2
section
variable {R:List PanicEntry->Wd->Prop}
def Nx (_:List Nat)(P:Program)(l:List Oper)(Q:Exit->Act->Wd->Prop)(R:List PanicEntry->Wd->Prop)(S:Wd->Prop)(f:Nat)(L:Array Bool)(a:Act)(w:Wd):Prop:=D0 P l Q R S l.length f L a w
theorem D4 (pl:List Nat)(S:Wd->Prop)(R:List PanicEntry->Wd->Prop)(O:∀c (a:Act) w,a.defers=[]->R c w->Q (.panic c) a w)(H:P.follows .mixedOrders=true)(I:S w.drew)
 (h:Nx pl P l Q R S l.length (Array.replicate l.toArray.size false) a w.drew):(Code.region id l.toArray true).wp P Q a w:=Jn S R l.length O H I h
def Ce {o:Oper}(hi:l[i]?=some o)(H:o.guard=none)
 (I:(Region.noSelect l.toArray&&(Region.ready .any l.toArray L).contains i&&Region.free .any l.toArray L i)=true)
 (h:∃v,(∀w,S w->(execOp a.eval o).run P w=.ok (.value v) w)/\Nx pl P l Q R S f (L.setIfInBounds i true) (a.put o.dst v) w):Nx (i::pl) P l Q R S (f+1) L a w:=
 Ck _ hi H (by rw[I];simp) h
def FM {o:Oper}{g:FuncId}{R1:Value->Wd->Prop}(hi:l[i]?=some o)(H:decide (Region.ready .any l.toArray L=[i])=true)
 (I:Region.wanted o (yielded l.toArray a.tmps)=true) (U:a.defers=[]) (O:(execOp a.eval o).run P w=.ok (.enter g args) w)
 (X:Calls P g args w λe w'=>(∃v,e=.returned v/\S w'/\R1 v w')\/(∃ch,e=.panicked ch/\R ch w'))
 (h:∀v w',S w'->R1 v w'->Nx pl P l Q R S f (L.setIfInBounds i true) (a.put o.dst v) w'):Nx (i::pl) P l Q R S (f+1) L a w:=by
 refine Df [i] (by rw[XH];exact⟨H,rfl⟩) λj g1 Y o2 g0=>?_
 rw[XB]at g1;subst g1;rw[hi]at g0;cases g0;refine⟨I,?_⟩;refine Jp (R:=λv w'=>S w'/\R1 v w') (R2:=R) O (X.mono ?_) (λv w' hh=>⟨hh.1,h v w' hh.1 hh.2⟩) (λch w' hh=>⟨U,hh⟩);rintro e w' (⟨v,h1,h2⟩|hh)
 . exact .inl ⟨v,h1,h2⟩
 . exact .inr hh
def BX {o:Oper}{g:FuncId}{R1:Value->Wd->Prop}(hi:l[i]?=some o)(H:decide (Region.ready .any l.toArray L=[i])=true)
 (I:Region.wanted o (yielded l.toArray a.tmps)=true) (U:a.defers=[]) (O:(execOp a.eval o).run P w=.ok (.enter g args) w)
 (X:Calls P g args w λe w'=>∃v,e=.returned v/\R1 v w') (Y:∀v w',R1 v w'->S w')
 (h:∀v w',S w'->R1 v w'->Nx pl P l Q R S f (L.setIfInBounds i true) (a.put o.dst v) w'):Nx (i::pl) P l Q R S (f+1) L a w:=
 FM hi H I U O (X.mono λe w' ⟨v,h1,h2⟩=>.inl ⟨v,h1,Y v w' h2,h2⟩) h
def UR {o:Oper}{s x:Operand}(hi:l[i]?=some o)(H:decide (Region.ready .any l.toArray L=[i])=true)
 (O:Region.wanted o (yielded l.toArray a.tmps)=true) (I:o.op=.store t s x) (hs:(Instr.storeAt t (a.eval s) (a.eval x)).run P w=.ok () w') (U:S w')
 (h:Nx pl P l Q R S f (L.setIfInBounds i true) (a.put o.dst undef) w'):Nx (i::pl) P l Q R S (f+1) L a w:=by
 refine Df [i] (by rw[XH];exact⟨H,rfl⟩) λj g1 _ o2 g0=>?_
 rw[XB]at g1;subst g1;rw[hi]at g0;cases g0;exact⟨O,Li I hs ⟨U,h⟩⟩
def US {o:Oper}(hi:l[i]?=some o)(H:decide (Region.ready .any l.toArray L=[i])=true)
 (I:Region.wanted o (yielded l.toArray a.tmps)=true) (O:(execOp a.eval o).run P w=.ok (.value v) w') (U:S w')
 (h:Nx pl P l Q R S f (L.setIfInBounds i true) (a.put o.dst v) w'):Nx (i::pl) P l Q R S (f+1) L a w:=by
 refine Df [i] (by rw[XH];exact⟨H,rfl⟩) λj g1 _ o2 g0=>?_
 rw[XB]at g1;subst g1;rw[hi]at g0;cases g0;exact⟨I,Dc O ⟨U,h⟩⟩
def D5 (H:(Region.ready .any l.toArray L).isEmpty=true)(h:Q .normal a w):Nx [] P l Q R S 0 L a w:=Jo H h
end
def Chg.none' {R:Role->Prop}{o o':Own}{w w':Wd}(h:Chg R o o' w w'){k:Nat}(hk:k<w.heap.size)(H:o k=none):o' k=none:=(ChgX.of_chg h NoB).none' hk H
section
variable {k1 k2:Nat}{o:Own}{T:Nat->Prop}
def AO.base {e:Ending}(h:AtC K k1 o w mb m V o' W m' V')(hk:k1+k2<=k)(X:AO K k2 o' W mb m' V' A e w'):AO K k o w mb m V A e w':=by
 rcases X with ⟨r,o2,m2,V2,rfl,U,O,I⟩|⟨er,H,ev,rfl,q⟩
 . exact .inl ⟨r,o2,m2,V2,rfl,(h.trans U).mono hk,O,I⟩
 . exact .inr ⟨er,H,ev,rfl,q.after h hk⟩
def AO.kind {e:Ending}(I:AO K k o w mb m V A e w'):(∃r:Nat,e=.returned (Iv r))\/∃er H ev,e=A1 er H ev:=by
 rcases I with ⟨r,_,_,_,rfl,_⟩|⟨er,H,ev,rfl,_⟩
 . exact .inl ⟨r,rfl⟩
 . exact .inr ⟨er,H,ev,rfl⟩
end
def UT {R:List PanicEntry->Wd->Prop}{o:Oper}{m x y:Operand}(hi:l[i]?=some o)(H:decide (Region.ready .any l.toArray L=[i])=true)
 (O:Region.wanted o (yielded l.toArray a.tmps)=true) (I:o.op=.mapUpdate t m x y) (hs:(Instr.mapUpdate t (a.eval m) (a.eval x) (a.eval y)).run P w=.ok () w') (U:S w')
 (h:Nx pl P l Q R S f (L.setIfInBounds i true) (a.put o.dst undef) w'):Nx (i::pl) P l Q R S (f+1) L a w:=by
 refine Df [i] (by rw[XH];exact⟨H,rfl⟩) λj g1 _ o2 g0=>?_
 rw[XB]at g1;subst g1;rw[hi]at g0;cases g0;refine⟨O,?_⟩;unfold Oper.wp;simp only[execOp,I,Yx,hs,XY];exact⟨U,h⟩
section
variable {F:Phi}{o:Own}
def AF.other (h:AF F o W mb m)(hl:Ac o W)(hx:Wr C W W')(O:∀k,k<W.heap.size->C k->o k=none):AF F o W' mb m:=by
 obtain⟨s,I⟩:=h;exact⟨s,I.keep (λg r H=>hx.keep g (hl g r H) (λe=>by have:=O g (hl g r H) e;rw[H]at this;cases this)) (λ_ _ h=>h)⟩
end
def valD:List Nat->Nat
 | []=>0
 | d::r=>d+4294967296*valD r
def OkD (ds:List Nat):Prop:=∀d∈ds,d<4294967296
def Trim (ds:List Nat):Prop:=∀k,ds.length=k+1->ds.getD k 0≠0
def digD (x:Nat):List Nat:=if h:x=0 then []else x%4294967296::digD (x/4294967296)
decreasing_by omega
def BY:digD 0=[]:=by unfold digD;simp
def Do (h:x≠0):digD x=x%4294967296::digD (x/4294967296):=by
 rw[digD];simp[h]
def Oc:∀ds:List Nat,OkD ds->Trim ds->digD (valD ds)=ds
 | [],_,_=>BY
 | d::r,ho,ht=>by
   have X:d<4294967296:=ho d (XX ..);have U:OkD r:=λx hx=>ho x (Ys _ hx)
   cases r with
   | nil=>
     have O:d≠0:=ht 0 rfl;have I:valD [d]=d:=by simp[valD]
     rw[I,Do O,show d/4294967296=0 by omega,BY,show d%4294967296=d by omega]
   | cons e q=>
     have g1:Trim (e::q):=λk hk=>by
      have:=ht (k+1) (by simpa using hk);simpa using this
     have H:=Oc (e::q) U g1;have g2:valD (e::q)≠0:=λh0=>by
      rw[h0,BY]at H;cases H
     have I:valD (d::e::q)=d+4294967296*valD (e::q):=rfl;obtain⟨v,g0⟩:=Ex (valD (e::q));rw[I,<-g0];rw[<-g0]at H g2;rw[Do (by omega),show(d+4294967296*v)/4294967296=v by omega,show(d+4294967296*v)%4294967296=d by omega,H]
def Cv (x:Nat):valD (digD x)=x:=by
 induction x using Nat.strongRecOn with
 | ind x H=>
   by_cases h:x=0
   . subst h;rw[BY];rfl
   ·rw[Do h]
    show x%4294967296+4294967296*valD (digD (x/4294967296))=x
    rw[H _ (by omega)];omega
def Kg (x:Nat):OkD (digD x):=by
 induction x using Nat.strongRecOn with
 | ind x I=>
   by_cases h:x=0
   . subst h;rw[BY];intro d H;cases H
   ·rw[Do h];intro d H;rcases Yy.1 H with rfl|H
    . omega
    . exact I _ (by omega) d H
abbrev ZI:=@Nat.mul_assoc
def E5:∀a b:List Nat,valD (a++b)=valD a+4294967296^a.length*valD b
 | [],b=>by simp[valD]
 | d::r,b=>by
   show d+4294967296*valD (r++b)=d+4294967296*valD r+_
   rw[E5 r b,XL,XJ,ZB,aN (4294967296^r.length) 4294967296,ZI,Zq]
def GY:∀b:List Nat,(∀d∈b,d=0)->valD b=0
 | [],_=>rfl
 | d::r,h=>by
   show d+4294967296*valD r=0
   rw[GY r λx hx=>h x (Ys _ hx),h d (XX ..)]
def GZ:∀ds:List Nat,OkD ds->valD ds<4294967296^ds.length
 | [],_=>by simp[valD]
 | d::r,h=>by
   have h1:=GZ r λx hx=>h x (Ys _ hx)
   have h2:=h d (XX ..)
   show d+4294967296*valD r<4294967296^(r.length+1)
   rw[XJ,aN]
   generalize 4294967296^r.length=p at *
   omega
def UU (Y:OkD ds)(hk:k<=ds.length)(U:∀j,k<=j->j<ds.length->ds.getD j 0=0)(H:k=0\/ds.getD (k-1) 0≠0):digD (valD ds)=ds.take k:=by
 have X:valD ds=valD (ds.take k):=by
  have:=E5 (ds.take k) (ds.drop k);rw[YV]at this;rw[this,GY (ds.drop k) λd I=>?_]
  . simp
  ·obtain⟨i,hi,rfl⟩:=Yn I;have g1:k+i<ds.length:=by simp at hi;omega
   have:=U (k+i) (by omega) g1;rw[List.getElem_drop];simpa [List.getD,Xy g1]using this
 rw[X];refine Oc _ (λd I=>Y d (List.mem_of_mem_take I)) λj O=>?_
 have hl:(ds.take k).length=k:=by simp;omega
 rw[hl]at O;rcases H with rfl|H
 . cases O
 ·rw[show k-1=j by omega]at H;have g0:j<ds.length:=by omega
  simp only[List.getD,Xy g0]at H;simp only[List.getD,Zt,Xx (show j<k by omega),Xy g0];exact H
structure U32At (w:Wd)(a:Option Addr)(ds:List Nat):Prop where
 len:ds.length<=1000000
 ok:OkD ds
 cells:∀k,k<ds.length->∃b off,a=some (Aw b off)/\w.cell? (Aw b (off+k))=some (.int .u32 (ds.getD k 0:Nat))
def NatV (w:Wd)(v:Value)(x:Nat):Prop:=∃a c,v=.slice a (digD x).length c/\(digD x).length<=c/\c<=1000000/\U32At w a (digD x)
def U32At.below {a:Option Addr}(h:U32At w a ds)(hb:Bw w w'):U32At w' a ds:=
 ⟨h.len,h.ok,λk hk=>by
  obtain⟨b,off,h1,h2⟩:=h.cells k hk;exact⟨b,off,h1,(Cq hb h2)⟩⟩
def NatV.below {w w':Wd}{v:Value}{x:Nat}(h:NatV w v x)(hb:Bw w w'):NatV w' v x:=by
 obtain⟨a,c,h1,h2,h3,H⟩:=h;exact⟨a,c,h1,h2,h3,H.below hb⟩
def U32At.take {w:Wd}{a:Option Addr}{ds:List Nat}(h:U32At w a ds)(k:Nat):U32At w a (ds.take k):=by
 refine⟨by have:=h.len;simp;omega,λd I=>h.ok d (List.mem_of_mem_take I),λj H=>?_⟩;have g0:j<k/\j<ds.length:=by simpa [Nat.lt_min]using H
 obtain⟨b,off,h1,h2⟩:=h.cells j g0.2;refine⟨b,off,h1,?_⟩;simp only[List.getD,Zt,Xx g0.1];exact h2
def Kh {a:Option Addr}(h:U32At w a ds)(n:ds.length<=c)(g:c<=1000000):
 Cl 78 #[.slice a ds.length c] w λx w'=>(∃k:Nat,x=.returned (.slice a k k)/\NatV w (.slice a k k) (valD ds))/\w=w':=by
 have l:=Hd h;have g3:=h.len;obtain⟨P,X⟩:=Ex (λx w'=>(∃k:Nat,x=.returned (.slice a k k)/\NatV w (.slice a k k) (valD ds))/\w=w':Ending->Wd->Prop)
 have g0:Hq (∀k:Nat,k<=ds.length->(∀j,k<=j->j<ds.length->ds.getD j 0=0)->(k=0\/ds.getD (k-1) 0≠0)->P (.returned (.slice a k k)) w):=Hd λk h1 h2 h3=>by
  rw[X];have e:=UU h.ok h1 h2 h3;have hl:(ds.take k).length=k:=by simp;omega
  refine⟨⟨k,rfl,a,k,?_,?_,by omega,?_⟩,rfl⟩
  . rw[e,hl]
  . rw[e,hl];exact Xs _
  . rw[e];exact h.take k
 rw[<-X];clear X h
 go_enter func78,ntmps78
 go_wp2
 go_loopw [3] (λO wr=>∃k:Nat,k<=ds.length/\O=Iv k/\Hq (∀j,k<=j->j<ds.length->ds.getD j 0=0)/\Hq (wr=w)) (λO _=>(intOf O).toNat)
 case atStart=>exact⟨ds.length,Xs _,rfl,Hd (λj h1 h2=>absurd h2 (by omega)),Hd rfl⟩
 case round=>
  obtain⟨k,hk,rfl,I,i⟩:=hrel;have f:=i.o;subst f;have g6:(k:Int)<=(c:Int):=by omega
  by_cases m:0<k
  ·have g5:(0:Int)<(k:Int):=by omega
   obtain⟨b,off,rfl,Z⟩:=l.o.cells (k-1) (by omega);have g1:(k:Int)-1=((k-1:Nat):Int):=by omega
   have g7:k-1<ds.length:=by omega
   have g4:((k-1:Nat):Int)<(ds.length:Int):=by omega
   by_cases H:ds.getD (k-1) 0=0
   ·rw[H]at Z;have g2:Hq (∀j,k-1<=j->j<ds.length->ds.getD j 0=0):=Hd λj h1 h2=>by
     rcases X9 j k with c1|c1
     . rw[show j=k-1 by omega];exact H
     . exact I.o j c1 h2
    clear H g0 I;go_wp2;go_roundw
    case rel=>exact⟨k-1,by omega,by first|rfl|rw[<-g1],g2,Hd trivial⟩
    case measure=>simp[intOf];omega
   ·obtain⟨d,U⟩:=Ex (ds.getD (k-1) 0);rw[<-U]at Z;have g9:¬ d=0:=by rw[U];exact H
    have g8:¬ (d:Int)=0:=by omega
    clear U;have Y:=Hd (g0.o k hk I.o (.inr H));clear H g0 I;go_wp2_with fail;exact Y.o
  ·obtain rfl:k=0:=by omega
   have Y:=Hd (g0.o 0 hk I.o (.inl rfl));clear g0 I;go_wp2_with fail;exact Y.o
def UV {a:Option Addr}(h:U32At w a ds)(I:ds.length<=c)(H:c<=1000000):
 Cl 78 #[.slice a ds.length c] w λx w'=>(∃v,x=.returned v/\NatV w v (valD ds))/\w=w':=
 (Kh h I H).mono λ_ _ ⟨⟨_,h1,h2⟩,h3⟩=>⟨⟨_,h1,h2⟩,h3⟩
def Ia (h:U32At w (some (Av g)) ds)(I:ds.length<=c)(H:c<=1000000):
 Cl 78 #[.slice (some (Av g)) ds.length c] w λx w'=>(∃v,x=.returned v/\NatV w v (valD ds)/\∀q,v.ownBlock=some q->q=g)/\w=w':=
 (Kh h I H).mono λ_ _ ⟨⟨_,h1,h2⟩,h3⟩=>⟨⟨_,h1,h2,λ_ e=>(Yr e).symm⟩,h3⟩
def Ib (Z:n<18446744073709551616):
 Cl 27 #[.int .u64 n] w λx w'=>(∃v,x=.returned v/\NatV w' v n/\∀q,v.ownBlock=some q->w.heap.size<=q)/\Bw w w':=by
 obtain⟨w1,g0⟩:=Ex (w.alloc (.cells #[.int .u32 ((n:Int)%4294967296),.int .u32 ((n:Int)/4294967296)] 136));have g1:w1.heap[w.heap.size]?=some (.cells #[.int .u32 ((n:Int)%4294967296),.int .u32 ((n:Int)/4294967296)] 136 (0,0)):=by rw[g0];exact Xv _ _
 have g2:Bw w w1:=by rw[g0];exact Ag _ _
 have hu:U32At w1 (some (Av w.heap.size)) [n%4294967296,n/4294967296]:=by
  refine⟨by simp,λd X=>?_,λk hk=>⟨_,_,rfl,?_⟩⟩
  . simp at X;omega
  ·rw[Xw _ _ _ _ _ _ g1];have g3:k<2:=by simpa using hk
   rcases(show k=0\/k=1 by omega)with rfl|rfl
   ·show some (Value.int .u32 ((n:Int)%4294967296))=some (.int .u32 ((n%4294967296:Nat):Int))
    rw[show((n%4294967296:Nat):Int)=(n:Int)%4294967296 by omega]
   ·show some (Value.int .u32 ((n:Int)/4294967296))=some (.int .u32 ((n/4294967296:Nat):Int))
    rw[show((n/4294967296:Nat):Int)=(n:Int)/4294967296 by omega]
 have H:=Ia (c:=2) hu (by simp) (by omega);have O:valD [n%4294967296,n/4294967296]=n:=by
  show n%4294967296+4294967296*(n/4294967296+4294967296*0)=n
  omega
 rw[O]at H
 have I:Hq (Cl 78 #[.slice (some (Av w.heap.size)) 2 2] w1 λx w'=>∃v,x=.returned v/\(NatV w' v n/\∀q,v.ownBlock=some q->w.heap.size<=q)/\Bw w w'):=Hd (H.mono (by
  rintro x w' ⟨⟨v,rfl,h,U⟩,rfl⟩;exact⟨v,rfl,⟨h,λq e=>by rw[U q e];exact Xs _⟩,g2⟩))
 rw[g0]at I;clear H hu g2 g1 g0 O
 go_enter func27,ntmps27
 go_wp2_with fail;refine I.o.mono ?_;rintro x w' ⟨v,rfl,h1,h2⟩;have Y:=Hd (show(∃v',Ending.returned v=.returned v'/\NatV w' v' n/\∀q,v'.ownBlock=some q->w.heap.size<=q)/\Bw w w' from⟨⟨v,rfl,h1⟩,h2⟩);clear h1 h2 I;go_wp2;go_ret;exact Y.o
def UW (H:n<18446744073709551616):
 Cl 27 #[.int .u64 n] w λx w'=>(∃v,x=.returned v/\NatV w' v n)/\Bw w w':=
 (Ib H).mono λ_ _ ⟨⟨v,h1,h2,_⟩,h3⟩=>⟨⟨v,h1,h2⟩,h3⟩
def cmpZ (x y:Nat):Int:=if x<y then -1 else if y<x then 1 else 0
def Ic (h:NatV w v x):Cl 78 #[v] w λe w'=>(∃v',e=.returned v'/\NatV w v' x)/\w=w':=by
 obtain⟨a,c,rfl,h1,h2,h3⟩:=h;have:=UV h3 h1 h2
 rwa [Cv]at this
def Oe:∀x n,n<(digD x).length->4294967296^n<=x:=by
 intro x
 induction x using Nat.strongRecOn with
 | ind x I=>
   intro n H
   by_cases h:x=0
   . subst h;rw[BY]at H;cases H
   ·rw[Do h]at H;cases n with
    | zero=>simp;omega
    | succ n=>
      have:=I (x/4294967296) (by omega) n (by simpa using H);rw[XJ]
      generalize 4294967296^n=p at *
      omega
def Ie (x:Nat):x<4294967296^(digD x).length:=by
 have:=GZ (digD x) (Kg x)
 rwa [Cv]at this
def Ki (h:(digD x).length<(digD y).length):x<y:=X5 (Ie x) (Oe y _ h)
def FN (hi:i<ds.length):ds.drop i=ds.getD i 0::ds.drop (i+1):=by
 rw[Yc hi];simp[List.getD,Xy hi]
def Of (hi:i<ds.length):valD ds=valD (ds.take i)+4294967296^i*(ds.getD i 0+4294967296*valD (ds.drop (i+1))):=by
 have:=E5 (ds.take i) (ds.drop i);rw[YV,FN hi,YB,Zo (by omega)]at this;exact this
def Og {a b:List Nat}(H:OkD a)(X:i<a.length)(hb:i<b.length)(I:a.drop (i+1)=b.drop (i+1))(O:a.getD i 0<b.getD i 0):valD a<valD b:=by
 rw[Of X,Of hb,I];have h1:=GZ (a.take i) λd U=>H d (List.mem_of_mem_take U)
 rw[YB,Zo (by omega)]at h1;have h2:=Nat.mul_le_mul_left (4294967296^i) (show a.getD i 0+4294967296*valD (b.drop (i+1))+1<=b.getD i 0+4294967296*valD (b.drop (i+1))by omega);rw[ZB,Nat.mul_one]at h2;omega
def Kj {v1 v2:Value}(h1:NatV w v1 x)(h2:NatV w v2 y):
 Cl 75 #[v1,v2] w (Bl (Iv (cmpZ x y)) w):=by
 have gc:=Hd (Ic h1);have l:=Hd (Ic h2);obtain⟨P,X⟩:=Ex ((Bl (Iv (cmpZ x y)) w):Ending->Wd->Prop)
 have g0:Hq (∀w',x<y->Bw w w'->P (.returned (Iv (-1))) w'):=Hd λw' h hb=>by rw[X];unfold cmpZ;rw[Xx h];exact⟨rfl,hb⟩
 have g1:Hq (∀w',y<x->Bw w w'->P (.returned (Iv 1)) w'):=Hd λw' h hb=>by rw[X];unfold cmpZ;rw[Xu (by omega),Xx h];exact⟨rfl,hb⟩
 have g6:Hq (∀w',x=y->Bw w w'->P (.returned (Iv 0)) w'):=Hd λw' h hb=>by rw[X];unfold cmpZ;rw[Xu (by omega),Xu (by omega)];exact⟨rfl,hb⟩
 rw[<-X];clear X h1 h2
 go_enter func75,ntmps75
 go_wp2_with fail;refine gc.o.mono ?_;rintro e w' ⟨⟨p,rfl,ge⟩,rfl⟩;obtain⟨G,c1,rfl,k1,D,a⟩:=ge;clear gc;go_wp2_with fail;refine l.o.mono ?_;rintro e w' ⟨⟨n,rfl,u⟩,rfl⟩;obtain⟨a2,c2,rfl,k2,C,Z⟩:=u;clear l;have t:=Hd a;have gf:=Hd Z;have m1:=a.len;have m2:=Z.len;have i:=Hd (show Bw w w from X7 _ _);clear a Z;obtain⟨H,g9⟩:∃L,L=(digD x).length:=⟨_,rfl⟩;obtain⟨Y,g8⟩:∃L,L=(digD y).length:=⟨_,rfl⟩;rw[<-g9]at k1 m1⊢;rw[<-g8]at k2 m2⊢;have g5:=Hd g9;have g4:=Hd g8;clear g9 g8;rcases Zx H Y with c|c|c
 ·have v:(H:Int)<(Y:Int):=by omega
  have z:¬ (H:Int)=(Y:Int):=by omega
  have I:=Hd (g0.o w (Ki (by rw[<-g5.o,<-g4.o];exact c)) i.o);clear g0 g1 g6;go_wp2_with fail;exact I.o
 ·subst c;go_wp2
  go_loopw [5,27,37] (λb _ _ wr=>∃k:Nat,k<=H/\b=Iv ((k:Int)-1)/\Hq (Bw w wr)/\Hq ((digD x).drop k=(digD y).drop k)) (λb _ _ _=>(intOf b+1).toNat)
  case atStart=>exact⟨H,Xs _,rfl,i,Hd (by rw[aL (by rw[<-g5.o];exact Xs _),aL (by rw[<-g4.o];exact Xs _)])⟩
  case round=>
   obtain⟨k,hk,rfl,O,U⟩:=hrel;cases k with
   | zero=>
     have I:=Hd (g6.o wr (by
      have:=U.o;rw[List.drop_zero,List.drop_zero]at this;rw[<-Cv x,<-Cv y,this]) O.o)
     clear g0 g1 g6 U;go_wp2_with fail;exact I.o
   | succ k=>
     have hi:k<H:=by omega
     obtain⟨b1,o1,rfl,g⟩:=t.o.cells k (by rw[<-g5.o];exact hi);obtain⟨b2,o2,rfl,f⟩:=gf.o.cells k (by rw[<-g4.o];exact hi);obtain⟨d1,g3⟩:∃d,d=(digD x).getD k 0:=⟨_,rfl⟩;obtain⟨d2,g2⟩:∃d,d=(digD y).getD k 0:=⟨_,rfl⟩;rw[<-g3]at g;rw[<-g2]at f;have B:=Cq O.o g;have A:=Cq O.o f;clear g f;have g7:((k+1:Nat):Int)-1=(k:Int):=by omega
     have F:(k:Int)<(H:Int):=by omega
     have E:(0:Int)<=(k:Int):=by omega
     rw[g7];rcases Zx d1 d2 with e|e|e
     ·have m:(d1:Int)<(d2:Int):=by omega
      have I:=Hd (λq=>g0.o (wr.drewN q) (by
       have:=Og (Kg x) (by rw[<-g5.o];exact hi) (by rw[<-g4.o];exact hi) U.o (by rw[<-g3,<-g2];exact e)
       rwa [Cv,Cv]at this) (O.o.trans ((An wr q).mono O.o.size)))
      clear g0 g1 g6 U g7 g3 g2;go_wp2
      go_quiet (fail)
      go_wp2_with fail;exact I.o _
     ·have m:¬ (d1:Int)<(d2:Int):=by omega
      have j:¬ (d2:Int)<(d1:Int):=by omega
      have HB2:=Hd (λq=>O.o.trans ((An wr q).mono O.o.size))
      have s:Hq ((digD x).drop k=(digD y).drop k):=Hd (by
       rw[FN (ds:=digD x) (by rw[<-g5.o];exact hi),FN (ds:=digD y) (by rw[<-g4.o];exact hi),U.o,<-g3,<-g2,e])
      clear g0 g1 g6 U g7 g3 g2 e;go_wp2
      go_quiet (fail)
      go_wp2
      go_quiet (fail)
      go_wp2;go_roundw
      case rel=>exact⟨k,by omega,by rfl,Hd (HB2.o _),s⟩
      case measure=>simp[intOf]
     ·have m:¬ (d1:Int)<(d2:Int):=by omega
      have j:(d2:Int)<(d1:Int):=by omega
      have I:=Hd (λq r=>g1.o ((wr.drewN q).drewN r) (by
       have:=Og (Kg y) (by rw[<-g4.o];exact hi) (by rw[<-g5.o];exact hi) U.o.symm (by rw[<-g3,<-g2];exact e)
       rwa [Cv,Cv]at this) (O.o.trans (((An wr q).trans (An (wr.drewN q) r)).mono O.o.size)))
      clear g0 g1 g6 U g7 g3 g2;go_wp2
      go_quiet (fail)
      go_wp2
      go_quiet (fail)
      go_wp2_with fail;exact I.o _ _
 ·have v:¬ (H:Int)<(Y:Int):=by omega
  have z:¬ (H:Int)=(Y:Int):=by omega
  have I:=Hd (g1.o w (Ki (by rw[<-g5.o,<-g4.o];exact c)) i.o);clear g0 g1 g6;go_wp2_with fail;exact I.o
section
variable {R:List PanicEntry->Wd->Prop}{m:Nat}
def DX (P:Program)(ops:Array Oper)(Q:Exit->Act->Wd->Prop)(S:Wd->Prop)(m:Nat):Nat->Array Bool->Act->Wd->Prop
 | 0,L,a,w=>Region.ready .any ops L=[]/\Q .normal a w
 | f+1,L,a,w=>(Region.ready .any ops L=[]->Q .normal a w) /\
   ∀i∈Region.ready .any ops L,wpOp P ops Q i (λH w'=>((L.setIfInBounds i true).getD m false=true\/S w')/\DX P ops Q S m f (L.setIfInBounds i true) H w') a w
def Oh {m:Nat}:∀(f:Nat) (L:Array Bool) (a:Act) (w:Wd),DX P ops Q S m f L a w->wpAny P .any ops Q f L a w
 | 0,_,_,_,h=>h
 | f+1,_,_,_,h=>⟨h.1,λi hi=>wpOp_mono (λI w' H=>Oh f _ I w' H.2) (h.2 i hi)⟩
def FO (h:i≠j):(L.setIfInBounds i true).getD j false=L.getD j false:=getD_set_ne false h
def UX {m:Nat}{U:Oper}(hi:ops[i]?=some U)(hs:Region.noSelect ops=true)(q:∀c (a:Act) d v w,Q (.panic c) (a.put d v) w->Q (.panic c) a w)
 (l:reaches ops ops.size i m=true):
 ∀(f:Nat) (L:Array Bool) (a:Act) (w:Wd),Closed ops L ->
  (∀j O,ops[j]?=some O->j≠i->L.getD j true=false->(∀e∈O.after,Region.binds .any e=true->e.on≠i)->U.apart ops O=true) ->
  i∈Region.ready .any ops L->YieldsIf P ops S U v a->S w ->
  DX P ops Q S m f (L.setIfInBounds i true) (a.put U.dst v) w->DX P ops Q S m (f+1) L a w:=by
 intro f
 induction f with
 | zero=>
   intro L a w _ _ I Z Y H;refine⟨λh=>(by rw[h]at I;cases I),λj X=>?_⟩
   by_cases g0:j=i
   . subst g0;exact Z.wpOp hi Y ⟨.inr Y,H⟩
   . have:=ZW X g0;rw[H.1]at this;cases this
 | succ f n=>
   intro L a w g g2 I Z Y H;refine⟨λh=>(by rw[h]at I;cases I),λj X=>?_⟩
   by_cases g0:j=i
   . subst g0;exact Z.wpOp hi Y ⟨.inr Y,H⟩
   ·have h1:=H.2 j (ZW X g0);obtain⟨g4,O,g3,t⟩:=ZZ.1 X;have g1:=I2 (ZZ.1 I).1;have g9:∀e∈O.after,Region.binds .any e=true->e.on≠i:=λe p hb r=>by
     have h1:=t e p hb;rw[r,g1]at h1;cases h1
    have ge:j≠m:=by
     rintro rfl;have:=Fp g _ _ (.inl X) l;rw[g1]at this;cases this
    have gf:i≠m:=by
     rintro rfl;have:=Fp g _ _ (.inl I) l;rw[g1]at this;cases this
    have u:¬ L.getD m false=true:=λe=>by
     have:=Fp g _ _ (.inr e) l;rw[g1]at this;cases this
    have h2:=wpOp_putIf g3 (g2 j O g3 g0 g4 g9) (λcs b=>Zy hs i U cs b hi) (λcs b=>Zy hs j O cs b g3) (λc a w=>q c a _ _ w) Z h1;have g5:∀k ok,ops[k]?=some ok->k≠i->(L.setIfInBounds j true).getD k true=false ->
     (∀e∈ok.after,Region.binds .any e=true->e.on≠i)->U.apart ops ok=true:=λk ok hk s g6 gc=>by
     refine g2 k ok hk s ?_ gc
     by_cases g7:j=k
     . subst g7;exact g4
     . rw[getD_set_ne true g7]at g6;exact g6
    refine wpOp_mono (λx w' h3=>?_) h2;have g8:S w':=h3.2.1.resolve_left (by rw[FO ge,FO gf];exact u);refine⟨.inr g8,n (L.setIfInBounds j true) x w' (g.set X) g5 (ZW I (Ye g0)) h3.1 g8 ?_⟩;rw[Z1 _ _ g0];exact h3.2.2
def UY {m:Nat}{X:Oper}(hi:ops[i]?=some X)(hs:Region.noSelect ops=true)(r:∀c (a:Act) d v w,Q (.panic c) (a.put d v) w->Q (.panic c) a w)
 (U:i≠m):
 ∀(f:Nat) (L:Array Bool) (a:Act) (w:Wd),Closed ops L ->
  (∀j I,ops[j]?=some I->j≠i->L.getD j true=false->(∀e∈I.after,Region.binds .any e=true->e.on≠i)->X.apart ops I=true) ->
  i∈Region.ready .any ops L->YieldsIf P ops (λ_=>True) X v a->(L.getD m false=true\/S w) ->
  DX P ops Q S m f (L.setIfInBounds i true) (a.put X.dst v) w->DX P ops Q S m (f+1) L a w:=by
 intro f
 induction f with
 | zero=>
   intro L a w _ _ O Z g H;refine⟨λh=>(by rw[h]at O;cases O),λj Y=>?_⟩
   by_cases g0:j=i
   . subst g0;exact Z.wpOp hi trivial ⟨by rw[FO U];exact g,H⟩
   . have:=ZW Y g0;rw[H.1]at this;cases this
 | succ f n=>
   intro L a w q g1 O Z g H;refine⟨λh=>(by rw[h]at O;cases O),λj Y=>?_⟩
   by_cases g0:j=i
   . subst g0;exact Z.wpOp hi trivial ⟨by rw[FO U];exact g,H⟩
   ·have h1:=H.2 j (ZW Y g0);obtain⟨g3,I,g2,u⟩:=ZZ.1 Y;have g9:=I2 (ZZ.1 O).1;have g8:∀e∈I.after,Region.binds .any e=true->e.on≠i:=λe p hb s=>by
     have h1:=u e p hb;rw[s,g9]at h1;cases h1
    have h2:=wpOp_putIf g2 (g1 j I g2 g0 g3 g8) (λcs b=>Zy hs i X cs b hi) (λcs b=>Zy hs j I cs b g2) (λc a w=>r c a _ _ w) Z h1;have g4:∀k ok,ops[k]?=some ok->k≠i->(L.setIfInBounds j true).getD k true=false ->
     (∀e∈ok.after,Region.binds .any e=true->e.on≠i)->X.apart ops ok=true:=λk ok hk gc g5 t=>by
     refine g1 k ok hk gc ?_ t
     by_cases g6:j=k
     . subst g6;exact g3
     . rw[getD_set_ne true g6]at g5;exact g5
    refine wpOp_mono (λx w' h3=>?_) h2;have g7:(L.setIfInBounds j true).getD m false=true\/S w':=by
     have l:=h3.2.1;rw[Z1 _ _ (Ye g0),FO U]at l;exact l
    refine⟨g7,n (L.setIfInBounds j true) x w' (q.set Y) g4 (ZW O (Ye g0)) h3.1 g7 ?_⟩;rw[Z1 _ _ g0];exact h3.2.2
structure Ff (P:Program)(l:List Oper)(Q:Exit->Act->Wd->Prop)(R:List PanicEntry->Wd->Prop)(S:Wd->Prop)(m f:Nat)(L:Array Bool)(a:Act)(w:Wd):Prop where
 goes:Closed l.toArray L->S w->DX P l.toArray (PP R Q) S m f L a w
structure DY (P:Program)(l:List Oper)(Q:Exit->Act->Wd->Prop)(R:List PanicEntry->Wd->Prop)(S:Wd->Prop)(m f:Nat)(L:Array Bool)(a:Act)(w:Wd):Prop where
 goes:DX P l.toArray (PP R Q) S m f L a w
theorem Oi (S:Wd->Prop)(R:List PanicEntry->Wd->Prop)(m:Nat)(O:∀c (a:Act) w,a.defers=[]->R c w->Q (.panic c) a w)(H:P.follows .mixedOrders=true)(I:S w.drew)
 (h:Ff P l Q R S m l.length (Array.replicate l.toArray.size false) a w.drew):(Code.region id l.toArray true).wp P Q a w:=
 LS O (wp_region_any H (Oh _ _ _ _ (h.goes (Gl _) I)))
def AW (i:Nat){o:Oper}(hi:l[i]?=some o)(Y:o.guard=none)
 (O:(Region.noSelect l.toArray&&(Region.ready .any l.toArray L).contains i&&Region.free .any l.toArray L i&&reaches l.toArray l.toArray.size i m)=true)
 (h:∃v,(∀w,S w->(execOp a.eval o).run P w=.ok (.value v) w)/\Ff P l Q R S m f (L.setIfInBounds i true) (a.put o.dst v) w):Ff P l Q R S m (f+1) L a w:=by
 obtain⟨v,h1,h2⟩:=h;refine⟨λH I=>?_⟩;simp only[XH]at O;obtain⟨⟨⟨hs,U⟩,Z⟩,X⟩:=O;have g1:l.toArray[i]?=some o:=by simpa using hi
 have g0:i∈Region.ready .any l.toArray L:=by simpa using U
 exact UX g1 hs Jm X f L a w H (aU g1 Z) g0 (.inl ⟨by simp[Region.wanted,Y],h1⟩) I (h2.goes (H.set g0) I)
def Oj (i:Nat){o:Oper}(hi:l[i]?=some o)(Y:o.guard=none)
 (O:(Region.noSelect l.toArray&&(Region.ready .any l.toArray L).contains i&&Region.free .any l.toArray L i&&decide (i≠m))=true)
 (h:∃v,(∀w,(execOp a.eval o).run P w=.ok (.value v) w)/\Ff P l Q R S m f (L.setIfInBounds i true) (a.put o.dst v) w):Ff P l Q R S m (f+1) L a w:=by
 obtain⟨v,h1,h2⟩:=h;refine⟨λH I=>?_⟩;simp only[XH]at O;obtain⟨⟨⟨hs,U⟩,Z⟩,X⟩:=O;have g1:l.toArray[i]?=some o:=by simpa using hi
 have g0:i∈Region.ready .any l.toArray L:=by simpa using U
 exact UY g1 hs Jm (YG X) f L a w H (aU g1 Z) g0 (.inl ⟨by simp[Region.wanted,Y],λw _=>h1 w⟩) (.inr I) (h2.goes (H.set g0) I)
def Ol (i:Nat){o:Oper}(hi:l[i]?=some o)(H:(decide (Region.ready .any l.toArray L=[i])&&(L.setIfInBounds i true).getD m false)=true)
 (U:Region.wanted o (yielded l.toArray a.tmps)=true) (h:o.wp P a w (λO w'=>DY P l Q R S m f (L.setIfInBounds i true) O w') (PP R Q)):DY P l Q R S m (f+1) L a w:=by
 rw[XH]at H;have g0:=YG H.1;refine⟨⟨λh0=>(by rw[h0]at g0;cases g0),λj I=>?_⟩⟩;have g1:j=i:=by rw[g0]at I;simpa using I
 subst g1;have g2:l.toArray[j]?=some o:=by simpa using hi
 unfold wpOp;rw[g2];simp only[U,Y1];left;refine Oper.wp_mono ?_ h;intro O w' h2;exact⟨.inl H.2,h2.goes⟩
def Om (h:DY P l Q R S m f L a w):Ff P l Q R S m f L a w:=⟨λ_ _=>h.goes⟩
def On (H:(Region.ready .any l.toArray L).isEmpty=true)(h:Q .normal a w):DY P l Q R S m 0 L a w:=
 ⟨⟨by simpa [ZR]using H,h⟩⟩
def Oo (i:Nat){o:Oper}{s x:Operand}(hi:l[i]?=some o)(I:(decide (Region.ready .any l.toArray L=[i])&&(L.setIfInBounds i true).getD m false)=true)
 (H:Region.wanted o (yielded l.toArray a.tmps)=true) (O:o.op=.store t s x) (hs:(Instr.storeAt t (a.eval s) (a.eval x)).run P w=.ok () w')
 (h:DY P l Q R S m f (L.setIfInBounds i true) (a.put o.dst undef) w'):DY P l Q R S m (f+1) L a w:=by
 refine Ol i hi I H ?_;unfold Oper.wp;simp only[execOp,O,Yx,hs,XY];exact h
def Oq (i:Nat){o:Oper}(hi:l[i]?=some o)(I:(decide (Region.ready .any l.toArray L=[i])&&(L.setIfInBounds i true).getD m false)=true)
 (H:Region.wanted o (yielded l.toArray a.tmps)=true) (O:(execOp a.eval o).run P w=.ok (.value v) w')
 (h:DY P l Q R S m f (L.setIfInBounds i true) (a.put o.dst v) w'):DY P l Q R S m (f+1) L a w:=by
 refine Ol i hi I H ?_;unfold Oper.wp;simp only[O];exact h
end
def If:Dg 136 40 (.int .u32 0) 4:=⟨underlying40,by kernel_rfl,rfl,by omega⟩
def u32V (ds:List Nat):List Value:=ds.map λd:Nat=>(.int .u32 (d:Int):Value)
def Cn (ds:List Nat):(u32V ds).length=ds.length:=by simp[u32V]
def Ot (hk:k<ds.length):(u32V ds)[k]?=some (.int .u32 (ds.getD k 0:Nat)):=by
 simp[u32V,Xy hk,List.getD]
def UZ (ds:List Nat)(k d:Nat):(u32V ds).set k (.int .u32 (d:Nat))=u32V (ds.set k d):=by simp[u32V,Zp]
def RowU (w:Wd)(g:Nat)(ds:List Nat):Prop:=w.heap[g]?=some (.cells (u32V ds).toArray 136 (0,0))
def RowU.cell {w:Wd}{g k:Nat}{ds:List Nat}(h:RowU w g ds)(hk:k<ds.length):w.cell? (Aw g k)=some (.int .u32 (ds.getD k 0:Nat)):=by
 unfold RowU at h;rw[Xw _ _ k _ _ _ h];simpa using Ot hk
def RowU.at (h:RowU w g ds)(H:OkD ds)(hl:ds.length<=1000000):U32At w (some (Av g)) ds:=
 ⟨hl,H,λk hk=>⟨g,0,rfl,by rw[XO];exact h.cell hk⟩⟩
def RowU.set {w:Wd}{g k d:Nat}{ds:List Nat}(h:RowU w g ds):RowU (w.setCell (Aw g k) (.int .u32 (d:Nat))) g (ds.set k d):=by
 unfold RowU at h⊢;have g0:g<w.heap.size:=(Xt.1 h).1
 show(w.heap.modify g _)[g]?=_
 rw[Zv,Xx rfl,h,<-UZ];simp
def RowU.drewN {w:Wd}{g:Nat}{ds:List Nat}(h:RowU w g ds)(q:Nat):RowU (w.drewN q) g ds:=h
def Ig {base:Nat}(h:OwnC T w base (.slice (some (Av g)) n n) xs)(I:xs.length=n):w.heap[g]?=some (.cells xs.toArray T (0,0)):=by
 obtain⟨h1,⟨h2,_⟩|⟨g',cap,H,e,h3,X,Z,Y,U,O⟩⟩:=h
 . cases h2
 ·cases e;rw[X];have:H.toList=xs:=by
   rw[<-O,I];exact(XK (by simp[U])).symm
  rw[<-this]
def Ou {α:Type}{H cs:List α}(h:cs.length=H.length):splice H 0 cs=cs:=by
 unfold splice;rw[aF,Yv,XO,h,aW,Y5]
def Fg (a b:Nat)(H:a<4294967296)(hb:b<4294967296):(BitVec.ofInt 32 (a:Int)).toNat=a/\(BitVec.ofInt 32 (b:Int)).toNat=b:=by
 constructor<;>(rw[BitVec.ofInt_natCast,BitVec.toNat_ofNat];exact aT (by omega))
abbrev Zs:=@IntKind.wrap_u32
def Va (a:Nat)(H:a<4294967296):bits .and .u32 (a:Int) 1=((a%2:Nat):Int):=by
 obtain⟨h1,h2⟩:=Fg a 1 H (by omega)
 show IntKind.u32.wrap ((BitVec.ofInt 32 (a:Int) &&& BitVec.ofInt 32 ((1:Nat):Int)).toNat:Int)=_
 rw[BitVec.toNat_and,h1,h2,Nat.and_one_is_mod,Zs];omega
def Vb (a c:Nat)(I:a<2147483648)(H:c<=1):bits .or .u32 (a:Int) (IntKind.u32.wrap ((c:Int)*2147483648))=((a+c*2147483648:Nat):Int):=by
 have e:IntKind.u32.wrap ((c:Int)*2147483648)=((c*2147483648:Nat):Int):=by rw[Zs];omega
 rw[e];obtain⟨h1,h2⟩:=Fg a (c*2147483648) (by omega) (by omega)
 show IntKind.u32.wrap ((BitVec.ofInt 32 (a:Int) ||| BitVec.ofInt 32 ((c*2147483648:Nat):Int)).toNat:Int)=_
 rw[BitVec.toNat_or,h1,h2,Nat.or_comm,show c*2147483648=2^31*c by omega,<-Nat.two_pow_add_eq_or_of_lt (by omega) c,Zs];omega
def Ih:(prog.info? 136).map (·.size)=some 1:=by kernel_rfl
def Ii (ds:List Nat):∀v∈u32V ds,v.oneCell'=true:=λv H=>by
 obtain⟨d,_,rfl⟩:=X6.1 H;rfl
def U32At.src {a:Option Addr}(h:U32At w a ds)(X:0<ds.length):∃U,a=some U/\∀j v,(u32V ds)[j]?=some v->w.cell? (U.add j)=some v:=by
 obtain⟨b,off,rfl,_⟩:=h.cells 0 X;refine⟨_,rfl,λj v H=>?_⟩;have I:j<ds.length:=by
  have:=(XI.1 H).1
  rwa [Cn]at this
 rw[Ot I]at H;obtain⟨Y,off',e,O⟩:=h.cells j I;cases e;rw[<-Yr H];unfold Addr.add;split
 ·rename_i e0
  subst e0;simpa using O
 . exact O
structure CS (ds:List Nat)(k c:Nat)(rs:List Nat):Prop where
 len:rs.length=ds.length
 low:∀j,j<k->rs.getD j 0=ds.getD j 0
 ok:OkD rs
 c1:c<=1
 val:valD (ds.drop k)=2*valD (rs.drop k)+c
def DZ (l:List Nat)(i j d:Nat):(l.set i d).getD j 0=if i=j/\j<l.length then d else l.getD j 0:=by
 simp only[List.getD,Yb]
 by_cases h:i=j
 ·subst h
  by_cases h2:i<l.length
  . simp[h2]
  . simp[h2]
 . simp[h]
def CS.start (H:OkD ds):CS ds ds.length 0 ds:=⟨rfl,λ_ _=>rfl,H,by omega,by simp[valD]⟩
def CS.next (h:CS ds (k+1) c rs)(H:OkD ds)(hk:k<ds.length):CS ds k (ds.getD k 0%2) (rs.set k (ds.getD k 0/2+c*2147483648)):=by
 have U:ds.getD k 0<4294967296:=by
  simp only[List.getD,Xy hk];exact H _ (XM hk)
 have X:=h.c1;refine⟨by simp[h.len],λj O=>?_,λd g0=>?_,by omega,?_⟩
 . rw[DZ,Xu (by omega)];exact h.low j (by omega)
 ·rcases Zc g0 with e|e
  . exact h.ok d e
  . subst e;omega
 ·have hl:(rs.set k (ds.getD k 0/2+c*2147483648)).length=ds.length:=by simp[h.len]
  rw[FN hk,FN (ds:=rs.set k _) (by rw[hl];exact hk),DZ,Xx ⟨rfl,by rw[h.len];exact hk⟩];have e2:(rs.set k (ds.getD k 0/2+c*2147483648)).drop (k+1)=rs.drop (k+1):=by
   rw[List.drop_set];simp
  rw[e2]
  show ds.getD k 0+4294967296*valD (ds.drop (k+1))=2*(ds.getD k 0/2+c*2147483648+4294967296*valD (rs.drop (k+1)))+ds.getD k 0%2
  have I:=h.val
  generalize ds.getD k 0=d at *
  generalize valD (ds.drop (k+1))=A at *
  generalize valD (rs.drop (k+1))=B at *
  omega
def CS.done (h:CS (digD x) 0 c rs):valD rs=x/2/\c=x%2:=by
 have:=h.val;rw[List.drop_zero,List.drop_zero,Cv]at this;have:=h.c1;omega
def Ov (h:NatV w v x):
 Cl 113 #[v] w λe w'=>(∃v',e=.returned (.tuple #[v',.bool (decide (x%2=1))])/\NatV w' v' (x/2)/\∀q,v'.ownBlock=some q->w.heap.size<=q)/\Bw w w':=by
 obtain⟨a,c,rfl,h1,h2,h3⟩:=h;obtain⟨ds,g6⟩:=Ex (digD x);rw[<-g6]at h1 h3⊢;have r:=Hd h3;have g1:=h3.len;obtain⟨P,u⟩:=Ex (λe w'=>(∃v',e=.returned (.tuple #[v',.bool (decide (x%2=1))])/\NatV w' v' (x/2)/\∀q,v'.ownBlock=some q->w.heap.size<=q)/\Bw w w':Ending->Wd->Prop)
 have g0:=Hd g6;have gy:=Hd u;rw[<-u];obtain⟨L,y⟩:=Ex ds.length;rw[<-y]at h1 g1⊢;have U:=Hd y;clear g6 h3 y u
 go_enter func113,ntmps113
 go_upto_region 2 with (at_make;refine C7 If rfl _ _ rfl w.heap.size w _ L rfl rfl rfl (by omega) (Xs _) (X7 _ _) ?_;intro g w1 g3 g8 hs1 gr g5 gt;clear gt)
 have g2:=Ig g3 (by simp);have J:=Hd (r.o.below (g8.mono (Xs _)))
 have G:Hq (RowU w1 g (List.replicate L 0)):=Hd (by
  unfold RowU;rw[g2];simp[u32V])
 clear g2 g3 gr;have K:L=(u32V ds).length:=by rw[Cn];exact U.o
 have gc:=Hd K;clear K;go_wp2_with (refine ZX rfl _ _ 40 40 rfl 136 underlying40 Ih (some (Av g)) a L L L c rfl rfl g 0 (u32V (List.replicate L 0)) 136 G.o (u32V ds) (by rw[<-gc.o];exact(Nat.min_self L).symm) (λF=>⟨rfl,J.o.src (by rw[Cn]at F;exact F)⟩) (by rw[<-gc.o,Cn];simp) (Ii ds) w.heap.size w g8 g5 ?_;intro w2 Q gk)
 have gx:Hq (RowU w2 g ds):=Hd (by
  have:_=_:=Q;rw[Ou (by rw[<-gc.o,Cn];simp)]at this;exact this)
 have HB2:=Hd gk;clear Q gk G J g8 hs1;have gw:Hq (CS ds L 0 ds):=Hd (by rw[U.o];exact CS.start r.o.ok)
 go_loopw [5,6] (λs5 s wr=>∃(k O:Nat) (rs:List Nat),k<=L/\s=Iv ((k:Int)-1)/\s5=.int .u32 (O:Nat)/\Hq (CS ds k O rs)/\Hq (RowU wr g rs)/\Hq (Bw w wr)) (λ_ s _=>(intOf s+1).toNat)
 case atStart=>exact⟨L,0,ds,Xs _,rfl,rfl,gw,gx,HB2⟩
 case round=>
  obtain⟨k,O,rs,hk,rfl,rfl,I,Z,l⟩:=hrel;cases k with
  | zero=>
    rw[g0.o]at I;have g7:=I.o.done;have t:=Ia (c:=L) (Z.o.at I.o.ok (by rw[I.o.len,<-g0.o,<-U.o];exact g1)) (by rw[I.o.len,<-g0.o,<-U.o];exact Xs _) g1;rw[g7.1,I.o.len,<-g0.o,<-U.o]at t;have M:decide ((O:Int)=1)=decide (x%2=1):=by
     rw[<-g7.2];exact ZT.2 (by omega)
    have V:=Hd t;have go:=Hd M;have W:Hq (∀v',NatV wr v' (x/2)->(∀q,v'.ownBlock=some q->q=g)->P (.returned (.tuple #[v',.bool (decide (x%2=1))])) wr):=Hd λv' n p=>by rw[gy.o];exact⟨⟨v',rfl,n,λq e=>by rw[p q e];exact g5⟩,l.o⟩
    clear t M g7 I Z l g0;go_wp2_with fail;refine V.o.mono ?_;rintro e w' ⟨⟨v',rfl,n,p⟩,rfl⟩;have T:=Hd (W.o v' n p);rw[<-go.o]at T;clear n p V W go;go_wp2_with fail;exact T.o
  | succ k=>
    have hi:k<L:=by omega
    have gq:((k+1:Nat):Int)-1=(k:Int):=by omega
    have gz:(k:Int)<(L:Int):=by omega
    have gA:(0:Int)<=(k:Int):=by omega
    obtain⟨d,Y⟩:=Ex (ds.getD k 0);have R:=I.o.len;have C:=Z.o.cell (k:=k) (by rw[R,<-U.o];exact hi);rw[I.o.low k (by omega),<-Y]at C;have S:wr.frozen? (Aw g k)=false:=by have:=Z.o;unfold RowU at this;simp[World.frozen?,this]
    have HD:=Hd Y;have gu:d<4294967296:=by
     rw[Y];have N:k<ds.length:=by rw[<-U.o];exact hi
     simp only[List.getD,Xy N];exact r.o.ok _ (XM N)
    have gv:=I.o.c1;have D:=Hd (I.o.next r.o.ok (by rw[<-U.o];exact hi));rw[<-Y]at D;rw[gq];clear Y R;go_upto_region 7 with fail;have X:wr.drew.cell? (Aw g k)=some (.int .u32 (d:Nat)):=C;have f:wr.drew.frozen? (Aw g k)=false:=S;have B:Hq (RowU wr.drew g rs):=Hd (Z.o.drewN 1);have z:Hq (Bw w wr.drew):=Hd (l.o.trans ((An wr 1).mono l.o.size));have i:=Vb (d/2) O (by omega) gv;have eand:=Va d gu;have ehalf:((d/2:Nat):Int)=(d:Int)/2:=by omega
    rw[ehalf]at i;obtain⟨m,g4⟩:=Ex wr.drew;rw[<-g4]at X f B z;have g9:=Hd g4;clear g4 C S;refine Oi (λW'=>W'.cell? (Aw g k)=some (.int .u32 (d:Nat))) (λch w'=>False) 16 (λc a w Y h=>h.elim) (by kernel_rfl) (by rw[<-g9.o];exact X) ?_;rw[<-g9.o];refine AW 0 rfl rfl (by kernel_rfl) ?_;apply Exists.intro;refine⟨λw' H=>?_,?_⟩
    . go_simp;rfl
    simp only[Ab];refine AW 1 rfl rfl (by kernel_rfl) ?_;apply Exists.intro;refine⟨λw' H=>?_,?_⟩
    . go_simp;rfl
    simp only[Ab];refine AW 2 rfl rfl (by kernel_rfl) ?_;apply Exists.intro;refine⟨λw' H=>?_,?_⟩
    . go_simp;rfl
    simp only[Ab];refine AW 3 rfl rfl (by kernel_rfl) ?_;apply Exists.intro;refine⟨λw' H=>?_,?_⟩
    . go_simp;rfl
    simp only[Ab];refine AW 4 rfl rfl (by kernel_rfl) ?_;apply Exists.intro;refine⟨λw' H=>?_,?_⟩
    . go_simp;rfl
    simp only[Ab];refine AW 5 rfl rfl (by kernel_rfl) ?_;apply Exists.intro;refine⟨λw' H=>?_,?_⟩
    . go_simp;rfl
    simp only[Ab];refine AW 6 rfl rfl (by kernel_rfl) ?_;apply Exists.intro;refine⟨λw' H=>?_,?_⟩
    . go_simp;rfl
    simp only[Ab];refine AW 7 rfl rfl (by kernel_rfl) ?_;apply Exists.intro;refine⟨λw' H=>?_,?_⟩
    . go_simp;rfl
    simp only[Ab];refine AW 8 rfl rfl (by kernel_rfl) ?_;apply Exists.intro;refine⟨λw' H=>?_,?_⟩
    . go_simp;rfl
    simp only[Ab];refine AW 9 rfl rfl (by kernel_rfl) ?_;apply Exists.intro;refine⟨λw' H=>?_,?_⟩
    . go_simp;rfl
    simp only[Ab];refine AW 10 rfl rfl (by kernel_rfl) ?_;apply Exists.intro;refine⟨λw' H=>?_,?_⟩
    . go_simp;rfl
    simp only[Ab];refine AW 11 rfl rfl (by kernel_rfl) ?_;apply Exists.intro;refine⟨λw' H=>?_,?_⟩
    . go_simp;rfl
    simp only[Ab];refine AW 12 rfl rfl (by kernel_rfl) ?_;apply Exists.intro;refine⟨λw' H=>?_,?_⟩
    . go_simp;rfl
    simp only[Ab];refine AW 13 rfl rfl (by kernel_rfl) ?_;apply Exists.intro;refine⟨λw' H=>?_,?_⟩
    . go_simp;rfl
    simp only[Ab];refine Oj 14 rfl rfl (by kernel_rfl) ?_;apply Exists.intro;refine⟨λw'=>?_,?_⟩
    . go_simp;rfl
    simp only[Ab];refine AW 15 rfl rfl (by kernel_rfl) ?_;apply Exists.intro;refine⟨λw' H=>?_,?_⟩
    . go_simp;rfl
    simp only[Ab];refine Om ?_;refine Oo (w':=m.setCell (Aw g k) (.int .u32 ((d/2+O*2147483648:Nat):Int))) 16 rfl (by kernel_rfl) rfl rfl ?_ ?_
    . go_simp
    simp only[Ab];refine Oq (w':=m.setCell (Aw g k) (.int .u32 ((d/2+O*2147483648:Nat):Int))) (v:=.int .u32 ((d%2:Nat):Int)) 17 rfl (by kernel_rfl) rfl (by go_simp) ?_;simp only[Ab];refine On (by kernel_rfl) ?_;have A:=Hd (B.o.set (k:=k) (d:=d/2+O*2147483648));have ge:Hq (Bw w (m.setCell (Aw g k) (.int .u32 ((d/2+O*2147483648:Nat):Int)))):=Hd (z.o.setCell g5 _);clear I Z l B z X f g9;obtain⟨E,gf⟩:=Ex (m.setCell (Aw g k) (.int .u32 ((d/2+O*2147483648:Nat):Int)));rw[<-gf]at A ge⊢;have gp:=Hd (show ∃(k' j:Nat) (b:List Nat),k'<=L/\(Value.int .i64 ((k:Int)-1))=Iv ((k':Int)-1)/\(Value.int .u32 ((d%2:Nat):Int))=.int .u32 (j:Nat)/\Hq (CS ds k' j b)/\Hq (RowU E g b)/\Hq (Bw w E) from⟨k,d%2,_,by omega,rfl,rfl,D,A,ge⟩);clear gf A ge D i eand ehalf;go_wp2;go_roundw
    case rel=>exact gp.o
    case measure=>simp[intOf]
def Vc (hx:x<4294967296)(I:y<4294967296)(O:c<=1):
 Cl 103 #[.int .u32 x,.int .u32 y,.int .u32 c] w (Sm (.tuple #[.int .u32 ((x+y+c)%4294967296:Nat),.int .u32 ((x+y+c)/4294967296:Nat)]) w):=by
 have e1:IntKind.u64.wrap ((x:Int)+(y:Int))=(x:Int)+(y:Int):=by rw[aV];omega
 have e2:IntKind.u64.wrap ((x:Int)+(y:Int)+(c:Int))=(x:Int)+(y:Int)+(c:Int):=by rw[aV];omega
 obtain⟨P,H⟩:=Ex ((Sm (.tuple #[.int .u32 ((x+y+c)%4294967296:Nat),.int .u32 ((x+y+c)/4294967296:Nat)]) w):Ending->Wd->Prop)
 rw[<-H];have HP:=Hd H;clear H
 go_enter func103,ntmps103
 go_wp2_with fail;rw[HP.o];refine⟨?_,rfl⟩
 show Ending.returned (.tuple #[.int .u32 (((x:Int)+(y:Int)+(c:Int))%4294967296),.int .u32 (((x:Int)+(y:Int)+(c:Int))/4294967296)])=_
 rw[show(((x+y+c)%4294967296:Nat):Int)=((x:Int)+(y:Int)+(c:Int))%4294967296 by omega,show(((x+y+c)/4294967296:Nat):Int)=((x:Int)+(y:Int)+(c:Int))/4294967296 by omega]
def tb31 (h:n<4294967296):n.testBit 31=decide (2147483648<=n):=by
 rw[Nat.testBit_eq_decide_div_mod_eq];exact ZT.2 (by omega)
def div31 (h:n<4294967296):n/2147483648=(n.testBit 31).toNat:=by
 rw[tb31 h]
 by_cases c:2147483648<=n
 . rw[XQ c];show _=1;omega
 . rw[XW c];show _=0;omega
def Ow (a b:Nat)(H:a<4294967296)(hb:b<4294967296):bits .and .u32 (a:Int) (b:Int)=((a &&& b:Nat):Int)/\a &&& b<4294967296:=by
 obtain⟨h1,h2⟩:=Fg a b H hb;have hx:a &&& b<2^32:=Nat.and_lt_two_pow _ (by omega);refine⟨?_,by omega⟩
 show IntKind.u32.wrap ((BitVec.ofInt 32 (a:Int) &&& BitVec.ofInt 32 (b:Int)).toNat:Int)=_
 rw[BitVec.toNat_and,h1,h2,Zs];omega
def Vd (a b:Nat)(H:a<4294967296)(hb:b<4294967296):bits .or .u32 (a:Int) (b:Int)=((a ||| b:Nat):Int)/\a ||| b<4294967296:=by
 obtain⟨h1,h2⟩:=Fg a b H hb;have hx:a ||| b<2^32:=Nat.or_lt_two_pow (by omega) (by omega)
 refine⟨?_,by omega⟩
 show IntKind.u32.wrap ((BitVec.ofInt 32 (a:Int) ||| BitVec.ofInt 32 (b:Int)).toNat:Int)=_
 rw[BitVec.toNat_or,h1,h2,Zs];omega
def Kk (a b:Nat)(H:a<4294967296)(hb:b<4294967296):bits .xor .u32 (a:Int) (b:Int)=((a ^^^ b:Nat):Int)/\a ^^^ b<4294967296:=by
 obtain⟨h1,h2⟩:=Fg a b H hb;have hx:a ^^^ b<2^32:=Nat.xor_lt_two_pow (by omega) (by omega);refine⟨?_,by omega⟩
 show IntKind.u32.wrap ((BitVec.ofInt 32 (a:Int) ^^^ BitVec.ofInt 32 (b:Int)).toNat:Int)=_
 rw[BitVec.toNat_xor,h1,h2,Zs];omega
def Vf (hx:x<4294967296)(H:y<4294967296)(hb:b<=1):
 bits .or .u32 (bits .and .u32 (bits .xor .u32 IntKind.u32.max (x:Int)) (y:Int)) (bits .and .u32 (bits .xor .u32 IntKind.u32.max (bits .xor .u32 (x:Int) (y:Int))) (((x:Int)-(y:Int)-(b:Int))%4294967296))/2147483648=((if x<y+b then 1 else 0:Nat):Int):=by
 obtain⟨D,j⟩:=Ex ((x+8589934592-y-b)%4294967296);have c:((x:Int)-(y:Int)-(b:Int))%4294967296=((D:Nat):Int):=by omega
 have g0:D<4294967296:=by omega
 have a:IntKind.u32.max=((4294967295:Nat):Int):=rfl;rw[c,a];obtain⟨e1,Z⟩:=Kk 4294967295 x (by omega) hx;obtain⟨e2,Y⟩:=Ow _ y Z H;obtain⟨g,X⟩:=Kk x y hx H;obtain⟨f,U⟩:=Kk 4294967295 _ (by omega) X;obtain⟨e,O⟩:=Ow _ D U g0;obtain⟨d,I⟩:=Vd _ _ Y O;rw[e1,e2,g,f,e,d];have key:(((4294967295 ^^^ x) &&& y) ||| ((4294967295 ^^^ (x ^^^ y)) &&& D))/2147483648=if x<y+b then 1 else 0:=by
  rw[div31 I,Nat.testBit_or,Nat.testBit_and,Nat.testBit_and,Nat.testBit_xor,Nat.testBit_xor,Nat.testBit_xor,tb31 hx,tb31 H,tb31 g0,tb31 (show 4294967295<4294967296 by omega)]
  by_cases i:2147483648<=x<;>by_cases h:2147483648<=y<;>by_cases cd:2147483648<=D<;>by_cases cl:x<y+b<;>simp[i,h,cd,cl]<;>omega
 rw[<-key];rfl
def Vg (hx:x<4294967296)(I:y<4294967296)(hb:b<=1):
 Cl 121 #[.int .u32 x,.int .u32 y,.int .u32 b] w (Sm (.tuple #[.int .u32 ((x+8589934592-y-b)%4294967296:Nat),.int .u32 ((if x<y+b then 1 else 0):Nat)]) w):=by
 obtain⟨P,H⟩:=Ex ((Sm (.tuple #[.int .u32 ((x+8589934592-y-b)%4294967296:Nat),.int .u32 ((if x<y+b then 1 else 0):Nat)]) w):Ending->Wd->Prop)
 rw[<-H];have HP:=Hd H;clear H
 go_enter func121,ntmps121
 go_wp2_with fail;rw[HP.o];refine⟨?_,rfl⟩;have g1:=Vf hx I hb;have g0:(((x+8589934592-y-b)%4294967296:Nat):Int)=((x:Int)-(y:Int)-(b:Int))%4294967296:=by omega
 rw[g0,<-g1]
def Ea (l:List Nat)(k:Nat):valD (l.take (k+1))=valD (l.take k)+4294967296^k*l.getD k 0:=by
 rcases X9 k l.length with h|h
 . rw[Zk,Xy h,E5,YB,Zo (by omega)];simp[valD,List.getD,Xy h]
 . rw[XK h,XK (by omega)];simp[List.getD,XC h]
def Kl (l:List Nat)(k d:Nat):(l.set k d).take k=l.take k:=by
 rw[List.take_set];exact List.set_eq_of_length_le (by simp;omega)
def Dp {l:List Nat}(H:OkD l)(k:Nat):l.getD k 0<4294967296:=by
 rcases X9 k l.length with h|h
 . simp only[List.getD,Xy h];exact H _ (XM h)
 . simp[List.getD,XC h]
structure SubS (dx dy:List Nat)(k br:Nat)(rs:List Nat):Prop where
 len:rs.length=dx.length
 high:∀j,k<=j->rs.getD j 0=dx.getD j 0
 ok:OkD rs
 b1:br<=1
 val:valD (dx.take k)+4294967296^k*br=valD (rs.take k)+valD (dy.take k)
def SubS.start {H:List Nat}(I:OkD H):SubS H dy 0 0 H:=⟨rfl,λ_ _=>rfl,I,by omega,by simp[valD]⟩
def SubS.next {H:List Nat}{I:Nat}(h:SubS H dy k I rs)(a:OkD H)(O:OkD dy)(hk:k<H.length):
 SubS H dy (k+1) (if H.getD k 0<dy.getD k 0+I then 1 else 0) (rs.set k ((H.getD k 0+8589934592-dy.getD k 0-I)%4294967296)):=by
 have l:=Dp a k;have i:=Dp O k;have hb:=h.b1;refine⟨by simp[h.len],λj g=>?_,λd g1=>?_,by split<;>omega,?_⟩
 . rw[DZ,Xu (by omega)];exact h.high j (by omega)
 ·rcases Zc g1 with e|e
  . exact h.ok d e
  . subst e;omega
 ·have f:=h.val;obtain⟨t,b⟩:=Ex ((H.getD k 0+8589934592-dy.getD k 0-I)%4294967296);obtain⟨b2,g0⟩:=Ex (if H.getD k 0<dy.getD k 0+I then 1 else 0)
  rw[<-b,<-g0];have c:(rs.set k t).getD k 0=t:=by rw[DZ,Xx ⟨rfl,by rw[h.len];exact hk⟩]
  rw[Ea,Ea,Ea,Kl,c];have key:t+dy.getD k 0+I=H.getD k 0+4294967296*b2:=by
   rw[b,g0];split<;>omega
  have k2:=Yf (λz=>4294967296^k*z) key;simp only[ZB]at k2;rw[XJ,ZI]
  generalize 4294967296^k*t=T at *
  generalize 4294967296^k*dy.getD k 0=Y at *
  generalize 4294967296^k*H.getD k 0=X at *
  generalize 4294967296^k*I=Z at *
  generalize 4294967296^k*(4294967296*b2)=U at *
  omega
def SubS.done {H:Nat}(h:SubS (digD x) (digD y) (digD x).length H rs)(O:y<=x):valD rs=x-y:=by
 have g0:(digD y).length<=(digD x).length:=by
  refine Nat.le_of_not_lt λg2=>?_
  have:=Ki g2;omega
 have I:=h.val;rw[XP,XK (by rw[h.len];exact Xs _),XK g0,Cv,Cv]at I;have g1:=GZ rs h.ok;rw[h.len]at g1;have hb:=h.b1;rcases(show H=0\/H=1 by omega)with rfl|rfl
 . omega
 . omega
def Ox {v1 v2:Value}(h1:NatV w v1 x)(h2:NatV w v2 y)(h:y<=x):
 Cl 77 #[v1,v2] w λe w'=>(∃v',e=.returned (.tuple #[v',.bool true])/\NatV w' v' (x-y)/\∀q,v'.ownBlock=some q->w.heap.size<=q)/\Bw w w':=by
 have J:=Hd (Kj h1 h2);have gx:¬ cmpZ x y<0:=by unfold cmpZ;rw[Xu (by omega)];split<;>omega
 obtain⟨z,Q⟩:=Ex (cmpZ x y);rw[<-Q]at J gx;have j:Hq (∀w1,Bw w w1->Cl 78 #[v2] w1 λe w'=>(∃v',e=.returned v'/\NatV w1 v' y)/\w1=w'):=Hd λw1 hb=>Ic (h2.below hb)
 have gC:Hq (∀w1,Bw w w1->NatV w1 v1 x):=Hd λw1 hb=>h1.below hb
 obtain⟨P,A⟩:=Ex (λe w'=>(∃v',e=.returned (.tuple #[v',.bool true])/\NatV w' v' (x-y)/\∀q,v'.ownBlock=some q->w.heap.size<=q)/\Bw w w':Ending->Wd->Prop)
 have gB:=Hd A;have gD:=Hd h;rw[<-A];obtain⟨a,c,rfl,N,l2,r⟩:=h1;clear Q A h2 h
 go_enter func77,ntmps77
 go_wp2_with fail;refine J.o.mono ?_;rintro e w1 ⟨rfl,g0⟩;have g5:=Hd g0;have go:=Hd (j.o w1 g0);clear J j g0;go_wp2_with fail;refine go.o.mono ?_;rintro e w' ⟨⟨v2',rfl,gr⟩,rfl⟩;obtain⟨a2,c2,rfl,m1,m2,m3⟩:=gr;have g2:=Hd m3;have g3:Hq (U32At w1 a (digD x)):=Hd (r.below g5.o);have g1:=r.len;have g8:=m3.len;obtain⟨dx,gc⟩:∃d,d=digD x:=⟨_,rfl⟩;obtain⟨dy,gb⟩:∃d,d=digD y:=⟨_,rfl⟩;rw[<-gc]at g3 g1 N⊢;rw[<-gb]at g2 g8 m1⊢;obtain⟨L,C⟩:=Ex dx.length;obtain⟨M,B⟩:=Ex dy.length;rw[<-C]at g1 N⊢;rw[<-B]at g8 m1⊢;have U:=Hd C;have HM:=Hd B;have gF:=Hd gc;have gE:=Hd gb;have hs1:=g5.o.size;clear C B gc gb m3 r go gC hs1;go_upto_region 5 with (at_make;refine C7 If rfl _ _ rfl w1.heap.size w1 _ L rfl rfl rfl (by omega) (Xs _) (X7 _ _) ?_;intro g w2 g7 g0 hs1 gu G gv;clear gv)
 have g6:=Ig g7 (by simp);have T:=Hd (g3.o.below g0);have gy:=Hd (g2.o.below g0)
 have S:Hq (RowU w2 g (List.replicate L 0)):=Hd (by
  unfold RowU;rw[g6];simp[u32V])
 clear g6 g7 gu hs1;have E:=Hd (show L=(u32V dx).length by rw[Cn];exact U.o);go_wp2_with (refine ZX rfl _ _ 40 40 rfl 136 underlying40 Ih (some (Av g)) a L L L c rfl rfl g 0 (u32V (List.replicate L 0)) 136 S.o (u32V dx) (by rw[<-E.o];exact(Nat.min_self L).symm) (λR=>⟨rfl,T.o.src (by rw[Cn]at R;exact R)⟩) (by rw[<-E.o,Cn];simp) (Ii dx) w1.heap.size w1 g0 G ?_;intro w3 gi V)
 have gA:Hq (RowU w3 g dx):=Hd (by
  have:_=_:=gi;rw[Ou (by rw[<-E.o,Cn];simp)]at this;exact this)
 have gG:=Hd V;have gz:Hq (SubS dx dy 0 0 dx):=Hd (SubS.start g3.o.ok);clear gi V S T gy g0
 go_loopw [7,8,9,24] (λs7 _ _ I wr=>∃(k Y:Nat) (rs:List Nat),k<=L/\I=Iv (k:Int)/\s7=.int .u32 (Y:Nat)/\Hq (SubS dx dy k Y rs)/\Hq (RowU wr g rs)/\Hq (Bw w1 wr)) (λ_ _ _ I _=>L-(intOf I).toNat)
 case atStart=>exact⟨0,0,dx,X0 _,rfl,rfl,gz,gA,gG⟩
 case round=>
  obtain⟨k,Y,rs,hk,rfl,rfl,H,O,b⟩:=hrel
  by_cases gj:k<L
  ·have gI:(k:Int)<(L:Int):=by omega
   have g9:=H.o.len;have ck:=O.o.cell (k:=k) (by rw[g9,<-U.o];exact gj);rw[H.o.high k (Xs _)]at ck;have fk:wr.frozen? (Aw g k)=false:=by have:=O.o;unfold RowU at this;simp[World.frozen?,this]
   have Z:=Hd (H.o.next g3.o.ok g2.o.ok (by rw[<-U.o];exact gj));obtain⟨d,n⟩:=Ex (dx.getD k 0);obtain⟨e,X⟩:=Ex (dy.getD k 0);rw[<-n]at ck Z;rw[<-X]at Z;have gw:d<4294967296:=by rw[n];exact Dp g3.o.ok k
   have gk:e<4294967296:=by rw[X];exact Dp g2.o.ok k
   have g4:=Hd (Vg (w:=wr) gw gk H.o.b1);obtain⟨t,s⟩:=Ex ((d+8589934592-e-Y)%4294967296);obtain⟨b2,F⟩:=Ex (if d<e+Y then 1 else 0)
   rw[<-s,<-F]at g4 Z;have gf:=Hd (O.o.set (k:=k) (d:=t));have D:Hq (Bw w1 (wr.setCell (Aw g k) (.int .u32 ((t:Nat):Int)))):=Hd (b.o.setCell G _);have ge:=Hd (show ∃(k' i:Nat) (f:List Nat),k'<=L/\(Value.int .i64 ((k:Int)+1))=Iv (k':Int)/\(Value.int .u32 ((b2:Nat):Int))=.int .u32 (i:Nat)/\Hq (SubS dx dy k' i f)/\Hq (RowU (wr.setCell (Aw g k) (.int .u32 ((t:Nat):Int))) g f)/\Hq (Bw w1 (wr.setCell (Aw g k) (.int .u32 ((t:Nat):Int)))) from⟨k+1,b2,_,by omega,by rw[show((k+1:Nat):Int)=(k:Int)+1 by omega],rfl,Z,gf,D⟩)
   by_cases hm:k<M
   ·obtain⟨bb,oo,rfl,K⟩:=g2.o.cells k (by rw[<-HM.o];exact hm);have p:=Cq b.o K;rw[<-X]at p;have gt:(k:Int)<(M:Int):=by omega
    clear K n X s F Z gf D H O b g9;go_wp2_with fail;refine g4.o.mono ?_;rintro q w' ⟨rfl,rfl⟩;go_wp2;go_roundw
    case rel=>exact ge.o
    case measure=>simp[intOf];omega
   ·have gt:¬ (k:Int)<(M:Int):=by omega
    have e0:e=0:=by
     rw[X];simp[List.getD,XC (show dy.length<=k by rw[<-HM.o];omega)]
    rw[e0]at g4;have gq:Hq (Cl 121 #[.int .u32 (d:Nat),.int .u32 0,.int .u32 (Y:Nat)] wr (Sm (.tuple #[.int .u32 (t:Nat),.int .u32 (b2:Nat)]) wr)):=g4;clear n X s F Z gf D H O b g9 e0 gk g4;go_wp2_with fail;refine gq.o.mono ?_;rintro q w' ⟨rfl,rfl⟩;go_wp2;go_roundw
    case rel=>exact ge.o
    case measure=>simp[intOf];omega
  ·obtain rfl:k=L:=by omega
   have gH:¬ (k:Int)<(k:Int):=by omega
   have v:=H.o;rw[U.o,gF.o,gE.o]at v;have W:=v.done gD.o;have u:=Ia (c:=k) (O.o.at H.o.ok (by rw[H.o.len,<-U.o];exact g1)) (by rw[H.o.len,<-U.o];exact Xs _) g1;rw[W,H.o.len,<-U.o]at u;have j:=Hd u;have HF:Hq (∀v',NatV wr v' (x-y)->(∀q,v'.ownBlock=some q->q=g)->P (.returned (.tuple #[v',.bool true])) wr):=Hd λv' l m=>by rw[gB.o];exact⟨⟨v',rfl,l,λq e=>by rw[m q e];exact Xz g5.o.size G⟩,g5.o.trans (b.o.mono g5.o.size)⟩
   clear u W v H O b;go_wp2_with fail;refine j.o.mono ?_;rintro e w' ⟨⟨v',rfl,l,m⟩,rfl⟩;have HV:=Hd (HF.o v' l m);clear l m j HF;go_wp2_with fail;exact HV.o
def Vh (d c:Nat)(H:d<4294967296)(I:c<=1):bits .or .u32 (IntKind.u32.wrap ((d:Int)*2)) (c:Int)=((2*d%4294967296+c:Nat):Int):=by
 have e:IntKind.u32.wrap ((d:Int)*2)=((2*(d%2147483648):Nat):Int):=by rw[Zs];omega
 rw[e];obtain⟨h1,h2⟩:=Fg (2*(d%2147483648)) c (by omega) (by omega)
 show IntKind.u32.wrap ((BitVec.ofInt 32 ((2*(d%2147483648):Nat):Int) ||| BitVec.ofInt 32 (c:Int)).toNat:Int)=_
 rw[BitVec.toNat_or,h1,h2,show 2*(d%2147483648)=2^1*(d%2147483648)by omega,<-Nat.two_pow_add_eq_or_of_lt (by omega) (d%2147483648),Zs];omega
structure DblS (os:List Nat)(k c:Nat)(rs:List Nat):Prop where
 len:rs.length=os.length
 high:∀j,k<=j->rs.getD j 0=os.getD j 0
 ok:OkD rs
 c1:c<=1
 val:valD (rs.take k)+4294967296^k*c=2*valD (os.take k)
def DblS.start (H:OkD os):DblS os 0 0 os:=⟨rfl,λ_ _=>rfl,H,by omega,by simp[valD]⟩
def DblS.next (h:DblS os k c rs)(I:OkD os)(hk:k<os.length):DblS os (k+1) (os.getD k 0/2147483648) (rs.set k (2*os.getD k 0%4294967296+c)):=by
 have f:=Dp I k;have g:=h.c1;refine⟨by simp[h.len],λj b=>?_,λd g1=>?_,by omega,?_⟩
 . rw[DZ,Xu (by omega)];exact h.high j (by omega)
 ·rcases Zc g1 with e|e
  . exact h.ok d e
  . subst e;omega
 ·have a:=h.val;obtain⟨t,H⟩:=Ex (2*os.getD k 0%4294967296+c);obtain⟨c2,g0⟩:=Ex (os.getD k 0/2147483648);rw[<-H,<-g0];have O:(rs.set k t).getD k 0=t:=by rw[DZ,Xx ⟨rfl,by rw[h.len];exact hk⟩]
  rw[Ea,Ea,Kl,O];have key:t+4294967296*c2=2*os.getD k 0+c:=by rw[H,g0];omega
  have k2:=Yf (λz=>4294967296^k*z) key;simp only[ZB]at k2;rw[XJ,ZI];have Y:4294967296^k*(2*os.getD k 0)=2*(4294967296^k*os.getD k 0):=by rw[Nat.mul_left_comm]
  rw[Y]at k2
  generalize 4294967296^k*t=T at *
  generalize 4294967296^k*os.getD k 0=X at *
  generalize 4294967296^k*c=Z at *
  generalize 4294967296^k*(4294967296*c2)=U at *
  omega
def DblS.done (h:DblS os os.length c rs)(hl:2*valD os<4294967296^os.length):valD rs=2*valD os/\c=0:=by
 have H:=h.val;rw[XP,XK (by rw[h.len];exact Xs _)]at H;have I:=h.c1;rcases(show c=0\/c=1 by omega)with rfl|rfl
 . omega
 . omega
def Vi (n:Nat)(ds:List Nat):valD (List.replicate n 0++ds)=4294967296^n*valD ds:=by
 rw[E5,GY _ (λd H=>(List.mem_replicate.1 H).2),Yp,XO]
def Vk (n:Nat)(ds:List Nat):splice (u32V (List.replicate (ds.length+n+1) 0)) n (u32V ds)=u32V (List.replicate n 0++ds++[0]):=by
 unfold splice u32V;simp[List.take_replicate,List.drop_replicate,show min n (ds.length+n+1)=n by omega,show ds.length+n+1-(n+ds.length)=1 by omega]
def Vl (h:NatV w v x)(hx:(digD x).length<=1000)(hk:k<=4096):
 Cl 109 #[v,Iv (k:Nat)] w λe w'=>(∃v',e=.returned v'/\NatV w' v' (x*2^k)/\∃g q:Nat,v'=.slice (some (Av g)) q q/\w.heap.size<=g)/\Bw w w':=by
 obtain⟨a,c,rfl,l1,l2,E⟩:=h;obtain⟨dx,gb⟩:∃d,d=digD x:=⟨_,rfl⟩;rw[<-gb]at l1 E hx⊢;have HU:=Hd E;obtain⟨L,N⟩:=Ex dx.length;rw[<-N]at l1 hx⊢;have D:=Hd N;have gv:=Hd gb;obtain⟨P,K⟩:=Ex (λe w'=>(∃v',e=.returned v'/\NatV w' v' (x*2^k)/\∃g q:Nat,v'=.slice (some (Av g)) q q/\w.heap.size<=g)/\Bw w w':Ending->Wd->Prop)
 have gF:=Hd K;rw[<-K];obtain⟨W,hW⟩:=Ex (k/32);obtain⟨r,hr⟩:=Ex (k%32);have eW:(k:Int)/32=(W:Int):=by omega
 have er:(k:Int)%32=(r:Int):=by omega
 have eW2:Int.tdiv (k:Int) 32=(W:Int):=by rw[ZN (by omega)];exact eW
 have er2:Int.tmod (k:Int) 32=(r:Int):=by rw[YI (by omega)];exact er
 have emx:max (k:Int) 0=(k:Int):=by omega
 have emn:min (k:Int) 4096=(k:Int):=by omega
 have gO:W<=128:=by omega
 have gG:=Hd (show k=32*W+r by omega);have gK:r<32:=by omega
 clear gb N K E hW hr
 go_enter func109,ntmps109
 obtain⟨M,hM⟩:=Ex (L+W+1);have eM:(L:Int)+(W:Int)+1=(M:Int):=by omega
 have gQ:M<=2000:=by omega
 have gP:(W:Int)<=(M:Int):=by omega
 have gJ:W<=M:=by omega
 have y:=Hd hM;clear hM;go_upto_region 4 with (at_make;refine C7 If rfl _ _ rfl w.heap.size w _ M rfl rfl (by first|rfl|exact eM|omega) (by omega) (Xs _) (X7 _ _) ?_;intro g w2 g4 V hs1 gz ga gA;clear gA)
 have g3:=Ig g4 (by simp);have gt:=Hd (HU.o.below V)
 have gu:Hq (RowU w2 g (List.replicate M 0)):=Hd (by
  unfold RowU;rw[g3];simp[u32V])
 clear g3 g4 gz hs1;have S:=Hd (show L=(u32V dx).length by rw[Cn];exact D.o);go_upto_region 5 with (refine ZX rfl _ _ 40 40 rfl 136 underlying40 Ih (some (Aw g W)) a (M-W) (M-W) L c rfl rfl g W (u32V (List.replicate M 0)) 136 gu.o (u32V dx) (by rw[<-S.o,y.o];exact(Zo (by omega)).symm) (λhp=>⟨rfl,gt.o.src (by rw[Cn]at hp;exact hp)⟩) (by rw[<-S.o,Cn,Yp,y.o];omega) (Ii dx) w.heap.size w V ga ?_;intro w3 gn gr)
 obtain⟨os0,g0⟩:∃o,o=List.replicate W 0++dx++[0]:=⟨_,rfl⟩;have go:os0.length=M:=by rw[g0,y.o,D.o];simp;omega
 have gE:Hq (RowU w3 g os0):=Hd (by
  have h1:_=_:=gn;have h2:=Vk W dx;rw[<-D.o,<-y.o]at h2;rw[h2,<-g0]at h1;exact h1)
 have g8:OkD os0:=by
  rw[g0];intro d U;simp only[XD,List.mem_replicate,XB]at U;rcases U with (⟨_,rfl⟩|U)|rfl
  . omega
  . exact HU.o.ok d U
  . omega
 have gl:valD os0=4294967296^W*x:=by
  rw[g0,XF,Vi,E5,gv.o,Cv];simp[valD]
 have gx:Hq (∀j,j<32->2*(4294967296^W*x*2^j)<4294967296^M):=Hd λj hj=>by
  have h1:=Ie x;rw[<-gv.o,<-D.o]at h1;have h2:2^j*2<=4294967296:=by
   have:=X8 (n:=2) (by omega) (show j+1<=32 by omega);rw[XJ]at this;simpa using this
  rw[y.o,XJ,Zr];have h3:4294967296^W*x<4294967296^W*4294967296^L:=Nat.mul_lt_mul_of_pos_left h1 (Yg (by omega))
  calc 2*(4294967296^W*x*2^j)=(4294967296^W*x)*(2^j*2):=by rw[aN 2,ZI]
   _<=(4294967296^W*x)*4294967296:=Nat.mul_le_mul_left _ h2
   _<(4294967296^L*4294967296^W)*4294967296:=Nat.mul_lt_mul_of_pos_right (by rw[aN (4294967296^L)];exact h3) (by omega)
 have gI:=Hd gr;have gH:Hq (os0.length=M/\OkD os0/\valD os0=4294967296^W*x*2^0):=Hd ⟨go,g8,by rw[gl];simp⟩;clear g0 go g8 gl gn gr gu gt V eM emx emn S;go_wp2
 go_loopw [7,8,27,31] (λ_ _ Z _ wr=>∃(j:Nat) (rs:List Nat),j<=r/\Z=Iv (j:Int)/\Hq (rs.length=M/\OkD rs/\valD rs=4294967296^W*x*2^j)/\Hq (RowU wr g rs)/\Hq (Bw w wr)) (λ_ _ Z _ _=>r-(intOf Z).toNat)
 case atStart=>exact⟨0,os0,X0 _,rfl,gH,gE,gI⟩
 case round=>
  obtain⟨j,rs,hj,rfl,H,HR,HB⟩:=hrel;obtain⟨wo,gy⟩:∃W',W'=wr:=⟨_,rfl⟩;subst gy
  by_cases gL:j<r
  ·have gM:(j:Int)<(r:Int):=by omega
   have gD:Hq (DblS rs 0 0 rs):=Hd (DblS.start H.o.2.1);go_wp2
   go_loopw [7,8,31] (λs7 _ Y wr=>∃(i u:Nat) (m:List Nat),i<=M/\Y=Iv (i:Int)/\s7=.int .u32 (u:Nat)/\Hq (DblS rs i u m)/\Hq (RowU wr g m)/\Hq (Bw w wr)) (λ_ _ Y _=>M-(intOf Y).toNat)
   case atStart=>exact⟨0,0,rs,X0 _,rfl,rfl,gD,HR,HB⟩
   case round=>
    obtain⟨i,u,m,hi,rfl,rfl,X,g1,HB2⟩:=hrel
    by_cases gp:i<M
    ·have gN:(i:Int)<(M:Int):=by omega
     have g7:=X.o.len;have g9:=H.o.1;have B:=g1.o.cell (k:=i) (by rw[g7,g9];exact gp);rw[X.o.high i (Xs _)]at B;have fk:wr.frozen? (Aw g i)=false:=by have:=g1.o;unfold RowU at this;simp[World.frozen?,this]
     have C:=Hd (X.o.next H.o.2.1 (by rw[g9];exact gp));obtain⟨d,U⟩:=Ex (rs.getD i 0);rw[<-U]at B C;have gB:d<4294967296:=by rw[U];exact Dp H.o.2.1 i
     have gC:=X.o.c1;clear g7 g9 U;go_upto_region 11 with fail;have b:wr.drew.cell? (Aw g i)=some (.int .u32 (d:Nat)):=B;have p:wr.drew.frozen? (Aw g i)=false:=fk;have gf:Hq (RowU wr.drew g m):=Hd (g1.o.drewN 1);have R:Hq (Bw w wr.drew):=Hd (HB2.o.trans ((An wr 1).mono HB2.o.size));have s:=Vh d u gB gC;obtain⟨f,gm⟩:=Ex (2*d%4294967296+u);rw[<-gm]at s C;have ediv:((d/2147483648:Nat):Int)=(d:Int)/2147483648:=by omega
     obtain⟨z,g5⟩:=Ex wr.drew;rw[<-g5]at b p gf R;have ge:=Hd g5;clear g5 B fk gm;refine Oi (λW'=>W'.cell? (Aw g i)=some (.int .u32 (d:Nat))) (λch w'=>False) 15 (λc a w U h=>h.elim) (by kernel_rfl) (by rw[<-ge.o];exact b) ?_;rw[<-ge.o];refine AW 0 rfl rfl (by kernel_rfl) ?_;apply Exists.intro;refine⟨λw' I=>?_,?_⟩
     . go_simp;rfl
     simp only[Ab];refine AW 1 rfl rfl (by kernel_rfl) ?_;apply Exists.intro;refine⟨λw' I=>?_,?_⟩
     . go_simp;rfl
     simp only[Ab];refine AW 2 rfl rfl (by kernel_rfl) ?_;apply Exists.intro;refine⟨λw' I=>?_,?_⟩
     . go_simp;rfl
     simp only[Ab];refine AW 3 rfl rfl (by kernel_rfl) ?_;apply Exists.intro;refine⟨λw' I=>?_,?_⟩
     . go_simp;rfl
     simp only[Ab];refine AW 4 rfl rfl (by kernel_rfl) ?_;apply Exists.intro;refine⟨λw' I=>?_,?_⟩
     . go_simp;rfl
     simp only[Ab];refine AW 5 rfl rfl (by kernel_rfl) ?_;apply Exists.intro;refine⟨λw' I=>?_,?_⟩
     . go_simp;rfl
     simp only[Ab];refine AW 6 rfl rfl (by kernel_rfl) ?_;apply Exists.intro;refine⟨λw' I=>?_,?_⟩
     . go_simp;rfl
     simp only[Ab];refine AW 7 rfl rfl (by kernel_rfl) ?_;apply Exists.intro;refine⟨λw' I=>?_,?_⟩
     . go_simp;rfl
     simp only[Ab];refine AW 8 rfl rfl (by kernel_rfl) ?_;apply Exists.intro;refine⟨λw' I=>?_,?_⟩
     . go_simp;rfl
     simp only[Ab];refine AW 9 rfl rfl (by kernel_rfl) ?_;apply Exists.intro;refine⟨λw' I=>?_,?_⟩
     . go_simp;rfl
     simp only[Ab];refine AW 10 rfl rfl (by kernel_rfl) ?_;apply Exists.intro;refine⟨λw' I=>?_,?_⟩
     . go_simp;rfl
     simp only[Ab];refine AW 11 rfl rfl (by kernel_rfl) ?_;apply Exists.intro;refine⟨λw' I=>?_,?_⟩
     . go_simp;rfl
     simp only[Ab];refine AW 12 rfl rfl (by kernel_rfl) ?_;apply Exists.intro;refine⟨λw' I=>?_,?_⟩
     . go_simp;rfl
     simp only[Ab];refine Oj 13 rfl rfl (by kernel_rfl) ?_;apply Exists.intro;refine⟨λw'=>?_,?_⟩
     . go_simp;rfl
     simp only[Ab];refine AW 14 rfl rfl (by kernel_rfl) ?_;apply Exists.intro;refine⟨λw' I=>?_,?_⟩
     . go_simp;rfl
     simp only[Ab];refine Om ?_;refine Oo (w':=z.setCell (Aw g i) (.int .u32 ((f:Nat):Int))) 15 rfl (by kernel_rfl) rfl rfl ?_ ?_
     . go_simp
     simp only[Ab];refine Oq (w':=z.setCell (Aw g i) (.int .u32 ((f:Nat):Int))) (v:=.int .u32 ((d/2147483648:Nat):Int)) 16 rfl (by kernel_rfl) rfl (by go_simp) ?_;simp only[Ab];refine On (by kernel_rfl) ?_;have T:=Hd (gf.o.set (k:=i) (d:=f));have Q:Hq (Bw w (z.setCell (Aw g i) (.int .u32 ((f:Nat):Int)))):=Hd (R.o.setCell ga _);clear X g1 HB2 gf R b p ge;obtain⟨w5,gk⟩:=Ex (z.setCell (Aw g i) (.int .u32 ((f:Nat):Int)));rw[<-gk]at T Q⊢;have g2:=Hd (show ∃(G t:Nat) (l:List Nat),G<=M/\(Value.int .i64 ((i:Int)+1))=Iv (G:Int)/\(Value.int .u32 ((d/2147483648:Nat):Int))=.int .u32 (t:Nat)/\Hq (DblS rs G t l)/\Hq (RowU w5 g l)/\Hq (Bw w w5) from⟨i+1,d/2147483648,_,by omega,by rw[show((i+1:Nat):Int)=(i:Int)+1 by omega],rfl,C,T,Q⟩);clear gk T Q C s ediv;go_wp2;go_roundw
     case rel=>exact g2.o
     case measure=>simp[intOf];omega
    ·obtain rfl:i=M:=by omega
     have gw:¬ (i:Int)<(i:Int):=by omega
     have gc:=X.o;rw[<-H.o.1]at gc;have gq:=gc.done (by rw[H.o.2.2,H.o.1];exact gx.o j (by omega));have g2:=Hd (show ∃(F:Nat) (O:List Nat),F<=r/\(Value.int .i64 ((j:Int)+1))=Iv (F:Int)/\Hq (O.length=i/\OkD O/\valD O=4294967296^W*x*2^F)/\Hq (RowU wr g O)/\Hq (Bw w wr) from⟨j+1,m,by omega,by rw[show((j+1:Nat):Int)=(j:Int)+1 by omega],Hd ⟨by rw[X.o.len];exact H.o.1,X.o.ok,by rw[gq.1,H.o.2.2,XJ,aN 2 (4294967296^W*x*2^j),ZI (4294967296^W*x)]⟩,g1,HB2⟩);clear gc gq X g1 HB2;go_wp2;go_roundw
     case rel=>exact g2.o
     case measure=>simp[intOf];omega
  ·obtain rfl:j=r:=by omega
   have gw:¬ (j:Int)<(j:Int):=by omega
   have J:=Kh (c:=M) (HR.o.at H.o.2.1 (by rw[H.o.1];omega)) (by rw[H.o.1];exact Xs _) (by omega);have g6:4294967296^W*x*2^j=x*2^k:=by
    rw[gG.o,Zr,Nat.pow_mul,show(2:Nat)^32=4294967296 from rfl,aN (4294967296^W) x,ZI]
   rw[H.o.2.2,H.o.1,g6]at J;have HT:=Hd J;have HF:Hq (∀q:Nat,NatV wo (.slice (some (Av g)) q q) (x*2^k)->P (.returned (.slice (some (Av g)) q q)) wo):=Hd λq A=>by rw[gF.o];exact⟨⟨_,rfl,A,g,q,rfl,ga⟩,HB.o⟩
   clear J g6 H HR HB;go_wp2_with fail;refine HT.o.mono ?_;rintro e w' ⟨⟨v',rfl,A⟩,rfl⟩;have HV:=Hd (HF.o v' A);clear A HT HF;go_wp2_with fail;exact HV.o
structure E6 (w:Wd)(a:Option Addr)(xs:List Nat):Prop where
 len:xs.length<=1000
 cells:∀k,k<xs.length->∃b off v,a=some (Aw b off)/\w.cell? (Aw b (off+k))=some v/\NatV w v (xs.getD k 0)
def E6.below {w w':Wd}{a:Option Addr}{xs:List Nat}(h:E6 w a xs)(hb:Bw w w'):E6 w' a xs:=
 ⟨h.len,λk hk=>by
  obtain⟨b,off,v,h1,h2,h3⟩:=h.cells k hk;exact⟨b,off,v,h1,(Cq hb h2),h3.below hb⟩⟩
structure SumS (os dy:List Nat)(k c:Nat)(rs:List Nat):Prop where
 len:rs.length=os.length
 high:∀j,k<=j->rs.getD j 0=os.getD j 0
 ok:OkD rs
 c1:c<=1
 val:valD (rs.take k)+4294967296^k*c=valD (os.take k)+valD (dy.take k)
def SumS.start (H:OkD os):SumS os dy 0 0 os:=⟨rfl,λ_ _=>rfl,H,by omega,by simp[valD]⟩
def SumS.next (h:SumS os dy k c rs)(O:OkD os)(H:OkD dy)(hk:k<os.length):
 SumS os dy (k+1) ((os.getD k 0+dy.getD k 0+c)/4294967296) (rs.set k ((os.getD k 0+dy.getD k 0+c)%4294967296)):=by
 have i:=Dp O k;have g:=Dp H k;have l:=h.c1;refine⟨by simp[h.len],λj f=>?_,λd g1=>?_,by omega,?_⟩
 . rw[DZ,Xu (by omega)];exact h.high j (by omega)
 ·rcases Zc g1 with e|e
  . exact h.ok d e
  . subst e;omega
 ·have b:=h.val;obtain⟨t,I⟩:=Ex ((os.getD k 0+dy.getD k 0+c)%4294967296);obtain⟨c2,g0⟩:=Ex ((os.getD k 0+dy.getD k 0+c)/4294967296);rw[<-I,<-g0];have a:(rs.set k t).getD k 0=t:=by rw[DZ,Xx ⟨rfl,by rw[h.len];exact hk⟩]
  rw[Ea,Ea,Ea,Kl,a];have key:t+4294967296*c2=os.getD k 0+dy.getD k 0+c:=by rw[I,g0];omega
  have k2:=Yf (λz=>4294967296^k*z) key;simp only[ZB]at k2;rw[XJ,ZI]
  generalize 4294967296^k*t=T at *
  generalize 4294967296^k*os.getD k 0=X at *
  generalize 4294967296^k*dy.getD k 0=Y at *
  generalize 4294967296^k*c=Z at *
  generalize 4294967296^k*(4294967296*c2)=U at *
  omega
def SumS.done (h:SumS os dy os.length c rs)(H:dy.length<=os.length)(hl:valD os+valD dy<4294967296^os.length):valD rs=valD os+valD dy:=by
 have I:=h.val;rw[XP,XK (by rw[h.len];exact Xs _),XK H]at I;have O:=h.c1;rcases(show c=0\/c=1 by omega)with rfl|rfl
 . omega
 . omega
def Oy (h:x<4294967296^1000):(digD x).length<=1000:=Nat.le_of_not_lt λH=>by
 have:=Oe x 1000 H;omega
def Vm {a m:Nat}(hx:x<4294967296^a)(H:y<4294967296^b)(I:a+1<=m)(hb:b+1<=m):x+y<4294967296^m:=by
 obtain⟨n,rfl⟩:∃n,m=n+1:=⟨m-1,by omega⟩;have h1:=X8 (n:=4294967296) (by omega) (show a<=n by omega);have h2:=X8 (n:=4294967296) (by omega) (show b<=n by omega);rw[XJ]
 generalize 4294967296^n=p at *
 omega
def Vn (m:Nat)(ds:List Nat):splice (u32V (List.replicate (ds.length+m) 0)) 0 (u32V ds)=u32V (ds++List.replicate m 0):=by
 unfold splice u32V;simp
def Eb (w:Wd):NatV w (.slice none 0 0) 0:=by
 refine⟨none,0,by rw[BY];rfl,by rw[BY];exact Xs _,by omega,⟨by rw[BY];exact X0 _,?_,λk hk=>?_⟩⟩
 . rw[BY];intro d H;cases H
 . rw[BY]at hk;cases hk
def Vo (xs:List Nat)(k:Nat):(xs.take k).sum<=xs.sum:=by
 have h:=YV k xs;have:xs.sum=(xs.take k).sum+(xs.drop k).sum:=by rw[<-List.sum_append,h]
 omega
def Oz {xs:List Nat}(hk:k<xs.length):(xs.take (k+1)).sum=(xs.take k).sum+xs.getD k 0:=by
 rw[Zk,Xy hk,List.sum_append];simp[List.getD,Xy hk]
def O0 {a:Option Addr}{xs:List Nat}(h:E6 w a xs)(hs:xs.sum<4294967296^1000):
 Cl 50 #[.slice a xs.length c] w λe w'=>(∃v',e=.returned v'/\NatV w' v' xs.sum/\∀q,v'.ownBlock=some q->w.heap.size<=q)/\Bw w w':=by
 have HA:=Hd h;have gN:=Hd hs;have gC:=h.len;obtain⟨P,F⟩:=Ex (λe w'=>(∃v',e=.returned v'/\NatV w' v' xs.sum/\∀q,v'.ownBlock=some q->w.heap.size<=q)/\Bw w w':Ending->Wd->Prop)
 have gQ:=Hd F;rw[<-F];obtain⟨n,D⟩:=Ex xs.length;rw[<-D]at gC⊢;have u:=Hd D;have HZ:Hq (NatV w (.slice none 0 0) (xs.take 0).sum/\∀q,(Value.slice none 0 0).ownBlock=some q->w.heap.size<=q):=Hd ⟨by simpa using Eb w,λq e=>by cases e⟩;have gU:Hq (Bw w w):=Hd (X7 _ _);clear F h hs D
 go_enter func50,ntmps50
 go_wp2
 go_loopw [3,5,6,7,8,9,12,28] (λs3 _ _ _ _ _ X _ wr=>∃k:Nat,k<=n/\X=Iv (k:Int)/\Hq (NatV wr s3 (xs.take k).sum/\∀q,s3.ownBlock=some q->w.heap.size<=q)/\Hq (Bw w wr)) (λ_ _ _ _ _ _ X _ _=>n-(intOf X).toNat)
 case atStart=>exact⟨0,X0 _,rfl,HZ,gU⟩
 case round=>
  obtain⟨k,hk,rfl,s,i⟩:=hrel;obtain⟨wo,gE⟩:∃W',W'=wr:=⟨_,rfl⟩;subst gE
  by_cases W:k<n
  ·have gV:(k:Int)<(n:Int):=by omega
   obtain⟨b,off,v,rfl,hc,m⟩:=(HA.o.below i.o).cells k (by rw[<-u.o];exact W);have g7:(xs.take k).sum+xs.getD k 0<4294967296^1000:=by
    rw[<-Oz (by rw[<-u.o];exact W)];exact Nat.lt_of_le_of_lt (Vo _ _) gN.o
   have gf:=Hd (Oz (xs:=xs) (k:=k) (by rw[<-u.o];exact W));obtain⟨x,hx⟩:=Ex ((xs.take k).sum);obtain⟨y,hy⟩:=Ex (xs.getD k 0);have gm:=s.o.1;rw[<-hx]at gm g7 gf;rw[<-hy]at m g7 gf;obtain⟨a1,c1,rfl,l1,l2,A⟩:=gm;obtain⟨a2,c2,rfl,m1,m2,m3⟩:=m;have q1:=Oy (x:=x) (by omega);have q2:=Oy (x:=y) (by omega);have gw:=Hd (Cv x);have ge:=Hd (Cv y);have gk:=Hd (Ie x);have N:=Hd (Ie y);obtain⟨dx,gu⟩:∃d,d=digD x:=⟨_,rfl⟩;obtain⟨dy,gt⟩:∃d,d=digD y:=⟨_,rfl⟩;rw[<-gu]at l1 A q1 gw gk⊢;rw[<-gt]at m1 m3 q2 ge N hc;obtain⟨L,J⟩:=Ex dx.length;obtain⟨M,G⟩:=Ex dy.length;rw[<-J]at l1 q1 gk⊢;rw[<-G]at m1 q2 N hc;have HL:=Hd J;have HM:=Hd G;have gy:=Hd A;have g6:=Hd m3;obtain⟨T,p⟩:=Ex ((max L M)+1);have eT:max (L:Int) (M:Int)+1=(T:Int):=by omega
   have gY:T<=1001:=by omega
   have gK:L+1<=T:=by omega
   have gJ:M+1<=T:=by omega
   clear hx hy gu gt J G A m3 p s g7;have gA:=i.o.size;go_upto_region 6 with (at_make;refine C7 If rfl _ _ rfl wo.heap.size wo _ T rfl rfl (by first|exact eT|omega) (by omega) (Xs _) (X7 _ _) ?_;intro g w2 g4 g5 hs1 gG V gH;clear gH)
   have g3:=Ig g4 (by simp);have gx:=Hd (gy.o.below g5);have gM:=Hd (g6.o.below g5)
   have gz:Hq (RowU w2 g (List.replicate T 0)):=Hd (by
    unfold RowU;rw[g3];simp[u32V])
   clear g3 g4 gG hs1;have Q:=Hd (show L=(u32V dx).length by rw[Cn];exact HL.o);obtain⟨os0,g0⟩:∃o,o=dx++List.replicate (T-L) 0:=⟨_,rfl⟩;have gp:os0.length=T:=by rw[g0];simp[<-HL.o];omega
   have g9:OkD os0:=by
    rw[g0];intro d I;rcases XD.1 I with I|I
    . exact gy.o.ok d I
    . rw[(List.mem_replicate.1 I).2];omega
   have gn:valD os0=x:=by
    rw[g0,E5,GY _ (λd I=>(List.mem_replicate.1 I).2),gw.o];simp
   have gR:Hq (splice (u32V (List.replicate T 0)) 0 (u32V dx)=u32V os0):=Hd (by
    rw[g0,<-Vn,<-HL.o,show L+(T-L)=T by omega])
   have H:=Hd (show os0.length=T/\OkD os0/\valD os0=x from⟨gp,g9,gn⟩);clear g0 gp g9 gn;go_upto_region 7 with (refine ZX rfl _ _ 40 40 rfl 136 underlying40 Ih (some (Av g)) a1 T T L c1 rfl rfl g 0 (u32V (List.replicate T 0)) 136 gz.o (u32V dx) (by rw[<-Q.o];exact(Zo (by omega)).symm) (λhp=>⟨rfl,gx.o.src (by rw[Cn]at hp;exact hp)⟩) (by rw[<-Q.o,Cn];simp;omega) (Ii dx) wo.heap.size wo g5 V ?_;intro w3 go gv)
   have gP:Hq (RowU w3 g os0):=Hd (by
    have:_=_:=go;rw[gR.o]at this;exact this)
   have gT:=Hd gv;have gO:Hq (SumS os0 dy 0 0 os0):=Hd (SumS.start H.o.2.1);clear go gv gz gx gM g5 Q
   generalize (if L<M then(M:Int)else(L:Int))=mx
   go_wp2
   go_loopw [7,8,9,28] (λs7 _ _ U wr=>∃(j f:Nat) (rs:List Nat),j<=T/\U=Iv (j:Int)/\s7=.int .u32 (f:Nat)/\Hq (SumS os0 dy j f rs)/\Hq (RowU wr g rs)/\Hq (Bw wo wr)) (λ_ _ _ U _=>T-(intOf U).toNat)
   case atStart=>exact⟨0,0,os0,X0 _,rfl,rfl,gO,gP,gT⟩
   case round=>
    obtain⟨j,f,rs,hj,rfl,rfl,O,Y,HB2⟩:=hrel
    by_cases gq:j<T
    ·have gX:(j:Int)<(T:Int):=by omega
     have g8:=O.o.len;have ck:=Y.o.cell (k:=j) (by rw[g8,H.o.1];exact gq);rw[O.o.high j (Xs _)]at ck;have fk:wr.frozen? (Aw g j)=false:=by have:=Y.o;unfold RowU at this;simp[World.frozen?,this]
     have g1:=Hd (O.o.next H.o.2.1 g6.o.ok (by rw[H.o.1];exact gq));obtain⟨d,I⟩:=Ex (os0.getD j 0);obtain⟨e,Z⟩:=Ex (dy.getD j 0);rw[<-I]at ck g1;rw[<-Z]at g1;have gI:d<4294967296:=by rw[I];exact Dp H.o.2.1 j
     have gr:e<4294967296:=by rw[Z];exact Dp g6.o.ok j
     have g2:=Hd (Vc (w:=wr) gI gr O.o.c1);obtain⟨t,C⟩:=Ex ((d+e+f)%4294967296);obtain⟨b2,S⟩:=Ex ((d+e+f)/4294967296);rw[<-C,<-S]at g2 g1;have R:=Hd (Y.o.set (k:=j) (d:=t));have K:Hq (Bw wo (wr.setCell (Aw g j) (.int .u32 ((t:Nat):Int)))):=Hd (HB2.o.setCell V _);have gg:=Hd (show ∃(B r:Nat) (l:List Nat),B<=T/\(Value.int .i64 ((j:Int)+1))=Iv (B:Int)/\(Value.int .u32 ((b2:Nat):Int))=.int .u32 (r:Nat)/\Hq (SumS os0 dy B r l)/\Hq (RowU (wr.setCell (Aw g j) (.int .u32 ((t:Nat):Int))) g l)/\Hq (Bw wo (wr.setCell (Aw g j) (.int .u32 ((t:Nat):Int)))) from⟨j+1,b2,_,by omega,by rw[show((j+1:Nat):Int)=(j:Int)+1 by omega],rfl,g1,R,K⟩)
     by_cases hm:j<M
     ·obtain⟨bb,oo,rfl,pk⟩:=g6.o.cells j (by rw[<-HM.o];exact hm);have z:=Cq HB2.o pk;rw[<-Z]at z;have gF:(j:Int)<(M:Int):=by omega
      clear pk I Z C S g1 R K O Y HB2 g8;go_wp2_with fail;refine g2.o.mono ?_;rintro q w' ⟨rfl,rfl⟩;go_wp2;go_roundw
      case rel=>exact gg.o
      case measure=>simp[intOf];omega
     ·have gF:¬ (j:Int)<(M:Int):=by omega
      have e0:e=0:=by
       rw[Z];simp[List.getD,XC (show dy.length<=j by rw[<-HM.o];omega)]
      rw[e0]at g2;have gD:Hq (Cl 103 #[.int .u32 (d:Nat),.int .u32 0,.int .u32 (f:Nat)] wr (Sm (.tuple #[.int .u32 (t:Nat),.int .u32 (b2:Nat)]) wr)):=g2;clear I Z C S g1 R K O Y HB2 g8 e0 gr g2;go_wp2_with fail;refine gD.o.mono ?_;rintro q w' ⟨rfl,rfl⟩;go_wp2;go_roundw
      case rel=>exact gg.o
      case measure=>simp[intOf];omega
    ·obtain rfl:j=T:=by omega
     have gB:¬ (j:Int)<(j:Int):=by omega
     have E:=O.o;rw[<-H.o.1]at E;have gc:=E.done (by rw[<-HM.o,H.o.1];omega) (by rw[H.o.1,H.o.2.2,ge.o];exact Vm gk.o N.o gK gJ);rw[H.o.2.2,ge.o,<-gf.o]at gc;have p:=Ia (c:=j) (Y.o.at O.o.ok (by rw[O.o.len,H.o.1];omega)) (by rw[O.o.len,H.o.1];exact Xs _) (by omega);rw[gc,O.o.len,H.o.1]at p;have HT:=Hd p;have gS:=Hd (i.o.trans (HB2.o.mono i.o.size));clear p gc E O Y HB2;go_wp2_with fail;refine HT.o.mono ?_;rintro e w' ⟨⟨v',rfl,m,hq⟩,rfl⟩;have gL:Hq (NatV wr v' (xs.take (k+1)).sum/\∀q,v'.ownBlock=some q->w.heap.size<=q):=Hd ⟨m,λq e=>by rw[hq q e];exact Xz gA V⟩;clear m hq HT;go_wp2;go_roundw
     case rel=>exact⟨k+1,by omega,by rw[show((k+1:Nat):Int)=(k:Int)+1 by omega],gL,gS⟩
     case measure=>simp[intOf];omega
  ·obtain rfl:k=n:=by omega
   have gB:¬ (k:Int)<(k:Int):=by omega
   have HF:Hq (P (.returned u3) wo):=Hd (by
    rw[gQ.o];refine⟨⟨_,rfl,?_,s.o.2⟩,i.o⟩;have:=s.o.1;rw[u.o,XP]at this;exact this)
   clear s i;go_wp2_with fail;exact HF.o
def Vp {a:Option Addr}{xs:List Nat}(h:E6 w a xs)(hs:xs.sum<4294967296^1000):
 Cl 50 #[.slice a xs.length c] w λe w'=>(∃v',e=.returned v'/\NatV w' v' xs.sum)/\Bw w w':=
 (O0 h hs).mono λ_ _ ⟨⟨v,h1,h2,_⟩,h3⟩=>⟨⟨v,h1,h2⟩,h3⟩
def Km (args:Array Value)(w:Wd):(callFunc 111 args).run prog w=.ok (.enter 111 args) w:=YF func111 (by kernel_rfl) rfl args w
def kEdS:Da prog 107 (Value.int .i64):=IE underlying107
def Vq {es:Array MapEntry}(h:w.heap[b]?=some (.map es c))(H:w.cell? (Aw b k)=some v):False:=by
 simp[World.cell?,h]at H
def NatV.other {κ:Type}[DecidableEq κ]{w w':Wd}{v:Value}{x b:Nat}{enc:κ->Value}{l:List (κ×Value)}(h:NatV w v x)(X:Au w b enc l)(U:Wr (· = b) w w'):NatV w' v x:=by
 obtain⟨a,c,h1,h2,h3,I⟩:=h;obtain⟨es,Y,hb,_⟩:=X.ex;refine⟨a,c,h1,h2,h3,⟨I.len,I.ok,λk hk=>?_⟩⟩;obtain⟨O,off,e,H⟩:=I.cells k hk;refine⟨O,off,e,Co H (U.keep O (Ad H) λe2=>?_)⟩;have e2:O=b:=e2;subst e2;exact Vq hb H
def Cp (W:Wd)(fv:Value)(fx:Nat->Option Bool):Prop:=
 (fv=.map none/\∀v,fx v=none)\/∃H l,fv=.map (some H)/\Au W H (Value.int .i64) l/\∀v:Nat,getL l (v:Int)=(fx v).map Value.bool
def Cp.other {κ:Type}[DecidableEq κ]{W W':Wd}{fv:Value}{fx:Nat->Option Bool}{b:Nat}(h:Cp W fv fx)(H:fv ≠ .map (some b))(O:Wr (· = b) W W'):Cp W' fv fx:=by
 rcases h with h|⟨I,l,h1,h2,h3⟩
 . exact .inl h
 . exact .inr ⟨I,l,h1,h2.keepB (O.keep I h2.lt (λe=>H (by rw[h1,e]))),h3⟩
def Cp.below {W W':Wd}{fv:Value}{fx:Nat->Option Bool}(h:Cp W fv fx)(hb:Bw W W'):Cp W' fv fx:=by
 rcases h with h|⟨H,l,h1,h2,h3⟩
 . exact .inl h
 . exact .inr ⟨H,l,h1,h2.below hb,h3⟩
def Cp.lookup {W:Wd}{fv:Value}{fx:Nat->Option Bool}(h:Cp W fv fx)(v:Nat):
 (Instr.lookup 120 fv (Iv (v:Nat)) true).run prog W=.ok (.tuple #[.bool ((fx v).getD false),.bool (fx v).isSome]) W:=by
 rcases h with ⟨rfl,h⟩|⟨O,l,rfl,h2,h3⟩
 . rw[h v];have hu:=underlying120;have H:=zeroValue4 W;have hk:=D3.check W true (v:Int);have I:=D3.find W (v:Int) [] [] rfl;simp[Instr.lookup,XZ hu,H,hk,I,AH,Result.andThen]
 . rw[h2.lookup D3 underlying120 zeroValue4 (v:Int) true,h3 v];cases fx v<;>rfl
structure TtC where
 ba:Nat
 bt:Nat
 bk:Nat
 bx:Nat
 bf:Nat
 kt:Nat
 xb:Nat
def TtC.caps (c:TtC):Array Value:=#[Pt c.ba,Pt c.bt,Pt c.bk,Pt c.bx,Pt c.bf]
structure TtS (F:Phi)(c:TtC)(mb:Nat)(o:Own)(m:ManD)(V:Nat->BF)(fv:Value)(fx:Nat->Option Bool)(W:Wd):Prop where
 is:AF F o W mb m
 lt:Ac o W
 ok:Ai m.d V
 n64:m.d.vars.length<=64
 x:AR o W c.xb mb
 ba:∃va,W.cell? (Av c.ba)=some va/\NatV W va (2^m.d.vars.length)/\∀q,va.ownBlock=some q->o q=none
 bt:W.cell? (Av c.bt)=some (.func (.func 111) #[] c.caps)
 bk:W.cell? (Av c.bk)=some (.map (some c.kt))
 bx:W.cell? (Av c.bx)=some (Pt c.xb)
 bf:W.cell? (Av c.bf)=some fv
 fix:Cp W fv fx
 fne:fv ≠ .map (some c.kt)
 map:∃l,Au W c.kt (Value.int .i64) l/\∀p∈l,∃e:Nat,p.1=(e:Int)/\NatV W p.2 (totN m.d.vars.length fx (ef V e))/\∀q,p.2.ownBlock=some q->o q=none
 own:o c.kt=none
 ne:c.kt≠c.ba/\c.kt≠c.bt/\c.kt≠c.bk/\c.kt≠c.bx/\c.kt≠c.bf/\c.kt≠c.xb
section
variable {F:Phi}{c:TtC}{o:Own}
def TtS.go (h:TtS F c mb o m V fv fx W)(hx:Wr (· = c.kt) W W')(I:∃l,Au W' c.kt (Value.int .i64) l/\∀p∈l,∃e:Nat,p.1=(e:Int)/\NatV W' p.2 (totN m.d.vars.length fx (ef V e))/\∀q,p.2.ownBlock=some q->o q=none):TtS F c mb o m V fv fx W':=by
 have H:∀{b k:Nat} {v:Value},W.cell? (Aw b k)=some v->c.kt≠b->W'.cell? (Aw b k)=some v:=λh h1=>(XR (w:=W) (hx.keep _ (Ad h) (λe=>h1 e.symm))).trans h
 obtain⟨Z,Y,X,U,n5,n6⟩:=h.ne;obtain⟨O,f,a2,a3⟩:=h.ba;obtain⟨l,a,g⟩:=h.map;exact⟨h.is.other h.lt hx (λk _ e=>by subst e;exact h.own),h.lt.mono hx.size,h.ok,h.n64,⟨H h.x.cell n6,h.x.own⟩,⟨O,H f Z,a2.other a hx,a3⟩,H h.bt Y,H h.bk X,H h.bx U,H h.bf n5,Cp.other (κ:=Int) h.fix h.fne hx,h.fne,I,h.own,h.ne⟩
def TtS.below (h:TtS F c mb o m V fv fx W)(hb:Bw W W'):TtS F c mb o m V fv fx W':=by
 obtain⟨l,I,H⟩:=h.map;refine h.go (Wr.of_below hb _) ⟨l,I.below hb,λp O=>?_⟩;obtain⟨e,e1,e2,U⟩:=H p O;exact⟨e,e1,e2.below hb,U⟩
def TtS.get (h:TtS F c mb o m V fv fx W)(e:Nat):∃r:Option Value,(∀v,r=some v->NatV W v (totN m.d.vars.length fx (ef V e))/\∀q,v.ownBlock=some q->o q=none) /\
 (Instr.lookup 176 (.map (some c.kt)) (Iv (e:Nat)) true).run prog W=.ok (.tuple #[r.getD (.slice none 0 0),.bool r.isSome]) W:=by
 obtain⟨l,X,U⟩:=h.map;refine⟨getL l (e:Int),λv Y=>?_,?_⟩
 . obtain⟨Z,O,I,H⟩:=U _ (Ej Y);have:e=Z:=ZH O;subst this;exact⟨I,H⟩
 . have:=X.lookup kEdS underlying176 zeroValue40 (e:Int) true;rw[this];cases getL l (e:Int)<;>rfl
def TtS.put (h:TtS F c mb o m V fv fx W)(e:Nat)(Y:NatV W v (totN m.d.vars.length fx (ef V e)))(j:∀q,v.ownBlock=some q->o q=none):
 ∃w',(Instr.mapUpdate 176 (.map (some c.kt)) (Iv (e:Nat)) v).run prog W=.ok () w'/\Wr (· = c.kt) W w'/\TtS F c mb o m V fv fx w'/\NatV w' v (totN m.d.vars.length fx (ef V e)):=by
 obtain⟨l,H,i⟩:=h.map;obtain⟨w',a,X,Z⟩:=H.update kEdS underlying176 (e:Int) v;have I:Wr (· = c.kt) W w':=Wr.of_grown Z _ (λk e=>by cases e;rfl);refine⟨w',a,I,h.go I ⟨_,X,λp n=>?_⟩,Y.other H I⟩;have O:=DG X.nodup (k:=p.1) (v:=p.2) n;rw[IB H.nodup]at O
 by_cases U:p.1=(e:Int)
 . rw[Xx U]at O;refine⟨e,U,?_⟩;rw[<-Yr O];exact⟨Y.other H I,j⟩
 . rw[Xu U]at O;obtain⟨r,g,f,b⟩:=i _ (Ej O);exact⟨r,g,f.other H I,b⟩
def TtR (F:Phi)(c:TtC)(mb:Nat)(o:Own)(m:ManD)(V:Nat->BF)(fv:Value)(fx:Nat->Option Bool)(g:Nat)(W:Wd)(x:Ending)(w':Wd):Prop:=
 ∃v,x=.returned v/\Wr (· = c.kt) W w'/\TtS F c mb o m V fv fx w'/\NatV w' v (totN m.d.vars.length fx (ef V g))/\∀q,v.ownBlock=some q->o q=none
end
section
variable {F:Phi}{c:TtC}{o:Own}
def Vr (h:TtS F c mb o m V fv fx W):Cl 111 (#[Iv 0]++c.caps) W (TtR F c mb o m V fv fx 0 W):=by
 obtain⟨ba,bt,bk,bx,bf,kt,xb⟩:=c;obtain⟨I,U,g1,g0⟩:=h.ba;have H:Hq (TtR F ⟨ba,bt,bk,bx,bf,kt,xb⟩ mb o m V fv fx 0 W (.returned I) W):=Hd ⟨I,rfl,Wr.refl _ _,h,by rw[h.ok.dag.ef0,NW];exact g1,g0⟩;unfold TtC.caps;obtain⟨P,O⟩:=Ex (TtR F ⟨ba,bt,bk,bx,bf,kt,xb⟩ mb o m V fv fx 0 W);rw[<-O]at H⊢;clear O h g1 g0
 show Calls _ _ #[_,_,_,_,_,_] _ _
 go_enter func111,ntmps111
 go_wp2_with fail
 first|exact H.o|(go_ret;exact H.o)
def Vs (y:okE (Aa m.d) g)(O:g%2=1)(IH:∀W,TtS F c mb o m V fv fx W->Cl 111 (#[Iv (enot g:Nat)]++c.caps) W (TtR F c mb o m V fv fx (enot g) W))(h:TtS F c mb o m V fv fx W):
 Cl 111 (#[Iv (g:Nat)]++c.caps) W (TtR F c mb o m V fv fx g W):=by
 obtain⟨ba,bt,bk,bx,bf,kt,xb⟩:=c;have g3:=D2 (K:=λ_ _=>F) (V:=V) h.is y;have ge:¬ ((g:Nat):Int)=0:=by omega
 have g7:Hq (Cl 60 #[Iv g] W (Sm (.bool true) W)):=Hd (by
  have:=CZ g W g3
  rwa [show eneg g=true by simp[eneg,O]]at this)
 obtain⟨U,g0⟩:=Ex W.drew;have g4:Bw W U:=by rw[g0];exact An W 1
 have b:=h.below g4;have g9:=Hd g0;have g6:Hq (Cl 112 #[Iv g] U (Sm (Iv (enot g:Nat)) U)):=Hd (Gh g U g3);obtain⟨f,H,g2,-⟩:=b.ba;have I:=b.bt;unfold TtC.caps at I;have p:=Hd (IH U b);obtain⟨N,n⟩:=Ex m.d.vars.length;have g8:totN N fx (ef V (enot g))<=2^N:=NX _ _ _;have g1:2^N-totN N fx (ef V (enot g))=totN N fx (ef V g):=by
  have:=UP N fx (ef V (enot g));rw[<-this];congr 1;funext ρ
  show(!ef V (enot g) ρ)=_
  rw[DB,Bool.not_not]
 have g5:Hq (∀W1 v,NatV W1 v (totN N fx (ef V (enot g)))->NatV W1 f (2^N)->Cl 77 #[f,v] W1 λe w'=>(∃v',e=.returned (.tuple #[v',.bool true])/\NatV w' v' (totN N fx (ef V g))/\∀q,v'.ownBlock=some q->W1.heap.size<=q)/\Bw W1 w'):=Hd λW1 v h1 h2=>by
  have:=Ox h2 h1 g8
  rwa [g1]at this
 rw[<-n]at g2;have J:=Hd g2;have gc:=Hd (Wr.of_below g4 (· = kt));obtain⟨P,l⟩:=Ex (TtR F ⟨ba,bt,bk,bx,bf,kt,xb⟩ mb o m V fv fx g W);have G:=Hd l;rw[<-l];have A:=Hd b;have B:=Hd n;have L:=Km;unfold TtC.caps at p⊢;clear l h IH y g3 g0 g4 b g2 g8 g1 O n
 show Calls _ _ #[_,_,_,_,_,_] _ _
 go_enter func111,ntmps111
 go_wp2_with fail;refine g7.o.mono ?_;rintro x w' ⟨rfl,rfl⟩;clear g7;go_upto_region 4 with fail;refine D4 [0,1,2,3,4,5,6,7,8,9,10] (λW'=>W'.cell? (Av ba)=some f/\W'.cell? (Av bt)=some (.func (.func 111) #[] #[Pt ba,Pt bt,Pt bk,Pt bx,Pt bf])) (λch w'=>False) (λc a w R h=>h.elim) (by kernel_rfl) (by rw[<-g9.o];exact⟨H,I⟩) ?_;rw[<-g9.o]
 iterate 3
  refine Ce rfl rfl (by kernel_rfl) ?_;apply Exists.intro;refine⟨λw' t=>?_,?_⟩
  . obtain⟨Y,X⟩:=t;go_simp;rfl
  simp only[Ab]
 refine BX (R1:=λu w'=>u=Iv (enot g:Nat)/\U=w') rfl (by kernel_rfl) rfl rfl (by go_simp) (g6.o.mono λx w' h=>⟨_,h.1,rfl,h.2⟩) (by rintro u w' ⟨_,rfl⟩;exact⟨H,I⟩) ?_;rintro u w'-⟨rfl,rfl⟩;simp only[Ab]
 refine BX (R1:=λu w'=>Wr (· = kt) U w'/\TtS F ⟨ba,bt,bk,bx,bf,kt,xb⟩ mb o m V fv fx w'/\NatV w' u (totN N fx (ef V (enot g)))) rfl (by kernel_rfl) rfl rfl (by go_simp) (p.o.mono λx w' ⟨v,e,Y,X,E,_⟩=>⟨v,e,Y,X,by rw[B.o];exact E⟩) (by
  rintro u w' ⟨Y,X,_⟩;refine⟨?_,X.bt⟩;exact(Co H (Y.keep ba (Ad H) (λe=>A.o.ne.1 e.symm)))) ?_
 rintro D w1 ⟨cba1,cbt1⟩ ⟨j,i,s⟩;simp only[Ab];obtain⟨Q,Z,_⟩:=A.o.map;have z:=Hd (g5.o w1 D s (J.o.other Z j))
 refine BX (R1:=λu w'=>∃v',u=.tuple #[v',.bool true]/\(NatV w' v' (totN N fx (ef V g))/\∀q,v'.ownBlock=some q->w1.heap.size<=q)/\Bw w1 w') rfl (by kernel_rfl) rfl rfl (by go_simp) (z.o.mono λx w' ⟨⟨v,e,Y⟩,X⟩=>⟨_,e,v,rfl,Y,X⟩) (by
  rintro u w' ⟨v,_,_,q⟩;exact⟨(Cq q cba1),(Cq q cbt1)⟩) ?_
 rintro M w2-⟨v2,rfl,⟨r,k2⟩,k⟩;simp only[Ab]
 have C:Hq (P (.returned v2) w2):=Hd (by
  rw[G.o];exact⟨v2,rfl,(gc.o.trans j (λ_ _ e=>e) (λ_ _ e=>e)).trans (Wr.of_below k (· = kt)) (λ_ _ e=>e) (λ_ _ e=>e),i.below k,(by rw[<-B.o];exact r),λq e=>i.lt.none (k2 q e)⟩)
 clear k2 r k s j i cba1 cbt1 z p g6 g5 Z
 iterate 5
  refine Ce rfl rfl (by kernel_rfl) ?_;apply Exists.intro;refine⟨λw' t=>?_,?_⟩
  . go_simp;rfl
  simp only[Ab]
 refine D5 (by kernel_rfl) ?_;clear H I;go_wp2_with fail
 first|exact C.o|(go_ret;exact C.o)
def Vt (U:okE (Aa m.d) g)(h0:g≠0)(H:g%2=0)(I:NatV W v (totN m.d.vars.length fx (ef V g))/\∀q,v.ownBlock=some q->o q=none)(Y:(Instr.lookup 176 (.map (some c.kt)) (Iv (g:Nat)) true).run prog W=.ok (.tuple #[v,.bool true]) W)(h:TtS F c mb o m V fv fx W):
 Cl 111 (#[Iv (g:Nat)]++c.caps) W (TtR F c mb o m V fv fx g W):=by
 obtain⟨ba,bt,bk,bx,bf,kt,xb⟩:=c;have g1:=D2 (K:=λ_ _=>F) (V:=V) h.is U;have g2:¬ ((g:Nat):Int)=0:=by omega
 have g0:Hq (Cl 60 #[Iv g] W (Sm (.bool false) W)):=Hd (by
  have:=CZ g W g1
  rwa [show eneg g=false by simp[eneg,H]]at this)
 have Z:=h.bk;have O:Hq (TtR F ⟨ba,bt,bk,bx,bf,kt,xb⟩ mb o m V fv fx g W (.returned v) W):=Hd ⟨v,rfl,Wr.refl _ _,h,I.1,I.2⟩;unfold TtC.caps;obtain⟨P,X⟩:=Ex (TtR F ⟨ba,bt,bk,bx,bf,kt,xb⟩ mb o m V fv fx g W);rw[<-X]at O⊢;clear X h I U g1 H h0
 show Calls _ _ #[_,_,_,_,_,_] _ _
 go_enter func111,ntmps111
 go_wp2_with fail;refine g0.o.mono ?_;rintro x w' ⟨rfl,rfl⟩;clear g0;go_wp2_with fail
 first|exact O.o|(go_ret;exact O.o)
def Vu (IH:∀g W,TtS F c mb o m V fv fx W->okE (Aa m.d) g->m.d.vars.length<=lvE m.d.vars.length (levN m.d) (Aa m.d) g+k->Cl 111 (#[Iv (g:Nat)]++c.caps) W (TtR F c mb o m V fv fx g W))
 {g:Nat} {b:BN} (hb:Aa m.d (g/2)=some b) (hev:g%2=0) (hlev:m.d.vars.length<=lvE m.d.vars.length (levN m.d) (Aa m.d) g+(k+1)) {z:Value} (hlk:(Instr.lookup 176 (.map (some c.kt)) (Iv (g:Nat)) true).run prog W=.ok (.tuple #[z,.bool false]) W) (h:TtS F c mb o m V fv fx W):
 Cl 111 (#[Iv (g:Nat)]++c.caps) W (TtR F c mb o m V fv fx g W):=by
 obtain⟨ba,bt,bk,bx,bf,kt,xb⟩:=c;have hg:okE (Aa m.d) g:=.inr ⟨b,hb⟩;have gF:=D2 (K:=λ_ _=>F) (V:=V) h.is hg;have gt:=h.ok.dag.var _ _ hb;have hl:levN m.d b.v<=lvE m.d.vars.length (levN m.d) (Aa m.d) g:=by unfold lvE;rw[hb];exact Xs _
 have gU:lvE m.d.vars.length (levN m.d) (Aa m.d) g=levN m.d b.v:=by unfold lvE;rw[hb]
 obtain⟨Z,H,q3,q4,_⟩:=Bo h.ok hg gt hl;obtain⟨⟨_,U⟩,_,O⟩:=GR h.ok hb;have gY:¬ ((g:Nat):Int)=0:=λe=>by
  have:g/2=0:=by omega
  rw[this,h.ok.dag.none0]at hb;cases hb
 have gD:Hq (Cl 60 #[Iv g] W (Sm (.bool false) W)):=Hd (by
  have:=CZ g W gF
  rwa [show eneg g=false by simp[eneg,hev]]at this)
 obtain⟨lo,gp⟩:∃z,z=(cofs m.d g b.v).1:=⟨_,rfl⟩;obtain⟨hi,gq⟩:∃z,z=(cofs m.d g b.v).2:=⟨_,rfl⟩;rw[<-gp]at Z q3 U;rw[<-gq]at H q4 O;obtain⟨bv,g3⟩:∃z,z=b.v:=⟨_,rfl⟩;have gA:Hq (∀W' s,TtS F ⟨ba,bt,bk,bx,bf,kt,xb⟩ mb o m V fv fx W'->W'.heap[s]?=some (.cells #[Iv g] 107 (0,0))->Cl 61 #[Pt xb,.slice (some (Av s)) 1 1] W' (Bl (Iv (bv:Nat)) W')):=Hd λW' s g' hs=>by
  refine(F4 g'.is g'.lt g'.x g'.ok [g] (by simpa using hg) (some (Av s)) 1 ⟨by simp,λi gV=>?_⟩).mono ?_
  ·obtain rfl:i=0:=by simpa using gV
   exact⟨s,0,rfl,by rw[Xw _ _ 0 _ _ _ hs];rfl⟩
  ·rintro x w' ⟨top,least,rfl,ht,gT⟩;rcases JU ht with ⟨_,hn⟩|⟨b',gG,rfl⟩
   . rw[hb]at hn;cases hn
   . rw[hb]at gG;cases gG;exact⟨by rw[g3],gT⟩
 have gN:Hq (∀W',TtS F ⟨ba,bt,bk,bx,bf,kt,xb⟩ mb o m V fv fx W'->Cl 62 #[Pt xb,Iv g,Iv (bv:Nat)] W' (Bl (.tuple #[Iv lo,Iv hi]) W')):=Hd λW' g'=>by
  have:=EM g'.is g'.lt g'.x g'.ok g hg (b.v:Nat);rw[<-gp,<-gq,<-g3]at this;exact this
 have gR:Hq (∀W',TtS F ⟨ba,bt,bk,bx,bf,kt,xb⟩ mb o m V fv fx W'->(Instr.lookup 120 fv (Iv (bv:Nat)) true).run prog W'=.ok (.tuple #[.bool ((fx bv).getD false),.bool (fx bv).isSome]) W'):=Hd λW' g'=>g'.fix.lookup bv
 obtain⟨N,r⟩:=Ex m.d.vars.length;have HN:=Hd r;have gg:Hq (∀W',TtS F ⟨ba,bt,bk,bx,bf,kt,xb⟩ mb o m V fv fx W'->Cl 111 #[Iv lo,Pt ba,Pt bt,Pt bk,Pt bx,Pt bf] W' λx w'=>∃v,x=.returned v/\Wr (· = kt) W' w'/\TtS F ⟨ba,bt,bk,bx,bf,kt,xb⟩ mb o m V fv fx w'/\NatV w' v (totN N fx (ef V lo))/\∀q,v.ownBlock=some q->o q=none):=Hd λW' g'=>by
  rw[r];exact IH lo W' g' Z (by omega)
 have gf:Hq (∀W',TtS F ⟨ba,bt,bk,bx,bf,kt,xb⟩ mb o m V fv fx W'->Cl 111 #[Iv hi,Pt ba,Pt bt,Pt bk,Pt bx,Pt bf] W' λx w'=>∃v,x=.returned v/\Wr (· = kt) W' w'/\TtS F ⟨ba,bt,bk,bx,bf,kt,xb⟩ mb o m V fv fx w'/\NatV w' v (totN N fx (ef V hi))/\∀q,v.ownBlock=some q->o q=none):=Hd λW' g'=>by
  rw[r];exact IH hi W' g' H (by omega)
 have hn64:=h.n64;rw[<-r]at hn64;have g8:Hq (∀G,totN N fx G<=18446744073709551616):=Hd λG=>Xz (NX _ _ _) (Xz (X8 (by omega) hn64) (by decide))
 have g6:Hq (∀y,fx bv=some y->totN N fx (ef V (if y then hi else lo))=totN N fx (ef V g)):=Hd λy D=>by
  rw[g3]at D;cases y with
  | true=>rw[Xx rfl,O,NY D]
  | false=>rw[Xu (by simp),U,NY D]
 have g7:Hq (fx bv=none->(totN N fx (ef V lo)+totN N fx (ef V hi))/2=totN N fx (ef V g)):=Hd λD=>by
  rw[g3]at D;rw[U,O];exact NZ D (by rw[r];exact gt) _
 have g1:Hq (∀W' v,TtS F ⟨ba,bt,bk,bx,bf,kt,xb⟩ mb o m V fv fx W'->NatV W' v (totN N fx (ef V g))->(∀q,v.ownBlock=some q->o q=none)->∃w',(Instr.mapUpdate 176 (.map (some kt)) (Iv (g:Nat)) v).run prog W'=.ok () w'/\Wr (· = kt) W' w'/\TtS F ⟨ba,bt,bk,bx,bf,kt,xb⟩ mb o m V fv fx w'/\NatV w' v (totN N fx (ef V g))):=Hd λW' v g' hv hq=>by
  rw[r]at hv⊢;exact g'.put g hv hq
 have cbk:=h.bk;have HS:=Hd h;obtain⟨P,hP⟩:=Ex (TtR F ⟨ba,bt,bk,bx,bf,kt,xb⟩ mb o m V fv fx g W)
 have HP:Hq (∀w' v,Wr (· = kt) W w'->TtS F ⟨ba,bt,bk,bx,bf,kt,xb⟩ mb o m V fv fx w'->NatV w' v (totN N fx (ef V g))->(∀q,v.ownBlock=some q->o q=none)->P (.returned v) w'):=Hd (by
  rw[hP];exact λw' v p1 p2 R Q=>⟨v,rfl,p1,p2,(by rw[<-r];exact R),Q⟩)
 have eg1:=Km;unfold TtC.caps;rw[<-hP];clear hP h IH hb hev hlev hg gF gt hl gU Z H q3 q4 U O gp gq g3 r hn64
 show Calls _ _ #[_,_,_,_,_,_] _ _
 go_enter func111,ntmps111
 go_wp2_with fail;refine gD.o.mono ?_;rintro x w' ⟨rfl,rfl⟩;clear gD;have cbx:=HS.o.bx;have gk:=Ag W (.cells #[Iv g] 107);obtain⟨w4,gi⟩:=Ex (W.alloc (.cells #[Iv g] 107));rw[<-gi]at gk;have go:w4.heap[W.heap.size]?=some (.cells #[Iv g] 107 (0,0)):=by rw[gi];exact Xv _ _
 have gC:=Hd (HS.o.below gk);have gK:=Hd (Wr.of_below gk (· = kt));have gM:=Hd (gA.o w4 _ gC.o go);have gL:Hq (Cl 61 #[Pt xb,.slice (some (Av W.heap.size)) 1 1] (W.alloc (.cells #[Iv g] 107)) (Bl (Iv (bv:Nat)) w4)):=Hd (by have:=gM.o;rw[gi]at this⊢;exact this);clear gk gi go gM gA;go_wp2_with fail;refine gL.o.mono ?_;rintro x w5 ⟨rfl,gv⟩;have gl:=Hd (gC.o.below gv);have gJ:=Hd (gK.o.trans (Wr.of_below gv (· = kt)) (λ_ _ e=>e) (λ_ _ e=>e));have cbx5:=gl.o.bx;have gB:=Hd (gN.o w5 gl.o);clear gv gL gC gK cbx cbk hlk HS gN;go_wp2_with fail;refine gB.o.mono ?_;rintro x I ⟨rfl,gu⟩;have g2:=Hd (gl.o.below gu);have gb:=Hd (gJ.o.trans (Wr.of_below gu (· = kt)) (λ_ _ e=>e) (λ_ _ e=>e));have cbf6:=g2.o.bf;have g0:=gR.o I g2.o;have cbt6:=g2.o.bt;unfold TtC.caps at cbt6;clear gu gB gl gJ cbx5 gR;cases g4:fx bv with
 | some y=>
   have gj:=g6.o y g4;rw[g4]at g0;have g5:(Instr.lookup 120 fv (Iv (bv:Nat)) true).run prog I=.ok (.tuple #[.bool y,.bool true]) I:=g0;clear g0 g4 g6 g7 g8;cases y with
   | true=>
     have gc:Hq (totN N fx (ef V hi)=totN N fx (ef V g)):=Hd gj;have HC:=Hd (gf.o I g2.o);clear gj gg gf;go_wp2_with fail;refine HC.o.mono ?_;rintro x C ⟨v7,rfl,M,A,n7,B⟩;rw[gc.o]at n7;obtain⟨E,gE,Y,X,f⟩:=g1.o C v7 A n7 B;have t:=Hd (HP.o E v7 ((gb.o.trans M (λ_ _ e=>e) (λ_ _ e=>e)).trans Y (λ_ _ e=>e) (λ_ _ e=>e)) X f B);have cbk8:=A.bk;clear B M A n7 Y X f HC g1 HP g2 gb g5 cbf6 cbt6 gc;go_wp2_with fail
     first|exact t.o|(go_ret;exact t.o)
   | false=>
     have gc:Hq (totN N fx (ef V lo)=totN N fx (ef V g)):=Hd gj;have HC:=Hd (gg.o I g2.o);clear gj gg gf;go_wp2_with fail;refine HC.o.mono ?_;rintro x C ⟨v7,rfl,M,A,n7,B⟩;rw[gc.o]at n7;obtain⟨E,gE,Y,X,f⟩:=g1.o C v7 A n7 B;have t:=Hd (HP.o E v7 ((gb.o.trans M (λ_ _ e=>e) (λ_ _ e=>e)).trans Y (λ_ _ e=>e) (λ_ _ e=>e)) X f B);have cbk8:=A.bk;clear B M A n7 Y X f HC g1 HP g2 gb g5 cbf6 cbt6 gc;go_wp2_with fail
     first|exact t.o|(go_ret;exact t.o)
 | none=>
   have gP:=Hd (g7.o g4);rw[g4]at g0;have g5:(Instr.lookup 120 fv (Iv (bv:Nat)) true).run prog I=.ok (.tuple #[.bool false,.bool false]) I:=g0;clear g0 g4 g6 g7;go_upto_region 13 with fail;clear g5 cbf6;obtain⟨wz,gm⟩:=Ex I.drew;have gr:Bw I wz:=by rw[gm];exact An I 1
   have gI:=Hd gm;have HSZ:=Hd (g2.o.below gr);have gw:=Hd (gb.o.trans (Wr.of_below gr (· = kt)) (λ_ _ e=>e) (λ_ _ e=>e));have cz:=HSZ.o.bt;unfold TtC.caps at cz;clear gm gr;refine D4 [0,1,3,4,2,5,6,7,8,9,10,11,12] (λW'=>W'.cell? (Av bt)=some (.func (.func 111) #[] #[Pt ba,Pt bt,Pt bk,Pt bx,Pt bf])) (λch w'=>False) (λc a w hd h=>h.elim) (by kernel_rfl) (by rw[<-gI.o];exact cz) ?_;rw[<-gI.o]
   iterate 4
    refine Ce rfl rfl (by kernel_rfl) ?_;apply Exists.intro;refine⟨λw' hw=>?_,?_⟩
    . have Z:w'.cell? (Av bt)=some (.func (.func 111) #[] #[Pt ba,Pt bt,Pt bk,Pt bx,Pt bf]):=hw;go_simp;rfl
    simp only[Ab]
   refine BX (R1:=λu w'=>Wr (· = kt) wz w'/\TtS F ⟨ba,bt,bk,bx,bf,kt,xb⟩ mb o m V fv fx w'/\NatV w' u (totN N fx (ef V lo))) rfl (by kernel_rfl) rfl rfl (by go_simp) ((gg.o wz HSZ.o).mono λx w' ⟨v,e,h1,h2,h3,_⟩=>⟨v,e,h1,h2,h3⟩) (by rintro u w' ⟨_,H,_⟩;exact H.bt) ?_;rintro u1 C-⟨r1,s1,n1⟩;simp only[Ab];refine BX (R1:=λu w'=>Wr (· = kt) C w'/\TtS F ⟨ba,bt,bk,bx,bf,kt,xb⟩ mb o m V fv fx w'/\NatV w' u (totN N fx (ef V hi))) rfl (by kernel_rfl) rfl rfl (by go_simp) ((gf.o C s1).mono λx w' ⟨v,e,h1,h2,h3,_⟩=>⟨v,e,h1,h2,h3⟩) (by rintro u w' ⟨_,H,_⟩;exact H.bt) ?_;rintro u2 L-⟨r2,s2,n2⟩;simp only[Ab];obtain⟨l1,T,_⟩:=s1.map;have S:=n1.other T r2;obtain⟨ax,lx,cx,rfl⟩:∃a l c,u1=.slice a l c:=by
    obtain⟨a,c,e,_⟩:=n1;exact⟨a,_,c,e⟩
   obtain⟨ay,ly,cy,rfl⟩:∃a l c,u2=.slice a l c:=by
    obtain⟨a,c,e,_⟩:=n2;exact⟨a,_,c,e⟩
   obtain⟨J,gh⟩:=Ex (L.alloc (.cells #[.slice ax lx cx,.slice ay ly cy] 40));have ga:Bw L J:=by rw[gh];exact Ag _ _
   have g9:J.heap[L.heap.size]?=some (.cells #[.slice ax lx cx,.slice ay ly cy] 40 (0,0)):=by rw[gh];exact Xv _ _
   have gz:=Hd gh;have ge:=Hd (s2.below ga);have gy:=Hd (((gw.o.trans r1 (λ_ _ e=>e) (λ_ _ e=>e)).trans r2 (λ_ _ e=>e) (λ_ _ e=>e)).trans (Wr.of_below ga (· = kt)) (λ_ _ e=>e) (λ_ _ e=>e))
   have gH:E6 J (some (Av L.heap.size)) [totN N fx (ef V lo),totN N fx (ef V hi)]:=⟨by simp,λk hk=>by
    have gX:k<2:=by simpa using hk
    rcases(show k=0\/k=1 by omega)with rfl|rfl
    . exact⟨_,_,_,rfl,by rw[Xw _ _ _ _ _ _ g9];rfl,S.below ga⟩
    . exact⟨_,_,_,rfl,by rw[Xw _ _ _ _ _ _ g9];rfl,n2.below ga⟩⟩
   have gn:[totN N fx (ef V lo),totN N fx (ef V hi)].sum<4294967296^1000:=by
    have h1:=g8.o (ef V lo);have h2:=g8.o (ef V hi);have h3:[totN N fx (ef V lo),totN N fx (ef V hi)].sum<4294967296^3:=by
     rw[show(4294967296:Nat)^3=79228162514264337593543950336 by decide];simp only[List.sum_cons,List.sum_nil];omega
    exact X5 h3 (X8 (n:=4294967296) (i:=3) (j:=1000) (by omega) (by omega))
   have gS:=Hd (Vp (c:=2) gH gn);refine US (w':=J) (v:=.slice (some (Av L.heap.size)) 2 2) rfl (by kernel_rfl) rfl (by go_simp<;>exact gz.o.symm) ge.o.bt ?_;simp only[Ab];refine BX (R1:=λu w'=>NatV w' u (totN N fx (ef V lo)+totN N fx (ef V hi))/\Bw J w') rfl (by kernel_rfl) rfl rfl (by go_simp) (gS.o.mono λx w' ⟨⟨v,e,Z⟩,H⟩=>⟨v,e,by simpa using Z,H⟩) (by rintro u w' ⟨_,q⟩;exact(q.cell (p:=Av bt) (Ad ge.o.bt)).trans ge.o.bt) ?_;rintro u3 wa-⟨n3,R⟩;simp only[Ab];have gQ:=Hd (Ov n3);have gd:=Hd (ge.o.below R);refine BX (R1:=λu w'=>∃v' bb,u=.tuple #[v',.bool bb]/\(NatV w' v' ((totN N fx (ef V lo)+totN N fx (ef V hi))/2)/\∀q,v'.ownBlock=some q->wa.heap.size<=q)/\Bw wa w') rfl (by kernel_rfl) rfl rfl (by go_simp) (gQ.o.mono λx w' ⟨⟨v,e,Z⟩,H⟩=>⟨_,e,v,_,rfl,Z,H⟩) (by rintro u w' ⟨_,_,_,_,q⟩;exact(q.cell (p:=Av bt) (Ad gd.o.bt)).trans gd.o.bt) ?_;rintro u4 wb-⟨v4,b4,rfl,⟨n4,k4⟩,Q⟩;have k5:∀q,v4.ownBlock=some q->o q=none:=λq e=>gd.o.lt.none (k4 q e)
   rw[gP.o]at n4;simp only[Ab];have gO:=Hd (gd.o.below Q);have gx:=Hd ((gy.o.trans (Wr.of_below R (· = kt)) (λ_ _ e=>e) (λ_ _ e=>e)).trans (Wr.of_below Q (· = kt)) (λ_ _ e=>e) (λ_ _ e=>e));obtain⟨E,gE,Y,X,f⟩:=g1.o wb v4 gO.o n4 k5;have t:=Hd (HP.o E v4 (gx.o.trans Y (λ_ _ e=>e) (λ_ _ e=>e)) X f k5);have cbk8:=gO.o.bk;clear k4 k5 n1 S n2 n3 n4 r1 r2 s1 s2 gh ga g9 gH gn T R Q Y X f gS gQ gg gf ge gy gd gx g1 g8 gP gz cz HSZ gw
   iterate 4
    refine Ce rfl rfl (by kernel_rfl) ?_;apply Exists.intro;refine⟨λw' hw=>?_,?_⟩
    . go_simp;rfl
    simp only[Ab]
   refine D5 (by kernel_rfl) ?_;go_wp2_with fail
   first|exact t.o|(go_ret;exact t.o)
def O3 (IH:∀j,k=j+1->∀g W,TtS F c mb o m V fv fx W->okE (Aa m.d) g->m.d.vars.length<=lvE m.d.vars.length (levN m.d) (Aa m.d) g+j->Cl 111 (#[Iv (g:Nat)]++c.caps) W (TtR F c mb o m V fv fx g W))
 {g:Nat} (h:TtS F c mb o m V fv fx W) (O:okE (Aa m.d) g) (H:g%2=0) (hl:m.d.vars.length<=lvE m.d.vars.length (levN m.d) (Aa m.d) g+k):
 Cl 111 (#[Iv (g:Nat)]++c.caps) W (TtR F c mb o m V fv fx g W):=by
 by_cases h0:g=0
 . subst h0;exact Vr h
 ·rcases O with h1|⟨b,hb⟩
  . omega
  ·obtain⟨r,I,g0⟩:=h.get g;cases r with
   | some v=>exact Vt (.inr ⟨b,hb⟩) h0 H (I v rfl) g0 h
   | none=>
     cases k with
     | zero=>
       exfalso;have h1:=h.ok.dag.lt b.v (h.ok.dag.var _ _ hb);unfold lvE at hl;rw[hb]at hl;simp at hl;omega
     | succ j=>exact Vu (λg W=>IH j rfl g W) hb H hl g0 h
def O4 (IH:∀j,k=j+1->∀g W,TtS F c mb o m V fv fx W->okE (Aa m.d) g->m.d.vars.length<=lvE m.d.vars.length (levN m.d) (Aa m.d) g+j->Cl 111 (#[Iv (g:Nat)]++c.caps) W (TtR F c mb o m V fv fx g W))
 {g:Nat} (h:TtS F c mb o m V fv fx W) (H:okE (Aa m.d) g) (hl:m.d.vars.length<=lvE m.d.vars.length (levN m.d) (Aa m.d) g+k):
 Cl 111 (#[Iv (g:Nat)]++c.caps) W (TtR F c mb o m V fv fx g W):=by
 rcases(show g%2=0\/g%2=1 by omega)with I|I
 . exact O3 IH h H I hl
 . refine Vs H I (λW h=>O3 IH h (Iz H) (by rw[Gg];omega) ?_) h;unfold lvE at hl⊢;rw[DA];exact hl
def O5:∀(k g:Nat) (W:Wd),TtS F c mb o m V fv fx W->okE (Aa m.d) g->m.d.vars.length<=lvE m.d.vars.length (levN m.d) (Aa m.d) g+k->Cl 111 (#[Iv (g:Nat)]++c.caps) W (TtR F c mb o m V fv fx g W)
 | 0,_,_,h,H,hl=>O4 (k:=0) (λj e=>by omega) h H hl
 | k+1,_,_,h,H,hl=>O4 (k:=k+1) (λj e g W h H hl=>by
  obtain rfl:k=j:=by omega
  exact O5 k g W h H hl) h H hl
end
def ctL (cs:List (Nat×Nat)):List (Int×Value):=cs.map λp=>((p.1:Int),(Iv (p.2:Nat):Value))
def Kn (v:Nat):∀(cs:List (Nat×Nat)) (i:Nat),(AH (v:Int) (ctL cs) i=none/\getC v cs=0/\BC v cs=cs++[(v,1)])\/∃j,AH (v:Int) (ctL cs) i=some (i+j,Iv (getC v cs:Nat))/\BC v cs=cs.set j (v,getC v cs+1)
 | [],i=>.inl ⟨rfl,rfl,rfl⟩
 | p::r,i=>by
   by_cases h:p.1=v
   ·refine .inr ⟨0,?_,?_⟩
    ·show(if(p.1:Int)=(v:Int)then _ else _)=_
     rw[Xx (by rw[h])];simp[getC,h]
    . simp[BC,getC,h]
   ·have H:¬ (p.1:Int)=(v:Int):=λe=>h (ZH e)
    have e1:∀i,AH (v:Int) (ctL (p::r)) i=AH (v:Int) (ctL r) (i+1):=λi=>by
     show(if(p.1:Int)=(v:Int)then _ else _)=_
     rw[Xu H];rfl
    rcases Kn v r (i+1)with ⟨a,b,c⟩|⟨j,a,b⟩
    . exact .inl ⟨by rw[e1,a],by simp[getC,h,b],by simp[BC,h,c]⟩
    ·refine .inr ⟨j+1,?_,?_⟩
     . rw[e1,a];simp[getC,h];omega
     . simp[BC,h,b,getC]
def O6 {cs:List (Nat×Nat)}(h:Au w b (Value.int .i64) (ctL cs))(v:Nat):
 (Instr.lookup 172 (.map (some b)) (Iv (v:Nat)) false).run prog w=.ok (Iv (getC v cs:Nat)) w:=by
 have:=h.lookup D3 underlying172 zeroValue3 (v:Int) false;rw[this];unfold getL;rcases Kn v cs 0 with ⟨a,b,_⟩|⟨j,a,_⟩
 . rw[a,b];simp
 . rw[a];simp
def Vv {cs:List (Nat×Nat)}(h:Au w b (Value.int .i64) (ctL cs))(v:Nat){c:Int}(H:c=(getC v cs+1:Nat)):
 ∃w',(Instr.mapUpdate 172 (.map (some b)) (Iv (v:Nat)) (Iv c)).run prog w=.ok () w'/\Au w' b (Value.int .i64) (ctL (BC v cs))/\w.grownBy w' (some b):=by
 obtain⟨w',h1,h2,h3⟩:=h.update D3 underlying172 (v:Int) (Iv c);refine⟨w',h1,?_,h3⟩;have e:putL (v:Int) (Iv c) (ctL cs)=ctL (BC v cs):=by
  unfold putL;subst H;rcases Kn v cs 0 with ⟨a,b,q⟩|⟨j,a,q⟩
  . rw[a,q];simp[ctL,b]
  . rw[a,q];simp[ctL,Zp]
 rw[<-e];exact h2
def Vw (args:Array Value)(w:Wd):(callFunc 142 args).run prog w=.ok (.enter 142 args) w:=YF func142 (by kernel_rfl) rfl args w
structure SnC where
 bm:Nat
 bx:Nat
 bn:Nat
 bd:Nat
 mt:Nat
 nt:Nat
 xb:Nat
def SnC.caps (c:SnC):Array Value:=#[Pt c.bm,Pt c.bx,Pt c.bn,Pt c.bd]
def SnC.two (c:SnC)(k:Nat):Prop:=k=c.mt\/k=c.nt
structure SnS (F:Phi)(c:SnC)(mb:Nat)(o:Own)(m:ManD)(V:Nat->BF)(met:List Nat)(cs:List (Nat×Nat))(W:Wd):Prop where
 is:AF F o W mb m
 lt:Ac o W
 ok:Ai m.d V
 x:AR o W c.xb mb
 bm:W.cell? (Av c.bm)=some (.map (some c.mt))
 bx:W.cell? (Av c.bx)=some (Pt c.xb)
 bn:W.cell? (Av c.bn)=some (.map (some c.nt))
 bd:W.cell? (Av c.bd)=some (.func (.func 142) #[] c.caps)
 map:Au W c.mt (Value.int .i64) (mtL met)
 cnt:Au W c.nt (Value.int .i64) (ctL cs)
 own:∀q,(q=c.bm\/q=c.bx\/q=c.bn\/q=c.bd\/q=c.mt\/q=c.nt)->o q=none
 ne:c.mt≠c.bm/\c.mt≠c.bx/\c.mt≠c.bn/\c.mt≠c.bd/\c.mt≠c.xb/\c.mt≠c.nt
 ne2:c.nt≠c.bm/\c.nt≠c.bx/\c.nt≠c.bn/\c.nt≠c.bd/\c.nt≠c.xb
 mok:C9 m.d met
section
variable {F:Phi}{c:SnC}{o:Own}{met':List Nat}{cs cs':List (Nat×Nat)}
def SnS.go (h:SnS F c mb o m V met cs W)(hx:Wr c.two W W')(g:Au W' c.mt (Value.int .i64) (mtL met'))(f:Au W' c.nt (Value.int .i64) (ctL cs'))(hk:C9 m.d met'):SnS F c mb o m V met' cs' W':=by
 have H:∀{b k:Nat} {v:Value},W.cell? (Aw b k)=some v->c.mt≠b->c.nt≠b->W'.cell? (Aw b k)=some v:=λh h1 h2=>(XR (w:=W) (hx.keep _ (Ad h) (λe=>e.elim (λe=>h1 e.symm) (λe=>h2 e.symm)))).trans h
 obtain⟨X,U,O,I,n5,n6⟩:=h.ne;obtain⟨k1,k2,a,Z,Y⟩:=h.ne2;exact⟨h.is.other h.lt hx (λk _ e=>h.own k (.inr (.inr (.inr (.inr e))))),h.lt.mono hx.size,h.ok,⟨H h.x.cell n5 Y,h.x.own⟩,H h.bm X k1,H h.bx U k2,H h.bn O a,H h.bd I Z,g,f,h.own,h.ne,h.ne2,hk⟩
def SnS.below (h:SnS F c mb o m V met cs W)(hb:Bw W W'):SnS F c mb o m V met cs W':=h.go (Wr.of_below hb _) (h.map.below hb) (h.cnt.below hb) h.mok
def SnR (F:Phi)(c:SnC)(mb:Nat)(o:Own)(m:ManD)(V:Nat->BF)(met:List Nat)(W:Wd)(x:Ending)(w':Wd):Prop:=x=.returned (.tuple #[])/\Wr c.two W w'/\SnS F c mb o m V met (tally m.d met) w'
def Ko (h:SnS F c mb o m V met (tally m.d met) W)(U:okE (Aa m.d) f)(I:f/2=0\/f/2∈met):Cl 142 (#[Iv f]++c.caps) W (SnR F c mb o m V met W):=by
 obtain⟨bm,bx,bn,bd,mt,nt,xb⟩:=c;have g2:=D2 (K:=λ_ _=>F) (V:=V) h.is U;have g0:Hq (∀q,Cl 59 #[Iv f] (W.drewN q) λx w'=>x=.returned (.bool (decide (enode f=0)))/\W.drewN q=w'):=Hd λq=>DC f _ g2
 have g1:Hq (∀q,Cl 105 #[Iv f] (W.drewN q) λx w'=>x=.returned (Iv (enode f:Nat))/\W.drewN q=w'):=Hd λq=>BJ f _ g2
 have g3:∀q,(Instr.lookup 120 (.map (some mt)) (Iv (enode f:Nat)) false).run prog (W.drewN q)=.ok (.bool (decide (enode f∈met))) (W.drewN q):=λq=>Ob (h.below (An W q)).map (enode f)
 have X:=h.bm;have H:Hq (∀q,SnR F ⟨bm,bx,bn,bd,mt,nt,xb⟩ mb o m V met W (.returned (.tuple #[])) (W.drewN q)):=Hd λq=>⟨rfl,Wr.of_below (An W q) _,h.below (An W q)⟩
 obtain⟨P,O⟩:=Ex (SnR F ⟨bm,bx,bn,bd,mt,nt,xb⟩ mb o m V met W);rw[<-O]at H⊢;unfold SnC.caps;clear O h
 show Calls _ _ #[_,_,_,_,_] _ _
 rcases I with h0|h0
 ·rw[XQ (show enode f=0 from h0)]at g0
  go_enter func142,ntmps142
  go_wp2
  go_quiet ((first|(with_reducible exact CF (g0.o _))|(with_reducible exact CF (g1.o _))))
  go_wp2_with fail;refine X2 (Y7 rfl _ _ _) rfl ?_;exact H.o _
 ·simp only[XQ (show enode f∈met from h0)]at g3
  by_cases h1:enode f=0
  ·rw[XQ h1]at g0
   go_enter func142,ntmps142
   go_wp2
   go_quiet ((first|(with_reducible exact CF (g0.o _))|(with_reducible exact CF (g1.o _))))
   go_wp2_with fail;refine X2 (Y7 rfl _ _ _) rfl ?_;exact H.o _
  ·rw[XW h1]at g0
   go_enter func142,ntmps142
   go_wp2
   go_quiet ((first|(with_reducible exact CF (g0.o _))|(with_reducible exact CF (g1.o _))))
   go_wp2_with fail;refine X2 (Y7 rfl _ _ _) rfl ?_;exact H.o _
def Vx (IH:∀met f W,SnS F c mb o m V met (tally m.d met) W->okE (Aa m.d) f->m.d.vars.length<=lvE m.d.vars.length (levN m.d) (Aa m.d) f+k->Cl 142 (#[Iv (f:Nat)]++c.caps) W (SnR F c mb o m V (AB m.d k met f) W))
 (h:SnS F c mb o m V met (tally m.d met) W) {f:Nat} {b:BN} (hb:Aa m.d (f/2)=some b) (H:f/2∉met) (O:m.d.vars.length<=lvE m.d.vars.length (levN m.d) (Aa m.d) f+(k+1)):
 Cl 142 (#[Iv f]++c.caps) W (SnR F c mb o m V (AB m.d k (AB m.d k (met++[f/2]) (cofs m.d f b.v).1) (cofs m.d f b.v).2) W):=by
 obtain⟨bm,bx,bn,bd,mt,nt,xb⟩:=c;have U:okE (Aa m.d) f:=.inr ⟨b,hb⟩;have g7:∀e,okE (Aa m.d) e->e<eMax:=λe he=>D2 (K:=λ_ _=>F) (V:=V) h.is he
 have l:=g7 f U;have gC:=h.ok.dag.var _ _ hb;have hl:levN m.d b.v<=lvE m.d.vars.length (levN m.d) (Aa m.d) f:=by unfold lvE;rw[hb];exact Xs _
 have h6:lvE m.d.vars.length (levN m.d) (Aa m.d) f=levN m.d b.v:=by unfold lvE;rw[hb]
 obtain⟨Z,t,R,Q,_⟩:=Bo h.ok U gC hl;have h0:enode f≠0:=λe=>by
  have:f/2=0:=e;rw[this,h.ok.dag.none0]at hb;cases hb
 have g6:=h.mok;have g3:=g6.snoc hb H;have gB:getC b.v (tally m.d met)<=2305843009213693952:=by
  have h1:=NK b.v (tally m.d met);rw[Ka]at h1;have h2:=g6.len g7;omega
 obtain⟨lo,gb⟩:∃z,z=(cofs m.d f b.v).1:=⟨_,rfl⟩;obtain⟨hi,gc⟩:∃z,z=(cofs m.d f b.v).2:=⟨_,rfl⟩;rw[<-gb,<-gc];rw[<-gb]at Z R;rw[<-gc]at t Q;obtain⟨bv,g2⟩:∃z,z=b.v:=⟨_,rfl⟩;have gv:Hq (∀q,Cl 59 #[Iv f] (W.drewN q) λx w'=>x=.returned (.bool false)/\W.drewN q=w'):=Hd λq=>by
  have:=DC f (W.drewN q) l
  rwa [XW h0]at this
 have gR:Hq (∀W',Cl 105 #[Iv f] W' (Sm (Iv (enode f:Nat)) W')):=Hd λW'=>BJ f W' l
 have gQ:Hq (∀q,Cl 105 #[Iv f] (W.drewN q) λx w'=>x=.returned (Iv (enode f:Nat))/\W.drewN q=w'):=Hd λq=>BJ f _ l
 have h5:∀q,(Instr.lookup 120 (.map (some mt)) (Iv (enode f:Nat)) false).run prog (W.drewN q)=.ok (.bool false) (W.drewN q):=λq=>by
  have:=Ob (h.below (An W q)).map (enode f)
  rwa [XW (show ¬ enode f∈met from H)]at this
 have g5:mt≠nt:=h.ne.2.2.2.2.2;have gL:Hq (∀W',SnS F ⟨bm,bx,bn,bd,mt,nt,xb⟩ mb o m V met (tally m.d met) W'->∃w',(Instr.mapUpdate 120 (.map (some mt)) (Iv (enode f:Nat)) (.bool true)).run prog W'=.ok () w'/\Wr (SnC.two ⟨bm,bx,bn,bd,mt,nt,xb⟩) W' w'/\SnS F ⟨bm,bx,bn,bd,mt,nt,xb⟩ mb o m V (met++[f/2]) (tally m.d met) w'):=Hd λW' g=>by
  obtain⟨w',r,Y,p⟩:=UQ g.map (f:=enode f) H;have I:Wr (· = mt) W' w':=Wr.of_grown p _ (λk e=>by cases e;rfl);have g1:Wr (SnC.two ⟨bm,bx,bn,bd,mt,nt,xb⟩) W' w':=I.mono (λ_ e=>.inl e);exact⟨w',r,g1,g.go g1 Y (g.cnt.keepB (I.keep _ g.cnt.lt (λe=>g5 e.symm))) g3⟩
 have A:Hq (∀W',SnS F ⟨bm,bx,bn,bd,mt,nt,xb⟩ mb o m V (met++[f/2]) (tally m.d met) W'->(Instr.lookup 172 (.map (some nt)) (Iv (bv:Nat)) false).run prog W'=.ok (Iv (getC b.v (tally m.d met):Nat)) W'):=Hd λW' g=>by
  rw[g2];exact O6 g.cnt b.v
 have gt:Hq (∀W',SnS F ⟨bm,bx,bn,bd,mt,nt,xb⟩ mb o m V (met++[f/2]) (tally m.d met) W'->∃w',(Instr.mapUpdate 172 (.map (some nt)) (Iv (bv:Nat)) (Iv ((getC b.v (tally m.d met):Nat)+1))).run prog W'=.ok () w'/\Wr (SnC.two ⟨bm,bx,bn,bd,mt,nt,xb⟩) W' w'/\SnS F ⟨bm,bx,bn,bd,mt,nt,xb⟩ mb o m V (met++[f/2]) (tally m.d (met++[f/2])) w'):=Hd λW' g=>by
  rw[g2];obtain⟨w',r,Y,p⟩:=Vv g.cnt b.v (c:=((getC b.v (tally m.d met):Nat):Int)+1) (by omega);have I:Wr (· = nt) W' w':=Wr.of_grown p _ (λk e=>by cases e;rfl);have g1:Wr (SnC.two ⟨bm,bx,bn,bd,mt,nt,xb⟩) W' w':=I.mono (λ_ e=>.inr e);rw[<-UD met hb]at Y;exact⟨w',r,g1,g.go g1 (g.map.keepB (I.keep _ g.map.lt (λe=>g5 e))) Y g3⟩
 have gm:Hq (∀W' s,SnS F ⟨bm,bx,bn,bd,mt,nt,xb⟩ mb o m V (met++[f/2]) (tally m.d met) W'->W'.heap[s]?=some (.cells #[Iv f] 107 (0,0))->Cl 61 #[Pt xb,.slice (some (Av s)) 1 1] W' (Bl (Iv (bv:Nat)) W')):=Hd λW' s g hs=>by
  refine(F4 g.is g.lt g.x g.ok [f] (by simpa using U) (some (Av s)) 1 ⟨by simp,λi h7=>?_⟩).mono ?_
  ·obtain rfl:i=0:=by simpa using h7
   exact⟨s,0,rfl,by rw[Xw _ _ 0 _ _ _ hs];rfl⟩
  ·rintro x w' ⟨top,least,rfl,ht,h3⟩;rcases JU ht with ⟨_,S⟩|⟨b',gD,rfl⟩
   . rw[hb]at S;cases S
   . rw[hb]at gD;cases gD;exact⟨by rw[g2],h3⟩
 have gO:Hq (∀W' cs,SnS F ⟨bm,bx,bn,bd,mt,nt,xb⟩ mb o m V (met++[f/2]) cs W'->Cl 62 #[Pt xb,Iv f,Iv (bv:Nat)] W' (Bl (.tuple #[Iv lo,Iv hi]) W')):=Hd λW' cs g=>by
  have:=EM g.is g.lt g.x g.ok f U (b.v:Nat);rw[<-gb,<-gc,<-g2]at this;exact this
 have gT:Hq (∀W',SnS F ⟨bm,bx,bn,bd,mt,nt,xb⟩ mb o m V (met++[f/2]) (tally m.d (met++[f/2])) W'->Cl 142 #[Iv lo,Pt bm,Pt bx,Pt bn,Pt bd] W' (SnR F ⟨bm,bx,bn,bd,mt,nt,xb⟩ mb o m V (AB m.d k (met++[f/2]) lo) W')):=Hd λW' g=>IH _ lo W' g Z (by omega)
 have gS:Hq (∀W',SnS F ⟨bm,bx,bn,bd,mt,nt,xb⟩ mb o m V (AB m.d k (met++[f/2]) lo) (tally m.d (AB m.d k (met++[f/2]) lo)) W'->Cl 142 #[Iv hi,Pt bm,Pt bx,Pt bn,Pt bd] W' (SnR F ⟨bm,bx,bn,bd,mt,nt,xb⟩ mb o m V (AB m.d k (AB m.d k (met++[f/2]) lo) hi) W')):=Hd λW' g=>IH _ hi W' g t (by omega)
 have M:=h.bm;have HS:=Hd h;obtain⟨P,y⟩:=Ex (SnR F ⟨bm,bx,bn,bd,mt,nt,xb⟩ mb o m V (AB m.d k (AB m.d k (met++[f/2]) lo) hi) W);have HP:Hq (∀x w',SnR F ⟨bm,bx,bn,bd,mt,nt,xb⟩ mb o m V (AB m.d k (AB m.d k (met++[f/2]) lo) hi) W x w'->P x w'):=Hd (by rw[y];exact λ_ _ e=>e);have eg1:=Vw;obtain⟨g0,gi⟩:∃g,g=getC b.v (tally m.d met):=⟨_,rfl⟩;rw[<-gi]at gB;have h9:IntKind.i64.wrap ((g0:Nat)+1)=(g0:Nat)+1:=aK _ ⟨by omega,by omega⟩;rw[<-gi]at A gt;rw[<-y];unfold SnC.caps;clear y h IH hb H O U l g7 gC hl h6 Z t R Q h0 gb gc g2 g6 g3 gB gi g5
 show Calls _ _ #[_,_,_,_,_] _ _
 go_enter func142,ntmps142
 go_wp2
 go_quiet ((first|(with_reducible exact CF (gv.o _))|(with_reducible exact CF (gQ.o _))))
 go_upto_region 1 with fail;obtain⟨w1,J⟩:=Ex ((W.drewN nq).drew);have E:Bw W w1:=by rw[J];exact An W (nq+1)
 have B:=Hd (HS.o.below E);have HW1:=Hd (Wr.of_below E (SnC.two ⟨bm,bx,bn,bd,mt,nt,xb⟩));have gE:=Hd J;have cbm1:=B.o.bm;clear J E;refine D4 [0,1,2,3] (λW'=>W'.cell? (Av bm)=some (.map (some mt))) (λch w'=>False) (λc a w hd h=>h.elim) (by kernel_rfl) (by rw[<-gE.o];exact cbm1) ?_;rw[<-gE.o]
 iterate 2
  refine Ce rfl rfl (by kernel_rfl) ?_;apply Exists.intro;refine⟨λw' I=>?_,?_⟩
  . have Z:w'.cell? (Av bm)=some (.map (some mt)):=I;go_simp;rfl
  simp only[Ab]
 refine BX (R1:=λu w'=>u=Iv (enode f:Nat)/\w1=w') rfl (by kernel_rfl) rfl rfl (by go_simp) ((gR.o w1).mono λx w' h=>⟨_,h.1,rfl,h.2⟩) (by rintro u w' ⟨_,rfl⟩;exact cbm1) ?_;rintro u w'-⟨rfl,rfl⟩;simp only[Ab];obtain⟨w2,gY,g1,gA⟩:=gL.o w1 B.o;have gf:=Hd gA;have gK:=Hd (HW1.o.trans g1 (λ_ _ e=>e) (λ_ _ e=>e));refine UT (w':=w2) rfl (by kernel_rfl) rfl rfl (by go_simp) gf.o.bm ?_;simp only[Ab];refine D5 (by kernel_rfl) ?_;clear gY g1 gA cbm1 M;have L:=gf.o.bx;have j:=Ag w2 (.cells #[Iv f] 107);obtain⟨n,g4⟩:=Ex (w2.alloc (.cells #[Iv f] 107));rw[<-g4]at j;have h4:=Hd g4;have gh:n.heap[w2.heap.size]?=some (.cells #[Iv f] 107 (0,0)):=by rw[g4];exact Xv _ _
 have C:=Hd (gf.o.below j);have gJ:=Hd (gK.o.trans (Wr.of_below j _) (λ_ _ e=>e) (λ_ _ e=>e));have gN:=Hd (gm.o n _ C.o gh);have gM:Hq (Cl 61 #[Pt xb,.slice (some (Av w2.heap.size)) 1 1] (w2.alloc (.cells #[Iv f] 107)) (Bl (Iv (bv:Nat)) n)):=Hd (by have:=gN.o;rw[g4]at this⊢;exact this);clear j g4 gh gN;go_wp2_with fail;refine gM.o.mono ?_;rintro x N ⟨rfl,gk⟩;have ge:=Hd (C.o.below gk);have gI:=Hd (gJ.o.trans (Wr.of_below gk _) (λ_ _ e=>e) (λ_ _ e=>e));have cbn5:=ge.o.bn;have gZ:=A.o N ge.o;obtain⟨w6,gX,gy,g9⟩:=gt.o N ge.o;have gP:=Hd g9;have gH:=Hd (gI.o.trans gy (λ_ _ e=>e) (λ_ _ e=>e));have cbx6:=g9.bx;have gn:=Hd (gO.o w6 _ g9);clear gk gy g9 gM L C gJ gf gK B HW1 h4 h5;go_wp2_with fail;refine gn.o.mono ?_;rintro x w7 ⟨rfl,G⟩;have D:=Hd (gP.o.below G);have gG:=Hd (gH.o.trans (Wr.of_below G _) (λ_ _ e=>e) (λ_ _ e=>e));have X:=D.o.bd;unfold SnC.caps at X;have gV:=Hd (gT.o w7 D.o);clear G ge gI gT gm gO gL gR gQ gv A gt gP gH gZ gX cbx6 cbn5 gn;go_wp2_with fail;refine gV.o.mono ?_;rintro x w8 ⟨rfl,gx,g8⟩;have h8:=Hd g8;have gF:=Hd (gG.o.trans gx (λ_ _ e=>e) (λ_ _ e=>e));have gU:=Hd (gS.o w8 g8);have cbd8:=g8.bd;unfold SnC.caps at cbd8;clear gx g8 X gV gS D gG;go_wp2_with fail;refine gU.o.mono ?_;rintro x w9 ⟨rfl,gw,T⟩;have HF:=Hd (HP.o (.returned (.tuple #[])) w9 ⟨rfl,gF.o.trans gw (λ_ _ e=>e) (λ_ _ e=>e),T⟩);clear gw T cbd8 gU h8 gF HP;go_wp2_with fail;refine YW (Y7 rfl _ _ _) rfl ?_;exact HF.o
def O7:∀(k:Nat) (met:List Nat) (f:Nat) (W:Wd),SnS F c mb o m V met (tally m.d met) W->okE (Aa m.d) f->m.d.vars.length<=lvE m.d.vars.length (levN m.d) (Aa m.d) f+k->Cl 142 (#[Iv (f:Nat)]++c.caps) W (SnR F c mb o m V (AB m.d k met f) W)
 | 0,met,f,W,h,hf,hl=>by
   refine Ko h hf (.inl ?_);rcases hf with h1|⟨b,hb⟩
   . exact h1
   . exfalso;have h1:=h.ok.dag.lt b.v (h.ok.dag.var _ _ hb);unfold lvE at hl;rw[hb]at hl;simp at hl;omega
 | k+1,met,f,W,h,hf,hl=>by
   unfold AB;cases hb:Aa m.d (f/2)with
   | none=>
     refine Ko h hf (.inl ?_);rcases hf with h1|⟨b,H⟩
     . exact h1
     . rw[hb]at H;cases H
   | some b=>
     show Calls _ _ _ _ (SnR F c mb o m V (if f/2∈met then met else _) W)
     by_cases I:f/2∈met
     . rw[Xx I];exact Ko h hf (.inr I)
     . rw[Xu I];exact Vx (λmet f W=>O7 k met f W) h hb I hl
end
end Go.Proofs.YtnphndlbfeagbaaGreat
