/- The walk of a law: SatpPicW. -/
import Derived.Test.YtnphndlbfeagbaaGreatBk
set_option linter.all false
set_option maxRecDepth 100000
set_option maxHeartbeats 8000000
namespace Go.Proofs.YtnphndlbfeagbaaGreat
open Go.Proofs.Tryz
open Go.RowKit
def satppicks_walk (q:AskD)(s t r:Option Addr)(C D A:Nat)(p:Nat)(hp:p<256)(H:Nat)(hkk:H<65536)(av:Option Addr)(cv:Nat)(zs:List Int)(lv:Value)(z:Int)(w:Wd)(h:AskAt w q s t r)(K:Aj w av zs)(hcap:zs.length<=cv):
 Cl 6 #[askV q s t r C D A,.agg #[.int .u8 p,.slice av zs.length cv,.int .u16 H,lv],Iv z] w (Bl (.bool true) w):=by
 have kd:=Hd K;have kR:=K.len;clear K;have g3:Hq (∀W,Bw w W->∀u,u=askV q s t r C D A->Cl 7 #[u] W λy w'=>∃b,y=.returned (.bool b)/\(b=true->Dl q)/\Bw W w'):=Hd λW hb u hu=>by subst hu;exact JD q s t r C D A W (h.below hb)
 have gD:Hq (∀W n,Bw w W->Dl q->q.vars=(n:Nat)->∀u,u=askV q s t r C D A->Cl 9 #[u] W (SetP As q n W)):=Hd λW n hb hs hn u hu=>by subst hu;exact JT Cf q s t r C D A W (h.below hb) hs n hn
 obtain⟨vars,gt⟩:∃z,z=q.vars:=⟨_,rfl⟩;have HV:=Hd gt;obtain⟨plen,gL⟩:∃z,z=q.plan.length:=⟨_,rfl⟩;unfold askV at g3 gD⊢;rw[<-gt,<-gL]at g3 gD⊢;obtain⟨olen,gM⟩:∃z,z=q.order.length:=⟨_,rfl⟩;obtain⟨elen,gQ⟩:∃z,z=q.es.length:=⟨_,rfl⟩;rw[<-gM,<-gQ]at g3 gD⊢;obtain⟨w1,gw⟩:=Ex ((w.alloc (.cells #[Iv vars,.slice s olen C,.slice t elen D,.slice r plen A] 26)).alloc (.cells #[.int .u8 p,.slice av zs.length cv,.int .u16 H,lv] 30));have ke:Hq (_=w1):=Hd gw.symm;have hX:Hq (Bw w w1):=by rw[gw];exact Hd ((Ag _ _).alloc (by simp) _)
 have ge:w1.heap[w.heap.size]?=some (.cells #[Iv vars,.slice s olen C,.slice t elen D,.slice r plen A] 26 (0,0)):=by rw[gw];exact(X1 _ _ (by simp)).trans (Xv _ _)
 have gf:w1.heap[w.heap.size+1]?=some (.cells #[.int .u8 p,.slice av zs.length cv,.int .u16 H,lv] 30 (0,0)):=by
  have:=Xv (w.alloc (.cells #[Iv vars,.slice s olen C,.slice t elen D,.slice r plen A] 26)) (.cells #[.int .u8 p,.slice av zs.length cv,.int .u16 H,lv] 30);rw[X3]at this;rw[gw];exact this
 have x0:w1.cell? (Av (w.heap.size+1))=some (.int .u8 p):=by rw[Xw _ _ 0 _ _ _ gf];rfl
 have j:w1.cell? ⟨w.heap.size+1,1,none⟩=some (.slice av zs.length cv):=by rw[Xw _ _ 1 _ _ _ gf];rfl
 have f:w1.cell? ⟨w.heap.size+1,2,none⟩=some (.int .u16 H):=by rw[Xw _ _ 2 _ _ _ gf];rfl
 have x3:w1.cell? ⟨w.heap.size+1,3,none⟩=some (lv):=by rw[Xw _ _ 3 _ _ _ gf];rfl
 have d0:w1.cell? (Av w.heap.size)=some (Iv vars):=by rw[Xw _ _ 0 _ _ _ ge];rfl
 have d1:w1.cell? (Aw w.heap.size 1)=some (.slice s olen C):=by rw[Xw _ _ 1 _ _ _ ge];rfl
 have d2:w1.cell? (Aw w.heap.size 2)=some (.slice t elen D):=by rw[Xw _ _ 2 _ _ _ ge];rfl
 have d3:w1.cell? (Aw w.heap.size 3)=some (.slice r plen A):=by rw[Xw _ _ 3 _ _ _ ge];rfl
 clear h gw ge gt gL gM gQ gf
 go_enter func6,ntmps6
 go_upto_region 1 with fail;rw[ke.o];go_wp2_with fail;refine(g3.o _ hX.o _ rfl).mono ?_;rintro y w2 ⟨b,rfl,hb,g2⟩;have HB:=Hd hb;have g6:=Hd (hX.o.trans (g2.mono hX.o.size));have e0:=Cq g2 d0;have e1:=Cq g2 d1;have e2:=Cq g2 d2;have e3:=Cq g2 d3;have y0:=Cq g2 x0;have y1:=Cq g2 j;have d:=Cq g2 f;have y3:=Cq g2 x3;have g7:=Hd (CV w2);clear hb g2 g3 d0 d1 d2 d3 ke x0 j f x3;cases b with
 | false=>
   go_wp2_with fail;refine g7.o.mono ?_;rintro y w3 ⟨rfl,gB⟩;have gc:=Hd (g6.o.trans (gB.mono g6.o.size));clear gB;go_wp2;go_ret;exact⟨rfl,gc.o⟩
 | true=>
   by_cases kw:(zs.length:Int)>8
   . go_wp2_with fail;refine g7.o.mono ?_;rintro y w3 ⟨rfl,gB⟩;have gc:=Hd (g6.o.trans (gB.mono g6.o.size));clear gB;go_wp2;go_ret;exact⟨rfl,gc.o⟩
   have gE:=Hd (HB.o (by first|rfl|trivial));obtain⟨n,hn⟩:∃n:Nat,vars=(n:Nat):=⟨vars.toNat,by have:=gE.o.lo;have:=HV.o;omega⟩;subst hn;have kU:n<=6:=by have:=gE.o.hi;have:=HV.o;omega
   have kH:1<=n:=by have:=gE.o.lo;have:=HV.o;omega
   have kY:q.es.length<=5:=gE.o.es;have hP:=Hd (gD.o w2 n g6.o gE.o rfl _ rfl);clear gD g7 HB;go_wp2_with fail;refine hP.o.mono ?_;rintro y w3 ⟨mb,vl,vx,wb,hs,nx,rfl,g0,ha,kT,o3,m3,V3,O,-⟩;have kX:hs.length<=5:=by have:=Yf List.length ha;simp at this;omega
   obtain⟨al,cl,h8⟩:∃a c,vl=.slice a hs.length c:=by
    obtain⟨a,c,e,_⟩:=O.l.own.slice;exact⟨a,c,by rw[e];simp[Ar]⟩
   subst h8;have ky:Hq (∀p∈hs,p∈two++hs):=Hd λp hp=>Zf _ hp
   have k5:(two++hs).length=2+hs.length:=by simp[two];omega
   have kP:Hq (∀k,k<=192->k*2^n<=AQ n):=Hd λk hk=>GP hk
   have kq:Hq (wb.cell? (Av w.heap.size)=some (Iv (n:Nat))):=Hd (Cq g0 e0);have c0:=(O.below0.cell (p:=Av w.heap.size) (Ad (Cq g0 e0))).trans (Cq g0 e0);have z0:=(O.below0.cell (p:=(Av (w.heap.size+1))) (Ad (Cq g0 y0))).trans (Cq g0 y0);have z1:=(O.below0.cell (p:=⟨w.heap.size+1,1,none⟩) (Ad (Cq g0 y1))).trans (Cq g0 y1);have z2:=(O.below0.cell (p:=⟨w.heap.size+1,2,none⟩) (Ad (Cq g0 d))).trans (Cq g0 d);have z3:=(O.below0.cell (p:=⟨w.heap.size+1,3,none⟩) (Ad (Cq g0 y3))).trans (Cq g0 y3);have H2:Hq (wb.cell? (Av (w.heap.size+1))=some (.int .u8 p)):=Hd (Cq g0 y0);have g5:Hq (wb.cell? ⟨w.heap.size+1,1,none⟩=some (.slice av zs.length cv)):=Hd (Cq g0 y1);have F:Hq (wb.cell? ⟨w.heap.size+1,2,none⟩=some (.int .u16 H)):=Hd (Cq g0 d);have H1:Hq (wb.cell? ⟨w.heap.size+1,3,none⟩=some (lv)):=Hd (Cq g0 y3);have gI:Hq (Bw w wb):=Hd (g6.o.trans (g0.mono g6.o.size));have kZ:Hq (∀p∈two++hs,p.1<nx):=Hd λp hp=>(O.sat.range p hp).2
   have HL:=Hd ((O.withOd (Od':=λ_=>True) trivial).withSt (Wt':=SufW q.plan) (by rw[O.st.1];exact ZU _));clear O g0 ha hP e0 e1 e2 e3 y0 y1 d y3;have kA:zs.length<=8:=by omega
   have gT:Hq (Aj wb av zs):=Hd (kd.o.below gI.o);have ki:=Hd (K7 HL.o ky.o (by omega) (by omega) p hp);clear kd kw;go_wp2_with fail;refine ki.o.mono ?_;rintro y wA ⟨a1,I,r1,rfl,g9,gP,ka⟩;have G:=Hd (HL.o.below ka);have kp:Hq (DepF n I):=Hd (G.o.sat.dep g9);have ko:Hq ((two++hs).length=2+hs.length):=Hd k5;have g4:Hq (AX λW o=>RowN r1 (tabB n I) W o/\IntN av zs W o):=Hd (K6 (RowN.keepB r1 _) (IntN.keepB av zs));obtain⟨B,hB⟩:=Ex (λW o=>RowN r1 (tabB n I) W o/\IntN av zs W o:Wd->Own->Prop)
   have H0:Hq (SpT n (AQ n) wb mb (two++hs) nx q.plan B wA):=Hd ⟨_,_,_,G.o.st,G.o.sat,by
    have kK:=G.o.sat.chg.below0;rw[hB];exact⟨RowN.of gP.is λk hk=>(gP.no k hk).2.1,gT.o.below kK,λkG x hx=>G.o.sat.none0 (by subst hx;exact gT.o.blk kG)⟩⟩
   have gW:Hq (∀(B':Wd->Own->Prop) nx',AX B'->(∀W o,B' W o->B W o)->nx'<=nx+400->PkH n (AQ n) (two++hs) nx' B' a1 I zs av cv):=Hd λB' nx' hk gm hn'=>⟨G.o.b2,g9,λW o h=>by have:=gm W o h;rw[hB]at this;exact this.2.1,hcap,λW o h=>by have:=gm W o h;rw[hB]at this;exact this.2.2,hk,by omega,by omega,room20 (by have:=ko.o;omega)⟩
   have gY:Hq (AX B):=by rw[hB];exact g4
   have kh:Hq (∀W o,B W o->Ay W r1 (tabB n I)):=by rw[hB];exact Hd λW o h=>h.1.1
   have g0:=G.o.sat.chg.below0;have cA:=(g0.cell (p:=Av w.heap.size) (Ad kq.o)).trans kq.o;have j:=(g0.cell (p:=⟨w.heap.size+1,1,none⟩) (Ad g5.o)).trans g5.o;have f:=(g0.cell (p:=⟨w.heap.size+1,2,none⟩) (Ad F.o)).trans F.o;have kv:TabA n wA r1 I:=TabA.is gP.is;obtain⟨ta,tc,rfl,h9⟩:=kv;have gC:=Hd h9;have hN:=Hd (vars20_any (cu:=tc) (by omega) h9 (c:=cv) (gT.o.below g0));obtain⟨cz,hr⟩:∃z,z=chkE n I zs:=⟨_,rfl⟩;have g8:=Hd hr;rw[<-hr]at hN;clear gP ka ki HL c0 z0 z1 z2 z3 g9 G k5 g0 g4 hB h9 hr;go_wp2_with fail;refine hN.o.mono ?_;rintro y wC ⟨rfl,gS⟩;have kg:=Hd (H0.o.below gY.o gS);have y1:=Cq gS j;have d:=Cq gS f;have km:=Hd (Xg (gW.o B nx gY.o (λ_ _ h=>h) (by omega)) kg.o);clear gS hN H0 j f cA kg gC;go_wp2_with fail;refine km.o.mono ?_;rintro y wD ⟨v1,J,rfl,kH,hg⟩;obtain⟨E1,hH⟩:∃E,E=leE n I zs:=⟨_,rfl⟩;rw[<-hH];have h4:=Hd hH;have ho:AX (λW o=>B W o/\RowN v1 ((allZ n I zs).getD 0 []) W o):=K6 gY.o (RowN.keepB _ _);obtain⟨B1,hJ⟩:=Ex (λW o=>B W o/\RowN v1 ((allZ n I zs).getD 0 []) W o:Wd->Own->Prop)
   rw[<-hJ]at ho hg;have gU:=Hd hg;have hS:=Hd ho;have gk:Hq (∀W o,B1 W o->B W o/\RowN v1 ((allZ n I zs).getD 0 []) W o):=by rw[hJ];exact Hd λW o h=>h
   obtain⟨p1,c1,kE⟩:∃a c,v1=.slice a ((allZ n I zs).getD 0 []).length c:=by
    obtain⟨o,m,V,_,_,h⟩:=gU.o;obtain⟨a,c,e,_⟩:=(gk.o _ _ h).2.1;exact⟨a,c,e⟩
   subst kE;obtain⟨L0,hF⟩:∃L,L=(allZ n I zs).getD 0 []:=⟨_,rfl⟩;rw[<-hF]at gk⊢;have gF:=Hd hF;have gp:=gU.o.below0;have j:=(gp.cell (p:=⟨w.heap.size+1,1,none⟩) (Ad g5.o)).trans g5.o;have f:=(gp.cell (p:=⟨w.heap.size+1,2,none⟩) (Ad F.o)).trans F.o;clear hg ho hJ hF hH km y1 d gp gY;have kj:=Hd λW=>Ib (w:=W) (n:=H) (by omega)
   have ks:Hq (∀W v,Bw wD W->NatV W v H->(∀q,v.ownBlock=some q->wD.heap.size<=q)->Cl 26 #[Pt mb,Iv a1,v,.slice av zs.length cv] W λx w'=>∃v nx',x=.returned (.tuple #[v,Iv (atE n I zs H)])/\nx'<=J+200/\SpT n (AQ n) wb mb (two++hs) nx' q.plan (λW o=>B1 W o/\RowN v ((allZ n I zs).getD H []) W o) w'):=Hd λW v hb hv hq=>Xh (gW.o B1 J hS.o (λW o h=>(gk.o W o h).1) (by omega)) gU.o hb hv hq
   go_upto_region 9 with fail;obtain⟨wQ,h7⟩:∃W,W=wD.drew:=⟨_,rfl⟩;have gR:Bw wD wQ:=by rw[h7];exact An wD 1
   have d1:=Cq gR j;have d2:=Cq gR f;have hU:=Hd gR;have hK:=Hd h7;refine D4 [0,1,2,3,4,6,7,5,8,9,10,11,12,13] (λW'=>W'.cell? ⟨w.heap.size+1,1,none⟩=some (.slice av zs.length cv)/\W'.cell? ⟨w.heap.size+1,2,none⟩=some (.int .u16 H)) (λch w'=>False) (λc a w hd h=>h.elim) (by kernel_rfl) (by rw[<-hK.o];exact⟨d1,d2⟩) ?_;rw[<-hK.o]
   iterate 7
    refine Ce rfl rfl (by kernel_rfl) ?_;apply Exists.intro;refine⟨λw' hw=>?_,?_⟩
    . obtain⟨q1,q2⟩:=hw;go_simp;rfl
    simp only[Ab]
   have kB:IntKind.u64.wrap (H:Int)=(H:Int):=by rw[aV];omega
   refine BX (R1:=λu w'=>NatV w' u H/\(∀q,u.ownBlock=some q->wQ.heap.size<=q)/\Bw wQ w') rfl (by kernel_rfl) rfl rfl (by go_simp) ((kj.o wQ).mono λx w' h=>⟨h.1.choose,h.1.choose_spec.1,h.1.choose_spec.2.1,h.1.choose_spec.2.2,h.2⟩) (by rintro u w' ⟨_,_,hb⟩;exact⟨(Cq hb d1),(Cq hb d2)⟩) ?_;rintro u w2-⟨k3,k0,kb⟩;have h6:=hU.o.size;have ku:=Hd (ks.o w2 u (hU.o.trans (kb.mono h6)) k3 (λq e=>Xz h6 (k0 q e)));clear kB kb k3 k0 h6 d1 d2 j f h7 gR hK hU kj ks gU;simp only[Ab];refine BX (R1:=λv w'=>∃v2 X,v=.tuple #[v2,Iv (atE n I zs H)]/\X<=J+200/\SpT n (AQ n) wb mb (two++hs) X q.plan (λW o=>B1 W o/\RowN v2 ((allZ n I zs).getD H []) W o) w') rfl (by kernel_rfl) rfl rfl (by go_simp) (ku.o.mono λx w' h=>?_) (by rintro v w' ⟨_,_,_,_,h⟩;exact⟨(h.below0.cell (p:=⟨w.heap.size+1,1,none⟩) (Ad g5.o)).trans g5.o,(h.below0.cell (p:=⟨w.heap.size+1,2,none⟩) (Ad F.o)).trans F.o⟩) ?_
   . obtain⟨v2,X,h1,h2,h3⟩:=h;exact⟨_,h1,v2,X,rfl,h2,h3⟩
   rintro v w3-⟨v2,X,rfl,kW,gy⟩;simp only[Ab]
   iterate 5
    refine Ce rfl rfl (by kernel_rfl) ?_;apply Exists.intro;refine⟨λw' hw=>?_,?_⟩
    . go_simp;rfl
    simp only[Ab]
   refine D5 (by kernel_rfl) ?_;obtain⟨E2,hG⟩:∃E,E=atE n I zs H:=⟨_,rfl⟩;rw[<-hG];have gZ:=Hd hG;have hm:AX (λW o=>B1 W o/\RowN v2 ((allZ n I zs).getD H []) W o):=K6 hS.o (RowN.keepB _ _);obtain⟨B2',hI⟩:∃B1':Wd->Own->Prop,B1'=λW o=>B1 W o/\RowN v2 ((allZ n I zs).getD H []) W o:=⟨_,rfl⟩
   rw[<-hI]at hm gy;have gr:Hq (∀W o,B2' W o->B1 W o/\RowN v2 ((allZ n I zs).getD H []) W o):=by rw[hI];exact Hd λW o h=>h
   obtain⟨p2,c2,kD⟩:∃a c,v2=.slice a ((allZ n I zs).getD H []).length c:=by
    obtain⟨o,m,V,_,_,h⟩:=gy;obtain⟨a,c,e,_⟩:=(gr.o _ _ h).2.1;exact⟨a,c,e⟩
   subst kD;obtain⟨LK,hE⟩:∃L,L=(allZ n I zs).getD H []:=⟨_,rfl⟩;rw[<-hE]at gr⊢;have gX:=Hd hE;have hY:=Hd (Xi (gW.o B2' X hm (λW o h=>(gk.o W o (gr.o W o h).1).1) (by omega)) gy z);rw[<-g8.o]at hY;have gp:=gy.below0;have j:=(gp.cell (p:=⟨w.heap.size+1,1,none⟩) (Ad g5.o)).trans g5.o;clear gy hm hI hE hG ku gp gW hS;go_wp2_with fail;refine hY.o.mono ?_;rintro y Z ⟨v3,nx3,rfl,kV,hf⟩;have gq:=Hd hf
   have gc:Hq (∃o,B1 Z o/\RowN (.slice p2 LK.length c2) LK Z o/\BlsN v3 ((allZ n I zs).take (BZ z)) Z o):=Hd (by
    obtain⟨o,m,V,_,_,h1,h2⟩:=hf;exact⟨o,(gr.o _ _ h1).1,(gr.o _ _ h1).2,h2⟩)
   have gV:Hq (Ay Z (.slice p1 L0.length c1) L0/\Ay Z (.slice p2 LK.length c2) LK):=Hd (by
    obtain⟨o,h1,h2,_⟩:=gc.o;exact⟨(gk.o _ _ h1).2.1,h2.1⟩)
   have gC:Hq (AM Z ta (tabB n I)):=Hd (by
    obtain⟨o,h1,_⟩:=gc.o;obtain⟨a9,c9,Y,q9,_⟩:=kh.o _ _ (gk.o _ _ h1).1;injection Y with Y _ _
    subst Y;exact q9)
   have Q:Hq ((allZ n I zs).length<=256):=Hd (Xz Xj (Xz (X8 (by omega) kA) (by decide)))
   have gH:Hq (BlsIs Z v3 ((allZ n I zs).take (BZ z))):=Hd (by
    obtain⟨o,_,_,h3⟩:=gc.o;refine h3.is ?_;have:=Q.o;simp only[YB];omega)
   obtain⟨p3,c3,kC,_⟩:=gH.o.slice;subst kC;have hA:=gq.o.below0;have j:=(hA.cell (p:=⟨w.heap.size+1,1,none⟩) (Ad g5.o)).trans g5.o;have f:=(hA.cell (p:=⟨w.heap.size+1,2,none⟩) (Ad F.o)).trans F.o;clear hf hY gk gr gc kh hA
   by_cases gA:cz=0
   ·have gz:chkE n I zs=0:=by rw[<-g8.o];exact gA
    obtain⟨vs,gv,k2,k4,kF,h8,_⟩:=Ed kp.o gz;have h5:zs.length=vs.length:=by rw[gv,Cw]
    obtain⟨L,hL⟩:=Ex (allZ n I zs);have kc:L=allL vs I:=by rw[hL,gv];exact Dr (by rw[<-gv];exact gz)
    have kt:Hq (Cl 15 #[.slice ta (2^n) tc,.slice av zs.length cv] Z λx w'=>∃u,x=.returned u/\RowBl Z.heap.size u L w'/\Bw Z w'):=Hd (by
     have hz:=gT.o.below gq.o.below0;rw[gv]at hz;have:=all20_any (cu:=tc) (by omega) kp.o gC.o (c:=cv) hz k2 k4 (by omega)
     rwa [<-h5,<-kc]at this)
    have e1:Hq (E1=if L=[]then 20 else 0):=Hd<|by rw[h4.o,leE,Xu (by simp[gz]),<-hL]
    have e2:Hq (E2=if L.length<=H then 2 else 0):=Hd<|by rw[gZ.o,atE,Xu (by simp[gz]),<-hL]
    rw[<-hL]at gF gX Q gH⊢;obtain⟨R3,hD⟩:∃R,R=(L.take (BZ z)).length:=⟨_,rfl⟩;have kN:=Hd hD;rw[<-hD]
    have gJ:Hq (∃o m V nx',SatE As n (λ_=>True) (AQ n) wb mb (two++hs) nx' Z o m V):=Hd (by
     obtain⟨o,m,V,_,h,_⟩:=gq.o;exact⟨o,m,V,_,h⟩)
    subst gA;clear h4 gZ gC g8 gz hD gv k2 k4 kF h8 h5 hL kc gq;go_wp2_with fail;refine kt.o.mono ?_;rintro y U ⟨u,rfl,hu,gg⟩;obtain⟨pu,cu,rfl,k6,k1⟩:=hu.cap;have HU:=Hd (hu.is (by have:=Q.o;omega));have kL:=HU;have d:=Cq gg f;have S:Hq (Ay U (.slice p1 L0.length c1) L0/\Ay U (.slice p2 LK.length c2) LK):=Hd ⟨gV.o.1.below gg,gV.o.2.below gg⟩;have hQ:Hq (∀W k,Bw U W->L.take (BZ z)=L.take k->k<=L.length->Cl 31 #[.slice p3 R3 c3,.slice pu k cu] W (Bl (.bool true) W)):=Hd λW k hb he hk=>by
     have h1:=(gH.o.below gg).below hb;have h2:=(kL.o.below hb).take hk;rw[<-he]at h2;rw[kN.o];exact Xl _ _ _ W h1 h2
    have kl:Hq (∀W,Bw U W->Cl 17 #[Pt mb,Iv (hs.length:Nat)] W (Sm (.bool true) W)):=Hd λW hb=>by
     obtain⟨o,m,V,nx',gm⟩:=gJ.o;refine(JA ((gm.below gg).below hb) hs.length (by omega)).mono λe w' ⟨h1,h2⟩=>?_
     rw[h1,XQ (by have:=ko.o;omega)];exact⟨rfl,h2⟩
    have kO:Hq (∀W,Bw U W->Bw w W):=Hd λW hb=>by
     obtain⟨o,m,V,nx',gm⟩:=gJ.o;exact gI.o.trans ((((gm.below gg).below hb).chg.below0).mono gI.o.size)
    obtain⟨kz,hh,hj,hZ⟩:=Xm L (by have:=Q.o;omega) z;have kM:=Hd hZ;obtain⟨M,hM⟩:=Ex L.length;have HM:=Hd hM;rw[<-hM]at hh hj k6 e2 hQ HU Q⊢;have gG:=Hd λW=>Xk z 0 (M:Nat) W
    rw[hh]at gG;have T:Hq (∀W a c ds i,Bw U W->i<M->ds=L.getD i []->Ay U (.slice a ds.length c) ds->∃b off a2 c2,pu=some (Aw b off)/\W.cell? (Aw b (off+i))=some (.slice a2 ds.length c2)/\Cl 16 #[.slice a ds.length c,.slice a2 ds.length c2] W (Bl (.bool true) W)):=Hd λW a c ds i hb hi hd kJ=>by
     have hu:=HU.o;rw[HM.o]at hu;obtain⟨b,off,c9,a2,c2,Y,g1,k7,_⟩:=(hu.below hb).elem (i:=i) (by rw[<-HM.o];exact hi);injection Y with Y _ _
     rw[<-hd]at g1 k7;obtain⟨a8,c8,e8,kx,_⟩:=kJ.below hb;injection e8 with e8 _ _
     subst e8;have:=Is ds ds rfl a a2 c c2 W kx k7;rw[XQ rfl]at this;exact⟨b,off,a2,c2,Y,g1,this⟩
    clear hu gg hM hh hZ kt gV gH j f gJ HU Q;have g4:Hq (Bw U U):=Hd (X7 _ _);have kS:0<=R3:=X0 _;have kI:(M=0/\(pu=none/\cu=0\/∃g,pu=some (Av g)))\/(0<M/\M<=H)\/(0<M/\H<M):=by
     rcases ZC M with h|h
     . exact .inl ⟨h,k1⟩
     . exact .inr (by omega)
    clear k1;rcases kI with ⟨h0,⟨rfl,rfl⟩|⟨g,rfl⟩⟩|⟨h0,h1⟩|⟨h0,h1⟩
    case' inl.inl=>
     obtain rfl:kz=0:=by omega
     obtain rfl:E1=20:=by rw[e1.o,Xx (Zl.1 (by rw[<-HM.o];exact h0))]
     obtain rfl:E2=2:=by rw[e2.o,Xx (by omega)]
     have gn:(M:Int)=0:=by omega
     have g9:(H:Int)>=(M:Int):=by omega
     have gO:¬ ((M:Int)>0):=by omega
     have gN:¬ ((H:Int)<(M:Int)):=by omega
     have N:=g4;rw[gn]at gG;clear g4 T S e1 e2 h0;go_upto_region 18 with fail
    case' inl.inr=>
     obtain rfl:E1=20:=by rw[e1.o,Xx (Zl.1 (by rw[<-HM.o];exact h0))]
     obtain rfl:E2=2:=by rw[e2.o,Xx (by omega)]
     have gn:(M:Int)=0:=by omega
     have g9:(H:Int)>=(M:Int):=by omega
     have gO:¬ ((M:Int)>0):=by omega
     have gN:¬ ((H:Int)<(M:Int)):=by omega
     have N:=g4;rw[gn]at gG;clear g4 T S e1 e2 h0;go_upto_region 18 with fail
    case' inr.inl=>
     obtain rfl:E1=0:=by rw[e1.o,Xu (λe=>by have:=HM.o;rw[e]at this;simp at this;omega)]
     have gn:¬ ((M:Int)=0):=by omega
     have gO:(M:Int)>0:=by omega
     obtain⟨b,off,a2,d2,rfl,g1,gx⟩:=T.o U p1 c1 L0 0 g4.o h0 gF.o S.o.1;have gd:U.cell? (Aw b off)=some (.slice a2 L0.length d2):=g1;have g3:=Hd gx;obtain rfl:E2=2:=by rw[e2.o,Xx (by omega)]
     have g9:(H:Int)>=(M:Int):=by omega
     have gN:¬ ((H:Int)<(M:Int)):=by omega
     clear gx;go_wp2_with fail;refine g3.o.mono ?_;rintro y wH ⟨rfl,go⟩;have z2:=Cq go d;have N:=Hd go;clear d;clear g4 T S g3 e1 e2 h0 h1 go g1 gd;go_upto_region 18 with fail
    case' inr.inr=>
     obtain rfl:E1=0:=by rw[e1.o,Xu (λe=>by have:=HM.o;rw[e]at this;simp at this;omega)]
     have gn:¬ ((M:Int)=0):=by omega
     have gO:(M:Int)>0:=by omega
     obtain⟨b,off,a2,d2,rfl,g1,gx⟩:=T.o U p1 c1 L0 0 g4.o h0 gF.o S.o.1;have gd:U.cell? (Aw b off)=some (.slice a2 L0.length d2):=g1;have g3:=Hd gx;obtain rfl:E2=0:=by rw[e2.o,Xu (by omega)]
     have g9:¬ ((H:Int)>=(M:Int)):=by omega
     have gN:(H:Int)<(M:Int):=by omega
     clear gx;go_wp2_with fail;refine g3.o.mono ?_;rintro y wH' ⟨rfl,gu⟩;obtain⟨b',off',a3,d3,Y,ht,hc⟩:=T.o wH' p2 c2 LK H gu h1 gX.o S.o.2;injection Y with Y
     injection Y with Y e10 _
     subst Y;subst e10
     have z2:=Cq gu d;have hO:=Hd hc;have kr:=Hd gu;clear hc g1 gd d gu;go_wp2_with fail;refine hO.o.mono ?_;rintro y wH ⟨rfl,hy⟩;have go:=kr.o.trans (hy.mono kr.o.size);clear hO hy ht;have N:=Hd go;clear g4 T S g3 e1 e2 h0 h1 go;go_upto_region 18 with fail
    all_goals
     go_wp2_with fail;refine(gG.o _).mono ?_;rintro y w' ⟨rfl,rfl⟩;have kn:=Hd (hQ.o _ _ N.o kM.o hj);have kQ:=Int.ofNat_le.2 (Xz hj k6);clear gG gn g9 gO gN hQ;go_wp2_with fail;refine kn.o.mono ?_;rintro y wI ⟨rfl,k9⟩;have hW:=Hd (N.o.trans (k9.mono N.o.size));have hR:=Hd (kl.o _ hW.o);clear kn k9 N kl;go_wp2_with fail;refine hR.o.mono ?_;rintro y w' ⟨rfl,rfl⟩;have g7:=Hd (CV wI);clear hR;go_wp2_with fail;refine g7.o.mono ?_;rintro y wJ ⟨rfl,k8⟩;have hT:=Hd (kO.o _ (hW.o.trans (k8.mono hW.o.size)));clear k8 g7;go_wp2;go_ret;exact⟨rfl,hT.o⟩
   ·have gK:allZ n I zs=[]:=by unfold allZ;rw[Xu (by rw[<-g8.o];exact gA)]
    have e1:E1=cz:=by rw[h4.o,leE,Xx (by rw[<-g8.o];exact gA),<-g8.o]
    have e2:E2=cz:=by rw[gZ.o,atE,Xx (by rw[<-g8.o];exact gA),<-g8.o]
    have e3:L0=[]:=by rw[gF.o,gK];rfl
    have e4:LK=[]:=by rw[gX.o,gK];rfl
    have hV:=Hd gq.o.below0;subst e1;subst e2;subst e3;subst e4
    rw[gK];simp only[List.take_nil,Y2];have g7:=Hd (CV Z);clear h4 gZ gF gX gH gV gC Q gK gq g8;go_wp2_with fail;refine g7.o.mono ?_;rintro y w11 ⟨rfl,hC⟩;have hT:=Hd (gI.o.trans ((hV.o.trans (hC.mono hV.o.size)).mono gI.o.size));clear hC g7;go_wp2;go_ret;exact⟨rfl,hT.o⟩
end Go.Proofs.YtnphndlbfeagbaaGreat
