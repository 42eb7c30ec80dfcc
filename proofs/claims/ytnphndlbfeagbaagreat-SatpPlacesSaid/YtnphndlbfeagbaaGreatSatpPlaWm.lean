/- The walk of a law: SatpPlaW. -/
import Derived.Test.YtnphndlbfeagbaaGreatBp
set_option linter.unusedSimpArgs false
set_option linter.unusedVariables false
set_option linter.unusedSectionVars false
set_option linter.unnecessarySimpa false
set_option maxRecDepth 100000
set_option maxHeartbeats 8000000
namespace Go.Proofs.YtnphndlbfeagbaaGreat
open Go.Proofs.Tryz
open Go.RowKit
theorem satpplaces_walk (q:AskD)(f g d:Option Addr)(s t r:Nat)(p:Nat)(A:p<256)(S:Int)(av:Option Addr)(cv:Nat)(zs:List Int)(Y:Option Addr)(bs:List Bool)(U:Nat)(w:Wd)(h:AskAt w q f g d)(G:Aj w av zs)(hcap:zs.length<=cv)(hbs:bs.length<=1000000->Ay w (.slice Y bs.length U) bs)(hbl:bs.length<=9223372036854775807):
 Cl 3 #[askV q f g d s t r,.agg #[.int .u8 p,.slice av zs.length cv,.int .u16 S,.slice Y bs.length U]] w (Bl (.bool true) w):=by
 have hg:=Hd G;have hB:=Hd hbs;have hQ:=G.len;clear G hbs;have D:Hq (∀W,Bw w W->∀u,u=askV q f g d s t r->Cl 7 #[u] W λy w'=>∃b,y=.returned (.bool b)/\(b=true->Dl q)/\Bw W w'):=Hd λW hb u hu=>by subst hu;exact JD q f g d s t r W (h.below hb)
 have gz:Hq (∀W n,Bw w W->Dl q->q.vars=(n:Nat)->∀u,u=askV q f g d s t r->Cl 9 #[u] W (SetP As q n W)):=Hd λW n hb hs hn u hu=>by subst hu;exact JT Cf q f g d s t r W (h.below hb) hs n hn
 obtain⟨vars,gq⟩:∃z,z=q.vars:=⟨_,rfl⟩;have HV:=Hd gq;obtain⟨plen,gI⟩:∃z,z=q.plan.length:=⟨_,rfl⟩;unfold askV at D gz⊢;rw[<-gq,<-gI]at D gz⊢;obtain⟨olen,gJ⟩:∃z,z=q.order.length:=⟨_,rfl⟩;obtain⟨elen,gM⟩:∃z,z=q.es.length:=⟨_,rfl⟩;rw[<-gJ,<-gM]at D gz⊢;obtain⟨w1,gr⟩:=Ex ((w.alloc (.cells #[Iv vars,.slice f olen s,.slice g elen t,.slice d plen r] 26)).alloc (.cells #[.int .u8 p,.slice av zs.length cv,.int .u16 S,.slice Y bs.length U] 30));have hh:Hq (_=w1):=Hd gr.symm;have h5:Hq (Bw w w1):=by rw[gr];exact Hd ((Ag _ _).alloc (by simp) _)
 have gg:w1.heap[w.heap.size]?=some (.cells #[Iv vars,.slice f olen s,.slice g elen t,.slice d plen r] 26 (0,0)):=by rw[gr];exact(X1 _ _ (by simp)).trans (Xv _ _)
 have gh:w1.heap[w.heap.size+1]?=some (.cells #[.int .u8 p,.slice av zs.length cv,.int .u16 S,.slice Y bs.length U] 30 (0,0)):=by
  have:=Xv (w.alloc (.cells #[Iv vars,.slice f olen s,.slice g elen t,.slice d plen r] 26)) (.cells #[.int .u8 p,.slice av zs.length cv,.int .u16 S,.slice Y bs.length U] 30);rw[X3]at this;rw[gr];exact this
 have x0:w1.cell? (Av (w.heap.size+1))=some (.int .u8 p):=by rw[Xw _ _ 0 _ _ _ gh];rfl
 have E:w1.cell? ⟨w.heap.size+1,1,none⟩=some (.slice av zs.length cv):=by rw[Xw _ _ 1 _ _ _ gh];rfl
 have x2:w1.cell? ⟨w.heap.size+1,2,none⟩=some (.int .u16 S):=by rw[Xw _ _ 2 _ _ _ gh];rfl
 have N:w1.cell? ⟨w.heap.size+1,3,none⟩=some (.slice Y bs.length U):=by rw[Xw _ _ 3 _ _ _ gh];rfl
 have d0:w1.cell? (Av w.heap.size)=some (Iv vars):=by rw[Xw _ _ 0 _ _ _ gg];rfl
 have d1:w1.cell? (Aw w.heap.size 1)=some (.slice f olen s):=by rw[Xw _ _ 1 _ _ _ gg];rfl
 have d2:w1.cell? (Aw w.heap.size 2)=some (.slice g elen t):=by rw[Xw _ _ 2 _ _ _ gg];rfl
 have d3:w1.cell? (Aw w.heap.size 3)=some (.slice d plen r):=by rw[Xw _ _ 3 _ _ _ gg];rfl
 clear h gr gg gq gI gJ gM gh
 go_enter func3,ntmps3
 go_upto_region 1 with fail;rw[hh.o];go_wp2_with fail;refine(D.o _ h5.o _ rfl).mono ?_;rintro y w2 ⟨b,rfl,hb,g1⟩;have HB:=Hd hb;have g3:=Hd (h5.o.trans (g1.mono h5.o.size));have e0:=Cq g1 d0;have e1:=Cq g1 d1;have e2:=Cq g1 d2;have e3:=Cq g1 d3;have y0:=Cq g1 x0;have y1:=Cq g1 E;have y2:=Cq g1 x2;have y3:=Cq g1 N;have g2:=Hd (CV w2);clear hb g1 D d0 d1 d2 d3 hh x0 E x2 N;cases b with
 | false=>
   go_wp2_with fail;refine g2.o.mono ?_;rintro y w3 ⟨rfl,g8⟩;have gE:=Hd (g3.o.trans (g8.mono g3.o.size));clear g8;go_wp2_with fail;go_ret;exact⟨rfl,gE.o⟩
 | true=>
   by_cases hG:(zs.length:Int)>8
   . go_wp2_with fail;refine g2.o.mono ?_;rintro y w3 ⟨rfl,g8⟩;have gE:=Hd (g3.o.trans (g8.mono g3.o.size));clear g8;go_wp2_with fail;go_ret;exact⟨rfl,gE.o⟩
   by_cases h6:(bs.length:Int)>20
   . go_wp2_with fail;refine g2.o.mono ?_;rintro y w3 ⟨rfl,g8⟩;have gE:=Hd (g3.o.trans (g8.mono g3.o.size));clear g8;go_wp2_with fail;go_ret;exact⟨rfl,gE.o⟩
   have gA:=Hd (HB.o (by first|rfl|trivial));obtain⟨n,hn⟩:∃n:Nat,vars=(n:Nat):=⟨vars.toNat,by have:=gA.o.lo;have:=HV.o;omega⟩;subst hn;have hU:n<=6:=by have:=gA.o.hi;have:=HV.o;omega
   have hV:1<=n:=by have:=gA.o.lo;have:=HV.o;omega
   have hY:q.es.length<=5:=gA.o.es;have h0:=Hd (gz.o w2 n g3.o gA.o rfl _ rfl);clear gz g2 HB;go_wp2_with fail;refine h0.o.mono ?_;rintro y w3 ⟨mb,vl,vx,wb,hs,nx,rfl,g0,gQ,hT,o3,m3,V3,I,-⟩;have hX:hs.length<=5:=by have:=Yf List.length gQ;simp at this;omega
   obtain⟨al,cl,gH⟩:∃a c,vl=.slice a hs.length c:=by
    obtain⟨a,c,e,_⟩:=I.l.own.slice;exact⟨a,c,by rw[e];simp[Ar]⟩
   subst gH;have hH:Hq (∀p∈hs,p∈two++hs):=Hd λp A=>Zf _ A
   have h8:(two++hs).length=2+hs.length:=by simp[two];omega
   have hN:Hq (∀k,k<=192->k*2^n<=AQ n):=Hd λk hk=>GP hk
   have hA:Hq (wb.cell? (Av w.heap.size)=some (Iv (n:Nat))):=Hd (Cq g0 e0);have c0:=(I.below0.cell (p:=Av w.heap.size) (Ad (Cq g0 e0))).trans (Cq g0 e0);have z0:=(I.below0.cell (p:=(Av (w.heap.size+1))) (Ad (Cq g0 y0))).trans (Cq g0 y0);have z1:=(I.below0.cell (p:=⟨w.heap.size+1,1,none⟩) (Ad (Cq g0 y1))).trans (Cq g0 y1);have z2:=(I.below0.cell (p:=⟨w.heap.size+1,2,none⟩) (Ad (Cq g0 y2))).trans (Cq g0 y2);have z3:=(I.below0.cell (p:=⟨w.heap.size+1,3,none⟩) (Ad (Cq g0 y3))).trans (Cq g0 y3);have k2:Hq (wb.cell? (Av (w.heap.size+1))=some (.int .u8 p)):=Hd (Cq g0 y0);have go:Hq (wb.cell? ⟨w.heap.size+1,1,none⟩=some (.slice av zs.length cv)):=Hd (Cq g0 y1);have k1:Hq (wb.cell? ⟨w.heap.size+1,2,none⟩=some (.int .u16 S)):=Hd (Cq g0 y2);have gc:Hq (wb.cell? ⟨w.heap.size+1,3,none⟩=some (.slice Y bs.length U)):=Hd (Cq g0 y3);have g6:Hq (Bw w wb):=Hd (g3.o.trans (g0.mono g3.o.size));have k0:Hq (∀p∈two++hs,p.1<nx):=Hd λp A=>(I.sat.range p A).2
   have HL:=Hd ((I.withOd (Od':=λ_=>True) trivial).withSt (Wt':=SufW q.plan) (by rw[I.st.1];exact ZU _));clear I g0 gQ h0 e0 e1 e2 e3 y0 y1 y2 y3;have hS:zs.length<=8:=by omega
   have hP:bs.length<=20:=by omega
   have g9:Hq (Aj wb av zs):=Hd (hg.o.below g6.o);have L:Hq (Ay wb (.slice Y bs.length U) bs):=Hd ((hB.o (by omega)).below g6.o);have ho:=Hd (K7 HL.o hH.o (by omega) (by omega) p A);clear hg hB hG h6;go_wp2_with fail;refine ho.o.mono ?_;rintro y wA ⟨a1,Z,r1,rfl,gR,h9,hd⟩;have gC:=Hd (HL.o.below hd)
   have H0:Hq (StF As n (AQ n) wb mb (two++hs) nx q.plan [(r1,Z)] wA):=Hd (StF.of gC.o.st gC.o.sat (by
    intro p A;rw[XB.1 A];exact h9))
   have h4:Hq (DepF n Z):=Hd (H0.o.dep gR);have hy:Hq ((two++hs).length=2+hs.length):=Hd h8;have hI:Hq (∀c,c<=100->c*2^n+(2^n+(2^n-1)*2^n)<=AQ n):=Hd λc hc=>room20 hc
   have g0:=gC.o.sat.chg.below0;have E:=(g0.cell (p:=⟨w.heap.size+1,1,none⟩) (Ad go.o)).trans go.o;have N:=(g0.cell (p:=⟨w.heap.size+1,3,none⟩) (Ad gc.o)).trans gc.o
   have hm:Hq (Cl 11 #[Pt mb,Iv a1,.slice Y bs.length U,.slice av zs.length cv] wA λx w'=>∃v e,x=.returned (.tuple #[v,Iv e])/\∃nx' o' m' V',SatE As n (λ_=>True) (AQ n) wb mb (two++hs) nx' w' o' m' V'/\TabA n w' r1 Z/\Ir n Z zs bs e v w' o'):=Hd (by
    obtain⟨o,m,V,q1,q2,q3⟩:=H0.o;have hf:=q2.chg.below0;refine(Pk q2 q1 gC.o.b2 gR (g9.o.below hf) hcap (λgu x hx=>q2.none0 (by subst hx;exact g9.o.blk gu)) (L.o.below hf) (λgu q hq=>q2.none0 (L.o.blk gu hq)) (by omega) (by have:=hI.o ((two++hs).length+1) (by have:=hy.o;omega);exact this)).mono ?_;rintro x w' ⟨v,e,rfl,nx',o',m',V',_,_,hc,_,gt,hr⟩;exact⟨v,e,rfl,nx',o',m',V',gt,((q3 _ (XB.2 rfl)).chg hc).tab,hr⟩)
   clear h9 hd ho HL c0 z0 z1 z2 z3 gR gC H0 h8 g0;go_wp2_with fail;refine hm.o.mono ?_;rintro y wB ⟨v,e,rfl,nx',o',m',V',gt,hE,hR⟩;have C:=Hd gt;obtain⟨ta,tc,rfl,gP⟩:=hE;have hj:=Hd gP;have gB:=Hd hR;have cB:=(C.o.chg.below0.cell (p:=Av w.heap.size) (Ad hA.o)).trans hA.o;have b1:=(C.o.chg.below0.cell (p:=⟨w.heap.size+1,1,none⟩) (Ad go.o)).trans go.o;have b3:=(C.o.chg.below0.cell (p:=⟨w.heap.size+1,3,none⟩) (Ad gc.o)).trans gc.o;have gZ:=Hd (vars20_any (cu:=tc) (by omega) gP (c:=cv) (g9.o.below gt.chg.below0));obtain⟨cz,gV⟩:∃z,z=chkE n Z zs:=⟨_,rfl⟩;have gk:=Hd gV;rw[<-gV]at gZ;clear hm gt gP hR E N gV;go_wp2_with fail;refine gZ.o.mono ?_;rintro y F ⟨rfl,gN⟩;have g5:=Hd (C.o.below gN);have T:=Hd (hj.o.below gN);have B:=Hd gN;have E:=(g5.o.chg.below0.cell (p:=⟨w.heap.size+1,1,none⟩) (Ad go.o)).trans go.o;have N:=(g5.o.chg.below0.cell (p:=⟨w.heap.size+1,3,none⟩) (Ad gc.o)).trans gc.o;have J:=Hd g5.o.chg.below0;clear gN gZ cB b1 b3 hj;rcases gB.o with ⟨h1,h2,O⟩|⟨h1,gu,h2,O⟩|⟨h1,vs,gf,gm,hC⟩
   . have O:=O.below B.o;rw[<-gk.o]at h1 h2;subst h2;have hZ:¬ (e=0):=h1;have g7:=Hd (FW O (by omega));clear O gB C g5 T B gk h1 g9 L;go_wp2_with fail;refine g7.o.mono ?_;rintro y w' ⟨rfl,rfl⟩;have g2:=Hd (CV F);go_wp2_with fail;refine g2.o.mono ?_;rintro y w11 ⟨rfl,g4⟩;have K:=Hd (g6.o.trans ((J.o.trans (g4.mono J.o.size)).mono g6.o.size));clear g4 g2;go_wp2_with fail;go_ret;exact⟨rfl,K.o⟩
   ·have O:=O.below B.o;rw[<-gk.o]at h1;subst h1;subst h2
    have hO:¬ ((bs.length:Int)=(zs.length:Int)):=by omega
    have g7:=Hd (FW O (by omega));clear O gu gB C g5 T B gk g9 L;go_wp2_with fail;refine g7.o.mono ?_;rintro y w' ⟨rfl,rfl⟩;have g2:=Hd (CV F);go_wp2_with fail;refine g2.o.mono ?_;rintro y w11 ⟨rfl,g4⟩;have K:=Hd (g6.o.trans ((J.o.trans (g4.mono J.o.size)).mono g6.o.size));clear g4 g2;go_wp2_with fail;go_ret;exact⟨rfl,K.o⟩
   ·have gW:=h1;rw[<-gk.o]at h1;subst h1;obtain⟨H,e1,gK,gL,h7,gH,_⟩:=Ed h4.o gW;obtain rfl:H=vs:=by rw[<-It H,<-e1,gf,It]
    have gU:(intL H).length=H.length:=by unfold intL;simp
    have gp:zs.length=bs.length:=by rw[gf,gU,gm]
    have gT:∀z∈zs,0<=z/\z<(n:Int):=λz hz=>by
     rw[gf]at hz;obtain⟨v,O,rfl⟩:=X6.1 hz;have:=gL v O;omega
    have gF:Hq (Cl 13 #[.slice ta (2^n) tc,.slice av bs.length cv,.slice Y bs.length U] F (Sm (.bool (Z (asg H bs))) F)):=Hd (by
     obtain⟨la',lc',j,gS,_⟩:=L.o.below g5.o.chg.below0;injection j with j _ _
     subst j;have:=at20_any (cu:=tc) (by omega) h4.o T.o (c:=cv) (g9.o.below g5.o.chg.below0) gT (cl:=U) gS (by omega);rw[gp]at this;refine this.mono λx w' hx=>?_
     rw[hx.1];refine⟨?_,hx.2⟩;congr 3;funext u;rw[<-want_asg gK (by rw[gm]),gf,gm])
    have gG:Hq (∀W,Bw F W->Cl 15 #[.slice ta (2^n) tc,.slice av bs.length cv] W λx w'=>∃u,x=.returned u/\RowBl W.heap.size u (allL H Z) w'/\Bw W w'):=Hd λW hb=>by
     have hz:=g9.o.below ((g5.o.below hb).chg.below0);rw[gf]at hz;have:=all20_any (cu:=tc) (by omega) h4.o (T.o.below hb) (c:=cv) hz gK gL (by omega)
     rwa [<-gm]at this
    rw[gp]at E⊢;rcases hC with ⟨hF,h2,O⟩|⟨k,hk,h2,O⟩
    . have O:=O.below B.o;subst h2;rw[hF]at gF;have g7:=Hd (FW O (by omega));clear O gB C g5 T B gk g9 L gW e1 gK gL h7 gH gU gp gT gf gm hF gG;go_wp2_with fail;refine gF.o.mono ?_;rintro y w' ⟨rfl,rfl⟩;go_wp2_with fail;refine g7.o.mono ?_;rintro y w' ⟨rfl,rfl⟩;have g2:=Hd (CV F);go_wp2_with fail;refine g2.o.mono ?_;rintro y w11 ⟨rfl,g4⟩;have K:=Hd (g6.o.trans ((J.o.trans (g4.mono J.o.size)).mono g6.o.size));clear g4 g2;go_wp2_with fail;go_ret;exact⟨rfl,K.o⟩
    ·have hF:Z (asg H bs)=true:=((Fh H Z bs).1 (List.mem_of_getElem? hk)).2;subst h2;rw[hF]at gF;have hJ:k<(allL H Z).length:=(XI.1 hk).1;have hK:=FU H Z;have A:2^H.length<=256:=Xz (X8 (by omega) (show H.length<=8 by omega)) (by decide);have HV:=Hd (O.below B.o);have HK:=Hd hk;obtain⟨M,hM⟩:=Ex ((allL H Z).length);rw[<-hM]at hJ hK;have h3:=Hd hM;have hD:=Hd (gG.o F (X7 _ _));clear O gB C T B gk gW e1 gK gL h7 gH gU gp gT gf gm hF gG hM hk J;go_wp2_with fail;refine gF.o.mono ?_;rintro y w' ⟨rfl,rfl⟩;go_wp2_with fail;refine hD.o.mono ?_;rintro y Q ⟨u,rfl,hu,gY⟩;have gO:=Hd (g5.o.below gY);have g7:=Hd (FW (HV.o.below gY) (by omega));have HU:=Hd (hu.is (by have:=h3.o;omega));have xE3:=(gO.o.chg.below0.cell (p:=⟨w.heap.size+1,3,none⟩) (Ad gc.o)).trans gc.o;obtain⟨b,off,c9,a2,c2,j,ge,gX,_⟩:=HU.o.elem (i:=k) (by have:=h3.o;omega);have gv:(allL H Z).getD k []=bs:=by
      rw[List.getD,HK.o];rfl
     rw[gv]at ge gX;subst j;rw[<-h3.o];have hW:(k:Int)<(M:Int):=by omega
     have hL:=Hd gX;clear hu gY hD gF g5 E N gv gX HV HU;go_wp2_with fail;refine g7.o.mono ?_;rintro y w' ⟨rfl,rfl⟩;go_upto_region 17 with fail;have gw:=An Q 1;have D:Hq (∀W,Bw Q W->Cl 16 #[.slice a2 bs.length c2,.slice Y bs.length U] W (Bl (.bool true) W)):=Hd λW hb=>by
      obtain⟨la',lc',j,gS,_⟩:=L.o.below ((gO.o.below hb).chg.below0);injection j with j _ _
      subst j;have:=Is bs bs rfl a2 Y c2 U W (hL.o.below hb) gS;simpa using this
     have ht:Hq (∀W,Bw Q W->Cl 17 #[Pt mb,Iv (hs.length:Nat)] W (Sm (.bool true) W)):=Hd λW hb=>(JA (gO.o.below hb) hs.length (by omega)).mono λe w' ⟨h1,h2⟩=>by
      rw[h1,XQ (by have:=hy.o;omega)];exact⟨rfl,h2⟩
     have gD:Hq (∀W,Bw Q W->W.cell? (Aw b (off+k))=some (.slice a2 bs.length c2)/\W.cell? ⟨w.heap.size+1,3,none⟩=some (.slice Y bs.length U)):=Hd λW hb=>⟨(Cq hb ge),(Cq hb xE3)⟩
     refine AJ (λW:Wd=>W.cell? (Aw b (off+k))=some (.slice a2 bs.length c2)/\W.cell? ⟨w.heap.size+1,3,none⟩=some (.slice Y bs.length U)) false 27
      [(0,false),(1,false),(2,false),(3,false),(4,false),(5,false),(6,false),(7,false),(8,false),(9,false),(10,false),(11,false),(12,false),(13,false),(14,false),(15,true),(16,false),(17,false),(18,false),(19,false),(20,false),(21,true),(22,false),(23,false),(24,true),(25,false),(26,false)] (by kernel_rfl) (by kernel_rfl) (gD.o _ gw) ?_
     simp only[planned,AI]
     iterate 3
      refine A0 rfl ?_;apply Exists.intro;refine⟨λw' X=>?_,?_⟩
      . obtain⟨h1,h2⟩:=X;go_simp;rfl
      simp only[Ab]
     iterate 4
      refine Eh true (by go_simp) ?_;apply Exists.intro;refine⟨λgv w' X=>?_,?_⟩
      . obtain⟨h1,h2⟩:=X;go_simp;rfl
      simp only[Ab]
     iterate 2
      refine A0 rfl ?_;apply Exists.intro;refine⟨λw' X=>?_,?_⟩
      . obtain⟨h1,h2⟩:=X;go_simp;rfl
      simp only[Ab]
     iterate 6
      refine Eh true (by go_simp) ?_;apply Exists.intro;refine⟨λgv w' X=>?_,?_⟩
      . obtain⟨h1,h2⟩:=X;go_simp;rfl
      simp only[Ab]
     refine GN (R:=λv w'=>v=.bool true/\Bw Q w') (by go_simp) (by go_simp) ((D.o _ gw).mono (λe w' he=>?_)) ?_
     . obtain⟨rfl,hb⟩:=he;have gy:=gw.trans (hb.mono gw.size);exact⟨_,rfl,gD.o _ gy,rfl,gy⟩
     rintro v1 wF-⟨rfl,gx⟩;simp only[Ab]
     iterate 2
      refine A0 rfl ?_;apply Exists.intro;refine⟨λw' X=>?_,?_⟩
      . obtain⟨h1,h2⟩:=X;go_simp;rfl
      simp only[Ab]
     iterate 3
      refine Eh true (by go_simp) ?_;apply Exists.intro;refine⟨λgv w' X=>?_,?_⟩
      . obtain⟨h1,h2⟩:=X;go_simp;rfl
      simp only[Ab]
     refine GN (R:=λv w'=>v=.bool true/\wF=w') (by go_simp) (by go_simp) ((ht.o _ gx).mono (λe w' he=>?_)) ?_
     . obtain⟨rfl,rfl⟩:=he;exact⟨_,rfl,gD.o _ gx,rfl,rfl⟩
     rintro v2 w'-⟨rfl,rfl⟩;simp only[Ab]
     iterate 2
      refine A0 rfl ?_;apply Exists.intro;refine⟨λw' X=>?_,?_⟩
      . obtain⟨h1,h2⟩:=X;go_simp;rfl
      simp only[Ab]
     refine GN (R:=λv w'=>v=.bool true/\Bw Q w') (by go_simp) (by go_simp) ((CV wF).mono (λe w' he=>?_)) ?_
     . obtain⟨rfl,hb⟩:=he;have gy:=gx.trans (hb.mono gx.size);exact⟨_,rfl,gD.o _ gy,rfl,gy⟩
     rintro v3 wG-⟨rfl,ha⟩;simp only[Ab]
     iterate 2
      refine A0 rfl ?_;apply Exists.intro;refine⟨λw' X=>?_,?_⟩
      . obtain⟨h1,h2⟩:=X;go_simp;rfl
      simp only[Ab]
     refine B6 ?_;have K:Hq (Bw w wG):=Hd (g6.o.trans (((gO.o.below ha).chg.below0).mono g6.o.size));clear ha gx gw gD ht D ge xE3;go_wp2_with fail;go_ret;exact⟨rfl,K.o⟩
end Go.Proofs.YtnphndlbfeagbaaGreat
