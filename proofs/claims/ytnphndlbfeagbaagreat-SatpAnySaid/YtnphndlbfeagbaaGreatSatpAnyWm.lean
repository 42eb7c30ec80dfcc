/- The walk of a law: SatpAnyW. -/
import Derived.Test.YtnphndlbfeagbaaGreatBa
set_option linter.unusedSimpArgs false
set_option linter.unusedVariables false
set_option linter.unusedSectionVars false
set_option linter.unnecessarySimpa false
set_option maxRecDepth 100000
set_option maxHeartbeats 8000000
namespace Go.Proofs.YtnphndlbfeagbaaGreat
open Go.Proofs.Tryz
open Go.RowKit
theorem satpany_walk (q:AskD)(f j Z:Option Addr)(t A s:Nat)(pk:Nat)(hpk:pk<256)(w:Wd)(h:AskAt w q f j Z):
 Cl 4 #[askV q f j Z t A s,.int .u8 pk] w (Bl (.bool true) w):=by
 have g3:Hq (∀W,Bw w W->∀u,u=askV q f j Z t A s->Cl 7 #[u] W λy w'=>∃b,y=.returned (.bool b)/\(b=true->Dl q)/\Bw W w'):=Hd λW hb u hu=>by subst hu;exact JD q f j Z t A s W (h.below hb)
 have go:Hq (∀W n,Bw w W->Dl q->q.vars=(n:Nat)->∀u,u=askV q f j Z t A s->Cl 9 #[u] W (SetP As q n W)):=Hd λW n hb hs hn u hu=>by subst hu;exact JT Cf q f j Z t A s W (h.below hb) hs n hn
 obtain⟨vars,gb⟩:∃z,z=q.vars:=⟨_,rfl⟩;have HV:=Hd gb;obtain⟨plen,gu⟩:∃z,z=q.plan.length:=⟨_,rfl⟩;unfold askV at g3 go⊢;rw[<-gb,<-gu]at g3 go⊢;obtain⟨olen,gv⟩:∃z,z=q.order.length:=⟨_,rfl⟩;obtain⟨elen,gx⟩:∃z,z=q.es.length:=⟨_,rfl⟩;rw[<-gv,<-gx]at g3 go⊢;obtain⟨w1,gr⟩:=Ex (w.alloc (.cells #[Iv vars,.slice f olen t,.slice j elen A,.slice Z plen s] 26));have hf:Hq (_=w1):=Hd gr.symm;have g9:Hq (Bw w w1):=by rw[gr];exact Hd (Ag _ _)
 have g5:w1.heap[w.heap.size]?=some (.cells #[Iv vars,.slice f olen t,.slice j elen A,.slice Z plen s] 26 (0,0)):=by rw[gr];exact Xv _ _
 have d0:w1.cell? (Av w.heap.size)=some (Iv vars):=by rw[Xw _ _ 0 _ _ _ g5];rfl
 have d1:w1.cell? (Aw w.heap.size 1)=some (.slice f olen t):=by rw[Xw _ _ 1 _ _ _ g5];rfl
 have d2:w1.cell? (Aw w.heap.size 2)=some (.slice j elen A):=by rw[Xw _ _ 2 _ _ _ g5];rfl
 have d3:w1.cell? (Aw w.heap.size 3)=some (.slice Z plen s):=by rw[Xw _ _ 3 _ _ _ g5];rfl
 clear h gr g5 gb gu gv gx
 go_enter func4,ntmps4
 go_upto_region 1 with fail;rw[hf.o];go_wp2_with fail;refine(g3.o _ g9.o _ rfl).mono ?_;rintro y w2 ⟨b,rfl,hb,g1⟩;have O:=Hd hb;have g8:=Hd (g9.o.trans (g1.mono g9.o.size));have e0:=Cq g1 d0;have e1:=Cq g1 d1;have e2:=Cq g1 d2;have e3:=Cq g1 d3;have g4:=Hd (CV w2);clear hb g1 g3 d0 d1 d2 d3 hf;cases b with
 | false=>
   go_wp2_with fail;refine g4.o.mono ?_;rintro y w3 ⟨rfl,ha⟩;have k2:=Hd (g8.o.trans (ha.mono g8.o.size));clear ha;go_wp2_with fail;go_ret;exact⟨rfl,k2.o⟩
 | true=>
   have N:=Hd (O.o (by first|rfl|trivial));obtain⟨n,hn⟩:∃n:Nat,vars=(n:Nat):=⟨vars.toNat,by have:=N.o.lo;have:=HV.o;omega⟩;subst hn;have k7:n<=6:=by have:=N.o.hi;have:=HV.o;omega
   have k8:1<=n:=by have:=N.o.lo;have:=HV.o;omega
   have ke:q.es.length<=5:=N.o.es;have gP:=Hd (go.o w2 n g8.o N.o rfl _ rfl);clear go g4 O;go_wp2_with fail;refine gP.o.mono ?_;rintro y w3 ⟨mb,vl,vx,wb,hs,nx,rfl,gi,gC,k6,o3,m3,V3,I,-⟩;have kc:hs.length<=5:=by have:=Yf List.length gC;simp at this;omega
   obtain⟨al,cl,gB⟩:∃a c,vl=.slice a hs.length c:=by
    obtain⟨a,c,e,_⟩:=I.l.own.slice;exact⟨a,c,by rw[e];simp[Ar]⟩
   subst gB;have hU:Hq (∀p∈hs,p∈two++hs):=Hd λp J=>Zf _ J
   have h6:(two++hs).length=2+hs.length:=by simp[two];omega
   have k4:Hq (∀k,k<=192->k*2^n<=AQ n):=Hd λk hk=>GP hk
   have hQ:Hq (wb.cell? (Av w.heap.size)=some (Iv (n:Nat))):=Hd (Cq gi e0);have c0:=(I.below0.cell (p:=Av w.heap.size) (Ad (Cq gi e0))).trans (Cq gi e0);have gA:Hq (Bw w wb):=Hd (g8.o.trans (gi.mono g8.o.size));have kh:Hq (∀p∈two++hs,p.1<nx):=Hd λp J=>(I.sat.range p J).2
   have HL:=Hd ((I.withOd (Od':=λ_=>True) trivial).withSt (Wt':=SufW q.plan) (by rw[I.st.1];exact ZU _));clear I gi gC gP e0 e1 e2 e3;have hH:=Hd (K7 HL.o hU.o (by omega) (by omega) pk hpk);go_wp2_with fail;refine hH.o.mono ?_;rintro y wA ⟨a1,H,r1,rfl,gE,h7,h9⟩;have gR:=Hd (HL.o.below h9)
   have H0:Hq (StF As n (AQ n) wb mb (two++hs) nx q.plan [(r1,H)] wA):=Hd (StF.of gR.o.st gR.o.sat (by
    intro p J;rw[XB.1 J];exact h7))
   have hM:Hq (DepF n H):=Hd (H0.o.dep gE);have hZ:Hq ((two++hs).length=2+hs.length):=Hd h6
   have gW:Hq (Cl 18 #[Pt mb,Iv a1] wA λx w'=>∃v e,x=.returned (.tuple #[v,Iv e])/\∃o' m' V',SatE As n (λ_=>True) (AQ n) wb mb (two++hs) nx w' o' m' V'/\TabA n w' r1 H/\AnyR n H m'.d.vars e v w' o'):=Hd (by
    obtain⟨o,m,V,q1,q2,q3⟩:=H0.o;refine(satpAny_any q2 gE q1).mono ?_;rintro x w' ⟨v,e,rfl,o',m',V',K,_,gg,hr⟩;exact⟨v,e,rfl,o',m',V',gg,((q3 _ (XB.2 rfl)).chg K).tab,hr⟩)
   clear h7 h9 hH HL c0 gE gR H0 h6;go_wp2_with fail;refine gW.o.mono ?_;rintro y wB ⟨v,e,rfl,o',m',V',gg,hT,hR⟩;have HS:=Hd gg;obtain⟨ta,tc,rfl,gZ⟩:=hT;have hq:Hq (TabA n wB (.slice ta (2^n) tc) H):=Hd ⟨ta,tc,rfl,gZ⟩;have cB:=(gg.chg.below0.cell (p:=Av w.heap.size) (Ad hQ.o)).trans hQ.o;have hP:=Hd (JH false n (by omega) wB);have gT:Hq (∀b:Bool,DepF n λ_=>b):=Hd λb _ _ _=>rfl
   obtain⟨L,kg⟩:=Ex (2^n);have gy:=Hd hR;clear gW gg gZ hR;go_wp2_with fail;refine hP.o.mono ?_;rintro y wC ⟨gc,rfl,h5,S⟩;have hE:=Hd (HS.o.below S);have gM:=Hd (hq.o.below S);have hL:Hq (TabA n wC (.slice (some (Av gc)) (2^n) (2^n)) λ_=>false):=Hd (TabA.is (h5.boolsIs (by rw[BU];exact FJ (by omega))));have gV:=Hd S;have cC:=Cq S cB;obtain⟨bz,gG⟩:∃b:Bool,b=true↔H=λ_=>false:=bool_iff _
   have gz:=Hd gG;have g3:=Hd (same_tab20 gM.o hL.o hM.o (gT.o false) gG);clear h5 S hP cB gG HS hq hL;go_wp2_with fail;refine g3.o.mono ?_;rintro y wD ⟨rfl,T⟩;have g0:=Hd (hE.o.below T);have gL:=Hd (gM.o.below T);have gU:=Hd (gV.o.trans (T.mono gV.o.size));have cD:=Cq T cC;have D:=Hd g0.o.chg.below0;clear T g3 hE gM gV cC;cases bz with
   | true=>
     have M:=gz.o.1 (by first|rfl|trivial);rcases gy.o with ⟨_,rfl,rfl⟩|⟨hV,_⟩
     . clear gy gz M g0 gL gU;have g4:=Hd (CV wD);go_wp2_with fail;refine g4.o.mono ?_;rintro y w11 ⟨rfl,g6⟩;have gS:=Hd (gA.o.trans ((D.o.trans (g6.mono D.o.size)).mono gA.o.size));clear g6 g4;go_wp2_with fail;go_ret;exact⟨rfl,gS.o⟩
     . exact(hV M).elim
   | false=>
     have M:¬ (H=λ_=>false):=λe=>by have:=gz.o.2 e;cases this
     rcases gy.o with ⟨hy,_⟩|⟨_,rfl,a,c,ls,rfl,gF,hW,k9,gD,gf⟩
     . exact(M hy).elim
     obtain⟨os,gh⟩:=Ex m'.d.vars;rw[<-gh]at gD
     have hJ:=Hd (gF.same λ_ x hx=>gU.o.block x.block (by
      obtain⟨b,off,e1,d0,_⟩:=gF.cells 0 (Z3.2 ‹ls≠[]›);rw[hx]at e1;injection e1 with e1
      rw[e1];exact Ad d0))
     have hG:=Hd gD;have gN:=Hd gf;have h0:os.length=n:=by rw[gh];exact g0.o.vars
     have h3:∀v∈os,v<n:=λv F=>by
      rw[gh]at F;obtain⟨i,hi,e⟩:=Yn F;have:=g0.o.ok.store.vlt i hi;rw[g0.o.vars]at this;have h2:m'.d.vars.getD i 0=v:=by simp[List.getD,hi,e]
      rw[<-h2];exact this.1
     have hI:=Hd h3;have gq:=Hd (LG g0.o.is g0.o.lt (by rw[g0.o.vars];omega));rw[<-gh]at gq;clear gy gz M gF hW gD gf gh h3;go_wp2_with fail;refine gq.o.mono ?_;rintro y E ⟨v,rfl,F,gk⟩;obtain⟨oa,oc,rfl,gY,_⟩:=F.sliceIs (by simp;omega);rw[XT,h0];have hD:=Hd (g0.o.below gk);have ho:=Hd (gL.o.below gk);have gQ:=Hd (hJ.o.keep (λ_ x v hx o K=>(Cq gk K)));have hh:=Hd gY;have cE:=Cq gk cD;have ka:=gQ.o.len;clear F gY gk gq g0 gL hJ cD gU D;have gK:Hq (∀W G X Y,Bw E W->AM W X (tabB n G)->Cl 22 #[.slice X (2^n) Y,.slice oa n oc] W (Bl (Iv (topR n G os)) W)):=Hd λW G X Y hb hg=>by
      have:=refTop_tab n G os (by omega) hI.o (by omega) X oa Y oc W hg (hh.o.below hb)
      rwa [h0]at this
     have k0:Hq (∀i,DepF n (stA H (ls.take i))):=Hd λi=>stA_dep hM.o _
     have ht:Hq (TabA n E (.slice ta (2^n) tc) (stA H (ls.take 0))):=Hd ho.o;have hS:Hq (Bw E E):=Hd (X7 _ _);go_wp2_with fail
     go_loopw [10,15] (λs10 B wr=>∃(i:Nat) (X:Option Addr) (Y:Nat),i<=ls.length/\B=Iv (i:Nat)/\s10=.slice X (2^n) Y/\Hq (AM wr X (tabB n (stA H (ls.take i))))/\Hq (Bw E wr)) (λ_ B _=>ls.length-(intOf B).toNat)
     case atStart=>
      obtain⟨a9,c9,C,q9⟩:=ht.o;injection C with C _ e10
      subst C;subst e10
      exact⟨0,_,_,X0 _,rfl,rfl,Hd q9,hS⟩
     case round=>
      clear ht hS;obtain⟨i,X,Y,hi,rfl,rfl,HC,O⟩:=hrel
      by_cases gw:i<ls.length
      ·have kb:(i:Int)<(ls.length:Int):=by omega
       obtain⟨b,off,rfl,d0,d1⟩:=(gQ.o.keep (λ_ x v hx o K=>(Cq O.o K))).cells i gw;obtain⟨p1,p2,p3⟩:=hG.o.at_ i gw;have ge:=stA_succ H ls gw;obtain⟨r,gX⟩:∃r:Nat,ls[i].1=(r:Int):=⟨ls[i].1.toNat,by omega⟩;obtain⟨y,hy⟩:=Ex (ls[i].2);rw[<-hy]at d1 ge;rw[gX]at d0 p1 p3 ge;rw[YH]at ge;have gj:=An wr 1;have gJ:=Hd (gK.o wr.drew _ X Y (O.o.trans (gj.mono O.o.size)) (HC.o.below gj));rw[p1]at gJ;have gB:r<n:=by omega
       have hz:=Hd ge;have ki:=Hd gw;clear p1 p2 p3 ge hy gX;go_upto_region 15 with fail;refine AJ (λW:Wd=>W.cell? (Aw b (off+i*2))=some (Iv (r:Nat))/\W.cell? (Aw b (off+i*2+1))=some (.bool y)) false 17
        [(0,false),(1,false),(3,false),(4,false),(5,false),(6,false),(7,false),(2,true),(8,false),(9,false),(10,false),(11,false),(12,false),(13,false),(14,false),(15,false),(16,false)] (by kernel_rfl) (by kernel_rfl) ⟨d0,d1⟩ ?_
       simp only[planned,AI]
       iterate 7
        refine A0 rfl ?_;apply Exists.intro;refine⟨λw' U=>?_,?_⟩
        . obtain⟨h1,h2⟩:=U;go_simp;rfl
        simp only[Ab]
       refine B7 (R:=λv w'=>v=Iv (r:Nat)/\Bw wr w') rfl (by go_simp) (gJ.o.mono (λe w' he=>?_)) ?_
       . obtain⟨rfl,hb⟩:=he;have g7:=gj.trans (hb.mono gj.size);exact⟨_,rfl,⟨(Cq g7 d0),(Cq g7 d1)⟩,rfl,g7⟩
       rintro v w1-⟨rfl,Q⟩;simp only[Ab]
       iterate 2
        refine A0 rfl ?_;apply Exists.intro;refine⟨λw' U=>?_,?_⟩
        . obtain⟨h1,h2⟩:=U;go_simp;rfl
        simp only[Ab]
       iterate 6
        refine Eh true (by go_simp) ?_;apply Exists.intro;refine⟨λkd w' U=>?_,?_⟩
        . obtain⟨h1,h2⟩:=U;go_simp;rfl
        simp only[Ab]
       iterate 1
        refine A0 rfl ?_;apply Exists.intro;refine⟨λw' U=>?_,?_⟩
        . obtain⟨h1,h2⟩:=U;go_simp;rfl
        simp only[Ab]
       refine B6 ?_;have e0:=Cq Q d0;have e1:=Cq Q d1;have g9:=Hd (O.o.trans (Q.mono O.o.size));have gd:=An w1 1;have hO:=Hd (Nq n (stA H (ls.take i)) r y (by omega) gB X Y w1.drew ((HC.o.below Q).below gd));clear d0 d1 gj gJ HC O Q;go_upto_region 17 with fail;refine AJ (λW:Wd=>W.cell? (Aw b (off+i*2))=some (Iv (r:Nat))/\W.cell? (Aw b (off+i*2+1))=some (.bool y)) false 13
        [(0,false),(1,false),(2,false),(3,false),(4,false),(5,false),(6,false),(7,false),(8,false),(9,false),(10,false),(11,true),(12,false)] (by kernel_rfl) (by kernel_rfl) ⟨e0,e1⟩ ?_
       simp only[planned,AI]
       iterate 11
        refine A0 rfl ?_;apply Exists.intro;refine⟨λw' U=>?_,?_⟩
        . obtain⟨h1,h2⟩:=U;go_simp;rfl
        simp only[Ab]
       refine B7 (R:=λv w'=>∃g,v=.slice (some (Av g)) (2^n) (2^n)/\Ay w' v (tabB n (cofF (stA H (ls.take i)) r y))/\Bw w1 w') rfl (by go_simp) (hO.o.mono (λe w' he=>?_)) ?_
       . obtain⟨g,rfl,hX,hb⟩:=he;have g7:=gd.trans (hb.mono gd.size);exact⟨_,rfl,⟨(Cq g7 e0),(Cq g7 e1)⟩,g,rfl,hX,g7⟩
       rintro v w2-⟨g2,rfl,gH,hd⟩;simp only[Ab]
       iterate 1
        refine A0 rfl ?_;apply Exists.intro;refine⟨λw' U=>?_,?_⟩
        . obtain⟨h1,h2⟩:=U;go_simp;rfl
        simp only[Ab]
       refine B6 ?_
       have k1:Hq (AM w2 (some (Av g2)) (tabB n (stA H (ls.take (i+1))))):=Hd (by
        rw[hz.o];obtain⟨a9,c9,C,q9,_⟩:=gH;injection C with C _ _
        subst C;exact q9)
       have k3:=Hd (g9.o.trans (hd.mono g9.o.size));clear e0 e1 gd hO gH hd g9 hz;go_wp2_with fail;go_roundw
       case rel=>exact⟨i+1,some (Av g2),2^n,by omega,by go_num,rfl,k1,k3⟩
       case measure=>simp[intOf];omega
      ·obtain rfl:i=ls.length:=by omega
       have k5:¬ (ls.length:Int)<(ls.length:Int):=by omega
       have gf:=gN.o
       have hj:Hq (TabA n wr (.slice X (2^n) Y) λ_=>true):=Hd (by
        have:=HC.o;rw[XP,gf]at this;exact⟨_,_,rfl,this⟩)
       have hA:=Hd (hD.o.below O.o);have cL:=Cq O.o cE;have hN:=Hd (JH true n (by omega) wr);clear gf HC gK k0 hG gN gQ hh ho hD cE O hI;go_wp2_with fail;refine hN.o.mono ?_;rintro x wF ⟨gt,rfl,h4,gI⟩;have hK:Hq (TabA n wF (.slice (some (Av gt)) (2^n) (2^n)) λ_=>true):=Hd (TabA.is (h4.boolsIs (by rw[BU];exact FJ (by omega))));have hm:=Hd (hj.o.below gI);have hC:=Hd (hA.o.below gI);have gO:=Hd (same_tab20 (b:=true) hm.o hK.o (gT.o true) (gT.o true) (by simp));clear h4 gI hN hj hA cL hK hm;go_wp2_with fail;refine gO.o.mono ?_;rintro x wG ⟨rfl,h8⟩;have hB:=Hd (hC.o.below h8)
       have hY:Hq (Cl 17 #[Pt mb,Iv (hs.length:Nat)] wG (Sm (.bool true) wG)):=Hd ((JA hB.o hs.length (by omega)).mono λe w' ⟨h1,h2⟩=>by
        rw[h1,XQ (by have:=hZ.o;omega)];exact⟨rfl,h2⟩)
       have D:=Hd hB.o.chg.below0;clear h8 gO hC;go_wp2_with fail;refine hY.o.mono ?_;rintro x w' ⟨rfl,rfl⟩;have g4:=Hd (CV wG);go_wp2_with fail;refine g4.o.mono ?_;rintro y w11 ⟨rfl,g6⟩;have gS:=Hd (gA.o.trans ((D.o.trans (g6.mono D.o.size)).mono gA.o.size));clear g6 g4;go_wp2_with fail;go_ret;exact⟨rfl,gS.o⟩
end Go.Proofs.YtnphndlbfeagbaaGreat
