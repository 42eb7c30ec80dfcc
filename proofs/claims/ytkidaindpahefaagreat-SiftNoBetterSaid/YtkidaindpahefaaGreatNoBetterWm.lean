/- The walk of a law: NoBetterW. -/
import Derived.Test.YtkidaindpahefaaGreatC9
set_option linter.unusedSimpArgs false
set_option linter.unusedVariables false
set_option linter.unusedSectionVars false
set_option linter.unnecessarySimpa false
set_option maxRecDepth 100000
set_option maxHeartbeats 8000000
namespace Go.Proofs.YtkidaindpahefaaGreat
open Go.Proofs.Tryz
open Go.RowKit
theorem siftnob_walk (q:AskD)(ao ae ap:Option Addr)(co ce cp:Nat)(grow:Int)(w:Wd)(h:AskAt w q ao ae ap) :
 Cl 7 #[askV q ao ae ap co ce cp,Iv grow] w (Bl (.bool true) w):=by
 have g9:Hq (∀ W,Bw w W->∀ u,u=askV q ao ae ap co ce cp->Cl 14 #[u] W fun y w'=>∃ b,y=.returned (.bool b)/\(b=true->C6 q)/\Bw W w'):=Hd fun W hb u hu=>by subst hu;exact Fl q ao ae ap co ce cp W (h.below hb)
 have g7:Hq (∀ W n,Bw w W->C6 q->q.vars=(n:Nat)->∀ u,u=askV q ao ae ap co ce cp->Cl 17 #[u] W (SetP Bd q n W)):=Hd fun W n hb hs hn u hu=>by subst hu;exact F4 Bz q ao ae ap co ce cp W (h.below hb) hs n hn
 obtain⟨vars,g5⟩:∃ z,z=q.vars:=⟨_,rfl⟩;have HV:=Hd g5;obtain⟨plen,ge⟩:∃ z,z=q.plan.length:=⟨_,rfl⟩;unfold askV at g9 g7 ⊢;rw[<- g5,<- ge] at g9 g7 ⊢;obtain⟨olen,gf⟩:∃ z,z=q.order.length:=⟨_,rfl⟩;obtain⟨elen,gg⟩:∃ z,z=q.es.length:=⟨_,rfl⟩;rw[<- gf,<- gg] at g9 g7 ⊢;obtain⟨w1,gd⟩:=Ex (w.alloc (.cells #[Iv vars,.slice ao olen co,.slice ae elen ce,.slice ap plen cp] 26));have HW1:Hq (_=w1):=Hd gd.symm;have gr:Hq (Bw w w1):=by rw[gd];exact Hd (Af _ _)
 have g3:w1.heap[w.heap.size]?=some (.cells #[Iv vars,.slice ao olen co,.slice ae elen ce,.slice ap plen cp] 26 (0,0)):=by rw[gd];exact VT _ _
 have d0:w1.cell? (Av w.heap.size)=some (Iv vars):=by rw[VR _ _ 0 _ _ _ g3];rfl
 have d1:w1.cell? (Aw w.heap.size 1)=some (.slice ao olen co):=by rw[VR _ _ 1 _ _ _ g3];rfl
 have d2:w1.cell? (Aw w.heap.size 2)=some (.slice ae elen ce):=by rw[VR _ _ 2 _ _ _ g3];rfl
 have d3:w1.cell? (Aw w.heap.size 3)=some (.slice ap plen cp):=by rw[VR _ _ 3 _ _ _ g3];rfl
 clear h gd g3 g5 ge gf gg
 go_enter func7,ntmps7
 go_upto_region 1 with fail;rw[HW1.o];go_wp2_with fail;refine(g9.o _ gr.o _ rfl).mono ?_;rintro y w2 ⟨b,rfl,hb,g1⟩;have HB:=Hd hb;have g0:=Hd (gr.o.trans (g1.mono gr.o.size));have e0:=Cq g1 d0;have e1:=Cq g1 d1;have e2:=Cq g1 d2;have e3:=Cq g1 d3;have g4:=Hd (Cp (K:=Bd) Bz w2);clear hb g1 g9 d0 d1 d2 d3 HW1;cases b with
 | false =>
   go_wp2_with fail;refine g4.o.mono ?_;rintro y w3 ⟨rfl,g2⟩;have ga:=Hd (g0.o.trans (g2.mono g0.o.size));clear g2;go_wp2_with fail;go_ret;exact⟨rfl,ga.o⟩
 | true =>
   by_cases gO:vars>4
   . go_wp2_with fail;refine g4.o.mono ?_;rintro y w3 ⟨rfl,g2⟩;have ga:=Hd (g0.o.trans (g2.mono g0.o.size));clear g2;go_wp2_with fail;go_ret;exact⟨rfl,ga.o⟩
   by_cases gP:(plen:Int)>0
   . go_wp2_with fail;refine g4.o.mono ?_;rintro y w3 ⟨rfl,g2⟩;have ga:=Hd (g0.o.trans (g2.mono g0.o.size));clear g2;go_wp2_with fail;go_ret;exact⟨rfl,ga.o⟩
   have g8:=Hd (HB.o (by first|rfl|trivial));obtain⟨n,hn⟩:∃ n:Nat,vars=(n:Nat):=⟨vars.toNat,by have:=g8.o.lo;have:=HV.o;omega⟩;subst hn;have gH:n<=6:=by have:=g8.o.hi;have:=HV.o;omega
   have gI:1<=n:=by have:=g8.o.lo;have:=HV.o;omega
   have gQ:q.es.length<=5:=g8.o.es;have gp:=Hd (g7.o w2 n g0.o g8.o rfl _ rfl);clear g7 g4 HB;go_wp2_with fail;refine gp.o.mono ?_;rintro y w3 ⟨mb,vl,vx,wb,hs,nx,rfl,g6,gi,hnx,o3,m3,V3,lt3,-⟩;have gJ:hs.length<=5:=by have:=WA List.length gi;simp at this;omega
   obtain⟨al,cl,gG⟩:∃ a c,vl=.slice a hs.length c:=by
    obtain⟨a,c,e,_⟩:=lt3.l.own.slice;exact⟨a,c,by rw[e];simp[Ao]⟩
   subst gG;have gF:Hq (∀ p∈hs,p∈two++hs):=Hd fun p hp=>Xs _ hp
   have gu:(two++hs).length=2+hs.length:=by simp[two];omega
   have gh:Hq (∀ k,k<=192->k*2^n<=Bc n):=Hd fun k hk=>EE hk
   have gR:Hq (wb.cell? (Av w.heap.size)=some (Iv (n:Nat))):=Hd (Cq g6 e0);have c0:=(lt3.below0.cell (p:=Av w.heap.size) (Ag (Cq g6 e0))).trans (Cq g6 e0);have gE:Hq (Bw w wb):=Hd (g0.o.trans (g6.mono g0.o.size));have gL:Hq (∀ p∈two++hs,p.1<nx):=Hd fun p hp=>(lt3.sat.range p hp).2
   have HL:=Hd ((lt3.withOd (Od':=fun _=>True) trivial).withSt (Wt':=SufW q.plan) (by rw[lt3.st.1];exact XI _));clear lt3 g6 gi gp e0 e1 e2 e3;obtain⟨zs,hS⟩:=S23.start HL.o
   have HQ:Hq (Q23 n hs nx):=Hd ⟨gI,gH,gJ,by omega,by
    have:=gh.o (3*(two++hs).length) (by rw[gu];omega);rw[Nat.mul_assoc] at this;exact this⟩
   have HS:=Hd hS;clear hS hnx gh gF gL gu HL;have go:=Hd (HS.o.sift AY HQ.o grow);clear HS;go_wp2_with fail;refine go.o.mono ?_;rintro y w4 ⟨zs4,rfl,gm,h4⟩;have gz:=Hd h4;clear h4 go;obtain⟨s4,gk⟩:∃ q,q=szO n (hs.map Prod.snd) zs4:=⟨_,rfl⟩;rw[<- gk] at gm ⊢;have gB:=Hd gk;clear gk;clear gm c0;have gn:=Hd (gz.o.sift AY HQ.o grow);clear gz;go_wp2_with fail;refine gn.o.mono ?_;rintro y w5 ⟨zs5,rfl,gc,h5⟩;have gy:=Hd h5;clear h5 gn;obtain⟨s5,gj⟩:∃ q,q=szO n (hs.map Prod.snd) zs5:=⟨_,rfl⟩;rw[<- gj] at gc ⊢;have gA:=Hd gj;clear gj;rw[<- gB.o] at gc;have gD:=Hd (gy.o.best AY HQ.o);clear gy;go_wp2_with fail;refine gD.o.mono ?_;rintro y w6 ⟨sb,zb,-,rfl,gt,gl,h6⟩;rw[<- gA.o] at gl;have gq:=Hd (DQ AY HQ.o h6);rw[gt] at gq;have gx:=Hd h6;have gN:(s5:Int)<=(s4:Int):=by omega
   have gM:(sb:Int)<=(s5:Int):=by omega
   clear h6 gt gc gl gD gB gA;go_wp2_with fail;refine gq.o.mono ?_;rintro y w8 ⟨rfl,gw⟩;have gK:=Hd (gx.o.below AY gw);have gC:=Hd (gE.o.trans (gK.o.below0.mono gE.o.size));have g4:=Hd (Cp (K:=Bd) Bz w8);clear gw gx gq;go_wp2_with fail;refine g4.o.mono ?_;rintro y wZ ⟨rfl,gv⟩;have HZ:=Hd (gC.o.trans (gv.mono gC.o.size));clear gv g4;go_wp2_with fail;go_ret;exact⟨rfl,HZ.o⟩
end Go.Proofs.YtkidaindpahefaaGreat
