/- The walk of a law: BestW. -/
import Derived.Test.YtkidaindpahefaaGreatC9
set_option linter.unusedSimpArgs false
set_option linter.unusedVariables false
set_option linter.unusedSectionVars false
set_option linter.unnecessarySimpa false
set_option maxRecDepth 100000
set_option maxHeartbeats 8000000
namespace Go.Proofs.YtkidaindpahefaaGreat
open Go.Proofs.Tryz
open Go.RowKit
theorem siftbest_walk (q:AskD)(ao ae ap:Option Addr)(co ce cp:Nat)  (w:Wd) (h:AskAt w q ao ae ap) :
 Cl 5 #[askV q ao ae ap co ce cp] w (Bl (.bool true) w):=by
 have g1:Hq (∀ W,Bw w W->∀ u,u=askV q ao ae ap co ce cp->Cl 14 #[u] W fun y w'=>∃ b,y=.returned (.bool b)/\(b=true->C6 q)/\Bw W w'):=Hd fun W hb u hu=>by subst hu;exact Fl q ao ae ap co ce cp W (h.below hb)
 have g8:Hq (∀ W n,Bw w W->C6 q->q.vars=(n:Nat)->∀ u,u=askV q ao ae ap co ce cp->Cl 17 #[u] W (SetP Bd q n W)):=Hd fun W n hb hs hn u hu=>by subst hu;exact F4 Bz q ao ae ap co ce cp W (h.below hb) hs n hn
 obtain⟨vars,g6⟩:∃ z,z=q.vars:=⟨_,rfl⟩;have HV:=Hd g6;obtain⟨plen,gd⟩:∃ z,z=q.plan.length:=⟨_,rfl⟩;unfold askV at g1 g8 ⊢;rw[<- g6,<- gd] at g1 g8 ⊢;obtain⟨olen,ge⟩:∃ z,z=q.order.length:=⟨_,rfl⟩;obtain⟨elen,gf⟩:∃ z,z=q.es.length:=⟨_,rfl⟩;rw[<- ge,<- gf] at g1 g8 ⊢;obtain⟨w1,gc⟩:=Ex (w.alloc (.cells #[Iv vars,.slice ao olen co,.slice ae elen ce,.slice ap plen cp] 26));have HW1:Hq (_=w1):=Hd gc.symm;have gl:Hq (Bw w w1):=by rw[gc];exact Hd (Af _ _)
 have g4:w1.heap[w.heap.size]?=some (.cells #[Iv vars,.slice ao olen co,.slice ae elen ce,.slice ap plen cp] 26 (0,0)):=by rw[gc];exact VT _ _
 have d0:w1.cell? (Av w.heap.size)=some (Iv vars):=by rw[VR _ _ 0 _ _ _ g4];rfl
 have d1:w1.cell? (Aw w.heap.size 1)=some (.slice ao olen co):=by rw[VR _ _ 1 _ _ _ g4];rfl
 have d2:w1.cell? (Aw w.heap.size 2)=some (.slice ae elen ce):=by rw[VR _ _ 2 _ _ _ g4];rfl
 have d3:w1.cell? (Aw w.heap.size 3)=some (.slice ap plen cp):=by rw[VR _ _ 3 _ _ _ g4];rfl
 clear h gc g4 g6 gd ge gf
 go_enter func5,ntmps5
 go_upto_region 1 with fail;rw[HW1.o];go_wp2_with fail;refine(g1.o _ gl.o _ rfl).mono ?_;rintro y w2 ⟨b,rfl,hb,g2⟩;have HB:=Hd hb;have g0:=Hd (gl.o.trans (g2.mono gl.o.size));have e0:=Cq g2 d0;have e1:=Cq g2 d1;have e2:=Cq g2 d2;have e3:=Cq g2 d3;have g5:=Hd (Cp (K:=Bd) Bz w2);clear hb g2 g1 d0 d1 d2 d3 HW1;cases b with
 | false =>
   go_wp2_with fail;refine g5.o.mono ?_;rintro y w3 ⟨rfl,g3⟩;have ga:=Hd (g0.o.trans (g3.mono g0.o.size));clear g3;go_wp2_with fail;go_ret;exact⟨rfl,ga.o⟩
 | true =>
   by_cases gR:vars>4
   . go_wp2_with fail;refine g5.o.mono ?_;rintro y w3 ⟨rfl,g3⟩;have ga:=Hd (g0.o.trans (g3.mono g0.o.size));clear g3;go_wp2_with fail;go_ret;exact⟨rfl,ga.o⟩
   by_cases gS:(plen:Int)>0
   . go_wp2_with fail;refine g5.o.mono ?_;rintro y w3 ⟨rfl,g3⟩;have ga:=Hd (g0.o.trans (g3.mono g0.o.size));clear g3;go_wp2_with fail;go_ret;exact⟨rfl,ga.o⟩
   have g9:=Hd (HB.o (by first|rfl|trivial));obtain⟨n,hn⟩:∃ n:Nat,vars=(n:Nat):=⟨vars.toNat,by have:=g9.o.lo;have:=HV.o;omega⟩;subst hn;have gL:n<=6:=by have:=g9.o.hi;have:=HV.o;omega
   have gN:1<=n:=by have:=g9.o.lo;have:=HV.o;omega
   have gT:q.es.length<=5:=g9.o.es;have gi:=Hd (g8.o w2 n g0.o g9.o rfl _ rfl);clear g8 g5 HB;go_wp2_with fail;refine gi.o.mono ?_;rintro y w3 ⟨mb,vl,vx,wb,hs,nx,rfl,g7,gh,hnx,o3,m3,V3,lt3,-⟩;have gO:hs.length<=5:=by have:=WA List.length gh;simp at this;omega
   obtain⟨al,cl,gK⟩:∃ a c,vl=.slice a hs.length c:=by
    obtain⟨a,c,e,_⟩:=lt3.l.own.slice;exact⟨a,c,by rw[e];simp[Ao]⟩
   subst gK;have gJ:Hq (∀ p∈hs,p∈two++hs):=Hd fun p hp=>Xs _ hp
   have gp:(two++hs).length=2+hs.length:=by simp[two];omega
   have gg:Hq (∀ k,k<=192->k*2^n<=Bc n):=Hd fun k hk=>EE hk
   have gD:Hq (wb.cell? (Av w.heap.size)=some (Iv (n:Nat))):=Hd (Cq g7 e0);have c0:=(lt3.below0.cell (p:=Av w.heap.size) (Ag (Cq g7 e0))).trans (Cq g7 e0);have gG:Hq (Bw w wb):=Hd (g0.o.trans (g7.mono g0.o.size));have gQ:Hq (∀ p∈two++hs,p.1<nx):=Hd fun p hp=>(lt3.sat.range p hp).2
   have HL:=Hd ((lt3.withOd (Od':=fun _=>True) trivial).withSt (Wt':=SufW q.plan) (by rw[lt3.st.1];exact XI _));clear lt3 g7 gh gi e0 e1 e2 e3;obtain⟨zs,hS⟩:=S23.start HL.o
   have HQ:Hq (Q23 n hs nx):=Hd ⟨gN,gL,gO,by omega,by
    have:=gg.o (3*(two++hs).length) (by rw[gp];omega);rw[Nat.mul_assoc] at this;exact this⟩
   have HS:=Hd hS;clear hS hnx gg gJ gQ gp HL;have gF:=Hd (HS.o.best AY HQ.o);have gM:n<=4:=by omega
   have gB:=Hd (And.intro (DP HS.o.r HS.o.len) HS.o.len);clear HS;go_wp2_with fail;refine gF.o.mono ?_;rintro y w4 ⟨sb,zb,gq,rfl,go,-,h4⟩;have gA:=Hd (h4.refBest HQ.o gM gB.o.1 gB.o.2 gq);have gz:=Hd h4;have HSZ:=Hd go;have c4:=(h4.below0.cell (p:=Av w.heap.size) (Ag gD.o)).trans gD.o;clear h4 gq go gF c0;go_wp2_with fail;refine gA.o.mono ?_;rintro y w5 ⟨v5,rfl,gI,gv⟩;obtain⟨a5,c5,e5,gn,-⟩:=gI;subst e5;have gw:=Hd gn;have gy:=Hd (gz.o.below AY gv);have gC:=Hd (gy.o.order AY);clear gn gv gA gz c4;go_wp2_with fail;refine gC.o.mono ?_;rintro y w6 ⟨v6,rfl,gH,h6,gu⟩;obtain⟨a6,c6,e6,gm,-⟩:=gH;subst e6;have g1:=Hd (EO a6 a5 c6 c5 zb zb w6 gm (gw.o.below gu));rw[WG rfl] at g1;have gx:=Hd (h6.withB (B':=fun _ _=>True) fun _ _ _=>trivial);clear gm h6 gu gC gy gw;go_wp2_with fail;refine g1.o.mono ?_;rintro y w7 ⟨rfl,qq,rfl⟩;have gj:=Hd (gx.o.below AY (Bj (VZ w6.heap.size w6) qq));have gk:=Hd (DQ AY HQ.o gj.o);rw[HSZ.o] at gk;clear gx g1;go_wp2_with fail;refine gk.o.mono ?_;rintro y w8 ⟨rfl,gt⟩;have gP:=Hd (gj.o.below AY gt);have gE:=Hd (gG.o.trans (gP.o.below0.mono gG.o.size));have g5:=Hd (Cp (K:=Bd) Bz w8);clear gt gj gk;go_wp2_with fail;refine g5.o.mono ?_;rintro y wZ ⟨rfl,gr⟩;have HZ:=Hd (gE.o.trans (gr.mono gE.o.size));clear gr g5;go_wp2_with fail;go_ret;exact⟨rfl,HZ.o⟩
end Go.Proofs.YtkidaindpahefaaGreat
