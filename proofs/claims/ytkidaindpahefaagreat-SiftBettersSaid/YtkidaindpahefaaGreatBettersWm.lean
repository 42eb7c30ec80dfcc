/- The walk of a law: BettersW. -/
import Derived.Test.YtkidaindpahefaaGreatC9
set_option linter.unusedSimpArgs false
set_option linter.unusedVariables false
set_option linter.unusedSectionVars false
set_option linter.unnecessarySimpa false
set_option maxRecDepth 100000
set_option maxHeartbeats 8000000
namespace Go.Proofs.YtkidaindpahefaaGreat
open Go.Proofs.Tryz
open Go.RowKit
theorem betters_walk (q:AskD)(ao ae ap:Option Addr)(co ce cp:Nat)(grow:Int)(w:Wd)(h:AskAt w q ao ae ap) :
 Cl 6 #[askV q ao ae ap co ce cp,Iv grow] w (Bl (.bool true) w):=by
 have g9:Hq (∀ W,Bw w W->∀ u,u=askV q ao ae ap co ce cp->Cl 14 #[u] W fun y w'=>∃ b,y=.returned (.bool b)/\(b=true->C6 q)/\Bw W w'):=Hd fun W hb u hu=>by subst hu;exact Fl q ao ae ap co ce cp W (h.below hb)
 have g7:Hq (∀ W n,Bw w W->C6 q->q.vars=(n:Nat)->∀ u,u=askV q ao ae ap co ce cp->Cl 17 #[u] W (SetP Bd q n W)):=Hd fun W n hb hs hn u hu=>by subst hu;exact F4 Bz q ao ae ap co ce cp W (h.below hb) hs n hn
 obtain⟨vars,g5⟩:∃ z,z=q.vars:=⟨_,rfl⟩;have HV:=Hd g5;obtain⟨plen,gc⟩:∃ z,z=q.plan.length:=⟨_,rfl⟩;unfold askV at g9 g7 ⊢;rw[<- g5,<- gc] at g9 g7 ⊢;obtain⟨olen,gd⟩:∃ z,z=q.order.length:=⟨_,rfl⟩;obtain⟨elen,ge⟩:∃ z,z=q.es.length:=⟨_,rfl⟩;rw[<- gd,<- ge] at g9 g7 ⊢;obtain⟨w1,ga⟩:=Ex (w.alloc (.cells #[Iv vars,.slice ao olen co,.slice ae elen ce,.slice ap plen cp] 26));have HW1:Hq (_=w1):=Hd ga.symm;have go:Hq (Bw w w1):=by rw[ga];exact Hd (Af _ _)
 have g1:w1.heap[w.heap.size]?=some (.cells #[Iv vars,.slice ao olen co,.slice ae elen ce,.slice ap plen cp] 26 (0,0)):=by rw[ga];exact VT _ _
 have d0:w1.cell? (Av w.heap.size)=some (Iv vars):=by rw[VR _ _ 0 _ _ _ g1];rfl
 have d1:w1.cell? (Aw w.heap.size 1)=some (.slice ao olen co):=by rw[VR _ _ 1 _ _ _ g1];rfl
 have d2:w1.cell? (Aw w.heap.size 2)=some (.slice ae elen ce):=by rw[VR _ _ 2 _ _ _ g1];rfl
 have d3:w1.cell? (Aw w.heap.size 3)=some (.slice ap plen cp):=by rw[VR _ _ 3 _ _ _ g1];rfl
 clear h ga g1 g5 gc gd ge
 go_enter func6,ntmps6
 go_upto_region 1 with fail;rw[HW1.o];go_wp2_with fail;refine(g9.o _ go.o _ rfl).mono ?_;rintro y w2 ⟨b,rfl,hb,g0⟩;have HB:=Hd hb;have g3:=Hd (go.o.trans (g0.mono go.o.size));have e0:=Cq g0 d0;have e1:=Cq g0 d1;have e2:=Cq g0 d2;have e3:=Cq g0 d3;have g2:=Hd (Cp (K:=Bd) Bz w2);clear hb g0 g9 d0 d1 d2 d3 HW1;cases b with
 | false =>
   go_wp2_with fail;refine g2.o.mono ?_;rintro y w3 ⟨rfl,gv⟩;have gJ:=Hd (g3.o.trans (gv.mono g3.o.size));clear gv;go_wp2_with fail;go_ret;exact⟨rfl,gJ.o⟩
 | true =>
   have g8:=Hd (HB.o (by first|rfl|trivial));obtain⟨n,hn⟩:∃ n:Nat,vars=(n:Nat):=⟨vars.toNat,by have:=g8.o.lo;have:=HV.o;omega⟩;subst hn;have gE:n<=6:=by have:=g8.o.hi;have:=HV.o;omega
   have gF:1<=n:=by have:=g8.o.lo;have:=HV.o;omega
   have gL:q.es.length<=5:=g8.o.es;have gk:=Hd (g7.o w2 n g3.o g8.o rfl _ rfl);clear g7 g2 HB;go_wp2_with fail;refine gk.o.mono ?_;rintro y w3 ⟨mb,vl,vx,wb,hs,nx,rfl,g4,gh,hnx,o3,m3,V3,lt3,-⟩;have gG:hs.length<=5:=by have:=WA List.length gh;simp at this;omega
   obtain⟨al,cl,gC⟩:∃ a c,vl=.slice a hs.length c:=by
    obtain⟨a,c,e,_⟩:=lt3.l.own.slice;exact⟨a,c,by rw[e];simp[Ao]⟩
   subst gC;have gB:Hq (∀ p∈hs,p∈two++hs):=Hd fun p hp=>Xs _ hp
   have gt:(two++hs).length=2+hs.length:=by simp[two];omega
   have gf:Hq (∀ k,k<=192->k*2^n<=Bc n):=Hd fun k hk=>EE hk
   have gM:Hq (wb.cell? (Av w.heap.size)=some (Iv (n:Nat))):=Hd (Cq g4 e0);have c0:=(lt3.below0.cell (p:=Av w.heap.size) (Ag (Cq g4 e0))).trans (Cq g4 e0);have gz:Hq (Bw w wb):=Hd (g3.o.trans (g4.mono g3.o.size));have gI:Hq (∀ p∈two++hs,p.1<nx):=Hd fun p hp=>(lt3.sat.range p hp).2
   have HL:=Hd ((lt3.withOd (Od':=fun _=>True) trivial).withSt (Wt':=SufW q.plan) (by rw[lt3.st.1];exact XI _));have gy:Hq (wb.cell? (Aw w.heap.size 3)=some (.slice ap plen cp)):=Hd (Cq g4 e3);clear lt3 g4 gh gk e0 e1 e2 e3;obtain⟨zs,hS⟩:=S23.start HL.o
   have HQ:Hq (Q23 n hs nx):=Hd ⟨gF,gE,gG,by omega,by
    have:=gf.o (3*(two++hs).length) (by rw[gt];omega);rw[Nat.mul_assoc] at this;exact this⟩
   have HS:=Hd hS;clear hS hnx gf gB gI gt HL;have gx:=Hd (HS.o.order AY);clear HS c0;go_wp2_with fail;refine gx.o.mono ?_;rintro y w4 ⟨v4,rfl,gD,h4,gH⟩;obtain⟨a4,c4,e4,gp,-⟩:=gD;rw[h4.len] at e4;subst e4;have HN:=Hd (h4.nodes (co:=c4) HQ.o h4.r h4.len gp);have H4:=Hd (h4.withB (B':=fun _ _=>True) fun _ _ _=>trivial);clear h4 gH gp gx;go_wp2_with fail;refine HN.o.mono ?_;rintro y w5 ⟨rfl,gu⟩;have gw:=Hd ((H4.o.below AY gu).sift AY HQ.o grow);clear gu HN H4;go_wp2_with fail;refine gw.o.mono ?_;rintro y w6 ⟨zs',rfl,gr,h6⟩;have gl:=Hd (DQ AY HQ.o h6);have gn:=Hd (gz.o.trans (h6.below0.mono gz.o.size));have gm:=Hd h6.below0;obtain⟨s0,gi⟩:∃ q,q=szO n (hs.map Prod.snd) zs:=⟨_,rfl⟩;obtain⟨s1,hs1⟩:∃ q,q=szO n (hs.map Prod.snd) zs':=⟨_,rfl⟩;rw[<- gi,<- hs1] at gr;rw[<- hs1] at gl;rw[<- gi,<- hs1];have gK:(s1:Int)<=(s0:Int):=by omega
   clear gr h6 gi hs1 gw;go_wp2_with fail;refine gl.o.mono ?_;rintro y w7 ⟨rfl,gj⟩;have c7:=((gm.o.trans (gj.mono gm.o.size)).cell (p:=Aw w.heap.size 3) (Ag gy.o)).trans gy.o;have gg:=Hd (gn.o.trans (gj.mono gn.o.size));have g2:=Hd (Cp (K:=Bd) Bz w7);clear gj gl gn gm
   by_cases gq:plen=0
   ·have gA:¬ ((plen:Int)>0):=by omega
    clear gq;go_wp2_with fail;refine g2.o.mono ?_;rintro y wZ ⟨rfl,g6⟩;have HZ:=Hd (gg.o.trans (g6.mono gg.o.size));clear g6 g2;go_wp2_with fail;go_ret;exact⟨rfl,HZ.o⟩
   ·have gA:(plen:Int)>0:=by omega
    clear gq;go_wp2_with fail;refine g2.o.mono ?_;rintro y wZ ⟨rfl,g6⟩;have HZ:=Hd (gg.o.trans (g6.mono gg.o.size));clear g6 g2;go_wp2_with fail;go_ret;exact⟨rfl,HZ.o⟩
end Go.Proofs.YtkidaindpahefaaGreat
