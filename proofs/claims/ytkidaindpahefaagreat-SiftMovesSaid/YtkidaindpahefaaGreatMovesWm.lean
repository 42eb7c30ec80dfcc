/- The walk of a law: MovesW. -/
import Derived.Test.YtkidaindpahefaaGreatC9
set_option linter.unusedSimpArgs false
set_option linter.unusedVariables false
set_option linter.unusedSectionVars false
set_option linter.unnecessarySimpa false
set_option maxRecDepth 100000
set_option maxHeartbeats 8000000
namespace Go.Proofs.YtkidaindpahefaaGreat
open Go.Proofs.Tryz
open Go.RowKit
theorem siftmoves_walk (q:AskD)(ao ae ap:Option Addr)(co ce cp:Nat)(v grow:Int)(w:Wd)(h:AskAt w q ao ae ap) :
 Cl 4 #[askV q ao ae ap co ce cp,Iv v,Iv grow] w (Bl (.bool true) w):=by
 have g0:Hq (∀ W,Bw w W->∀ u,u=askV q ao ae ap co ce cp->Cl 14 #[u] W fun y w'=>∃ b,y=.returned (.bool b)/\(b=true->C6 q)/\Bw W w'):=Hd fun W hb u hu=>by subst hu;exact Fl q ao ae ap co ce cp W (h.below hb)
 have gn:Hq (∀ W n,Bw w W->C6 q->q.vars=(n:Nat)->∀ u,u=askV q ao ae ap co ce cp->Cl 17 #[u] W (SetP Bd q n W)):=Hd fun W n hb hs hn u hu=>by subst hu;exact F4 Bz q ao ae ap co ce cp W (h.below hb) hs n hn
 obtain⟨vars,gl⟩:∃ z,z=q.vars:=⟨_,rfl⟩;have HV:=Hd gl;obtain⟨plen,gt⟩:∃ z,z=q.plan.length:=⟨_,rfl⟩;unfold askV at g0 gn ⊢;rw[<- gl,<- gt] at g0 gn ⊢;obtain⟨olen,gu⟩:∃ z,z=q.order.length:=⟨_,rfl⟩;obtain⟨elen,gv⟩:∃ z,z=q.es.length:=⟨_,rfl⟩;rw[<- gu,<- gv] at g0 gn ⊢;obtain⟨w1,gr⟩:=Ex (w.alloc (.cells #[Iv vars,.slice ao olen co,.slice ae elen ce,.slice ap plen cp] 26));have HW1:Hq (_=w1):=Hd gr.symm;have gG:Hq (Bw w w1):=by rw[gr];exact Hd (Af _ _)
 have gf:w1.heap[w.heap.size]?=some (.cells #[Iv vars,.slice ao olen co,.slice ae elen ce,.slice ap plen cp] 26 (0,0)):=by rw[gr];exact VT _ _
 have d0:w1.cell? (Av w.heap.size)=some (Iv vars):=by rw[VR _ _ 0 _ _ _ gf];rfl
 have d1:w1.cell? (Aw w.heap.size 1)=some (.slice ao olen co):=by rw[VR _ _ 1 _ _ _ gf];rfl
 have d2:w1.cell? (Aw w.heap.size 2)=some (.slice ae elen ce):=by rw[VR _ _ 2 _ _ _ gf];rfl
 have d3:w1.cell? (Aw w.heap.size 3)=some (.slice ap plen cp):=by rw[VR _ _ 3 _ _ _ gf];rfl
 clear h gr gf gl gt gu gv
 go_enter func4,ntmps4
 go_upto_region 1 with fail;rw[HW1.o];go_wp2_with fail;refine(g0.o _ gG.o _ rfl).mono ?_;rintro y w2 ⟨b,rfl,hb,g5⟩;have HB:=Hd hb;have gh:=Hd (gG.o.trans (g5.mono gG.o.size));have e0:=Cq g5 d0;have e1:=Cq g5 d1;have e2:=Cq g5 d2;have e3:=Cq g5 d3;have g1:=Hd (Cp (K:=Bd) Bz w2);clear hb g5 g0 d0 d1 d2 d3 HW1;cases b with
 | false =>
   go_wp2_with fail;refine g1.o.mono ?_;rintro y w3 ⟨rfl,gU⟩;have hq:=Hd (gh.o.trans (gU.mono gh.o.size));clear gU;go_wp2_with fail;go_ret;exact⟨rfl,hq.o⟩
 | true =>
   have go:=Hd (HB.o (by first|rfl|trivial));obtain⟨n,hn⟩:∃ n:Nat,vars=(n:Nat):=⟨vars.toNat,by have:=go.o.lo;have:=HV.o;omega⟩;subst hn;have hd:n<=6:=by have:=go.o.hi;have:=HV.o;omega
   have he:1<=n:=by have:=go.o.lo;have:=HV.o;omega
   have hw:q.es.length<=5:=go.o.es;have gC:=Hd (gn.o w2 n gh.o go.o rfl _ rfl);clear gn g1 HB;go_wp2_with fail;refine gC.o.mono ?_;rintro y w3 ⟨mb,vl,vx,wb,hs,nx,rfl,gi,gx,hnx,o3,m3,V3,lt3,-⟩;have hf:hs.length<=5:=by have:=WA List.length gx;simp at this;omega
   obtain⟨al,cl,ha⟩:∃ a c,vl=.slice a hs.length c:=by
    obtain⟨a,c,e,_⟩:=lt3.l.own.slice;exact⟨a,c,by rw[e];simp[Ao]⟩
   subst ha;have h7:Hq (∀ p∈hs,p∈two++hs):=Hd fun p hp=>Xs _ hp
   have ge:(two++hs).length=2+hs.length:=by simp[two];omega
   have gw:Hq (∀ k,k<=192->k*2^n<=Bc n):=Hd fun k hk=>EE hk
   have gk:Hq (wb.cell? (Av w.heap.size)=some (Iv (n:Nat))):=Hd (Cq gi e0);have c0:=(lt3.below0.cell (p:=Av w.heap.size) (Ag (Cq gi e0))).trans (Cq gi e0);have g9:Hq (Bw w wb):=Hd (gh.o.trans (gi.mono gh.o.size));have hm:Hq (∀ p∈two++hs,p.1<nx):=Hd fun p hp=>(lt3.sat.range p hp).2
   have HL:=Hd ((lt3.withOd (Od':=fun _=>True) trivial).withSt (Wt':=SufW q.plan) (by rw[lt3.st.1];exact XI _));have h0:Hq (wb.cell? (Aw w.heap.size 3)=some (.slice ap plen cp)):=Hd (Cq gi e3);clear lt3 gi gx gC e0 e1 e2 e3;obtain⟨zs,hS⟩:=S23.start HL.o
   have HQ:Hq (Q23 n hs nx):=Hd ⟨he,hd,hf,by omega,by
    have:=gw.o (3*(two++hs).length) (by rw[ge];omega);rw[Nat.mul_assoc] at this;exact this⟩
   have HS:=Hd hS;clear hS hnx gw h7 hm ge HL;have g3:=Hd (HS.o.order AY);clear HS;go_wp2_with fail;refine g3.o.mono ?_;rintro y w4 ⟨v4,rfl,gd,h4,hg⟩;obtain⟨a4,c4,e4,gH,-⟩:=gd;rw[h4.len] at e4;subst e4;have HN:=Hd (h4.nodes (co:=c4) HQ.o h4.r h4.len gH);have H4:=Hd h4;have hj:=Hd h4.len;clear h4 hg gH g3;go_wp2_with fail;refine HN.o.mono ?_;rintro y w5 ⟨rfl,gT⟩;have gF:As (fun W o=>True/\AA (.slice a4 n c4) zs W o):=AY.and AA.keep;have g8:=Hd gF;have gg:=Hd (H4.o.below gF gT);have c5:=(gg.o.below0.cell (p:=Av w.heap.size) (Ag gk.o)).trans gk.o;clear gT HN H4 gF c0
   by_cases hv:0<=v/\v<(n:Int)
   ·have gY:=Hd (gg.o.var g8.o HQ.o grow hv);have gK:¬ v<0:=by omega
    have hc:¬ v>=(n:Int):=by omega
    clear gg;go_wp2_with fail;refine gY.o.mono ?_;rintro y w6 ⟨zs',rfl,gO,gP,h6⟩;have gE:=Hd (DQ g8.o HQ.o h6);have HF:=Hd gP;have gj:=Hd h6;have c6:=(h6.below0.cell (p:=Av w.heap.size) (Ag gk.o)).trans gk.o;obtain⟨s0,gy⟩:∃ q,q=szO n (hs.map Prod.snd) zs:=⟨_,rfl⟩;obtain⟨s1,hs1⟩:∃ q,q=szO n (hs.map Prod.snd) zs':=⟨_,rfl⟩;rw[<- gy,<- hs1] at gO;rw[<- hs1] at gE;rw[<- gy,<- hs1];have hr:(s1:Int)<=(s0:Int):=by omega
    clear gO gP h6 gy hs1 gY;go_wp2_with fail;refine gE.o.mono ?_;rintro y w7 ⟨rfl,gS⟩;have gp:=Hd (gj.o.below g8.o gS);have c7:=(gp.o.below0.cell (p:=Aw w.heap.size 3) (Ag h0.o)).trans h0.o;have g3:=Hd (gp.o.order g8.o);clear gS gE gj c6
    by_cases gL:plen=0
    ·have h1:¬ ((plen:Int)>0):=by omega
     clear gL;go_wp2_with fail;refine g3.o.mono ?_;rintro y w8 ⟨v8,rfl,gd,h8,gm⟩;obtain⟨a8,c8,e8,g7,-⟩:=gd;subst e8;obtain⟨fl,ge⟩:∃ q,q=zs.filter fun x=>decide (x≠v):=⟨_,rfl⟩
     have gQ:(zs'.filter fun x=>decide (x≠v))=fl:=by rw[ge];exact HF.o
     have ht:fl.length<=6:=by rw[ge];exact VU (WV _ _) (by have:=hj.o;omega)
     have ho:=Hd ge;have gA:=Hd (NO (c:=c8) (v:=v) g7 (by have:=h8.len;omega));rw[gQ] at gA;clear gQ ge;have gZ:=Hd h8;clear h8 gm g7 g3 gp;go_wp2_with fail;refine gA.o.mono ?_;rintro y w9 ⟨u9,rfl,gN,gR⟩;have gD:=Hd (gZ.o.below (g8.o.and AA.keep) gR);have gc:SliceIs w9 (.slice a4 n c4) zs:=gD.o.know (Q:=fun W=>SliceIs W (.slice a4 n c4) zs) fun W o hh=>hh.1.2.slice
     obtain⟨a4',c4',e9,g6,-⟩:=gc;injection e9 with e1 e2 e3
     subst e1;have gq:=Hd (NO (c:=c4) (v:=v) g6 (by omega));rw[<- e2,<- ho.o] at gq;have h3:=gN.sliceIs (by omega);obtain⟨b9,d9,e9,gJ,h5⟩:=h3;have gX:=Hd gJ;subst e9;clear g6 gR gN e2 e3 gZ gA gJ h5;go_wp2_with fail;refine gq.o.mono ?_;rintro y wA ⟨uA,rfl,gM,gz⟩;have h2:=gM.sliceIs (by omega);obtain⟨bA,dA,eA,gI,-⟩:=h2;subst eA;have g0:=Hd (EO b9 bA d9 dA _ _ wA (gX.o.below gz) gI);rw[WG rfl] at g0;have ga:=Hd (g9.o.trans ((gD.o.below (g8.o.and AA.keep) gz).below0.mono g9.o.size));clear gM gz gI gq gX gD;go_wp2_with fail;refine g0.o.mono ?_;rintro y wB ⟨rfl,qq,rfl⟩;have g4:=Hd (Bj ga.o qq);have g1:=Hd (Cp (K:=Bd) Bz (wA.drewN qq));clear g0 ga;go_wp2_with fail;refine g1.o.mono ?_;rintro y wZ ⟨rfl,g2⟩;have HZ:=Hd (g4.o.trans (g2.mono g4.o.size));clear g2 g1;go_wp2_with fail;go_ret;exact⟨rfl,HZ.o⟩
    ·have h1:(plen:Int)>0:=by omega
     have g4:=Hd (g9.o.trans (gp.o.below0.mono g9.o.size));have g1:=Hd (Cp (K:=Bd) Bz w7);clear gL g3 gp;go_wp2_with fail;refine g1.o.mono ?_;rintro y wZ ⟨rfl,g2⟩;have HZ:=Hd (g4.o.trans (g2.mono g4.o.size));clear g2 g1;go_wp2_with fail;go_ret;exact⟨rfl,HZ.o⟩
   ·have gB:=Hd (VG (v:=v) (g:=grow) (c:=cl) (a:=al) (ks:=hs.map Prod.fst) (Fs:=hs.map Prod.snd) (zs:=zs) (S23.keepB g8.o) (by omega) (fun W o hh=>hh.1.arg HQ.o) (by simp) GM gg.o.st);rw[Wn] at gB;have gV:=Hd (And.intro gg.o.r gg.o.len);have h9:v<0\/v>=(n:Int):=by omega
    clear gg;go_wp2_with fail;refine gB.o.mono ?_;rintro y w6 ⟨rfl,h6⟩;have gj:Hq (S23 Bd n wb mb q.plan o3 w3 (.slice al hs.length cl) vx hs nx (fun W o=>True/\AA (.slice a4 n c4) zs W o) zs w6):=Hd ⟨h6,gV.o.1,gV.o.2⟩;have c6:=(h6.below0.cell (p:=Av w.heap.size) (Ag gk.o)).trans gk.o;have g3:=Hd (gj.o.order g8.o);clear h6 gB;rcases h9 with gK|gK
    ·clear hv;go_wp2_with fail;refine g3.o.mono ?_;rintro y w8 ⟨v8,rfl,gd,h8,gm⟩;obtain⟨a8,c8,e8,g7,-⟩:=gd;subst e8;have gc:SliceIs w8 (.slice a4 n c4) zs:=h8.know (Q:=fun W=>SliceIs W (.slice a4 n c4) zs) fun W o hh=>hh.1.2.slice
     obtain⟨a4',c4',e9,g6,-⟩:=gc;injection e9 with e1 e2 e3
     subst e1;have g0:=Hd (EO a8 a4 c8 c4 zs zs w8 g7 g6);rw[WG rfl,<- e2] at g0;have ga:=Hd (g9.o.trans (h8.below0.mono g9.o.size));rw[<- e2];clear g7 g6 h8 gm e2 e3 g3 gj c6 c5;go_wp2_with fail;refine g0.o.mono ?_;rintro y wB ⟨rfl,qq,rfl⟩;have g4:=Hd (Bj ga.o qq);have g1:=Hd (Cp (K:=Bd) Bz (w8.drewN qq));clear g0 ga;go_wp2_with fail;refine g1.o.mono ?_;rintro y wZ ⟨rfl,g2⟩;have HZ:=Hd (g4.o.trans (g2.mono g4.o.size));clear g2 g1;go_wp2_with fail;go_ret;exact⟨rfl,HZ.o⟩
    ·have hc:¬ v<0:=by omega
     clear hv;go_wp2_with fail;refine g3.o.mono ?_;rintro y w8 ⟨v8,rfl,gd,h8,gm⟩;obtain⟨a8,c8,e8,g7,-⟩:=gd;subst e8;have gc:SliceIs w8 (.slice a4 n c4) zs:=h8.know (Q:=fun W=>SliceIs W (.slice a4 n c4) zs) fun W o hh=>hh.1.2.slice
     obtain⟨a4',c4',e9,g6,-⟩:=gc;injection e9 with e1 e2 e3
     subst e1;have g0:=Hd (EO a8 a4 c8 c4 zs zs w8 g7 g6);rw[WG rfl,<- e2] at g0;have ga:=Hd (g9.o.trans (h8.below0.mono g9.o.size));rw[<- e2];clear g7 g6 h8 gm e2 e3 g3 gj c6 c5;go_wp2_with fail;refine g0.o.mono ?_;rintro y wB ⟨rfl,qq,rfl⟩;have g4:=Hd (Bj ga.o qq);have g1:=Hd (Cp (K:=Bd) Bz (w8.drewN qq));clear g0 ga;go_wp2_with fail;refine g1.o.mono ?_;rintro y wZ ⟨rfl,g2⟩;have HZ:=Hd (g4.o.trans (g2.mono g4.o.size));clear g2 g1;go_wp2_with fail;go_ret;exact⟨rfl,HZ.o⟩
end Go.Proofs.YtkidaindpahefaaGreat
