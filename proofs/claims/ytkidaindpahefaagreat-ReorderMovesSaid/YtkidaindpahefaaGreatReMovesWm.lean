/- The walk of a law: ReMovesW. -/
import Derived.Test.YtkidaindpahefaaGreatD9
set_option linter.unusedSimpArgs false
set_option linter.unusedVariables false
set_option linter.unusedSectionVars false
set_option linter.unnecessarySimpa false
set_option maxRecDepth 100000
set_option maxHeartbeats 8000000
namespace Go.Proofs.YtkidaindpahefaaGreat
open Go.Proofs.Tryz
open Go.RowKit
theorem Zn9 (q:AskD)(hqp:q.plan=[])(ao ae:Option Addr)(co ce:Nat)(pv:Value)(fm tm:Int)(w:World)(h:AskAt w q ao ae none) :
 Calls prog 12 #[.agg #[.int .i64 q.vars,.slice ao q.order.length co,.slice ae q.es.length ce,pv],.int .i64 fm,.int .i64 tm] w fun y w'=>y=.returned (.bool true)/\Below w.heap.size w w':=by
 obtain⟨ap,gC⟩:∃ a:Option Addr,a=none:=⟨_,rfl⟩;rw[<- gC] at h;obtain⟨cp,gP⟩:∃ c:Nat,c=0:=⟨_,rfl⟩;have gg:Hid (∀ W,Below w.heap.size w W->∀ u,u=askV q ao ae ap co ce cp->Calls prog 14 #[u] W fun y w'=>∃ b,y=.returned (.bool b)/\(b=true->Zhc q)/\Below W.heap.size W w'):=Hd fun W hb u hu=>by subst hu;exact Zlc q ao ae ap co ce cp W (h.below hb)
 have ge:Hid (∀ W n,Below w.heap.size w W->Zhc q->q.vars=(n:Nat)->∀ u,u=askV q ao ae ap co ce cp->Calls prog 17 #[u] W (SetP Zkr q n W)):=Hd fun W n hb hs hn u hu=>by subst hu;exact Zk9 Zb7 q ao ae ap co ce cp W (h.below hb) hs n hn
 obtain⟨vars,gi⟩:∃ z,z=q.vars:=⟨_,rfl⟩;have HV:=Hd gi;obtain⟨plen,gq⟩:∃ z,z=q.plan.length:=⟨_,rfl⟩;unfold askV at gg ge;rw[hqp] at gq;rw[hqp,gC,gP] at gg ge;rw[<- gi] at gg ge ⊢;obtain⟨olen,gr⟩:∃ z,z=q.order.length:=⟨_,rfl⟩;obtain⟨elen,gu⟩:∃ z,z=q.es.length:=⟨_,rfl⟩;rw[<- gr,<- gu] at gg ge ⊢;have hB:=Hd hqp;obtain⟨w1,gp⟩:∃ w1,w1=w.alloc (.cells #[.int .i64 vars,.slice ao olen co,.slice ae elen ce,pv] 26):=⟨_,rfl⟩;have HW1:Hid (_=w1):=Hd gp.symm;have gj:w1.heap[w.heap.size]?=some (.cells #[.int .i64 vars,.slice ao olen co,.slice ae elen ce,pv] 26 (0,0)):=by rw[gp];exact heap_alloc_new _ _
 obtain⟨g0,g1,g2,g3,gf⟩:=cells4 gj;obtain⟨w1s,gh⟩:∃ W,W=w1.setCell ⟨w.heap.size,3,none⟩ (.slice none 0 0):=⟨_,rfl⟩;have gD:Hid (_=w1s):=Hd gh.symm;have gH:Hid (Below w.heap.size w w1s):=by rw[gh,gp];exact Hd ((Zae _ _).setCell (Nat.le_refl _) _)
 have gc:w1s.heap[w.heap.size]?=some (.cells #[.int .i64 vars,.slice ao olen co,.slice ae elen ce,.slice none 0 0] 26 (0,0)):=by rw[gh];exact Zac gj _
 have d0:w1s.cell? ⟨w.heap.size,0,none⟩=some (.int .i64 vars):=by rw[cell_of_row _ _ 0 _ _ _ gc];rfl
 have d1:w1s.cell? ⟨w.heap.size,1,none⟩=some (.slice ao olen co):=by rw[cell_of_row _ _ 1 _ _ _ gc];rfl
 have d2:w1s.cell? ⟨w.heap.size,2,none⟩=some (.slice ae elen ce):=by rw[cell_of_row _ _ 2 _ _ _ gc];rfl
 have d3:w1s.cell? ⟨w.heap.size,3,none⟩=some (.slice none 0 0):=by rw[cell_of_row _ _ 3 _ _ _ gc];rfl
 clear h gp gc gi gq gr gu gh gj hqp gC gP
 go_enter func12,ntmps12
 go_upto_region 1 with fail;rw[HW1.out];go_upto_region 2 with fail;rw[gD.out];clear HW1 gD g0 g1 g2 g3 gf;go_wp2_with fail;refine(gg.out _ gH.out _ rfl).mono ?_;rintro y w2 ⟨b,rfl,hb,g9⟩;have HB:=Hd hb;have gd:=Hd (gH.out.trans (g9.mono gH.out.size));have e0:=(g9.cell (p:=⟨w.heap.size,0,none⟩) (Zab d0)).trans d0;have e1:=(g9.cell (p:=⟨w.heap.size,1,none⟩) (Zab d1)).trans d1;have e2:=(g9.cell (p:=⟨w.heap.size,2,none⟩) (Zab d2)).trans d2;have e3:=(g9.cell (p:=⟨w.heap.size,3,none⟩) (Zab d3)).trans d3;have h2:=Hd (Zfr (K:=Zkr) Zb7 w2);clear hb g9 gg d0 d1 d2 d3;cases b with
 | false =>
   go_wp2_with fail;refine h2.out.mono ?_;rintro y w3 ⟨rfl,gT⟩;have hv:=Hd (gd.out.trans (gT.mono gd.out.size));clear gT;go_wp2_with fail;go_ret;exact⟨rfl,hv.out⟩
 | true =>
   have gm:=Hd (HB.out (by first|rfl|trivial));obtain⟨n,hn⟩:∃ n:Nat,vars=(n:Nat):=⟨vars.toNat,by have:=gm.out.lo;have:=HV.out;omega⟩;subst hn;have hg:n<=6:=by have:=gm.out.hi;have:=HV.out;omega
   have hj:1<=n:=by have:=gm.out.lo;have:=HV.out;omega
   have hz:q.es.length<=5:=gm.out.es;have gF:=Hd (ge.out w2 n gd.out gm.out rfl _ rfl);clear ge h2 HB;go_wp2_with fail;refine gF.out.mono ?_;rintro y w3 ⟨mb,vl,vx,wb,hs,nx,rfl,gl,gy,hnx,o3,m3,V3,lt3,-⟩;have hm:hs.length<=5:=by have:=congrArg List.length gy;simp at this;omega
   obtain⟨al,cl,ha⟩:∃ a c,vl=.slice a hs.length c:=by
    obtain⟨a,c,e,_⟩:=lt3.l.own.slice;exact⟨a,c,by rw[e];simp[Za0]⟩
   subst ha;have h7:Hid (∀ p∈hs,p∈two++hs):=Hd fun p hp=>List.mem_append_right _ hp
   have gO:(two++hs).length=2+hs.length:=by simp[two];omega
   have gw:Hid (∀ k,k<=192->k*2^n<=Zck n):=Hd fun k hk=>Zfv hk
   have gx:Hid (wb.cell? ⟨w.heap.size,0,none⟩=some (.int .i64 (n:Nat))):=Hd ((gl.cell (p:=⟨w.heap.size,0,none⟩) (Zab e0)).trans e0);have c0:=(lt3.below0.cell (p:=⟨w.heap.size,0,none⟩) (Zab ((gl.cell (p:=⟨w.heap.size,0,none⟩) (Zab e0)).trans e0))).trans ((gl.cell (p:=⟨w.heap.size,0,none⟩) (Zab e0)).trans e0);have go:Hid (Below w.heap.size w wb):=Hd (gd.out.trans (gl.mono gd.out.size));have ht:Hid (∀ p∈two++hs,p.1<nx):=Hd fun p hp=>(lt3.sat.range p hp).2
   have HL:=Hd ((lt3.withOd (Od':=fun _=>True) trivial).withSt (Wt':=SufW q.plan) (by rw[lt3.st.1];exact List.suffix_refl _));clear lt3 gl gy gF e0 e1 e2 e3;obtain⟨zs,hS⟩:=S23.start HL.out
   have HQ:Hid (Q23 n hs nx):=Hd ⟨hj,hg,hm,by omega,by
    have:=gw.out (3*(two++hs).length) (by rw[gO];omega);rw[Nat.mul_assoc] at this;exact this⟩
   have HS:=Hd hS;have hA:=Hd (show w.heap.size<=wb.heap.size from go.out.size);clear hS hnx gw h7 ht gO HL;have gZ:=Hd (HS.out.order Zbi);clear HS c0;go_wp2_with fail;refine gZ.out.mono ?_;rintro y w4 ⟨v4,rfl,he,h4,hq⟩;obtain⟨a4,c4,e4,gK,-⟩:=he;rw[h4.len] at e4;subst e4;have h3:=Hd (show Zbo (fun W o=>True/\Zbn (.slice a4 n c4) zs W o) from Zbi.and Zbn.keep);have hr:=Hd h4.len;have gE:=Hd (Zn7 a4 c4 zs w4 gK (by have:=h4.len;omega));rw[h4.len] at gE;have gY:=Hd h4;clear h4 hq gK gZ;go_wp2_with fail;refine gE.out.mono ?_;rintro y w5 ⟨v5,rfl,gt,gS⟩;have gA:zs.reverse.length=n:=by rw[List.length_reverse];exact hr.out
   obtain⟨a5,c5,e5,h9,-⟩:=gt.sliceIs (by omega);have h5:=gY.out.mine h3.out gS (gt.sliceIs (by omega)) (fun k hk=>gt.lt k hk);rw[gA] at e5;subst e5;have g8:=Hd (show Zbo (fun W o=>(True/\Zbn (.slice a4 n c4) zs W o)/\Zbn (.slice a5 n c5) zs.reverse W o) from h3.out.and Zbn.keep);have gn:=Hd gA;have gU:=Hd (h5.turn g8.out HQ.out);clear gt gS h5 h9 gA gE gY;go_wp2_with fail;refine gU.out.mono ?_;rintro y w6 ⟨rfl,h6⟩;obtain⟨us,gL⟩:∃ q,q=zs.reverse:=⟨_,rfl⟩;rw[<- gL] at h6 gn g8;have hf:SliceIs w6 (.slice a5 n c5) us:=h6.know (Q:=fun W=>SliceIs W (.slice a5 n c5) us) fun W o hh=>hh.2.slice
   obtain⟨a6,c6',e6,gJ,-⟩:=hf;injection e6 with e1 e2 e3
   subst e1;have g6:=Hd (Zdv Zb7 g8.out HQ.out h6 (c:=c5) gJ);have gX:=Hd h6;clear h6 gJ e2 e3 gU gL;go_wp2_with fail;refine g6.out.mono ?_;rintro y w7 ⟨rfl,gR⟩;have ga:=Hd (gX.out.below g8.out gR);clear gR g6 gX
   by_cases gB:(0<=fm/\fm<(n:Int))/\0<=tm/\tm<(n:Int)
   ·obtain⟨f,rfl⟩:∃ q:Nat,fm=(q:Int):=⟨fm.toNat,by omega⟩;obtain⟨t,rfl⟩:∃ q:Nat,tm=(q:Int):=⟨tm.toNat,by omega⟩;have ho:f<n:=by omega
    have hd:t<n:=by omega
    have h0:=Hd (ga.out.move g8.out HQ.out ho hd);have hy:(f:Int)<(n:Int):=by omega
    have hw:(t:Int)<(n:Int):=by omega
    clear ga gB;go_wp2_with fail;refine h0.out.mono ?_;rintro y w8 ⟨rfl,h8⟩;have c8:=(h8.below0.cell (p:=⟨w.heap.size,0,none⟩) (Zab gx.out)).trans gx.out;have gz:SliceIs w8 (.slice a5 n c5) us:=h8.know (Q:=fun W=>SliceIs W (.slice a5 n c5) us) fun W o hh=>hh.2.slice
    obtain⟨a8,c8',e8,gk,-⟩:=gz;injection e8 with e1 e2 e3
    subst e1;have gG:=Hd (Zn6 (c:=c5) (f:=f) (t:=t) gk (by have:=gn.out;omega) (by have:=gn.out;omega) (by have:=gn.out;omega));rw[gn.out] at gG;have gV:=Hd h8;clear h8 gk e2 e3 h0;go_wp2_with fail;refine gG.out.mono ?_;rintro y w9 ⟨v9,rfl,gM,gQ⟩;have gv:=Hd (gV.out.below g8.out gQ);have gN:(Ze2 us (f:Int) (t:Int)).length=n:=gv.out.len;obtain⟨a9,c9,e9,gI,-⟩:=gM.sliceIs (by omega);rw[gN] at e9;subst e9;have g6:=Hd (Zdv Zb7 g8.out HQ.out gv.out (c:=c9) gI);have g7:=Hd (go.out.trans (gv.out.below0.mono go.out.size));clear gM gQ gI gN gG gV gv;go_wp2_with fail;refine g6.out.mono ?_;rintro y wY ⟨rfl,g5⟩;have HY:=Hd (g7.out.trans (g5.mono g7.out.size));clear g5 g6;go_wp2_with fail;go_ret;exact⟨rfl,HY.out⟩
   ·have h1:=Hd (ga.out.moveBad g8.out gB);have hc:fm<0\/(¬ fm<0/\fm>=(n:Int))\/(¬ fm<0/\¬ fm>=(n:Int)/\tm<0)\/(¬ fm<0/\¬ fm>=(n:Int)/\¬ tm<0/\tm>=(n:Int)):=by omega
    have c7:=(ga.out.below0.cell (p:=⟨w.heap.size,0,none⟩) (Zab gx.out)).trans gx.out;have gz:SliceIs w7 (.slice a5 n c5) us:=ga.out.know (Q:=fun W=>SliceIs W (.slice a5 n c5) us) fun W o hh=>hh.2.slice
    obtain⟨a8,c8',e8,gk,-⟩:=gz;injection e8 with e1 e2 e3
    subst e1;have g6:=Hd (Zdv Zb7 g8.out HQ.out ga.out (c:=c5) gk);have g7:=Hd (go.out.trans (ga.out.below0.mono go.out.size));clear gk e2 e3 ga gB;go_wp2_with fail;refine h1.out.mono ?_;rintro y w7' ⟨rfl,rfl⟩;clear h1;rcases hc with g1|⟨g1,g2⟩|⟨g1,g2,g3⟩|⟨g1,g2,g3,g4⟩
    . go_wp2_with fail;refine g6.out.mono ?_;rintro y wY ⟨rfl,g5⟩;have HY:=Hd (g7.out.trans (g5.mono g7.out.size));clear g5 g6;go_wp2_with fail;go_ret;exact⟨rfl,HY.out⟩
    . go_wp2_with fail;refine g6.out.mono ?_;rintro y wY ⟨rfl,g5⟩;have HY:=Hd (g7.out.trans (g5.mono g7.out.size));clear g5 g6;go_wp2_with fail;go_ret;exact⟨rfl,HY.out⟩
    . go_wp2_with fail;refine g6.out.mono ?_;rintro y wY ⟨rfl,g5⟩;have HY:=Hd (g7.out.trans (g5.mono g7.out.size));clear g5 g6;go_wp2_with fail;go_ret;exact⟨rfl,HY.out⟩
    . go_wp2_with fail;refine g6.out.mono ?_;rintro y wY ⟨rfl,g5⟩;have HY:=Hd (g7.out.trans (g5.mono g7.out.size));clear g5 g6;go_wp2_with fail;go_ret;exact⟨rfl,HY.out⟩
theorem removes_walk (q:AskD)(ao ae ap:Option Addr)(co ce cp:Nat)(fm tm:Int)(w:World)(h:AskAt w q ao ae ap) :
 Calls prog 12 #[askV q ao ae ap co ce cp,.int .i64 fm,.int .i64 tm] w fun y w'=>y=.returned (.bool true)/\Below w.heap.size w w' :=
 Zn9 { q with plan:=[] } rfl ao ae co ce _ fm tm w ⟨h.vars,h.order,h.es,⟨by simp,fun k hk=>by simp at hk⟩⟩
end Go.Proofs.YtkidaindpahefaaGreat
