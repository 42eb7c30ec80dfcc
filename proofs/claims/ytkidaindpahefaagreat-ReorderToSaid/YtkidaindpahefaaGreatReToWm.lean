/- The walk of a law: ReToW. -/
import Derived.Test.YtkidaindpahefaaGreatD9
set_option linter.unusedSimpArgs false
set_option linter.unusedVariables false
set_option linter.unusedSectionVars false
set_option linter.unnecessarySimpa false
set_option maxRecDepth 100000
set_option maxHeartbeats 8000000
namespace Go.Proofs.YtkidaindpahefaaGreat
open Go.Proofs.Tryz
open Go.RowKit
theorem Zux (q:AskD)(hqp:q.plan=[])(ao ae:Option Addr)(co ce:Nat)(pv:Value)(oa:Option Addr)(oc:Nat)(ys:List Int)(w:World)(h:AskAt w q ao ae none)(hys:SliceIs w (.slice oa ys.length oc) ys) :
 Calls prog 11 #[.agg #[.int .i64 q.vars,.slice ao q.order.length co,.slice ae q.es.length ce,pv],.slice oa ys.length oc] w fun y w'=>y=.returned (.bool true)/\Below w.heap.size w w':=by
 have gq:Hid (∀ W,Below w.heap.size w W->SliceIs W (.slice oa ys.length oc) ys):=Hd fun W hb=>hys.below hb
 have gR:Hid (0<ys.length->∀ x,oa=some x->x.block<w.heap.size):=Hd fun hp x hx=>by
  obtain⟨a',c',e,hz,_⟩:=hys;injection e with e1
  subst e1;obtain⟨b,off,e,hc⟩:=hz.cells 0 hp;rw[hx] at e;cases e;exact Zab hc
 obtain⟨yl,g4⟩:∃ q,q=ys.length:=⟨_,rfl⟩;rw[<- g4] at gq gR ⊢;have gz:=Hd g4;clear hys g4;obtain⟨ap,gy⟩:∃ a:Option Addr,a=none:=⟨_,rfl⟩;rw[<- gy] at h;obtain⟨cp,gL⟩:∃ c:Nat,c=0:=⟨_,rfl⟩;have gc:Hid (∀ W,Below w.heap.size w W->∀ u,u=askV q ao ae ap co ce cp->Calls prog 14 #[u] W fun y w'=>∃ b,y=.returned (.bool b)/\(b=true->Zhc q)/\Below W.heap.size W w'):=Hd fun W hb u hu=>by subst hu;exact Zlc q ao ae ap co ce cp W (h.below hb)
 have ga:Hid (∀ W n,Below w.heap.size w W->Zhc q->q.vars=(n:Nat)->∀ u,u=askV q ao ae ap co ce cp->Calls prog 17 #[u] W (SetP Zkr q n W)):=Hd fun W n hb hs hn u hu=>by subst hu;exact Zk9 Zb7 q ao ae ap co ce cp W (h.below hb) hs n hn
 obtain⟨vars,gg⟩:∃ z,z=q.vars:=⟨_,rfl⟩;have HV:=Hd gg;obtain⟨plen,gm⟩:∃ z,z=q.plan.length:=⟨_,rfl⟩;unfold askV at gc ga;rw[hqp] at gm;rw[hqp,gy,gL] at gc ga;rw[<- gg] at gc ga ⊢;obtain⟨olen,gn⟩:∃ z,z=q.order.length:=⟨_,rfl⟩;obtain⟨elen,gp⟩:∃ z,z=q.es.length:=⟨_,rfl⟩;rw[<- gn,<- gp] at gc ga ⊢;have hq:=Hd hqp;obtain⟨w1,gl⟩:∃ w1,w1=w.alloc (.cells #[.int .i64 vars,.slice ao olen co,.slice ae elen ce,pv] 26):=⟨_,rfl⟩;have HW1:Hid (_=w1):=Hd gl.symm;have gh:w1.heap[w.heap.size]?=some (.cells #[.int .i64 vars,.slice ao olen co,.slice ae elen ce,pv] 26 (0,0)):=by rw[gl];exact heap_alloc_new _ _
 obtain⟨g0,g1,g2,g3,gf⟩:=cells4 gh;obtain⟨w1s,ge⟩:∃ W,W=w1.setCell ⟨w.heap.size,3,none⟩ (.slice none 0 0):=⟨_,rfl⟩;have gA:Hid (_=w1s):=Hd ge.symm;have gE:Hid (Below w.heap.size w w1s):=by rw[ge,gl];exact Hd ((Zae _ _).setCell (Nat.le_refl _) _)
 have g6:w1s.heap[w.heap.size]?=some (.cells #[.int .i64 vars,.slice ao olen co,.slice ae elen ce,.slice none 0 0] 26 (0,0)):=by rw[ge];exact Zac gh _
 have d0:w1s.cell? ⟨w.heap.size,0,none⟩=some (.int .i64 vars):=by rw[cell_of_row _ _ 0 _ _ _ g6];rfl
 have d1:w1s.cell? ⟨w.heap.size,1,none⟩=some (.slice ao olen co):=by rw[cell_of_row _ _ 1 _ _ _ g6];rfl
 have d2:w1s.cell? ⟨w.heap.size,2,none⟩=some (.slice ae elen ce):=by rw[cell_of_row _ _ 2 _ _ _ g6];rfl
 have d3:w1s.cell? ⟨w.heap.size,3,none⟩=some (.slice none 0 0):=by rw[cell_of_row _ _ 3 _ _ _ g6];rfl
 clear h gl g6 gg gm gn gp ge gh hqp gy gL
 go_enter func11,ntmps11
 go_upto_region 1 with fail;rw[HW1.out];go_upto_region 2 with fail;rw[gA.out];clear HW1 gA g0 g1 g2 g3 gf;go_wp2_with fail;refine(gc.out _ gE.out _ rfl).mono ?_;rintro y w2 ⟨b,rfl,hb,g5⟩;have HB:=Hd hb;have g7:=Hd (gE.out.trans (g5.mono gE.out.size));have e0:=(g5.cell (p:=⟨w.heap.size,0,none⟩) (Zab d0)).trans d0;have e1:=(g5.cell (p:=⟨w.heap.size,1,none⟩) (Zab d1)).trans d1;have e2:=(g5.cell (p:=⟨w.heap.size,2,none⟩) (Zab d2)).trans d2;have e3:=(g5.cell (p:=⟨w.heap.size,3,none⟩) (Zab d3)).trans d3;have gY:=Hd (Zfr (K:=Zkr) Zb7 w2);clear hb g5 gc d0 d1 d2 d3;cases b with
 | false =>
   go_wp2_with fail;refine gY.out.mono ?_;rintro y w3 ⟨rfl,gQ⟩;have hj:=Hd (g7.out.trans (gQ.mono g7.out.size));clear gQ;go_wp2_with fail;go_ret;exact⟨rfl,hj.out⟩
 | true =>
   have gj:=Hd (HB.out (by first|rfl|trivial));obtain⟨n,hn⟩:∃ n:Nat,vars=(n:Nat):=⟨vars.toNat,by have:=gj.out.lo;have:=HV.out;omega⟩;subst hn;have h9:n<=6:=by have:=gj.out.hi;have:=HV.out;omega
   have ha:1<=n:=by have:=gj.out.lo;have:=HV.out;omega
   have hm:q.es.length<=5:=gj.out.es;have gB:=Hd (ga.out w2 n g7.out gj.out rfl _ rfl);clear ga gY HB;go_wp2_with fail;refine gB.out.mono ?_;rintro y w3 ⟨mb,vl,vx,wb,hs,nx,rfl,gi,gx,hnx,o3,m3,V3,lt3,-⟩;have hd:hs.length<=5:=by have:=congrArg List.length gx;simp at this;omega
   obtain⟨al,cl,h2⟩:∃ a c,vl=.slice a hs.length c:=by
    obtain⟨a,c,e,_⟩:=lt3.l.own.slice;exact⟨a,c,by rw[e];simp[Za0]⟩
   subst h2;have h0:Hid (∀ p∈hs,p∈two++hs):=Hd fun p hp=>List.mem_append_right _ hp
   have gK:(two++hs).length=2+hs.length:=by simp[two];omega
   have gt:Hid (∀ k,k<=192->k*2^n<=Zck n):=Hd fun k hk=>Zfv hk
   have gv:Hid (wb.cell? ⟨w.heap.size,0,none⟩=some (.int .i64 (n:Nat))):=Hd ((gi.cell (p:=⟨w.heap.size,0,none⟩) (Zab e0)).trans e0);have c0:=(lt3.below0.cell (p:=⟨w.heap.size,0,none⟩) (Zab ((gi.cell (p:=⟨w.heap.size,0,none⟩) (Zab e0)).trans e0))).trans ((gi.cell (p:=⟨w.heap.size,0,none⟩) (Zab e0)).trans e0);have g8:Hid (Below w.heap.size w wb):=Hd (g7.out.trans (gi.mono g7.out.size));have hf:Hid (∀ p∈two++hs,p.1<nx):=Hd fun p hp=>(lt3.sat.range p hp).2
   have HL:=Hd ((lt3.withOd (Od':=fun _=>True) trivial).withSt (Wt':=SufW q.plan) (by rw[lt3.st.1];exact List.suffix_refl _));clear lt3 gi gx gB e0 e1 e2 e3;obtain⟨zs,hS⟩:=S23.start HL.out
   have HQ:Hid (Q23 n hs nx):=Hd ⟨ha,h9,hd,by omega,by
    have:=gt.out (3*(two++hs).length) (by rw[gK];omega);rw[Nat.mul_assoc] at this;exact this⟩
   have HS:=Hd hS;have he:=Hd (show w.heap.size<=wb.heap.size from g8.out.size);clear hS hnx gt h0 hf gK HL;have gC:=Hd (HS.out.order Zbi);clear HS c0;go_wp2_with fail;refine gC.out.mono ?_;rintro y w4 ⟨v4,rfl,h6,h4,gP⟩;obtain⟨a4,c4,e4,gH,-⟩:=h6;rw[h4.len] at e4;subst e4;have gu:=Hd (show Zbo (fun W o=>True/\Zbn (.slice a4 n c4) zs W o) from Zbi.and Zbn.keep);have gF:Hid (Below w.heap.size w w4):=Hd (g8.out.trans (h4.below0.mono g8.out.size))
   by_cases go:yl=n/\Zay ys=true
   ·obtain⟨h1,gI⟩:=go;subst h1;have g4:ys.length=yl:=gz.out.symm;have h5:=h4.came (a:=oa) (c:=oc) (ts:=ys) (by rw[g4];exact gq.out w4 gF.out) (fun x hx=>Nat.lt_of_lt_of_le (gR.out (by omega) x hx) he.out);rw[g4] at h5;have gZ:=Hd (show Zbo (fun W o=>(True/\Zbn (.slice a4 yl c4) zs W o)/\Zbn (.slice oa yl oc) ys W o) from gu.out.and Zbn.keep);have gT:=Hd (h5.to gZ.out HQ.out (fun W o hh=>hh.2.slice) gI g4);have ho:=Hd g4;clear h4 h5 gP gH gC g4 gI;go_wp2_with fail;refine gT.out.mono ?_;rintro y w5 ⟨rfl,h5⟩;have h8:SliceIs w5 (.slice oa yl oc) ys:=h5.know (Q:=fun W=>SliceIs W (.slice oa yl oc) ys) fun W o hh=>hh.2.slice
    obtain⟨a5,c5,e5,g9,-⟩:=h8;injection e5 with e1 e2 e3
    subst e1;have gd:=Hd (h5.right HQ.out (c:=oc) g9);have gk:=Hd (Zdv Zb7 gZ.out HQ.out h5 (c:=oc) g9);have gw:=Hd (g8.out.trans (h5.below0.mono g8.out.size));have c6:=(h5.below0.cell (p:=⟨w.heap.size,0,none⟩) (Zab gv.out)).trans gv.out;clear h5 g9 e2 e3 gT;go_wp2_with fail;refine gd.out.mono ?_;rintro y w5' ⟨rfl,rfl⟩;clear gd;go_wp2_with fail;refine gk.out.mono ?_;rintro y wY ⟨rfl,gM⟩;have HY:=Hd (gw.out.trans (gM.mono gw.out.size));clear gM gk;go_wp2_with fail;go_ret;exact⟨rfl,HY.out⟩
   ·have gV:=Hd (h4.toBad gu.out (gq.out w4 gF.out) (by rw[<- gz.out];exact go));have gX:=Hd h4;have hg:=Hd go;clear h4 gP gH gC go;go_wp2_with fail;refine gV.out.mono ?_;rintro y w5 ⟨rfl,gO⟩;have gr:=Hd (gX.out.below gu.out gO);have gD:=Hd (g8.out.trans (gr.out.below0.mono g8.out.size));have h3:=gq.out w5 gD.out;obtain⟨a5,c5,e5,g9,-⟩:=h3;injection e5 with e1 e2 e3
    subst e1;have gd:=Hd (Zm0 (c:=oc) (n:=n) g9 (by omega));rw[<- gz.out] at gd;have c6:=(gr.out.below0.cell (p:=⟨w.heap.size,0,none⟩) (Zab gv.out)).trans gv.out;clear gO g9 e2 e3 gV gX;go_wp2_with fail;refine gd.out.mono ?_;rintro y w5' ⟨rb,rfl,gJ,rfl⟩;obtain rfl:rb=false:=by
     cases rb with
     | false=>rfl
     | true=>exact(hg.out (gJ.1 rfl)).elim
    have h7:SliceIs w5 (.slice a4 n c4) zs:=gr.out.know (Q:=fun W=>SliceIs W (.slice a4 n c4) zs) fun W o hh=>hh.2.slice
    obtain⟨a6,c6',e6,gG,-⟩:=h7;injection e6 with e1 e2 e3
    subst e1;have gk:=Hd (Zdv Zb7 gu.out HQ.out gr.out (c:=c4) gG);clear gJ gG e2 e3 gd;go_wp2_with fail;refine gk.out.mono ?_;rintro y w6 ⟨rfl,gN⟩;have gw:=Hd (gD.out.trans (gN.mono gD.out.size));have gU:=Hd (Zy0 (.slice oa yl oc) w6);clear gN gk;go_wp2_with fail;refine gU.out.mono ?_;rintro y w6' ⟨rfl,rfl⟩;have gS:=Hd (Zsa w6);clear gU;go_wp2_with fail;refine gS.out.mono ?_;rintro y w6' ⟨rfl,rfl⟩;clear gS;go_wp2_with fail;go_ret;exact⟨rfl,gw.out⟩
theorem reto_walk (q:AskD)(ao ae ap:Option Addr)(co ce cp:Nat)(oa:Option Addr)(oc:Nat)(ys:List Int)(w:World)(h:AskAt w q ao ae ap)(hys:SliceIs w (.slice oa ys.length oc) ys) :
 Calls prog 11 #[askV q ao ae ap co ce cp,.slice oa ys.length oc] w fun y w'=>y=.returned (.bool true)/\Below w.heap.size w w' :=
 Zux { q with plan:=[] } rfl ao ae co ce _ oa oc ys w ⟨h.vars,h.order,h.es,⟨by simp,fun k hk=>by simp at hk⟩⟩ hys
end Go.Proofs.YtkidaindpahefaaGreat
