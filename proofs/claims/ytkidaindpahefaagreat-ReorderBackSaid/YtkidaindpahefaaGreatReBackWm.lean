/- The walk of a law: ReBackW. -/
import Derived.Test.YtkidaindpahefaaGreatD9
set_option linter.unusedSimpArgs false
set_option linter.unusedVariables false
set_option linter.unusedSectionVars false
set_option linter.unnecessarySimpa false
set_option maxRecDepth 100000
set_option maxHeartbeats 8000000
namespace Go.Proofs.YtkidaindpahefaaGreat
open Go.Proofs.Tryz
open Go.RowKit
theorem Zqb (q:AskD)(hqp:q.plan=[])(ao ae:Option Addr)(co ce:Nat)(pv:Value)(oa:Option Addr)(oc:Nat)(ys:List Int)(lm wm:Int)(w:World)(h:AskAt w q ao ae none)(hys:SliceIs w (.slice oa ys.length oc) ys) :
 Calls prog 10 #[.agg #[.int .i64 q.vars,.slice ao q.order.length co,.slice ae q.es.length ce,pv],.slice oa ys.length oc,.int .i64 lm,.int .i64 wm] w fun y w'=>y=.returned (.bool true)/\Below w.heap.size w w':=by
 have gC:Hid (∀ W,Below w.heap.size w W->SliceIs W (.slice oa ys.length oc) ys):=Hd fun W hb=>hys.below hb
 have gT:Hid (0<ys.length->∀ x,oa=some x->x.block<w.heap.size):=Hd fun hp x hx=>by
  obtain⟨a',c',e,hz,_⟩:=hys;injection e with e1
  subst e1;obtain⟨b,off,e,hc⟩:=hz.cells 0 hp;rw[hx] at e;cases e;exact Zab hc
 obtain⟨yl,ga⟩:∃ q,q=ys.length:=⟨_,rfl⟩;rw[<- ga] at gC gT ⊢;have gS:=Hd ga;clear hys ga;obtain⟨ap,gA⟩:∃ a:Option Addr,a=none:=⟨_,rfl⟩;rw[<- gA] at h;obtain⟨cp,gP⟩:∃ c:Nat,c=0:=⟨_,rfl⟩;have gi:Hid (∀ W,Below w.heap.size w W->∀ u,u=askV q ao ae ap co ce cp->Calls prog 14 #[u] W fun y w'=>∃ b,y=.returned (.bool b)/\(b=true->Zhc q)/\Below W.heap.size W w'):=Hd fun W hb u hu=>by subst hu;exact Zlc q ao ae ap co ce cp W (h.below hb)
 have gh:Hid (∀ W n,Below w.heap.size w W->Zhc q->q.vars=(n:Nat)->∀ u,u=askV q ao ae ap co ce cp->Calls prog 17 #[u] W (SetP Zkr q n W)):=Hd fun W n hb hs hn u hu=>by subst hu;exact Zk9 Zb7 q ao ae ap co ce cp W (h.below hb) hs n hn
 obtain⟨vars,gk⟩:∃ z,z=q.vars:=⟨_,rfl⟩;have HV:=Hd gk;obtain⟨plen,gr⟩:∃ z,z=q.plan.length:=⟨_,rfl⟩;unfold askV at gi gh;rw[hqp] at gr;rw[hqp,gA,gP] at gi gh;rw[<- gk] at gi gh ⊢;obtain⟨olen,gt⟩:∃ z,z=q.order.length:=⟨_,rfl⟩;obtain⟨elen,gu⟩:∃ z,z=q.es.length:=⟨_,rfl⟩;rw[<- gt,<- gu] at gi gh ⊢;have hJ:=Hd hqp;obtain⟨w1,gc⟩:∃ w1,w1=w.alloc (.cells #[.int .i64 vars,.slice ao olen co,.slice ae elen ce,pv] 26):=⟨_,rfl⟩;have HW1:Hid (_=w1):=Hd gc.symm;have gl:w1.heap[w.heap.size]?=some (.cells #[.int .i64 vars,.slice ao olen co,.slice ae elen ce,pv] 26 (0,0)):=by rw[gc];exact heap_alloc_new _ _
 obtain⟨g0,g1,g2,g3,gf⟩:=cells4 gl;obtain⟨w1s,gj⟩:∃ W,W=w1.setCell ⟨w.heap.size,3,none⟩ (.slice none 0 0):=⟨_,rfl⟩;have gD:Hid (_=w1s):=Hd gj.symm;have gG:Hid (Below w.heap.size w w1s):=by rw[gj,gc];exact Hd ((Zae _ _).setCell (Nat.le_refl _) _)
 have gd:w1s.heap[w.heap.size]?=some (.cells #[.int .i64 vars,.slice ao olen co,.slice ae elen ce,.slice none 0 0] 26 (0,0)):=by rw[gj];exact Zac gl _
 have d0:w1s.cell? ⟨w.heap.size,0,none⟩=some (.int .i64 vars):=by rw[cell_of_row _ _ 0 _ _ _ gd];rfl
 have d1:w1s.cell? ⟨w.heap.size,1,none⟩=some (.slice ao olen co):=by rw[cell_of_row _ _ 1 _ _ _ gd];rfl
 have d2:w1s.cell? ⟨w.heap.size,2,none⟩=some (.slice ae elen ce):=by rw[cell_of_row _ _ 2 _ _ _ gd];rfl
 have d3:w1s.cell? ⟨w.heap.size,3,none⟩=some (.slice none 0 0):=by rw[cell_of_row _ _ 3 _ _ _ gd];rfl
 clear h gc gd gk gr gt gu gj gl hqp gA gP
 go_enter func10,ntmps10
 go_upto_region 1 with fail;rw[HW1.out];go_upto_region 2 with fail;rw[gD.out];clear HW1 gD g0 g1 g2 g3 gf;go_wp2_with fail;refine(gi.out _ gG.out _ rfl).mono ?_;rintro y w2 ⟨b,rfl,hb,g9⟩;have HB:=Hd hb;have g4:=Hd (gG.out.trans (g9.mono gG.out.size));have e0:=(g9.cell (p:=⟨w.heap.size,0,none⟩) (Zab d0)).trans d0;have e1:=(g9.cell (p:=⟨w.heap.size,1,none⟩) (Zab d1)).trans d1;have e2:=(g9.cell (p:=⟨w.heap.size,2,none⟩) (Zab d2)).trans d2;have e3:=(g9.cell (p:=⟨w.heap.size,3,none⟩) (Zab d3)).trans d3;have ge:=Hd (Zfr (K:=Zkr) Zb7 w2);clear hb g9 gi d0 d1 d2 d3;cases b with
 | false =>
   go_wp2_with fail;refine ge.out.mono ?_;rintro y w3 ⟨rfl,g7⟩;have g8:=Hd (g4.out.trans (g7.mono g4.out.size));clear g7;go_wp2_with fail;go_ret;exact⟨rfl,g8.out⟩
 | true =>
   have gn:=Hd (HB.out (by first|rfl|trivial));obtain⟨n,hn⟩:∃ n:Nat,vars=(n:Nat):=⟨vars.toNat,by have:=gn.out.lo;have:=HV.out;omega⟩;subst hn;have hr:n<=6:=by have:=gn.out.hi;have:=HV.out;omega
   have ht:1<=n:=by have:=gn.out.lo;have:=HV.out;omega
   have hI:q.es.length<=5:=gn.out.es;have hj:=gC.out w2 g4.out;obtain⟨a5,c5,e5,gI,-⟩:=hj;injection e5 with q1 q2 q3
   subst q1;have gF:=Hd (Zm0 (c:=oc) (n:=n) gI (by omega));rw[<- gS.out] at gF;clear gI q2 q3;go_wp2_with fail;refine gF.out.mono ?_;rintro y w2' ⟨rb,rfl,gM,rfl⟩;have hE:=Hd gM;clear gM gF;cases rb with
   | false =>
     go_wp2_with fail;refine ge.out.mono ?_;rintro y w3 ⟨rfl,g7⟩;have g8:=Hd (g4.out.trans (g7.mono g4.out.size));clear g7;go_wp2_with fail;go_ret;exact⟨rfl,g8.out⟩
   | true =>
     have g5:wm<=4->1<=wm->IntKind.i64.wrap ((n:Int)-wm)=(n:Int)-wm:=fun k1 k2=>IntWalk.i64_in _ (by omega)
     by_cases k1:wm<1
     . clear g5;go_wp2_with fail;refine ge.out.mono ?_;rintro y w3 ⟨rfl,g7⟩;have g8:=Hd (g4.out.trans (g7.mono g4.out.size));clear g7;go_wp2_with fail;go_ret;exact⟨rfl,g8.out⟩
     by_cases k2:wm>4
     . clear g5;go_wp2_with fail;refine ge.out.mono ?_;rintro y w3 ⟨rfl,g7⟩;have g8:=Hd (g4.out.trans (g7.mono g4.out.size));clear g7;go_wp2_with fail;go_ret;exact⟨rfl,g8.out⟩
     by_cases k3:lm<0
     . clear g5;go_wp2_with fail;refine ge.out.mono ?_;rintro y w3 ⟨rfl,g7⟩;have g8:=Hd (g4.out.trans (g7.mono g4.out.size));clear g7;go_wp2_with fail;go_ret;exact⟨rfl,g8.out⟩
     have g6:=g5 (by omega) (by omega);clear g5
     by_cases k4:lm>(n:Int)-wm
     . go_wp2_with fail;refine ge.out.mono ?_;rintro y w3 ⟨rfl,g7⟩;have g8:=Hd (g4.out.trans (g7.mono g4.out.size));clear g7;go_wp2_with fail;go_ret;exact⟨rfl,g8.out⟩
     have gE:=Hd (gh.out w2 n g4.out gn.out rfl _ rfl);clear gh ge HB;go_wp2_with fail;refine gE.out.mono ?_;rintro y w3 ⟨mb,vl,vx,wb,hs,nx,rfl,gm,gz,hnx,o3,m3,V3,lt3,-⟩;have hv:hs.length<=5:=by have:=congrArg List.length gz;simp at this;omega
     obtain⟨al,cl,hg⟩:∃ a c,vl=.slice a hs.length c:=by
      obtain⟨a,c,e,_⟩:=lt3.l.own.slice;exact⟨a,c,by rw[e];simp[Za0]⟩
     subst hg;have h7:Hid (∀ p∈hs,p∈two++hs):=Hd fun p hp=>List.mem_append_right _ hp
     have gO:(two++hs).length=2+hs.length:=by simp[two];omega
     have gw:Hid (∀ k,k<=192->k*2^n<=Zck n):=Hd fun k hk=>Zfv hk
     have hK:Hid (wb.cell? ⟨w.heap.size,0,none⟩=some (.int .i64 (n:Nat))):=Hd ((gm.cell (p:=⟨w.heap.size,0,none⟩) (Zab e0)).trans e0);have c0:=(lt3.below0.cell (p:=⟨w.heap.size,0,none⟩) (Zab ((gm.cell (p:=⟨w.heap.size,0,none⟩) (Zab e0)).trans e0))).trans ((gm.cell (p:=⟨w.heap.size,0,none⟩) (Zab e0)).trans e0);have gq:Hid (Below w.heap.size w wb):=Hd (g4.out.trans (gm.mono g4.out.size));have hD:Hid (∀ p∈two++hs,p.1<nx):=Hd fun p hp=>(lt3.sat.range p hp).2
     have HL:=Hd ((lt3.withOd (Od':=fun _=>True) trivial).withSt (Wt':=SufW q.plan) (by rw[lt3.st.1];exact List.suffix_refl _));clear lt3 gm gz gE e0 e1 e2 e3;obtain⟨zs,hS⟩:=S23.start HL.out
     have HQ:Hid (Q23 n hs nx):=Hd ⟨ht,hr,hv,by omega,by
      have:=gw.out (3*(two++hs).length) (by rw[gO];omega);rw[Nat.mul_assoc] at this;exact this⟩
     have HS:=Hd hS;have hC:=Hd (show w.heap.size<=wb.heap.size from gq.out.size);clear hS hnx gw h7 hD gO HL;obtain⟨wd,rfl⟩:∃ q:Nat,wm=(q:Int):=⟨wm.toNat,by omega⟩;obtain⟨lv,rfl⟩:∃ q:Nat,lm=(q:Int):=⟨lm.toNat,by omega⟩;have gc:1<=wd:=by omega
     have gL:wd<=4:=by omega
     have gN:lv+wd<=n:=by omega
     obtain⟨hf,gJ⟩:=hE.out.1 (by first|rfl|trivial);subst hf;clear k1 k2 k3 k4 g6;have hA:=Hd gJ;clear gJ;have go:=Hd (HS.out.order Zbi);clear HS c0;go_wp2_with fail;refine go.out.mono ?_;rintro y w4 ⟨v4,rfl,hm,h4,hy⟩;obtain⟨a4,c4,e4,he,-⟩:=hm;rw[h4.len] at e4;subst e4;have hF:=Hd (show Zbo (fun W o=>True/\Zbn (.slice a4 yl c4) zs W o) from Zbi.and Zbn.keep);have ha:Hid (Below w.heap.size w w4):=Hd (gq.out.trans (h4.below0.mono gq.out.size));have ga:ys.length=yl:=gS.out.symm;have h5:=h4.came (a:=oa) (c:=oc) (ts:=ys) (by rw[ga];exact gC.out w4 ha.out) (fun x hx=>Nat.lt_of_lt_of_le (gT.out (by omega) x hx) hC.out);rw[ga] at h5;have gg:=Hd (show Zbo (fun W o=>(True/\Zbn (.slice a4 yl c4) zs W o)/\Zbn (.slice oa yl oc) ys W o) from hF.out.and Zbn.keep);have gX:=Hd (h5.to gg.out HQ.out (fun W o hh=>hh.2.slice) hA.out ga);have gB:=Hd (And.intro h4.r h4.len);clear h4 h5 hy he go ga;go_wp2_with fail;refine gX.out.mono ?_;rintro y w5 ⟨rfl,h5⟩;have gY:=Hd (h5.to gg.out HQ.out (v:=.slice a4 yl c4) (ts:=zs) (fun W o hh=>hh.1.2.slice) gB.out.1 gB.out.2);clear h5 gX;go_wp2_with fail;refine gY.out.mono ?_;rintro y w6 ⟨rfl,h6⟩;have hq:SliceIs w6 (.slice a4 yl c4) zs:=h6.know (Q:=fun W=>SliceIs W (.slice a4 yl c4) zs) fun W o hh=>hh.1.2.slice
     obtain⟨a6,c6',e6,gH,-⟩:=hq;injection e6 with e1 e2 e3
     subst e1;have gp:=Hd (Zdv Zb7 gg.out HQ.out h6 (c:=c4) gH);have h0:=Hd h6;clear h6 gH e2 e3 gY;go_wp2_with fail;refine gp.out.mono ?_;rintro y w7 ⟨rfl,gR⟩;have gZ:=Hd (h0.out.below gg.out gR);have gU:=Hd (gZ.out.window gg.out HQ.out (d:=hs.length) gc gL gN (Nat.le_refl _));clear gR gp h0 gZ;go_wp2_with fail;refine gU.out.mono ?_;rintro y w8 ⟨k,ts,gK,hH,rfl,h8⟩;have hB:=Hd gK;have go:=Hd (h8.order gg.out);clear h8 gK gU;go_wp2_with fail;refine go.out.mono ?_;rintro y w9 ⟨v9,rfl,ho,h9,hw⟩;obtain⟨a9,c9,e9,hd,-⟩:=ho;rw[h9.len] at e9;subst e9;have h1:=Hd (gg.out.and (Zbn.keep (v:=.slice a9 yl c9) (zs:=ts)));have gV:=Hd (h9.window h1.out HQ.out (d:=hs.length) gc gL gN (Nat.le_refl _));clear h9 hd hw go;go_wp2_with fail;refine gV.out.mono ?_;rintro y w10 ⟨k',ts',gy,hG,rfl,gv⟩;obtain⟨rfl,rfl⟩:=hB.out.again (by have:=gB.out.2;omega) gy;have h3:SliceIs w10 (.slice a9 yl c9) ts':=gv.know (Q:=fun W=>SliceIs W (.slice a9 yl c9) ts') fun W o hh=>hh.2.slice
     obtain⟨a11,c11,e11,gx,-⟩:=h3;injection e11 with e1 e2 e3
     subst e1;have gp:=Hd (Zdv Zb7 h1.out HQ.out gv (c:=c9) gx);have h2:=Hd (gq.out.trans (gv.below0.mono gq.out.size));clear gv gy gx e2 e3 gV;go_wp2_with fail;refine gp.out.mono ?_;rintro y wY ⟨rfl,gQ⟩;have HY:=Hd (h2.out.trans (gQ.mono h2.out.size));clear gQ gp;go_wp2_with fail;go_ret;exact⟨rfl,HY.out⟩
theorem reback_walk (q:AskD)(ao ae ap:Option Addr)(co ce cp:Nat)(oa:Option Addr)(oc:Nat)(ys:List Int)(lm wm:Int)(w:World)(h:AskAt w q ao ae ap)(hys:SliceIs w (.slice oa ys.length oc) ys) :
 Calls prog 10 #[askV q ao ae ap co ce cp,.slice oa ys.length oc,.int .i64 lm,.int .i64 wm] w fun y w'=>y=.returned (.bool true)/\Below w.heap.size w w' :=
 Zqb { q with plan:=[] } rfl ao ae co ce _ oa oc ys lm wm w ⟨h.vars,h.order,h.es,⟨by simp,fun k hk=>by simp at hk⟩⟩ hys
end Go.Proofs.YtkidaindpahefaaGreat
