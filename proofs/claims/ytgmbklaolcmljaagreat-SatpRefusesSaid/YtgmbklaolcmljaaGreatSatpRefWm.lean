/- The walk of a law: SatpRefW. -/
import Derived.Test.YtgmbklaolcmljaaGreatS9
set_option linter.unusedSimpArgs false
set_option linter.unusedVariables false
set_option linter.unusedSectionVars false
set_option linter.unnecessarySimpa false
set_option maxRecDepth 100000
set_option maxHeartbeats 8000000
namespace Go.Proofs.YtgmbklaolcmljaaGreat
open Go.Proofs.Tryz
open Go.RowKit
theorem satprefuses_walk (q:AskD)(ao ae ap:Option Addr)(co ce cp:Nat)(kf:Int)(p kk:Int)(av:Option Addr)(lv cv:Nat)(zs:List Int)(la:Option Addr)(bs:List Bool)(lc:Nat)(w:Wd)(h:AskAt w q ao ae ap)(hz:SliceIs w (.slice av lv cv) zs)(hbl:bs.length<=9223372036854775807) :
 Calls prog 11 #[askV q ao ae ap co ce cp,.int .i64 kf,.agg #[.int .u8 p,.slice av lv cv,.int .u16 kk,.slice la bs.length lc]] w (Bl (.bool true) w):=by
 have gd:Hq (∀ W,Bw w W->∀ u,u=askV q ao ae ap co ce cp->Calls prog 12 #[u] W fun y w'=>∃ b,y=.returned (.bool b)/\(b=true->E9 q)/\Bw W w'):=Hd fun W hb u hu=>by subst hu;exact SX q ao ae ap co ce cp W (h.below hb)
 have gb:Hq (∀ W n,Bw w W->E9 q->q.vars=(n:Nat)->∀ u,u=askV q ao ae ap co ce cp->Calls prog 22 #[u] W (SetP Av q n W)):=Hd fun W n hb hs hn u hu=>by subst hu;exact TR Cn q ao ae ap co ce cp W (h.below hb) hs n hn
 obtain⟨vars,g9⟩:∃ z,z=q.vars:=⟨_,rfl⟩;have HV:=Hd g9;obtain⟨plen,gf⟩:∃ z,z=q.plan.length:=⟨_,rfl⟩;unfold askV at gd gb ⊢;rw[<- g9,<- gf] at gd gb ⊢;obtain⟨olen,gg⟩:∃ z,z=q.order.length:=⟨_,rfl⟩;obtain⟨elen,gh⟩:∃ z,z=q.es.length:=⟨_,rfl⟩;rw[<- gg,<- gh] at gd gb ⊢;obtain⟨w1,ga⟩:=Ex ((w.alloc (.cells #[.int .i64 vars,.slice ao olen co,.slice ae elen ce,.slice ap plen cp] 26)).alloc (.cells #[.int .u8 p,.slice av lv cv,.int .u16 kk,.slice la bs.length lc] 76));have HW1:Hq (_=w1):=Hd ga.symm;have gw:Hq (Bw w w1):=by rw[ga];exact Hd ((Af _ _).alloc (by simp) _)
 have g6:w1.heap[w.heap.size]?=some (.cells #[.int .i64 vars,.slice ao olen co,.slice ae elen ce,.slice ap plen cp] 26 (0,0)):=by rw[ga];exact(WT _ _ (by simp)).trans (WN _ _)
 have g7:w1.heap[w.heap.size+1]?=some (.cells #[.int .u8 p,.slice av lv cv,.int .u16 kk,.slice la bs.length lc] 76 (0,0)):=by
  have:=WN (w.alloc (.cells #[.int .i64 vars,.slice ao olen co,.slice ae elen ce,.slice ap plen cp] 26)) (.cells #[.int .u8 p,.slice av lv cv,.int .u16 kk,.slice la bs.length lc] 76);rw[WV] at this;rw[ga];exact this
 have x0:w1.cell? ⟨w.heap.size+1,0,none⟩=some (.int .u8 p):=by rw[WQ _ _ 0 _ _ _ g7];rfl
 have x1:w1.cell? ⟨w.heap.size+1,1,none⟩=some (.slice av lv cv):=by rw[WQ _ _ 1 _ _ _ g7];rfl
 have x2:w1.cell? ⟨w.heap.size+1,2,none⟩=some (.int .u16 kk):=by rw[WQ _ _ 2 _ _ _ g7];rfl
 have x3:w1.cell? ⟨w.heap.size+1,3,none⟩=some (.slice la bs.length lc):=by rw[WQ _ _ 3 _ _ _ g7];rfl
 have d0:w1.cell? ⟨w.heap.size,0,none⟩=some (.int .i64 vars):=by rw[WQ _ _ 0 _ _ _ g6];rfl
 have d1:w1.cell? ⟨w.heap.size,1,none⟩=some (.slice ao olen co):=by rw[WQ _ _ 1 _ _ _ g6];rfl
 have d2:w1.cell? ⟨w.heap.size,2,none⟩=some (.slice ae elen ce):=by rw[WQ _ _ 2 _ _ _ g6];rfl
 have d3:w1.cell? ⟨w.heap.size,3,none⟩=some (.slice ap plen cp):=by rw[WQ _ _ 3 _ _ _ g6];rfl
 clear h ga g6 g9 gf gg gh g7
 go_enter func11,ntmps11
 go_upto_region 1 with fail;rw[HW1.o];go_wp2_with fail;refine(gd.o _ gw.o _ rfl).mono ?_;rintro y w2 ⟨b,rfl,hb,g0⟩;have HB:=Hd hb;have g2:=Hd (gw.o.trans (g0.mono gw.o.size));have e0:=Cq g0 d0;have e1:=Cq g0 d1;have e2:=Cq g0 d2;have e3:=Cq g0 d3;have y0:=Cq g0 x0;have y1:=Cq g0 x1;have y2:=Cq g0 x2;have y3:=Cq g0 x3;have g4:=Hd (JX w2);clear hb g0 gd d0 d1 d2 d3 HW1 x0 x1 x2 x3;cases b with
 | false =>
   go_wp2_with fail;refine g4.o.mono ?_;rintro y w3 ⟨rfl,g3⟩;have g5:=Hd (g2.o.trans (g3.mono g2.o.size));clear g3;go_wp2_with fail;go_ret;exact⟨rfl,g5.o⟩
 | true =>
   by_cases gP:(lv:Int)>8
   . go_wp2_with fail;refine g4.o.mono ?_;rintro y w3 ⟨rfl,g3⟩;have g5:=Hd (g2.o.trans (g3.mono g2.o.size));clear g3;go_wp2_with fail;go_ret;exact⟨rfl,g5.o⟩
   by_cases gN:(bs.length:Int)>20
   . go_wp2_with fail;refine g4.o.mono ?_;rintro y w3 ⟨rfl,g3⟩;have g5:=Hd (g2.o.trans (g3.mono g2.o.size));clear g3;go_wp2_with fail;go_ret;exact⟨rfl,g5.o⟩
   have gc:=Hd (HB.o (by first|rfl|trivial));obtain⟨n,hn⟩:∃ n:Nat,vars=(n:Nat):=⟨vars.toNat,by have:=gc.o.lo;have:=HV.o;omega⟩;subst hn;have gR:n<=6:=by have:=gc.o.hi;have:=HV.o;omega
   have gS:1<=n:=by have:=gc.o.lo;have:=HV.o;omega
   have gU:q.es.length<=5:=gc.o.es;have gs:=Hd (gb.o w2 n g2.o gc.o rfl _ rfl);clear gb g4 HB;go_wp2_with fail;refine gs.o.mono ?_;rintro y w3 ⟨mb,vl,vx,wb,hs,nx,rfl,g1,gm,hnx,o3,m3,V3,lt3,-⟩;have gT:hs.length<=5:=by have:=X3 List.length gm;simp at this;omega
   obtain⟨al,cl,gL⟩:∃ a c,vl=.slice a hs.length c:=by
    obtain⟨a,c,e,_⟩:=lt3.l.own.slice;exact⟨a,c,by rw[e];simp[As]⟩
   subst gL;have gQ:Hq (∀ p∈hs,p∈two++hs):=Hd fun p hp=>YN _ hp
   have gy:(two++hs).length=2+hs.length:=by simp[two];omega
   have gO:Hq (∀ k,k<=192->k*2^n<=Bh n):=Hd fun k hk=>MI hk
   have gY:Hq (wb.cell? ⟨w.heap.size,0,none⟩=some (.int .i64 (n:Nat))):=Hd (Cq g1 e0);have c0:=(lt3.below0.cell (p:=⟨w.heap.size,0,none⟩) (Ag (Cq g1 e0))).trans (Cq g1 e0);have z0:=(lt3.below0.cell (p:=⟨w.heap.size+1,0,none⟩) (Ag (Cq g1 y0))).trans (Cq g1 y0);have z1:=(lt3.below0.cell (p:=⟨w.heap.size+1,1,none⟩) (Ag (Cq g1 y1))).trans (Cq g1 y1);have z2:=(lt3.below0.cell (p:=⟨w.heap.size+1,2,none⟩) (Ag (Cq g1 y2))).trans (Cq g1 y2);have z3:=(lt3.below0.cell (p:=⟨w.heap.size+1,3,none⟩) (Ag (Cq g1 y3))).trans (Cq g1 y3);have gk:Hq (Bw w wb):=Hd (g2.o.trans (g1.mono g2.o.size));have gV:Hq (∀ p∈two++hs,p.1<nx):=Hd fun p hp=>(lt3.sat.range p hp).2
   have HL:=Hd ((lt3.withOd (Od':=fun _=>True) trivial).withSt (Wt':=SufW q.plan) (by rw[lt3.st.1];exact List.suffix_refl _));clear lt3 g1 gm gs e0 e1 e2 e3 y0 y1 y2 y3;have H0:Hq (StF Av n (Bh n) wb mb (two++hs) nx q.plan [] w3):=Hd (StF.of HL.o.st HL.o.sat (by simp));have gX:Hq ((two++hs).length=2+hs.length):=Hd gy;have gD:=Hd (Wy w3 kf av lv cv);clear HL c0 gy;go_wp2_with fail;refine gD.o.mono ?_;rintro y w' ⟨rfl,rfl⟩;have gC:=Hd (WE w3 kf);clear gD;go_wp2_with fail;refine gC.o.mono ?_;rintro y wA ⟨rfl,gi⟩;have H1:=Hd (H0.o.below gi);have a1:=Cq gi z1;have a3:=Cq gi z3;clear gi H0 gC z0 z1 z2 z3;have gE:Hq (∀ W b k,StF Av n (Bh n) wb mb (two++hs) nx q.plan [] W->(b=true↔known (two++hs) k)->Calls prog 29 #[Pt mb,.int .i64 k] W (Sm (.bool b) W)):=Hd fun W b k g hb=>g.ask fun o m V hs=>Fy hs k hb
   obtain⟨bf,gn⟩:∃ b:Bool,b=true↔known (two++hs) kf:=TS _;have gG:=Hd gn;have gu:=Hd (gE.o wA bf kf H1.o gn);clear gn gE;cases bf with
   | true =>
     have ge:=Hd H1.o.below0;clear H1;go_wp2_with fail;refine gu.o.mono ?_;rintro y w' ⟨rfl,rfl⟩;have g4:=Hd (JX wA);go_wp2_with fail;refine g4.o.mono ?_;rintro y w11 ⟨rfl,g8⟩;have gt:=Hd (gk.o.trans ((ge.o.trans (g8.mono ge.o.size)).mono gk.o.size));clear g8 g4;go_wp2_with fail;go_ret;exact⟨rfl,gt.o⟩
   | false =>
     have gj:Hq (¬ known (two++hs) kf):=Hd fun h=>by have:=gG.o.2 h;cases this
     go_wp2_with fail;refine gu.o.mono ?_;rintro y w' ⟨rfl,rfl⟩;have gF:Hq (∀ W,Calls prog 21 #[.int .u64 0] W fun x w'=>(∃ v,x=.returned v/\NatV w' v 0)/\Bw W w'):=Hd fun W=>Nr (w:=W) (n:=0) (by omega)
     have gH:Hq (∀ W v,Bw wA W->NatV W v 0->Calls prog 48 #[Pt mb,.int .i64 kf,v,.slice av lv cv] W (Bl (.tuple #[.slice none 0 0,.int .i64 8]) W)):=Hd fun W v hb hv=>(H1.o.below hb).ask fun o m V hs=>Wz hs gj.o hv av lv cv
     clear gu gG;obtain⟨p1,gM⟩:=Ex (⟨w.heap.size+1,1,none⟩:Addr);go_upto_region 12 with fail;obtain⟨wD,gl⟩:∃ W,W=wA.drew:=⟨_,rfl⟩;have go:Bw wA wD:=by rw[gl];exact Ap wA 1
     have d1:=Cq go a1;have gv:=Hd go;have gr:=Hd gl;refine Dk [0,1,3,4,2,5,6,7,8,9,10] (fun W'=>W'.cell? ⟨w.heap.size+1,1,none⟩=some (.slice av lv cv)) (fun ch w'=>False) (fun c a w hd h=>h.elim) (by kernel_rfl) (by rw[<- gr.o];exact d1) ?_;rw[<- gr.o]
     iterate 4
      refine BM rfl rfl (by kernel_rfl) ?_;apply Exists.intro;refine⟨fun w' hw=>?_,?_⟩
      . have q1:w'.cell? ⟨w.heap.size+1,1,none⟩=some (.slice av lv cv):=hw;go_simp;rfl
      simp only[Ac]
     refine BG (R1:=fun u w'=>NatV w' u 0/\Bw wD w') rfl (by kernel_rfl) rfl rfl (by go_simp) ((gF.o wD).mono fun x w' h=>⟨h.1.choose,h.1.choose_spec.1,h.1.choose_spec.2,h.2⟩) (by rintro u w' ⟨_,hb⟩;exact(Cq hb d1)) ?_;rintro u w2-⟨gx,gq⟩;have d2:=Cq gq d1;have HB2:=Hd (gv.o.trans (gq.mono gv.o.size));have gK:=Hd (gH.o w2 u HB2.o gx);simp only[Ac];refine BG (R1:=fun v w'=>v=.tuple #[.slice none 0 0,.int .i64 8]/\Bw w2 w') rfl (by kernel_rfl) rfl rfl (by go_simp) (gK.o.mono fun x w' h=>⟨_,h.1,rfl,h.2⟩) (by rintro v w' ⟨_,hb⟩;exact(Cq hb d2)) ?_;rintro v w3-⟨rfl,g3⟩;have g5:=Hd (HB2.o.trans (g3.mono HB2.o.size));simp only[Ac]
     iterate 5
      refine BM rfl rfl (by kernel_rfl) ?_;apply Exists.intro;refine⟨fun w' hw=>?_,?_⟩
      . go_simp;rfl
      simp only[Ac]
     refine Dl (by kernel_rfl) ?_;have H3:=Hd (H1.o.below g5.o);have b1:=Cq g5.o a1;have b3:=Cq g5.o a3;have gB:Hq (Calls prog 35 #[Pt mb,.int .i64 kf,.slice la bs.length lc,.slice av lv cv] w3 (Bl (.tuple #[.slice none 0 0,.int .i64 8]) w3)):=Hd (H3.o.ask fun o m V hs=>W9 hs gj.o la bs.length lc av lv cv);clear gq g3 gx gK gF gH d1 d2 gl go gr HB2 g5 gv H1 a1 a3 gM;go_wp2_with fail;refine gB.o.mono ?_;rintro y w4 ⟨rfl,gp⟩;have H4:=Hd (H3.o.below gp);have e1:=Cq gp b1;have gJ:Hq (Calls prog 47 #[Pt mb,.int .i64 kf,.int .i64 1,.slice av lv cv] w4 (Bl (.tuple #[.slice none 0 0,.int .i64 8]) w4)):=Hd (H4.o.ask fun o m V hs=>WA hs gj.o 1 av lv cv);clear gp gB H3 b1 b3;go_wp2_with fail;refine gJ.o.mono ?_;rintro y w5 ⟨rfl,gA⟩;have H5:=Hd (H4.o.below gA)
     have gI:Hq (Calls prog 41 #[Pt mb,.int .i64 kf] w5 (Bl (.tuple #[.slice none 0 0,.int .i64 8]) wb)):=Hd (by
      obtain⟨o,m,V,q1,q2,_⟩:=H5.o;refine(WG q2 gj.o q1).mono ?_;rintro x w' ⟨rfl,o',m',V',_,_,hs'⟩;exact⟨rfl,hs'.chg.below0⟩)
     clear gA gJ H4 e1;go_wp2_with fail;refine gI.o.mono ?_;rintro y w6 ⟨rfl,gz⟩;have ge:=Hd gz;clear gz gI H5;have g4:=Hd (JX w6);go_wp2_with fail;refine g4.o.mono ?_;rintro y w11 ⟨rfl,g8⟩;have gt:=Hd (gk.o.trans ((ge.o.trans (g8.mono ge.o.size)).mono gk.o.size));clear g8 g4;go_wp2_with fail;go_ret;exact⟨rfl,gt.o⟩
end Go.Proofs.YtgmbklaolcmljaaGreat
