/- The walk of a law: ListsW. -/
import Derived.Test.YtkbegdkpboklpaaGreatN8
set_option linter.unusedSimpArgs false
set_option linter.unusedVariables false
set_option linter.unusedSectionVars false
set_option linter.unnecessarySimpa false
set_option maxRecDepth 100000
set_option maxHeartbeats 8000000
namespace Go.Proofs.YtkbegdkpboklpaaGreat
open Go.Proofs.Tryz
open Go.RowKit
theorem lists_walk (q:AskD)(ao ae ap:Option Addr)(co ce cp:Nat)(lv0:Value)(gs0:List (List Int))(oa:Option Addr)(zs0:List Int)(oc:Nat)(w:World)(h:AskAt w q ao ae ap)(hlc:SlsC w lv0 gs0)(hoi:Za4 w oa zs0)(hoc:zs0.length<=oc)(honil:oa=none->oc=0) :
 Calls prog 4 #[askV q ao ae ap co ce cp,lv0,.slice oa zs0.length oc] w fun y w'=>y=.returned (.bool true)/\Below w.heap.size w w':=by
 have hW:=Hd hlc;have hU:=Hd hoi;have hT:=Hd honil;obtain⟨al0,cl0,xs0,rfl,-,-,-,-,-⟩:=hlc;clear hoi honil;have g8:Hid (∀ W,Below w.heap.size w W->∀ u,u=askV q ao ae ap co ce cp->Calls prog 19 #[u] W fun y w'=>∃ b,y=.returned (.bool b)/\(b=true->Zhu q)/\Below W.heap.size W w'):=Hd fun W hb u hu=>by subst hu;exact Zqf q ao ae ap co ce cp W (h.below hb)
 have gp:Hid (∀ W n,Below w.heap.size w W->Zhu q->q.vars=(n:Nat)->∀ u,u=askV q ao ae ap co ce cp->Calls prog 20 #[u] W (SetP Zft q n W)):=Hd fun W n hb hs hn u hu=>by subst hu;exact Zqe Zpd q ao ae ap co ce cp W (h.below hb) hs n hn
 obtain⟨vars,gk⟩:∃ z,z=q.vars:=⟨_,rfl⟩;have HV:=Hd gk;obtain⟨plen,gz⟩:∃ z,z=q.plan.length:=⟨_,rfl⟩;unfold askV at g8 gp ⊢;rw[<- gk,<- gz] at g8 gp ⊢;obtain⟨olen,gA⟩:∃ z,z=q.order.length:=⟨_,rfl⟩;obtain⟨elen,gB⟩:∃ z,z=q.es.length:=⟨_,rfl⟩;rw[<- gA,<- gB] at g8 gp ⊢;obtain⟨w1,gx⟩:∃ w1,w1=w.alloc (.cells #[.int .i64 vars,.slice ao olen co,.slice ae elen ce,.slice ap plen cp] 39):=⟨_,rfl⟩;have HW1:Hid (_=w1):=Hd gx.symm;have gv:Hid (Below w.heap.size w w1):=by rw[gx];exact Hd (Zad _ _)
 have gc:w1.heap[w.heap.size]?=some (.cells #[.int .i64 vars,.slice ao olen co,.slice ae elen ce,.slice ap plen cp] 39 (0,0)):=by rw[gx];exact heap_alloc_new _ _
 have d0:w1.cell? ⟨w.heap.size,0,none⟩=some (.int .i64 vars):=by rw[cell_of_row _ _ 0 _ _ _ gc];rfl
 have d1:w1.cell? ⟨w.heap.size,1,none⟩=some (.slice ao olen co):=by rw[cell_of_row _ _ 1 _ _ _ gc];rfl
 have d2:w1.cell? ⟨w.heap.size,2,none⟩=some (.slice ae elen ce):=by rw[cell_of_row _ _ 2 _ _ _ gc];rfl
 have d3:w1.cell? ⟨w.heap.size,3,none⟩=some (.slice ap plen cp):=by rw[cell_of_row _ _ 3 _ _ _ gc];rfl
 clear h gx gc gk gz gA gB
 go_enter func4,ntmps4
 go_upto_region 1 with fail;rw[HW1.out];go_wp2_with fail;refine(g8.out _ gv.out _ rfl).mono ?_;rintro y w2 ⟨b,rfl,hb,g7⟩;have HB:=Hd hb;have gf:=Hd (gv.out.trans (g7.mono gv.out.size));have e0:=(g7.cell (p:=⟨w.heap.size,0,none⟩) (Zaa d0)).trans d0;have e1:=(g7.cell (p:=⟨w.heap.size,1,none⟩) (Zaa d1)).trans d1;have e2:=(g7.cell (p:=⟨w.heap.size,2,none⟩) (Zaa d2)).trans d2;have e3:=(g7.cell (p:=⟨w.heap.size,3,none⟩) (Zaa d3)).trans d3;have g9:=Hd (Ze4 (K:=Zft) w2);clear hb g7 g8 d0 d1 d2 d3 HW1;cases b with
 | false =>
   go_wp2_with fail;refine g9.out.mono ?_;rintro y w3 ⟨rfl,he⟩;have hZ:=Hd (gf.out.trans (he.mono gf.out.size));clear he;go_wp2_with fail;go_ret;exact⟨rfl,hZ.out⟩
 | true =>
   have gq:=Hd (HB.out (by first|rfl|trivial));obtain⟨n,hn⟩:∃ n:Nat,vars=(n:Nat):=⟨vars.toNat,by have:=gq.out.lo;have:=HV.out;omega⟩;subst hn;have kb:n<=6:=by have:=gq.out.hi;have:=HV.out;omega
   have hM:1<=n:=by have:=gq.out.lo;have:=HV.out;omega
   have kf:q.es.length<=5:=gq.out.es;have gX:=Hd (Zot (hW.out.below gf.out));go_wp2_with fail;refine gX.out.mono ?_;rintro y w2c ⟨u0,rfl,gy,gh⟩;obtain⟨au,cu,rfl,-⟩:=gy.slice;obtain⟨gs,gn⟩:∃ g,g=cutG gs0:=⟨_,rfl⟩;have kd:gs.length<=8:=by rw[gn];exact Zm7 _
   have gI:Hid (∀ g∈gs,g.length<=8):=Hd (by rw[gn];exact Zqy);have hN:gs.flatten.length<=64:=by rw[gn];exact Zov _
   rw[<- gn] at gy ⊢;have hr:=Hd gy;have gK:=Hd (gf.out.trans (gh.mono gf.out.size));have e0:=(gh.cell (p:=⟨w.heap.size,0,none⟩) (Zaa e0)).trans e0;have e1:=(gh.cell (p:=⟨w.heap.size,1,none⟩) (Zaa e1)).trans e1;have e2:=(gh.cell (p:=⟨w.heap.size,2,none⟩) (Zaa e2)).trans e2;have e3:=(gh.cell (p:=⟨w.heap.size,3,none⟩) (Zaa e3)).trans e3;obtain⟨om,hL⟩:∃ m:Nat,m=min zs0.length 12:=⟨_,rfl⟩;have k9:min (zs0.length:Int) 12=(om:Int):=by omega
   have k6:om<=oc:=by omega
   have k5:(om:Int)<=(oc:Int):=by omega
   have k7:(0:Int)<=(om:Int):=by omega
   obtain⟨zs,gL⟩:∃ z,z=zs0.take 12:=⟨_,rfl⟩;have h6:zs.length=om:=by rw[gL,List.length_take];omega
   have hQ:Hid (SliceIs w2c (.slice oa om oc) zs):=Hd (by
    have h1:SliceIs w (.slice oa zs0.length oc) zs0:=⟨oa,oc,rfl,hU.out,hT.out⟩;have h2:=(h1.below gK.out).take (h:=om) (by omega);have e:zs0.take om=zs0.take 12:=by rw[List.take_eq_take_iff];omega
    rw[e,<- gL] at h2;exact h2)
   have k4:zs.length<=12:=by omega
   have ki:=Hd h6;have gT:=Hd (gp.out w2c n gK.out gq.out rfl _ rfl);clear gp HB gn gy gh gX hL gL h6;go_wp2_with fail;refine gT.out.mono ?_;rintro y w3 ⟨mb,vl,vx,wb,hs,nx,rfl,g3,gM,hnx,o3,m3,V3,lt3,-⟩;have kc:hs.length<=5:=by have:=congrArg List.length gM;simp at this;omega
   obtain⟨al,cl,hK⟩:∃ a c,vl=.slice a hs.length c:=by
    obtain⟨a,c,e,_⟩:=lt3.l.own.slice;exact⟨a,c,by rw[e];simp[Zbh]⟩
   subst hK;have ka:Hid (∀ p∈hs,p∈two++hs):=Hd fun p hp=>List.mem_append_right _ hp
   have ke:(two++hs).length=2+hs.length:=by simp[two];omega
   have k3:Hid (∀ k,k<=192->k*2^n<=Zcj n):=Hd fun k hk=>Zia hk
   have kl:Hid (wb.cell? ⟨w.heap.size,0,none⟩=some (.int .i64 (n:Nat))):=Hd ((g3.cell (p:=⟨w.heap.size,0,none⟩) (Zaa e0)).trans e0);have c0:=(lt3.below0.cell (p:=⟨w.heap.size,0,none⟩) (Zaa ((g3.cell (p:=⟨w.heap.size,0,none⟩) (Zaa e0)).trans e0))).trans ((g3.cell (p:=⟨w.heap.size,0,none⟩) (Zaa e0)).trans e0);have hI:Hid (Below w.heap.size w wb):=Hd (gK.out.trans (g3.mono gK.out.size));have h0:=Hd g3;have ht:=Hd (hr.out.below (g3.trans (lt3.below0.mono g3.size)));have hR:=Hd (hQ.out.below (g3.trans (lt3.below0.mono g3.size)));have kj:Hid (∀ p∈two++hs,p.1<nx):=Hd fun p hp=>(lt3.sat.range p hp).2
   have HL:=Hd ((lt3.withOd (Od':=fun _=>True) trivial).withSt (Wt':=SufW q.plan) (by rw[lt3.st.1];exact List.suffix_refl _));clear lt3 g3 gM gT e0 e1 e2 e3;have hm:Hid (∀ W',Below w3.heap.size w3 W'->Calls prog 58 #[.pointer (some ⟨mb,0,none⟩)] W' fun x w'=>x=.returned (.int .i64 (n:Nat))/\W'=w'):=Hd fun W' hb=>(HL.out.below hb).sat.vars_any.mono fun x w' h=>h
   have hF:=Hd (Zgz hm.out ht.out (by omega) (by omega) (by omega) hM);have hA:Hid (∀ W,Calls prog 18 #[] W fun x w'=>x=.returned (.bool true)/\Below W.heap.size W w'):=Hd fun W=>Ze4 (K:=Zft) W
   have gl:Hid (Below w.heap.size w w3):=Hd (hI.out.trans (HL.out.sat.chg.below0.mono hI.out.size));clear g9 ht;go_wp2_with fail;refine hF.out.mono ?_;rintro y w4 ⟨gD,e,hc,h5⟩;have gZ:=Hd hc;have gg:=Hd gD;have gG:=Hd (hr.out.below (h0.out.trans ((HL.out.sat.chg.below0.mono h0.out.size).trans (gD.mono (Nat.le_trans h0.out.size HL.out.sat.chg.below0.size)))));have gY:=Hd (Zkp (n:=n) gG.out (by omega) (by omega));have d0:=(gD.cell (p:=⟨w.heap.size,0,none⟩) (Zaa c0)).trans c0;clear hc gD hF;rcases h5 with ⟨gP,rfl⟩|⟨rfl,gb,lv,rfl,ha⟩
   .
    have kk:=Hd gP;go_wp2_with fail;refine gY.out.mono ?_;rintro y w5 ⟨e',rfl,ga,gd⟩;obtain rfl:e'=e:=ga.uniq gZ.out;have k8:(e' != 0)=true:=by simp[gP]
    have hJ:=Hd (gg.out.trans (gd.mono gg.out.size));have g9:=Hd (hA.out w5);clear ga gd gP;go_wp2_with fail;refine g9.out.mono ?_;rintro y w6 ⟨rfl,hd⟩;have HF:=Hd (gl.out.trans ((hJ.out.trans (hd.mono hJ.out.size)).mono gl.out.size));clear hd g9;go_wp2_with fail;go_ret;exact⟨rfl,HF.out⟩
   .
    have gj:=Hd (Zh7 gZ.out);have h9:(Zd1 gs n).length<=100:=by rw[Zem,List.length_append,List.length_map];have:=Zd2 gs.flatten n;omega
    have gU:Hid (∀ g∈Zd1 gs n,g.length<=8):=Hd fun g hg=>by
     rw[Zem] at hg;rcases List.mem_append.1 hg with hg|hg
     . exact gI.out g hg
     . obtain⟨v,_,rfl⟩:=List.mem_map.1 hg;simp
    have gJ:=Hd (ha.toB (o:=o3) (by omega) fun k hk=>HL.out.sat.lt.none hk);obtain⟨al,gi⟩:∃ x,x=Zd1 gs n:=⟨_,rfl⟩;have k0:=Hd gi;rw[<- gi] at gj h9 gU gJ;have gN:Zco w4 lv al:=gJ.out.2.is;obtain⟨av,cv,rfl,-⟩:=gN.slice;have hS:=Hd gN;have gH:Hid (∀ x b,(b=true↔Zfh al x n)->∀ b',(b'=true↔Zfh gs x n)->b=b'):=Hd fun x b h1 b' h2=>by
     rw[Bool.eq_iff_iff,h1,h2,gi];unfold Zfh;rw[Zrr]
    have gV:Hid (∀ W v x,Below w4.heap.size w4 W->SliceIs W v x->x.length<=1000->Calls prog 16 #[.pointer (some ⟨gb,0,none⟩),v] W fun x' w'=>∃ b,x'=.returned (.bool b)/\(b=true↔Zfh al x n)/\Below W.heap.size W w'):=Hd fun W v x hb hv hx =>
     Zf9 (GrB.keep _ _ _ _ gJ.out (ChgX.of_below hb o3 NoB)) (fun W' hP=>hm.out W' (gg.out.trans ((hb.mono (Nat.le_refl _) |>.trans (hP.mono hb.size)).mono gg.out.size))) hv hx (fun x hx=>(gj.out.mem x).1 hx) (by omega) (fun g hg=>by have:=gU.out g hg;omega)
    have hD:Hid (∀ W v x,Below w4.heap.size w4 W->SliceIs W v x->x.length<=1000->Calls prog 24 #[.slice au gs.length cu,v,.int .i64 (n:Nat)] W fun x' w'=>∃ b,x'=.returned (.bool b)/\(b=true↔Zfh gs x n)/\Below W.heap.size W w'):=Hd fun W v x hb hv hx =>
     Zti (gG.out.below hb) hv hx (by omega) (fun g hg=>by have:=gI.out g hg;omega)
    have hX:Hid (∀ W v x,Below w4.heap.size w4 W->SliceIs W v x->x.length<=64->Calls prog 26 #[.slice au gs.length cu,v,.int .i64 (n:Nat)] W fun x' w'=>∃ u,x'=.returned u/\OwnI w' W.heap.size u (gather al (Za3 al x))/\Below W.heap.size W w'):=Hd fun W v x hb hv hx=>by
     rw[gi];exact Zjm (gG.out.below hb) hv hx (by omega) (fun g hg=>by have:=gI.out g hg;omega) (by omega)
    have hB:Hid (∀ W,Below w4.heap.size w4 W->Calls prog 23 #[.slice au gs.length cu,.int .i64 (n:Nat)] W fun x w'=>∃ u,x=.returned u/\Zco w' u al/\Below W.heap.size W w'):=Hd fun W hb=>by
     refine(Zmn (gG.out.below hb) (by omega) (fun g hg=>by have:=gI.out g hg;omega) (by omega)).mono ?_;rintro x w' ⟨u,h1,h2,h3⟩;rw[<- gi] at h2;exact⟨u,h1,h2.is (by omega),h3⟩
    have g8:Hid (∀ W v,Below w4.heap.size w4 W->Zco W v al->Calls prog 22 #[.slice av al.length cv,v] W fun x w'=>x=.returned (.bool true)/\Below W.heap.size W w'):=Hd fun W v hb hv=>by
     have:=Zmx (hS.out.below hb) hv (by omega) (fun g hg=>by have:=gU.out g hg;omega);rw[decide_eq_true rfl] at this;exact this
    have hG:Hid (∀ W,Below w4.heap.size w4 W->Calls prog 15 #[.pointer (some ⟨gb,0,none⟩)] W fun x w'=>x=.returned (.slice av al.length cv)/\W=w'):=Hd fun W hb=>Zio (GrB.keep _ _ _ _ gJ.out (ChgX.of_below hb o3 NoB))
    have hC:=Hd (HL.out.below gg.out);have h4:Hid (Below w.heap.size w w4):=Hd (gl.out.trans (gg.out.mono gl.out.size));have hj:=Hd (hR.out.below gg.out);clear ha gi gN hN h9 gH;have gH:Hid (∀ x b,(b=true↔Zfh al x n)->∀ b',(b'=true↔Zfh gs x n)->b=b'):=Hd fun x b h1 b' h2=>by
     rw[Bool.eq_iff_iff,h1,h2,k0.out];unfold Zfh;rw[Zrr]
    go_wp2_with fail;refine gY.out.mono ?_;rintro y w5 ⟨e',rfl,ga,gd⟩;obtain rfl:e'=0:=ga.uniq gZ.out;have d1:=(gd.cell (p:=⟨w.heap.size,0,none⟩) (Zaa d0)).trans d0;obtain⟨wz,g2⟩:∃ x,x=w5.drew:=⟨_,rfl⟩;have ge:=Hd g2;have g0:Hid (Below w4.heap.size w4 wz):=Hd (by rw[g2];exact gd.trans ((Zaf w5 1).mono gd.size));have d2:wz.cell? ⟨w.heap.size,0,none⟩=some (.int .i64 (n:Nat)):=by rw[g2];exact d1
    clear ga gd gY g2;go_upto_region 12 with fail;refine Zam (fun w':World=>w'.cell? ⟨w.heap.size,0,none⟩=some (.int .i64 (n:Nat))/\Hid (Below w4.heap.size w4 w')) false 27 [(0,false),(1,false),(2,false),(3,false),(4,false),(5,false),(6,false),(7,false),(9,false),(10,false),(11,false),(8,true),(12,true),(13,true),(14,false),(15,false),(16,false),(17,false),(18,false),(20,false),(21,false),(22,false),(23,false),(19,true),(24,true),(25,false),(26,false)] (by kernel_rfl) (by kernel_rfl) (by rw[<- ge.out];exact⟨d2,g0⟩) ?_;rw[<- ge.out];simp only[planned,Zcc]
    iterate 3
     refine Zaj rfl ?_;apply Exists.intro;refine⟨fun w' hw=>?_,?_⟩
     . obtain⟨h1,_⟩:=hw;go_simp;rfl
     simp only[Zae]
    iterate 2
     refine Zb2 true (by go_simp) ?_;apply Exists.intro;refine⟨fun go w' hw=>?_,?_⟩
     . obtain⟨h1,_⟩:=hw;go_simp;rfl
     simp only[Zae]
    iterate 2
     refine Zaj rfl ?_;apply Exists.intro;refine⟨fun w' hw=>?_,?_⟩
     . obtain⟨h1,_⟩:=hw;go_simp;rfl
     simp only[Zae]
    iterate 4
     refine Zb2 true (by go_simp) ?_;apply Exists.intro;refine⟨fun go w' hw=>?_,?_⟩
     . obtain⟨h1,_⟩:=hw;go_simp;rfl
     simp only[Zae]
    refine Zcp (R:=fun v w'=>v=.slice av al.length cv/\wz=w') (by go_simp) (by first|(go_simp;exact⟨rfl,rfl⟩)|go_simp) ((hG.out wz g0.out).mono fun x w' ⟨q1,q2⟩=>⟨_,q1,by rw[<- q2];exact⟨d2,g0⟩,rfl,q2⟩) ?_;rintro v w'-⟨rfl,rfl⟩;simp only[Zae];refine Zcp (R:=fun v w'=>Zco w' v al/\Below wz.heap.size wz w') (by go_simp) (by first|(go_simp;exact⟨rfl,rfl⟩)|go_simp) ((hB.out wz g0.out).mono fun x w' ⟨u,q1,q2,q3⟩=>⟨u,q1,⟨(q3.cell (p:=⟨w.heap.size,0,none⟩) (Zaa d2)).trans d2,Hd (g0.out.trans (q3.mono g0.out.size))⟩,q2,q3⟩) ?_;rintro v w6 ⟨d3,g6⟩ ⟨hv,-⟩;obtain⟨a6,c6,rfl,-⟩:=hv.slice;have hq:=Hd hv;clear hv;simp only[Zae];refine Zcp (R:=fun v w'=>v=.bool true/\Below w6.heap.size w6 w') (by go_simp) (by first|(go_simp;exact⟨rfl,rfl⟩)|go_simp) ((g8.out w6 _ g6.out hq.out).mono fun x w' ⟨q1,q3⟩=>⟨_,q1,⟨(q3.cell (p:=⟨w.heap.size,0,none⟩) (Zaa d3)).trans d3,Hd (g6.out.trans (q3.mono g6.out.size))⟩,rfl,q3⟩) ?_;rintro v w7 ⟨d4,g5⟩ ⟨rfl,-⟩;simp only[Zae]
    iterate 1
     refine Zb2 true (by go_simp) ?_;apply Exists.intro;refine⟨fun go w' hw=>?_,?_⟩
     . obtain⟨h1,_⟩:=hw;go_simp;rfl
     simp only[Zae]
    iterate 2
     refine Zaj rfl ?_;apply Exists.intro;refine⟨fun w' hw=>?_,?_⟩
     . obtain⟨h1,_⟩:=hw;go_simp;rfl
     simp only[Zae]
    iterate 6
     refine Zb2 true (by go_simp) ?_;apply Exists.intro;refine⟨fun go w' hw=>?_,?_⟩
     . obtain⟨h1,_⟩:=hw;go_simp;rfl
     simp only[Zae]
    have gu:=Hd (gV.out w7 _ zs g5.out (hj.out.below g5.out) (by omega));refine Zcp (R:=fun v w'=>(∃ b,v=.bool b/\(b=true↔Zfh al zs n))/\Below w7.heap.size w7 w') (by go_simp) (by first|(go_simp;exact⟨rfl,rfl⟩)|go_simp) (gu.out.mono fun x w' ⟨b,q1,q2,q3⟩=>⟨_,q1,⟨(q3.cell (p:=⟨w.heap.size,0,none⟩) (Zaa d4)).trans d4,Hd (g5.out.trans (q3.mono g5.out.size))⟩,⟨b,rfl,q2⟩,q3⟩) ?_;rintro v w8 ⟨d5,g4⟩ ⟨⟨b1,rfl,hh⟩,-⟩;have gv:=Hd hh;clear hh;simp only[Zae];have gt:=Hd (hD.out w8 _ zs g4.out (hj.out.below g4.out) (by omega));refine Zcp (R:=fun v w'=>v=.bool b1/\Below w8.heap.size w8 w') (by go_simp) (by first|(go_simp;exact⟨rfl,rfl⟩)|go_simp) (gt.out.mono fun x w' ⟨b,q1,q2,q3⟩=>⟨_,q1,⟨(q3.cell (p:=⟨w.heap.size,0,none⟩) (Zaa d5)).trans d5,Hd (g4.out.trans (q3.mono g4.out.size))⟩,by rw[gH.out zs b1 gv.out b q2],q3⟩) ?_;rintro v w9 ⟨d6,g1⟩ ⟨rfl,-⟩;simp only[Zae]
    iterate 1
     refine Zb2 true (by go_simp) ?_;apply Exists.intro;refine⟨fun go w' hw=>?_,?_⟩
     . obtain⟨h1,_⟩:=hw;go_simp;rfl
     simp only[Zae]
    iterate 1
     refine Zaj rfl ?_;apply Exists.intro;refine⟨fun w' hw=>?_,?_⟩
     . obtain⟨h1,_⟩:=hw;go_simp;rfl
     simp only[Zae]
    refine Zb8 ?_;have kh:(b1 != b1)=false:=by simp
    have hz:=Hd (FxO.order (B:=fun _ _=>True) (P:=fun _=>True) (K:=Zft) (n:=n) (room:=Zcj n) (w0:=wb) (mb:=mb) (ws0:=q.plan) (C:=NoB) (o0:=o3) (wb:=w4) (fs:=two++hs) (nx:=nx) (fun _ _ _ _ _ _=>trivial) (show FxO Zft n (Zcj n) wb mb q.plan NoB o3 w4 (fun _ _=>True) (fun _=>True) (two++hs) nx w9 from ⟨o3,m3,V3,ChgX.of_below g1.out o3 NoB,hC.out.st,hC.out.sat.below g1.out,trivial⟩));clear d0 d1 d2 d3 d4 d5 ge g0 g6 g5 g4 hq gu gt g8 hB hG;go_wp2_with fail;refine hz.out.mono ?_;rintro y wA ⟨v,l,rfl,hl,-,gO,h7,hO,gC⟩;have gm:SliceIs wA v (l.map Int.ofNat):=h7.sliceIs (by rw[List.length_map];omega);obtain⟨av2,cv2,rfl,-,-⟩:=id gm;obtain⟨now,gw⟩:∃ x,x=l.map Int.ofNat:=⟨_,rfl⟩;rw[List.length_map,hl] at gm ⊢;have h8:now.length=n:=by rw[gw,List.length_map,hl]
    rw[<- gw] at gm gO;have hy:=Hd gO;have gr:=Hd h8;obtain⟨wz,g2⟩:∃ x,x=wA.drew:=⟨_,rfl⟩;have ge:=Hd g2;have g0:Hid (Below w4.heap.size w4 wz):=Hd (by rw[g2];exact(g1.out.trans (gC.mono g1.out.size)).trans ((Zaf wA 1).mono (g1.out.trans (gC.mono g1.out.size)).size));have d2:wz.cell? ⟨w.heap.size,0,none⟩=some (.int .i64 (n:Nat)):=by rw[g2];exact(gC.cell (p:=⟨w.heap.size,0,none⟩) (Zaa d6)).trans d6
    have gS:Hid (SliceIs wz (.slice av2 n cv2) now):=Hd (by rw[g2];exact gm.below (Zaf wA 1));clear gm gO h7 hO gC gw g2 d6 hz g1 hl h8;go_upto_region 15 with fail;refine Zam (fun w':World=>w'.cell? ⟨w.heap.size,0,none⟩=some (.int .i64 (n:Nat))/\Hid (Below w4.heap.size w4 w')/\Hid (Below wz.heap.size wz w')) false 22 [(0,false),(1,false),(3,false),(4,false),(5,false),(6,false),(2,true),(7,true),(8,false),(9,false),(10,false),(11,false),(12,false),(13,false),(14,false),(15,true),(16,true),(17,false),(18,false),(19,true),(20,false),(21,false)] (by kernel_rfl) (by kernel_rfl) (by rw[<- ge.out];exact⟨d2,g0,Hd (Below.refl _ _)⟩) ?_;rw[<- ge.out];simp only[planned,Zcc]
    iterate 6
     refine Zaj rfl ?_;apply Exists.intro;refine⟨fun w' hw=>?_,?_⟩
     . obtain⟨h1,_⟩:=hw;go_simp;rfl
     simp only[Zae]
    have gu:=Hd (gV.out wz _ now g0.out gS.out (by rw[gr.out];omega));refine Zcp (R:=fun v w'=>(∃ b,v=.bool b/\(b=true↔Zfh al now n))/\Below wz.heap.size wz w') (by go_simp) (by first|(go_simp;exact⟨rfl,rfl⟩)|go_simp) (gu.out.mono fun x w' ⟨b,q1,q2,q3⟩=>⟨_,q1,⟨(q3.cell (p:=⟨w.heap.size,0,none⟩) (Zaa d2)).trans d2,Hd (g0.out.trans (q3.mono g0.out.size)),Hd q3⟩,⟨b,rfl,q2⟩,q3⟩) ?_;rintro v w6 ⟨d3,g6,gF⟩ ⟨⟨b2,rfl,hf⟩,-⟩;have HB2:=Hd hf;clear hf;simp only[Zae];have gt:=Hd (hD.out w6 _ now g6.out (gS.out.below gF.out) (by rw[gr.out];omega));refine Zcp (R:=fun v w'=>v=.bool b2/\Below w6.heap.size w6 w') (by go_simp) (by first|(go_simp;exact⟨rfl,rfl⟩)|go_simp) (gt.out.mono fun x w' ⟨b,q1,q2,q3⟩=>⟨_,q1,⟨(q3.cell (p:=⟨w.heap.size,0,none⟩) (Zaa d3)).trans d3,Hd (g6.out.trans (q3.mono g6.out.size)),Hd (gF.out.trans (q3.mono gF.out.size))⟩,by rw[gH.out now b2 HB2.out b q2],q3⟩) ?_;rintro v w7 ⟨d4,g5,gE⟩ ⟨rfl,-⟩;have kg:(b2 == b2)=true:=by simp
    simp only[Zae]
    iterate 2
     refine Zaj rfl ?_;apply Exists.intro;refine⟨fun w' hw=>?_,?_⟩
     . obtain⟨h1,_⟩:=hw;go_simp;rfl
     simp only[Zae]
    iterate 5
     refine Zb2 true (by go_simp) ?_;apply Exists.intro;refine⟨fun go w' hw=>?_,?_⟩
     . obtain⟨h1,_⟩:=hw;go_simp;rfl
     simp only[Zae]
    have HG1:=Hd (hX.out w7 _ now g5.out (gS.out.below gE.out) (by rw[gr.out];omega))
    refine Zcp (R:=fun v w'=>SliceIs w' v (gather al (Za3 al now))/\Below w7.heap.size w7 w') (by go_simp) (by first|(go_simp;exact⟨rfl,rfl⟩)|go_simp) (HG1.out.mono fun x w' ⟨u,q1,q2,q3⟩=>⟨_,q1,⟨(q3.cell (p:=⟨w.heap.size,0,none⟩) (Zaa d4)).trans d4,Hd (g5.out.trans (q3.mono g5.out.size)),Hd (gE.out.trans (q3.mono gE.out.size))⟩,q2.sliceIs (by
     have:=Zh6 gj.out (Zfv gj.out hy.out gr.out);have h1:=this.1;omega),q3⟩) ?_
    rintro v w8 ⟨d5,g4,gR⟩ ⟨hv,-⟩;obtain⟨a8,c8,rfl,-,-⟩:=id hv;have hH:=Hd (Zh6 gj.out (Zfv gj.out hy.out gr.out));have ho:=Hd hv;clear hv;simp only[Zae];have hE:=Hd (gV.out w8 _ _ g4.out ho.out (by have:=hH.out.1;omega));refine Zcp (R:=fun v w'=>v=.bool true/\Below w8.heap.size w8 w') (by go_simp) (by first|(go_simp;exact⟨rfl,rfl⟩)|go_simp) (hE.out.mono fun x w' ⟨b,q1,q2,q3⟩=>⟨_,q1,⟨(q3.cell (p:=⟨w.heap.size,0,none⟩) (Zaa d5)).trans d5,Hd (g4.out.trans (q3.mono g4.out.size)),Hd (gR.out.trans (q3.mono gR.out.size))⟩,by rw[q2.2 hH.out],q3⟩) ?_;rintro v w9 ⟨d6,g1,gQ⟩ ⟨rfl,-⟩;simp only[Zae]
    iterate 2
     refine Zaj rfl ?_;apply Exists.intro;refine⟨fun w' hw=>?_,?_⟩
     . obtain⟨h1,_⟩:=hw;go_simp;rfl
     simp only[Zae]
    have g9:=Hd (hA.out w9);refine Zcp (R:=fun v w'=>v=.bool true/\Below w9.heap.size w9 w') (by go_simp) (by first|(go_simp;exact⟨rfl,rfl⟩)|go_simp) (g9.out.mono fun x w' ⟨q1,q3⟩=>⟨_,q1,⟨(q3.cell (p:=⟨w.heap.size,0,none⟩) (Zaa d6)).trans d6,Hd (g1.out.trans (q3.mono g1.out.size)),Hd (gQ.out.trans (q3.mono gQ.out.size))⟩,rfl,q3⟩) ?_;rintro v wX ⟨d7,hY,-⟩ ⟨rfl,-⟩;simp only[Zae]
    iterate 2
     refine Zaj rfl ?_;apply Exists.intro;refine⟨fun w' hw=>?_,?_⟩
     . obtain⟨h1,_⟩:=hw;go_simp;rfl
     simp only[Zae]
    refine Zb8 ?_;have HF:=Hd (h4.out.trans (hY.out.mono h4.out.size));clear d2 d3 d4 d5 d6 d7 ge g0 g6 g5 g4 g1 gF gE gR gQ ho gu gt hE HG1 g9;go_wp2_with fail;go_ret;exact⟨rfl,HF.out⟩
end Go.Proofs.YtkbegdkpboklpaaGreat
