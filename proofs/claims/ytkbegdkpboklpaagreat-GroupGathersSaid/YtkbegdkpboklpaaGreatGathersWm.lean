/- The walk of a law: GathersW. -/
import Derived.Test.YtkbegdkpboklpaaGreatN8
set_option linter.unusedSimpArgs false
set_option linter.unusedVariables false
set_option linter.unusedSectionVars false
set_option linter.unnecessarySimpa false
set_option maxRecDepth 100000
set_option maxHeartbeats 8000000
namespace Go.Proofs.YtkbegdkpboklpaaGreat
open Go.Proofs.Tryz
open Go.RowKit
theorem Zhv {W:World}{p p':Addr}{v x:Value}(h:W.cell? p=some v)(hp:p.spot=none)(hp':p'.spot=none)(hne:p.block≠p'.block\/p.off≠p'.off):(W.setCell p' x).cell? p=some v:=by
 obtain⟨b,o,s⟩:=p;obtain⟨b',o',s'⟩:=p';dsimp only at hp hp' hne;subst hp hp';exact Za5 h (hne.imp Ne.symm Ne.symm)
theorem Ya2 {W:World}{v x u:Value}{gs:List (List Int)}{B:Nat}(h:Zco W v gs)(hv:v.ownBlock≠some B)(hc:W.cell? ⟨B,3,none⟩=some x)(hx:∀ i,x ≠ .int .i64 i):Zco (W.setCell ⟨B,3,none⟩ u) v gs:=by
 obtain⟨a,c,xs,rfl,hn,hl,hs,g1⟩:=h;refine⟨a,c,xs,rfl,hn,hl,⟨hs.len,fun i h1 h2=>?_⟩,fun i hi=>?_⟩
 .
  obtain⟨a2,c2,e,⟨q1,q2⟩,q3⟩:=hs.at_ i h1 h2;refine⟨a2,c2,e,⟨q1,fun k hk=>?_⟩,q3⟩;obtain⟨b,off,ea,g0⟩:=q2 k hk;refine⟨b,off,ea,Zhv g0 rfl rfl ?_⟩
  by_cases hb:b=B
  . right;intro ho;dsimp only at ho;rw[hb,ho,hc] at g0;exact hx _ (Option.some.inj g0)
  . exact .inl hb
 . obtain⟨b,off,ea,g0⟩:=g1 i hi;subst ea;exact⟨b,off,rfl,Zhv g0 rfl rfl (.inl fun e=>hv (by rw[<- (show b=B from e)];rfl))⟩
theorem Ya3 {q:AskD}(h:Zhu q):Zhu { q with plan:=[] }:=⟨h.lo,h.hi,h.es,Nat.zero_le _,h.order,rfl,fun ev hev=>by simp at hev,h.expr⟩
theorem gathers_walk (q:AskD)(ao ae ap:Option Addr)(co ce cp:Nat)(lv0:Value)(gs0:List (List Int))(w:World)(h:AskAt w q ao ae ap)(hlc:SlsC w lv0 gs0) :
 Calls prog 5 #[askV q ao ae ap co ce cp,lv0] w fun y w'=>y=.returned (.bool true)/\Below w.heap.size w w':=by
 have kv:=Hd hlc;obtain⟨al0,cl0,xs0,rfl,-,-,-,-,-⟩:=hlc;have gr:Hid (∀ W,Below w.heap.size w W->∀ u,u=askV q ao ae ap co ce cp->Calls prog 19 #[u] W fun y w'=>∃ b,y=.returned (.bool b)/\(b=true->Zhu q)/\Below W.heap.size W w'):=Hd fun W hb u hu=>by subst hu;exact Zqf q ao ae ap co ce cp W (h.below hb)
 have gL:Hid (∀ W n,Below w.heap.size w W->Zhu q->q.vars=(n:Nat)->∀ u,u=.agg #[.int .i64 q.vars,.slice ao q.order.length co,.slice ae q.es.length ce,.slice none 0 0]->Calls prog 20 #[u] W (SetP Zft { q with plan:=[] } n W)):=Hd fun W n hb hs hn u hu=>by subst hu;exact Zqe Zpd { q with plan:=[] } ao ae none co ce 0 W ⟨(h.below hb).vars,(h.below hb).order,(h.below hb).es,⟨by simp,fun k hk=>by simp at hk⟩⟩ (Ya3 hs) n hn
 obtain⟨vars,gc⟩:∃ z,z=q.vars:=⟨_,rfl⟩;have HV:=Hd gc;obtain⟨plen,gD⟩:∃ z,z=q.plan.length:=⟨_,rfl⟩;unfold askV at gr ⊢;rw[<- gc,<- gD] at gr ⊢;rw[<- gc] at gL;obtain⟨olen,gF⟩:∃ z,z=q.order.length:=⟨_,rfl⟩;obtain⟨elen,gI⟩:∃ z,z=q.es.length:=⟨_,rfl⟩;rw[<- gF,<- gI] at gr gL ⊢;obtain⟨w1,gz⟩:∃ w1,w1=w.alloc (.cells #[.int .i64 vars,.slice ao olen co,.slice ae elen ce,.slice ap plen cp] 39):=⟨_,rfl⟩;have HW1:Hid (_=w1):=Hd gz.symm;have gi:Hid (Below w.heap.size w w1):=by rw[gz];exact Hd (Zad _ _)
 have g4:w1.heap[w.heap.size]?=some (.cells #[.int .i64 vars,.slice ao olen co,.slice ae elen ce,.slice ap plen cp] 39 (0,0)):=by rw[gz];exact heap_alloc_new _ _
 have d0:w1.cell? ⟨w.heap.size,0,none⟩=some (.int .i64 vars):=by rw[cell_of_row _ _ 0 _ _ _ g4];rfl
 have d1:w1.cell? ⟨w.heap.size,1,none⟩=some (.slice ao olen co):=by rw[cell_of_row _ _ 1 _ _ _ g4];rfl
 have d2:w1.cell? ⟨w.heap.size,2,none⟩=some (.slice ae elen ce):=by rw[cell_of_row _ _ 2 _ _ _ g4];rfl
 have d3:w1.cell? ⟨w.heap.size,3,none⟩=some (.slice ap plen cp):=by rw[cell_of_row _ _ 3 _ _ _ g4];rfl
 have ho:=Hd g4;have kk:Hid (w.heap.size<w1.heap.size):=Hd (Array.getElem?_eq_some_iff.1 g4).1;clear h gz g4 gc gD gF gI
 go_enter func5,ntmps5
 go_upto_region 1 with fail;rw[HW1.out];have hf:=Hd (Zou (kv.out.below gi.out));go_wp2_with fail;refine hf.out.mono ?_;rintro y w1c ⟨u0,rfl,gA,gP,ge⟩;obtain⟨au,cu,rfl,-⟩:=gA.slice;obtain⟨gs,gn⟩:∃ g,g=cutG gs0:=⟨_,rfl⟩;have kF:gs.length<=8:=by rw[gn];exact Zm7 _
 have k3:Hid (∀ g∈gs,g.length<=8):=Hd (by rw[gn];exact Zqy);have ki:gs.flatten.length<=64:=by rw[gn];exact Zov _
 rw[<- gn] at gA gP ⊢;have kp:=Hd gA;have ko:Hid ((Value.slice au gs.length cu).ownBlock≠some w.heap.size):=Hd fun e=>by have h1:=gP _ e;have h2:=kk.out;omega
 have gh:=Hd ((ge.block _ (Array.getElem?_eq_some_iff.1 ho.out).1).trans ho.out);have gi:=Hd (gi.out.trans (ge.mono gi.out.size));have d0:=(ge.cell (p:=⟨w.heap.size,0,none⟩) (Zaa d0)).trans d0;have d1:=(ge.cell (p:=⟨w.heap.size,1,none⟩) (Zaa d1)).trans d1;have d2:=(ge.cell (p:=⟨w.heap.size,2,none⟩) (Zaa d2)).trans d2;have d3:=(ge.cell (p:=⟨w.heap.size,3,none⟩) (Zaa d3)).trans d3;clear gn gA gP ge hf;go_wp2_with fail;refine(gr.out _ gi.out _ rfl).mono ?_;rintro y w2 ⟨b,rfl,hb,g5⟩;have HB:=Hd hb;have gl:=Hd (gi.out.trans (g5.mono gi.out.size));have gh:=Hd ((g5.block _ (Array.getElem?_eq_some_iff.1 gh.out).1).trans gh.out);have h5:=Hd (kp.out.below g5);have hT:Hid (∀ W,Calls prog 18 #[] W fun x w'=>x=.returned (.bool true)/\Below W.heap.size W w'):=Hd fun W=>Ze4 (K:=Zft) W
 have e0:=(g5.cell (p:=⟨w.heap.size,0,none⟩) (Zaa d0)).trans d0;have e1:=(g5.cell (p:=⟨w.heap.size,1,none⟩) (Zaa d1)).trans d1;have e2:=(g5.cell (p:=⟨w.heap.size,2,none⟩) (Zaa d2)).trans d2;have e3:=(g5.cell (p:=⟨w.heap.size,3,none⟩) (Zaa d3)).trans d3;have gg:=Hd (Ze4 (K:=Zft) w2);clear hb g5 gr d0 d1 d2 d3 HW1;cases b with
 | false =>
   go_wp2_with fail;refine gg.out.mono ?_;rintro y w3 ⟨rfl,gp⟩;have ht:=Hd (gl.out.trans (gp.mono gl.out.size));clear gp;go_wp2_with fail;go_ret;exact⟨rfl,ht.out⟩
 | true =>
   have gq:=Hd (HB.out (by first|rfl|trivial));obtain⟨n,hn⟩:∃ n:Nat,vars=(n:Nat):=⟨vars.toNat,by have:=gq.out.lo;have:=HV.out;omega⟩;subst hn;have kD:n<=6:=by have:=gq.out.hi;have:=HV.out;omega
   have kf:1<=n:=by have:=gq.out.lo;have:=HV.out;omega
   have kG:q.es.length<=5:=gq.out.es;have k8:=Hd (Zkp (n:=n) h5.out (by omega) (by omega));go_wp2_with fail;refine k8.out.mono ?_;rintro y w2c ⟨e,rfl,go,g6⟩;have k9:=Hd go;have hq:=Hd (gl.out.trans (g6.mono gl.out.size));have kq:=Hd (h5.out.below g6);have f0:=(g6.cell (p:=⟨w.heap.size,0,none⟩) (Zaa e0)).trans e0;have f1:=(g6.cell (p:=⟨w.heap.size,1,none⟩) (Zaa e1)).trans e1;have f2:=(g6.cell (p:=⟨w.heap.size,2,none⟩) (Zaa e2)).trans e2;have f3:=(g6.cell (p:=⟨w.heap.size,3,none⟩) (Zaa e3)).trans e3;have fb:=(g6.block w.heap.size (Array.getElem?_eq_some_iff.1 gh.out).1).trans gh.out;clear go g6 k8 e0 e1 e2 e3 gg
   by_cases gV:e=0
   .
    subst gV;have kx:=Hd fb;obtain⟨g0,g1,g2,g3,gf⟩:=cells4 fb;obtain⟨w2s,gd⟩:∃ W,W=w2c.setCell ⟨w.heap.size,3,none⟩ (.slice none 0 0):=⟨_,rfl⟩;have h0:Hid (_=w2s):=Hd gd.symm;have hm:Hid (Below w.heap.size w w2s):=Hd (by rw[gd];exact hq.out.setCell (Nat.le_refl _) _);have g4:w2s.heap[w.heap.size]?=some (.cells #[.int .i64 (n:Nat),.slice ao olen co,.slice ae elen ce,.slice none 0 0] 39 (0,0)):=by rw[gd];exact Zah kx.out _
    obtain⟨e0,e1,e2,e3,-⟩:=cells4 g4;have hN:Hid (Zco w2s (.slice au gs.length cu) gs):=Hd (by rw[gd];exact Ya2 kq.out ko.out f3 (fun i e=>by cases e));have h6:=Hd (gL.out w2s n hm.out gq.out rfl _ rfl);clear gL HB gd g4 fb;go_upto_region 5 with fail;rw[h0.out];clear h0 g0 g1 g2 g3 gf f0 f1 f2 f3;go_wp2_with fail;refine h6.out.mono ?_;rintro y w3 ⟨mb,vl,vx,wb,hs,nx,rfl,g8,gR,hnx,o3,m3,V3,lt3,-⟩;have kE:hs.length<=5:=by have:=congrArg List.length gR;simp at this;omega
    obtain⟨alh,cl,kc⟩:∃ a c,vl=.slice a hs.length c:=by
     obtain⟨a,c,e,_⟩:=lt3.l.own.slice;exact⟨a,c,by rw[e];simp[Zbh]⟩
    subst kc;have kb:Hid (∀ p∈hs,p∈two++hs):=Hd fun p hp=>List.mem_append_right _ hp
    have hC:(two++hs).length=2+hs.length:=by simp[two];omega
    have hz:Hid (∀ k,k<=192->k*2^n<=Zcj n):=Hd fun k hk=>Zia hk
    have kI:Hid (wb.cell? ⟨w.heap.size,0,none⟩=some (.int .i64 (n:Nat))):=Hd ((g8.cell (p:=⟨w.heap.size,0,none⟩) (Zaa e0)).trans e0);have c0:=(lt3.below0.cell (p:=⟨w.heap.size,0,none⟩) (Zaa ((g8.cell (p:=⟨w.heap.size,0,none⟩) (Zaa e0)).trans e0))).trans ((g8.cell (p:=⟨w.heap.size,0,none⟩) (Zaa e0)).trans e0);have gN:Hid (Below w.heap.size w wb):=Hd (hm.out.trans (g8.mono hm.out.size));have hj:=Hd g8;have hO:=Hd (hN.out.below (g8.trans (lt3.below0.mono g8.size)));have kH:Hid (∀ p∈two++hs,p.1<nx):=Hd fun p hp=>(lt3.sat.range p hp).2
    have HL:=Hd ((lt3.withOd (Od':=fun _=>True) trivial).withSt (Wt':=SufW []) (by rw[lt3.st.1];exact List.suffix_refl _));clear lt3 g8 gR h6 e0 e1 e2 e3;have kn:Hid (∀ W',Below w3.heap.size w3 W'->Calls prog 58 #[.pointer (some ⟨mb,0,none⟩)] W' fun x w'=>x=.returned (.int .i64 (n:Nat))/\W'=w'):=Hd fun W' hb=>(HL.out.below hb).sat.vars_any.mono fun x w' h=>h
    have k0:=Hd (Zgz kn.out hO.out (by omega) (by omega) (by omega) kf);have kB:Hid (Below w.heap.size w w3):=Hd (gN.out.trans (HL.out.sat.chg.below0.mono gN.out.size));have ku:=Hd hnx;clear hO hnx;go_wp2_with fail;refine k0.out.mono ?_;rintro y w4 ⟨gK,e,go,gJ⟩;obtain rfl:e=0:=go.uniq k9.out;obtain⟨gb,lv,rfl,hB⟩:∃ gb lv,y=.returned (.tuple #[.pointer (some ⟨gb,0,none⟩),.int .i64 0])/\GrM w3.heap.size mb gb lv (Zd1 gs n) w4:=by
     rcases gJ with ⟨ke,_⟩|⟨_,gb,lv,h1,h2⟩
     . exact(ke rfl).elim
     . exact⟨gb,lv,h1,h2⟩
    have ka:=Hd gK;have kr:=Hd (hN.out.below (hj.out.trans ((HL.out.sat.chg.below0.mono hj.out.size).trans (gK.mono (Nat.le_trans hj.out.size HL.out.sat.chg.below0.size)))));have d0:=(gK.cell (p:=⟨w.heap.size,0,none⟩) (Zaa c0)).trans c0;clear go gJ gK k0 c0;have g9:=Hd (Zh7 k9.out);have kg:(Zd1 gs n).length<=100:=by rw[Zem,List.length_append,List.length_map];have:=Zd2 gs.flatten n;omega
    have hW:Hid (∀ g∈Zd1 gs n,g.length<=8):=Hd fun g hg=>by
     rw[Zem] at hg;rcases List.mem_append.1 hg with hg|hg
     . exact k3.out g hg
     . obtain⟨v,_,rfl⟩:=List.mem_map.1 hg;simp
    have k4:=Hd (hB.toB (o:=o3) (by omega) fun k hk=>HL.out.sat.lt.none hk);have hZ:Hid (∀ W v x,Below w4.heap.size w4 W->SliceIs W v x->x.length<=64->Calls prog 26 #[.slice au gs.length cu,v,.int .i64 (n:Nat)] W fun x' w'=>∃ u,x'=.returned u/\OwnI w' W.heap.size u (gather (Zd1 gs n) (Za3 (Zd1 gs n) x))/\Below W.heap.size W w'):=Hd fun W v x hb hv hx =>
     Zjm (kr.out.below hb) hv hx (by omega) (fun g hg=>by have:=k3.out g hg;omega) (by omega)
    obtain⟨al,hK⟩:∃ x,x=Zd1 gs n:=⟨_,rfl⟩;rw[<- hK] at g9 kg hW k4 hZ
    have gM:Hid (nx<=549755813888/\3*((two++hs).length*2^n)<=Zcj n):=Hd ⟨by have:=ku.out;omega,by
     have:=hz.out (3*(two++hs).length) (by rw[hC];omega);rw[Nat.mul_assoc] at this;exact this⟩
    have kw:Hid (FxO Zft n (Zcj n) wb mb [] NoB o3 w3 (GrB mb gb lv al) (fun _=>True) (two++hs) nx w4):=Hd ⟨o3,m3,V3,ChgX.of_below ka.out o3 NoB,HL.out.st,HL.out.sat.below ka.out,k4.out⟩;clear hB hK ki;obtain⟨wz,gy⟩:∃ x,x=w4.drew:=⟨_,rfl⟩;have gZ:=Hd gy;have gv:Hid (Below w4.heap.size w4 wz):=Hd (by rw[gy];exact Zaf w4 1);have d2:wz.cell? ⟨w.heap.size,0,none⟩=some (.int .i64 (n:Nat)):=by rw[gy];exact d0
    have ga:=Hd (FxO.order GrB.keep (kw.out.below GrB.keep gv.out));clear gy;go_upto_region 11 with fail;refine Zam (fun w':World=>w'.cell? ⟨w.heap.size,0,none⟩=some (.int .i64 (n:Nat))/\Hid (Below w4.heap.size w4 w')) false 7 [(0,false),(1,false),(3,false),(4,false),(2,true),(5,true),(6,false)] (by kernel_rfl) (by kernel_rfl) (by rw[<- gZ.out];exact⟨d2,gv⟩) ?_;rw[<- gZ.out];simp only[planned,Zcc]
    iterate 4
     refine Zaj rfl ?_;apply Exists.intro;refine⟨fun w' hw=>?_,?_⟩
     . obtain⟨h1,_⟩:=hw;go_simp;rfl
     simp only[Zae]
    refine Zcp (R:=fun v w'=>∃ l:List Nat,l.length=n/\Za1 (l.map Int.ofNat)=true/\FxO Zft n (Zcj n) wb mb [] NoB o3 w3 (fun W o=>GrB mb gb lv al W o/\Zdw v (l.map Int.ofNat) W o) (fun l'=>l'=l) (two++hs) nx w') (by go_simp) (by first|(go_simp;exact⟨rfl,rfl⟩)|go_simp) (ga.out.mono fun x w' ⟨v,l,q1,q2,_,q4,_,q6,q7⟩=>⟨v,q1,⟨(q7.cell (p:=⟨w.heap.size,0,none⟩) (Zaa d2)).trans d2,Hd (gv.out.trans (q7.mono gv.out.size))⟩,l,q2,q4,q6⟩) ?_;rintro v w5 ⟨d3,gO⟩ ⟨l,hl,gB,gH⟩;obtain⟨now,gk⟩:∃ x,x=l.map Int.ofNat:=⟨_,rfl⟩;have gS:now.length=n:=by rw[gk,List.length_map,hl]
    rw[<- gk] at gB gH;have gQ:SliceIs w5 v now:=gH.know (Q:=fun W=>SliceIs W v now) fun W o hh=>hh.2.slice
    obtain⟨av2,cv2,rfl,-,-⟩:=id gQ;have HG1:=Hd (hZ.out w5 _ now gO.out gQ (by omega));have k7:=Hd gH;have kt:=Hd gB;have hS:=Hd (show now.length=n/\now=l.map Int.ofNat from ⟨gS,gk⟩);have h9:=Hd (Zh6 g9.out (Zfv g9.out gB gS));obtain⟨want,gj⟩:∃ x,x=gather al (Za3 al now):=⟨_,rfl⟩;rw[<- gj] at HG1 h9;have kl:=Hd gj;have kC:want.length<=6:=by have:=h9.out.1;omega
    clear gB gH gk gQ gS gj hl;simp only[Zae];refine Zcp (R:=fun v w'=>SliceIs w' v want/\FxO Zft n (Zcj n) wb mb [] NoB o3 w3 (fun W o=>GrB mb gb lv al W o/\Zdw v want W o) (fun l'=>l'=l) (two++hs) nx w') (by go_simp) (by first|(go_simp;exact⟨rfl,rfl⟩)|go_simp) (HG1.out.mono fun x w' ⟨u,q1,q2,q3⟩=>⟨u,q1,⟨(q3.cell (p:=⟨w.heap.size,0,none⟩) (Zaa d3)).trans d3,Hd (gO.out.trans (q3.mono gO.out.size))⟩,q2.sliceIs (by omega),(k7.out.withB (B':=GrB mb gb lv al) fun _ _ _ _ hh=>hh.1).mine GrB.keep q3 (q2.sliceIs (by omega)) fun k hk=>q2.lt k hk⟩) ?_;rintro v w6 ⟨-,kz⟩ ⟨kd,hE⟩;obtain⟨a6,c6,rfl,-,-⟩:=kd;have k6:=Hd hE;clear hE HG1 k7 ga;simp only[Zae]
    iterate 1
     refine Zaj rfl ?_;apply Exists.intro;refine⟨fun w' hw=>?_,?_⟩
     . obtain⟨h1,_⟩:=hw;go_simp;rfl
     simp only[Zae]
    refine Zb8 ?_;have hc:Zf1 (fun W o=>GrB mb gb lv al W o/\Zdw (.slice a6 want.length c6) want W o):=GrB.keep.and Zdw.keep;have hY:=Hd hc;have gt:=Hd (Ze0 hc k6.out (fun W o hh=>hh.1) g9.out (by omega) gM.out.1 gM.out.2);clear gZ gv gO kz d0 d2 d3 hc;go_wp2_with fail;refine gt.out.mono ?_;rintro y w7 ⟨rfl,l0,pl,-,rfl,-,gE,gU⟩;rw[<- hS.out.2] at gE;have gC:gather al pl=want:=by rw[kl.out,gE.uniq (Zfv g9.out kt.out hS.out.1)]
    have hQ:=Hd (show Placed al (levZ want) pl by have:=Zne g9.out gE;rw[gC] at this;exact this);rw[gC] at gU;have ga:=Hd (gU.order hY.out);have hP:=Hd gC;clear gE gU gC gt k6;go_wp2_with fail;refine ga.out.mono ?_;rintro y w8 ⟨v8,l8,rfl,kh,gY,-,-,gG,-⟩;rw[gY] at gG;obtain⟨a8,c8,e8,-,-⟩:=gG.know (Q:=fun W=>SliceIs W v8 want) fun W o hh=>hh.2.slice
    subst e8;have ha:Zf1 (fun W o=>(GrB mb gb lv al W o/\Zdw (.slice a6 want.length c6) want W o)/\Zdw (.slice a8 want.length c8) want W o):=hY.out.and Zdw.keep;have gt:=Hd (Ze0 ha gG (fun W o hh=>hh.1.1) g9.out (by omega) gM.out.1 gM.out.2);have hR:=Hd gY;have g7:=Hd ha;clear gY gG ga ha kh;go_wp2_with fail;refine gt.out.mono ?_;rintro y w9 ⟨rfl,l0,pl2,-,rfl,-,gw,gT⟩;rw[hR.out] at gw;obtain rfl:=gw.uniq hQ.out;rw[hP.out] at gT;have gu:=Hd gT;have hM:Hid (∀ W,Below w9.heap.size w9 W->SliceIs W (.slice a6 want.length c6) want):=Hd fun W hb=>(gu.out.below g7.out hb).know (Q:=fun W=>SliceIs W (.slice a6 want.length c6) want) fun W o hh=>hh.1.2.slice
    have km:Hid (∀ W,Below w9.heap.size w9 W->SliceIs W (.slice a8 want.length c8) want):=Hd fun W hb=>(gu.out.below g7.out hb).know (Q:=fun W=>SliceIs W (.slice a8 want.length c8) want) fun W o hh=>hh.2.slice
    have h8:=Hd (Zlc (km.out w9 (Below.refl _ _)) (hM.out w9 (Below.refl _ _)) (by omega));rw[decide_eq_true rfl] at h8;clear gw gT gt hR hP hQ;go_wp2_with fail;refine h8.out.mono ?_;rintro y wA ⟨rfl,gX⟩;have hr:=Hd gX;have ga:=Hd ((gu.out.below g7.out gX).order g7.out);clear gX h8;go_wp2_with fail;refine ga.out.mono ?_;rintro y wB ⟨vB,lB,rfl,-,hL,-,-,hD,hJ⟩;have gm:=Hd (hr.out.trans (hJ.mono hr.out.size));have hA:SliceIs wB vB want:=by rw[<- hL];exact hD.know (Q:=fun W=>SliceIs W vB (lB.map Int.ofNat)) fun W o hh=>hh.2.slice
    have h7:=Hd (Zlc hA (hM.out wB gm.out) (by omega));rw[decide_eq_true rfl] at h7;clear hL hD hJ hA ga hr;go_wp2_with fail;refine h7.out.mono ?_;rintro y wC ⟨rfl,hI⟩;have gx:=Hd (gm.out.trans (hI.mono gm.out.size));have k5:=Hd (gu.out.below g7.out gx.out)
    have hX:Hid (Calls prog 16 #[.pointer (some ⟨gb,0,none⟩),.slice a6 want.length c6] wC fun x w'=>x=.returned (.bool true)/\Below wC.heap.size wC w'):=Hd (k5.out.ask fun o m V hs hh =>
     (Zf9 (n:=n) hh.1.1 (fun W' kj=>(hs.below kj).vars_any.mono fun x w' h=>h) hh.1.2.slice (by omega) (fun x hx=>(g9.out.mem x).1 hx) (by omega) (fun g hg=>by have:=hW.out g hg;omega)).mono fun x w' ⟨b,h1,h2,h3⟩=>⟨by rw[h1,h2.2 h9.out],h3⟩)
    clear hI h7 gm;go_wp2_with fail;refine hX.out.mono ?_;rintro y wD ⟨rfl,hH⟩;have ky:=Hd (gx.out.trans (hH.mono gx.out.size));have he:=Hd (gu.out.below g7.out ky.out)
    have hy:Hid (Calls prog 28 #[.pointer (some ⟨mb,0,none⟩),.slice alh hs.length cl,vx] wD fun x w'=>x=.returned (.bool true)/\Below wD.heap.size wD w'):=Hd (by
     obtain⟨o,m,V,h1,h2,h3,h4⟩:=he.out;have hl:=HL.out.l.chg h1;have hx:=HL.out.x.chg h1;exact Zzz h3 (by omega) (Yaq hl hx (fun p hp=>kb.out p hp) (by omega)))
    clear hH hX k5;go_wp2_with fail;refine hy.out.mono ?_;rintro y wE ⟨rfl,hG⟩;have hd:=Hd (he.out.below g7.out hG)
    have hU:Hid (Calls prog 29 #[.pointer (some ⟨mb,0,none⟩),.int .i64 (hs.length:Nat)] wE fun x w'=>x=.returned (.bool true)/\wE=w'):=Hd (by
     obtain⟨o,m,V,h1,h2,h3,h4⟩:=hd.out;refine(Zx8 h3 hs.length (by omega)).mono fun e w' ⟨h1,h2⟩=>⟨?_,h2⟩
     rw[h1,decide_eq_true (by rw[hC];omega)])
    clear hG hy he;go_wp2_with fail;refine hU.out.mono ?_;rintro y w' ⟨rfl,rfl⟩;have gg:=Hd (hT.out wE);clear hU;go_wp2_with fail;refine gg.out.mono ?_;rintro y wF ⟨rfl,hF⟩;have HF:=Hd (gN.out.trans ((hd.out.below0.trans (hF.mono hd.out.below0.size)).mono gN.out.size));clear hF gg;go_wp2_with fail;go_ret;exact⟨rfl,HF.out⟩
   .
    have kA:(e != 0)=true:=by simp[gV]
    have gg:=Hd (hT.out w2c);clear gV;go_wp2_with fail;refine gg.out.mono ?_;rintro y w3 ⟨rfl,gp⟩;have ht:=Hd (hq.out.trans (gp.mono hq.out.size));clear gp;go_wp2_with fail;go_ret;exact⟨rfl,ht.out⟩
end Go.Proofs.YtkbegdkpboklpaaGreat
