/- The walk of a law: RunsW. -/
import Derived.Test.YtkbegdkpboklpaaGreatK8
set_option linter.unusedSimpArgs false
set_option linter.unusedVariables false
set_option linter.unusedSectionVars false
set_option linter.unnecessarySimpa false
set_option maxRecDepth 100000
set_option maxHeartbeats 8000000
namespace Go.Proofs.YtkbegdkpboklpaaGreat
open Go.Proofs.Tryz
open Go.RowKit
theorem Ztp (q:AskD)(hqp:q.plan=[])(ao ae:Option Addr)(co ce:Nat)(pv:Value)(kind pp qq vv fr:Int)(w:World)(h:AskAt w q ao ae none) :
 Calls prog 7 #[.agg #[.int .i64 q.vars,.slice ao q.order.length co,.slice ae q.es.length ce,pv],.int .i64 kind,.int .i64 pp,.int .i64 qq,.int .i64 vv,.int .i64 fr] w fun y w'=>y=.returned (.bool true)/\Below w.heap.size w w':=by
 obtain⟨ap,h5⟩:∃ a:Option Addr,a=none:=⟨_,rfl⟩;rw[<- h5] at h;obtain⟨cp,hY⟩:∃ c:Nat,c=0:=⟨_,rfl⟩;have gq:Hid (∀ W,Below w.heap.size w W->∀ u,u=askV q ao ae ap co ce cp->Calls prog 19 #[u] W fun y w'=>∃ b,y=.returned (.bool b)/\(b=true->Zlr q)/\Below W.heap.size W w'):=Hd fun W hb u hu=>by subst hu;exact Zwq q ao ae ap co ce cp W (h.below hb)
 have gp:Hid (∀ W n,Below w.heap.size w W->Zlr q->q.vars=(n:Nat)->∀ u,u=askV q ao ae ap co ce cp->Calls prog 20 #[u] W (SetP Zh5 q n W)):=Hd fun W n hb hs hn u hu=>by subst hu;exact Zwn Zeu q ao ae ap co ce cp W (h.below hb) hs n hn
 obtain⟨vars,gu⟩:∃ z,z=q.vars:=⟨_,rfl⟩;have HV:=Hd gu;obtain⟨plen,gL⟩:∃ z,z=q.plan.length:=⟨_,rfl⟩;unfold askV at gq gp;rw[hqp] at gL;rw[hqp,h5,hY] at gq gp;rw[<- gu] at gq gp ⊢;obtain⟨olen,gM⟩:∃ z,z=q.order.length:=⟨_,rfl⟩;obtain⟨elen,gN⟩:∃ z,z=q.es.length:=⟨_,rfl⟩;rw[<- gM,<- gN] at gq gp ⊢;have H0:=Hd hqp;obtain⟨w1,gI⟩:∃ w1,w1=w.alloc (.cells #[.int .i64 vars,.slice ao olen co,.slice ae elen ce,pv] 39):=⟨_,rfl⟩;have HW1:Hid (_=w1):=Hd gI.symm;have gv:w1.heap[w.heap.size]?=some (.cells #[.int .i64 vars,.slice ao olen co,.slice ae elen ce,pv] 39 (0,0)):=by rw[gI];exact heap_alloc_new _ _
 obtain⟨g0,g1,g2,g3,gf⟩:=cells4 gv;obtain⟨w1s,gt⟩:∃ W,W=w1.setCell ⟨w.heap.size,3,none⟩ (.slice none 0 0):=⟨_,rfl⟩;have h9:Hid (_=w1s):=Hd gt.symm;have hL:Hid (Below w.heap.size w w1s):=by rw[gt,gI];exact Hd ((Zad _ _).setCell (Nat.le_refl _) _)
 have gi:w1s.heap[w.heap.size]?=some (.cells #[.int .i64 vars,.slice ao olen co,.slice ae elen ce,.slice none 0 0] 39 (0,0)):=by rw[gt];exact Zae gv _
 have d0:w1s.cell? ⟨w.heap.size,0,none⟩=some (.int .i64 vars):=by rw[cell_of_row _ _ 0 _ _ _ gi];rfl
 have d1:w1s.cell? ⟨w.heap.size,1,none⟩=some (.slice ao olen co):=by rw[cell_of_row _ _ 1 _ _ _ gi];rfl
 have d2:w1s.cell? ⟨w.heap.size,2,none⟩=some (.slice ae elen ce):=by rw[cell_of_row _ _ 2 _ _ _ gi];rfl
 have d3:w1s.cell? ⟨w.heap.size,3,none⟩=some (.slice none 0 0):=by rw[cell_of_row _ _ 3 _ _ _ gi];rfl
 clear h gI gi gu gL gM gN gt gv hqp h5 hY
 go_enter func7,ntmps7
 go_upto_region 1 with fail;rw[HW1.out];go_upto_region 2 with fail;rw[h9.out];clear HW1 h9 g0 g1 g2 g3 gf;go_wp2_with fail;refine(gq.out _ hL.out _ rfl).mono ?_;rintro y w2 ⟨b,rfl,hb,gb⟩;have HB:=Hd hb;have g9:=Hd (hL.out.trans (gb.mono hL.out.size));have e0:=(gb.cell (p:=⟨w.heap.size,0,none⟩) (Zaa d0)).trans d0;have e1:=(gb.cell (p:=⟨w.heap.size,1,none⟩) (Zaa d1)).trans d1;have e2:=(gb.cell (p:=⟨w.heap.size,2,none⟩) (Zaa d2)).trans d2;have e3:=(gb.cell (p:=⟨w.heap.size,3,none⟩) (Zaa d3)).trans d3;have gr:=Hd (Zkm Zeu w2);clear hb gb gq d0 d1 d2 d3;cases b with
 | false =>
   go_wp2_with fail;refine gr.out.mono ?_;rintro y w3 ⟨rfl,gz⟩;have hK:=Hd (g9.out.trans (gz.mono g9.out.size));clear gz;go_wp2_with fail;go_ret;exact⟨rfl,hK.out⟩
 | true =>
   by_cases kT:vars>4
   . go_wp2_with fail;refine gr.out.mono ?_;rintro y w3 ⟨rfl,gz⟩;have hK:=Hd (g9.out.trans (gz.mono g9.out.size));clear gz;go_wp2_with fail;go_ret;exact⟨rfl,hK.out⟩
   have gB:=Hd (HB.out (by first|rfl|trivial));obtain⟨n,hn⟩:∃ n:Nat,vars=(n:Nat):=⟨vars.toNat,by have:=gB.out.lo;have:=HV.out;omega⟩;subst hn;have kU:n<=6:=by have:=gB.out.hi;have:=HV.out;omega
   have kV:1<=n:=by have:=gB.out.lo;have:=HV.out;omega
   have kY:q.es.length<=5:=gB.out.es;have hf:=Hd (gp.out w2 n g9.out gB.out rfl _ rfl);clear gp gr HB;go_wp2_with fail;refine hf.out.mono ?_;rintro y w3 ⟨mb,vl,vx,wb,hs,nx,rfl,g6,gS,hnx,o3,m3,V3,lt3,-⟩;have kW:hs.length<=5:=by have:=congrArg List.length gS;simp at this;omega
   obtain⟨al,cl,kI⟩:∃ a c,vl=.slice a hs.length c:=by
    obtain⟨a,c,e,_⟩:=lt3.l.own.slice;exact⟨a,c,by rw[e];simp[Za1]⟩
   subst kI;have gE:Hid (∀ p∈hs,p∈two++hs):=Hd fun p hp=>List.mem_append_right _ hp
   have kX:(two++hs).length=2+hs.length:=by simp[two];omega
   have kS:Hid (∀ k,k<=192->k*2^n<=Zce n):=Hd fun k hk=>Zku hk
   have hH:Hid (wb.cell? ⟨w.heap.size,0,none⟩=some (.int .i64 (n:Nat))):=Hd ((g6.cell (p:=⟨w.heap.size,0,none⟩) (Zaa e0)).trans e0);have c0:=(lt3.below0.cell (p:=⟨w.heap.size,0,none⟩) (Zaa ((g6.cell (p:=⟨w.heap.size,0,none⟩) (Zaa e0)).trans e0))).trans ((g6.cell (p:=⟨w.heap.size,0,none⟩) (Zaa e0)).trans e0);have c1:=(lt3.below0.cell (p:=⟨w.heap.size,1,none⟩) (Zaa ((g6.cell (p:=⟨w.heap.size,1,none⟩) (Zaa e1)).trans e1))).trans ((g6.cell (p:=⟨w.heap.size,1,none⟩) (Zaa e1)).trans e1);have c2:=(lt3.below0.cell (p:=⟨w.heap.size,2,none⟩) (Zaa ((g6.cell (p:=⟨w.heap.size,2,none⟩) (Zaa e2)).trans e2))).trans ((g6.cell (p:=⟨w.heap.size,2,none⟩) (Zaa e2)).trans e2);have c3:=(lt3.below0.cell (p:=⟨w.heap.size,3,none⟩) (Zaa ((g6.cell (p:=⟨w.heap.size,3,none⟩) (Zaa e3)).trans e3))).trans ((g6.cell (p:=⟨w.heap.size,3,none⟩) (Zaa e3)).trans e3);have kB:Hid (Below w.heap.size w wb):=Hd (g9.out.trans (g6.mono g9.out.size));have kZ:Hid (∀ p∈two++hs,p.1<nx):=Hd fun p hp=>(lt3.sat.range p hp).2
   have HL:=Hd ((lt3.withOd (Od':=fun _=>True) trivial).withSt (Wt':=SufW q.plan) (by rw[lt3.st.1];exact List.suffix_refl _));clear lt3 g6 gS hf e0 e1 e2 e3;have gy:n<=4:=by omega
   have ki:=Hd (Zwo HL.out gE.out (by omega) (by omega) kind pp qq vv (.slice ao olen co) (.slice ae elen ce) (.slice none 0 0));go_wp2_with fail;refine ki.out.mono ?_;rintro y w4 ⟨kf,P,r,kg,Q,s,v',rfl,hU,hF,hG,hr,hs',h0⟩;obtain⟨ta,tc,et,-⟩:=hr.tab;subst et;obtain⟨ua,uc,eu,-⟩:=hs'.tab;subst eu;have hv'n:v'<(n:Int):=by rw[hU];split<;>omega
   have gs:=Hd (show (kf,P)∈two++hs/\(kg,Q)∈two++hs/\v'<(n:Int) from ⟨hF,hG,hv'n⟩);have gR:=Hd (HL.out.below h0);have d0:=(h0.cell (p:=⟨w.heap.size,0,none⟩) (Zaa c0)).trans c0;have ha:=Hd (show LawF w4 o3 (.slice ta (2^n) tc) (tabB n P)/\LawF w4 o3 (.slice ua (2^n) uc) (tabB n Q) from ⟨hr,hs'⟩);clear hr hs' h0 ki c0 c1 c2 c3 hF hG hU hv'n;go_upto_region 8 with fail;obtain⟨w5,gH⟩:∃ w,w=w4.alloc (.cells #[.int .i64 kind,.slice ta (2^n) tc,.slice ua (2^n) uc,.int .i64 v'] 57):=⟨_,rfl⟩;have gk:Below w4.heap.size w4 w5:=by rw[gH];exact Zad _ _
   have hO:w5.heap[w4.heap.size]?=some (.cells #[.int .i64 kind,.slice ta (2^n) tc,.slice ua (2^n) uc,.int .i64 v'] 57 (0,0)):=by rw[gH];exact heap_alloc_new _ _
   rw[<- gH];have d1:=(gk.cell (p:=⟨w.heap.size,0,none⟩) (Zaa d0)).trans d0;have ko:=Hd (Zqu (gR.out.below gk) gE.out (by omega) (by omega) fr);have kw:=Hd (gR.out.below gk);have gA:=Hd hO;have gF:=Hd gk;have kN:Hid (o3 w4.heap.size=none):=Hd (gR.out.sat.lt.none (Nat.le_refl _));clear d0 gH gk hO gR HL;go_wp2_with fail;refine ko.out.mono ?_;rintro y w6 ⟨kb,R,rb,rfl,hR,gT,go⟩;obtain⟨va,vc,ev,-⟩:=gT.tab;subst ev;have hc:=Hd (show LawF w6 o3 (.slice ta (2^n) tc) (tabB n P)/\LawF w6 o3 (.slice ua (2^n) uc) (tabB n Q)/\LawF w6 o3 (.slice va (2^n) vc) (tabB n R) from ⟨(ha.out.1.chg (Zb3 gF.out o3)).chg (Zb3 go o3),(ha.out.2.chg (Zb3 gF.out o3)).chg (Zb3 go o3),gT⟩);have ke:=Hd ((go.block w4.heap.size (Array.getElem?_eq_some_iff.1 gA.out).1).trans gA.out);have gm:=Hd (kw.out.below go);have hN:=(go.block w4.heap.size (Array.getElem?_eq_some_iff.1 gA.out).1).trans gA.out;obtain⟨x0,x1,x2,x3,xf⟩:=cells4 hN;obtain⟨fs,gn⟩:∃ fs,fs=two++hs:=⟨_,rfl⟩;have h6:FxS Zh5 n (Zce n) wb mb q.plan NoB o3 w6 (fun _ _=>True) fs nx w6:=by
    rw[gn];exact⟨o3,m3,V3,ChgX.of_below (Below.refl _ _) o3 _,gm.out.st,gm.out.sat,trivial⟩
   have kp:=Hd (Zx0 (fun _ _ _ _ _ _=>trivial) h6 kind v' kf kg (.slice ta (2^n) tc) (.slice ua (2^n) uc));have HR:=Hd (show (kf,P)∈fs/\(kg,Q)∈fs/\(kb,R)∈fs/\v'<(n:Int) by rw[gn];exact⟨gs.out.1,gs.out.2.1,hR,gs.out.2.2⟩);have HB2:Hid (B2 fs):=Hd (by rw[gn];exact gm.out.b2);have gC:Hid (DepF n P/\DepF n Q/\DepF n R):=Hd ⟨gm.out.sat.dep gs.out.1,gm.out.sat.dep gs.out.2.1,gm.out.sat.dep hR⟩;have hC:=Hd gn;have hD:Hid (fs.length<=7):=Hd (by rw[gn];omega);have hA:=Hd hnx;clear d1 go hN gn h6 hR ko kw gA gs xf hnx ha gF gT;go_wp2_with fail;refine kp.out.mono ?_;rintro y w7 ⟨bm,bs,bf,bg,rfl,kD,h7⟩;have kd:FxS Zh5 n (Zce n) wb mb q.plan NoB o3 w6 (NxB bm bs bf bg mb kind v' kf kg) fs nx w7:=h7.withB fun o m V _ hh=>hh.2
   have h8:=Ybw (K:=Zh5) (n:=n) (room:=Zce n) (L:=60) (C:=NoB) (w0:=wb) (mb:=mb) (ws0:=q.plan) (kind:=kind) (v:=v') (kf:=kf) (kg:=kg) (P:=P) (Q:=Q) (bm:=bm) (bs:=bs) (bf:=bf) (bg:=bg) Zeu HR.out.2.2.2 (Zr0 gy);obtain⟨Φ,hΦ⟩:∃ Φ,Φ=Zeh kind v' P Q:=⟨_,rfl⟩;rw[<- hΦ] at h8;have HF:=Hd h8;have hE:Hid (∀ X,DepF n X->DepF n (Φ X)):=Hd (by rw[hΦ];exact fun X hX=>Zvy gC.out.1 gC.out.2.1 hX);have kM:Hid (∀ X,DepF n X->DepF n (orF R (Φ X))):=Hd fun F hF=>Zdq gC.out.2.2 (Zcm n true) (hE.out F hF)
   have hI:Hid (∀ l,∀ p∈[(kf,P),(kg,Q)],p∈fs++l):=Hd fun l p hp=>by
    simp only[List.mem_cons,List.not_mem_nil,or_false] at hp;rcases hp with rfl|rfl
    . exact List.mem_append_left _ HR.out.1
    . exact List.mem_append_left _ HR.out.2.1
   have kL:Hid (∀ l,l<=64->l*2^n<=Zce n):=Hd fun l hl=>Nat.le_trans (Nat.mul_le_mul_right _ hl) (Nat.le_trans (Nat.le_add_right _ _) (Zr0 gy))
   have eg:=Zja;have hz:=Hd hΦ;have kq:Hid (o3 w4.heap.size=none/\w4.heap.size<w6.heap.size/\w.heap.size<wb.heap.size):=Hd ⟨kN.out,(Array.getElem?_eq_some_iff.1 ke.out).1,Zaa (p:=⟨w.heap.size,0,none⟩) hH.out⟩;have hM:Hid (∀ fs' nx' W' (B':World->Own->Prop),FxS Zh5 n (Zce n) wb mb q.plan NoB o3 w6 B' fs' nx' W'->TabA n W' (.slice ta (2^n) tc) P/\TabA n W' (.slice ua (2^n) uc) Q/\TabA n W' (.slice va (2^n) vc) R/\W'.heap[w4.heap.size]?=some (.cells #[.int .i64 kind,.slice ta (2^n) tc,.slice ua (2^n) uc,.int .i64 v'] 57 (0,0))/\W'.cell? ⟨w.heap.size,0,none⟩=some (.int .i64 (n:Nat))):=Hd fun fs' nx' W' B' h=>by
    have kJ:=h.below0;obtain⟨o',m',V',q1,_⟩:=h;have t1:=hc.out.1.chg q1;have t2:=hc.out.2.1.chg q1;have t3:=hc.out.2.2.chg q1;exact⟨t1.tab,t2.tab,t3.tab,(q1.block _ kq.out.2.1 kq.out.1 (fun e=>e)).trans ke.out,(kJ.cell (p:=⟨w.heap.size,0,none⟩) (Zaa hH.out)).trans hH.out⟩
   have kr:=Hd gm.out;have kK:Hid (∀ W,FxS Zh5 n (Zce n) wb mb q.plan NoB o3 w6 (fun _ _=>True) fs nx W->True):=Hd fun _ _=>trivial
   have kv:=Hd (Zo8 Zeu HF.out 0 (by omega) kd HB2.out (fun p hp=>by have:=hI.out [] p hp;simpa using this) (by have:=hA.out;omega) (by have:=hD.out;omega));have kR:Hid (∀ i,DepF n (Zcy Φ (fun _=>false) i)):=Hd (Zh6 hE.out (Zcm n false));have kQ:Hid (∀ i,DepF n (Zcy Φ R i)):=Hd (Zh6 hE.out gC.out.2.2);have kP:Hid (∀ i,DepF n (Zcy (fun X=>orF R (Φ X)) R i)):=Hd (Zh6 kM.out gC.out.2.2);clear x0 x1 x2 x3 kp h7 kd h8 hΦ kD kK;go_wp2_with fail;refine kv.out.mono ?_;rintro y w8 ge;obtain⟨h1,k1,e1,r1,nx1,s1,rfl,gY,gZ,hT,hs1⟩:=Zm3 ge (by omega) (by omega);have gQ:=Hd hT;have kn:=Hd hs1;have g4:=hM.out _ _ _ _ hs1;obtain⟨x0,x1,x2,x3,xf⟩:=cells4 g4.2.2.2.1;have a0:=g4.2.2.2.2;have gG:=Hd g4;have kz:=Hd (Zwc (w:=w8.drew) false (n:=n) (by omega));have hB:=Hd (show nx<=nx1/\nx1<=nx+500000 from ⟨gY,gZ⟩);have gj:Below w8.heap.size w8 w8.drew:=Zaf w8 1;have kA:=Hd gj;have z0:=(gj.cell (p:=⟨w4.heap.size,0,none⟩) (Zaa x0)).trans x0;have z1:=(gj.cell (p:=⟨w4.heap.size,1,none⟩) (Zaa x1)).trans x1;have z2:=(gj.cell (p:=⟨w4.heap.size,2,none⟩) (Zaa x2)).trans x2;have z3:=(gj.cell (p:=⟨w4.heap.size,3,none⟩) (Zaa x3)).trans x3;have z4:=(gj.cell (p:=⟨w.heap.size,0,none⟩) (Zaa a0)).trans a0;clear ge hs1 hT g4 xf kv gY gZ gj x0 x1 x2 x3 a0;go_upto_region 12 with fail;refine Zfz [0,1,2,3,4,5,6,7,8,9,10,11] (fun W=>W.cell? ⟨w4.heap.size,0,none⟩=some (.int .i64 kind)/\W.cell? ⟨w4.heap.size,1,none⟩=some (.slice ta (2^n) tc)/\W.cell? ⟨w4.heap.size,2,none⟩=some (.slice ua (2^n) uc)/\W.cell? ⟨w4.heap.size,3,none⟩=some (.int .i64 v')/\W.cell? ⟨w.heap.size,0,none⟩=some (.int .i64 (n:Nat))) (fun ch w'=>False) (fun c a w hd h=>h.elim) (by kernel_rfl) ⟨z0,z1,z2,z3,z4⟩ ?_
   iterate 3
    refine Zdt rfl rfl (by kernel_rfl) ?_;apply Exists.intro;refine⟨fun w' hw=>?_,?_⟩
    . obtain⟨q0,q1,q2,q3,q4⟩:=hw;go_simp;rfl
    simp only[Zah]
   refine Zd7 (R1:=fun u w'=>(∃ a c,u=.slice a (2^n) c/\TabA n w' u (fun _=>false))/\Below w8.drew.heap.size w8.drew w') rfl (by kernel_rfl) rfl rfl (by go_simp) (kz.out.mono fun x w' ⟨u,h1,h2,h3⟩=>⟨u,h1,⟨by
    obtain⟨a,c,e,h⟩:=TabA.is h2;exact⟨a,c,e,a,c,e,h⟩,h3⟩⟩) (by rintro u w' ⟨_,hb⟩;exact⟨(hb.cell (p:=⟨w4.heap.size,0,none⟩) (Zaa z0)).trans z0,(hb.cell (p:=⟨w4.heap.size,1,none⟩) (Zaa z1)).trans z1,(hb.cell (p:=⟨w4.heap.size,2,none⟩) (Zaa z2)).trans z2,(hb.cell (p:=⟨w4.heap.size,3,none⟩) (Zaa z3)).trans z3,(hb.cell (p:=⟨w.heap.size,0,none⟩) (Zaa z4)).trans z4⟩) ?_
   rintro u w9 hS ⟨⟨a9,c9,rfl,hW⟩,kc⟩;have gD:=Hd (kA.out.trans (kc.mono kA.out.size));have g7:=Hd (Zmc (n:=n) gy (kind:=kind) HR.out.2.2.2 (gG.out.1.below gD.out) (gG.out.2.1.below gD.out) hW hz.out kR.out);unfold Zik at g7;obtain⟨z0,z1,z2,z3,z4⟩:=hS;clear hW kc kz;simp only[Zah];refine Zd7 (R1:=fun u w'=>(∃ u1 st b,u=.tuple #[u1,.int .i64 st,.bool b]/\RunV n Φ (fun _=>false) u1 st b w')/\Below w9.heap.size w9 w') rfl (by kernel_rfl) rfl rfl (by go_simp) (g7.out.mono fun x w' ⟨u,st,b,h1,h2,h3⟩=>⟨_,h1,⟨u,st,b,rfl,h2⟩,h3⟩) (by rintro u w' ⟨_,hb⟩;exact⟨(hb.cell (p:=⟨w4.heap.size,0,none⟩) (Zaa z0)).trans z0,(hb.cell (p:=⟨w4.heap.size,1,none⟩) (Zaa z1)).trans z1,(hb.cell (p:=⟨w4.heap.size,2,none⟩) (Zaa z2)).trans z2,(hb.cell (p:=⟨w4.heap.size,3,none⟩) (Zaa z3)).trans z3,(hb.cell (p:=⟨w.heap.size,0,none⟩) (Zaa z4)).trans z4⟩) ?_;rintro u wA-⟨⟨u1,st1,b1,rfl,gX⟩,ka⟩;have hy:=Hd gX;have hj:=Hd (kn.out.below NxB.keepB (gD.out.trans (ka.mono gD.out.size)));have gh:=Hd (Zny (by omega) hj.out (fun p hp=>List.mem_append_right _ hp) gQ.out gX);clear gX ka g7 kn gD z0 z1 z2 z3 z4 gG;simp only[Zah]
   iterate 7
    refine Zdt rfl rfl (by kernel_rfl) ?_;apply Exists.intro;refine⟨fun w' hw=>?_,?_⟩
    . go_simp;rfl
    simp only[Zah]
   refine Zks (by kernel_rfl) ?_;go_wp2_with fail;refine gh.out.mono ?_;rintro y wB ⟨rfl,k9⟩;have kk:=Hd (hj.out.below NxB.keepB k9);clear k9 gh hj
   go_upto_if 102 with fail
   go_cut [26] (fun sl wx=>sl=.int .i64 ((hs.length:Nat)+(r1.length:Nat))/\Hid (wB=wx))
   case first =>
    have gd:=gQ.out.len hy.out;cases b1 with
    | true =>
      have g5:r1.length=1:=gd;go_wp2_with fail;go_meet
      case rel=>exact⟨by rw[g5];rfl,Hd rfl⟩
    | false =>
      have g5:r1.length=0:=gd;go_wp2_with fail;go_meet
      case rel=>exact⟨by rw[g5];simp,Hd rfl⟩
   case rest =>
   obtain⟨rfl,gg⟩:=hcut;have gx:=gg.out;subst gx;have g5:r1.length<=1:=by have:=gQ.out.len hy.out;cases b1<;>simp_all
   have gc:=Hd g5;clear gg gQ hy g5;have ky:=Hd (Zov Zeu HF.out 0 (by omega) kk.out (HB2.out.app _) (hI.out _) (k0:=kb) (F0:=R) (List.mem_append_left _ HR.out.2.2.1) (by have:=hA.out;have:=hB.out;omega) (by have:=hD.out;have:=gc.out;simp;omega));go_wp2_with fail;refine ky.out.mono ?_;rintro y wC ge;obtain⟨h2,k2,e2,r2,nx2,s2,rfl,kF,kH,hQ,gK⟩:=Zm3 ge (by omega) (by omega);rw[List.append_assoc] at gK;have gP:=Hd hQ;have km:=Hd gK;have g4:=hM.out _ _ _ _ gK;obtain⟨x0,x1,x2,x3,xf⟩:=cells4 g4.2.2.2.1;have g7:=Hd (Zmc (n:=n) gy (kind:=kind) HR.out.2.2.2 g4.1 g4.2.1 g4.2.2.1 hz.out kQ.out);unfold Zik at g7;have kx:=Hd (show nx<=nx2/\nx2<=nx+1000000 by have:=hB.out;omega);clear ge gK hQ g4 xf ky kF kH kk hB;go_wp2_with fail;refine g7.out.mono ?_;rintro y wD ⟨u2,st2,b2,rfl,gV,k8⟩;have ht:=Hd gV;have hg:=Hd (km.out.below NxB.keepB k8);have gh:=Hd (Zny (by omega) hg.out (fun p hp=>List.mem_append_right _ (List.mem_append_right _ hp)) gP.out gV);clear gV k8 g7 km x0 x1 x2 x3;go_wp2_with fail;refine gh.out.mono ?_;rintro y wE ⟨rfl,k7⟩;have kj:=Hd (hg.out.below NxB.keepB k7);clear k7 gh hg
   go_upto_if 129 with fail
   go_cut [26] (fun sl wx=>sl=.int .i64 ((hs.length:Nat)+(r1.length:Nat)+(r2.length:Nat))/\Hid (wE=wx))
   case first =>
    have gd:=gP.out.len ht.out;have g5:=gc.out;cases b2 with
    | true =>
      have g8:r2.length=1:=gd;go_wp2_with fail;go_meet
      case rel=>exact⟨by rw[g8];rfl,Hd rfl⟩
    | false =>
      have g8:r2.length=0:=gd;go_wp2_with fail;go_meet
      case rel=>exact⟨by rw[g8];simp,Hd rfl⟩
   case rest =>
   obtain⟨rfl,gg⟩:=hcut;have gx:=gg.out;subst gx;have g8:r2.length<=1:=by have:=gP.out.len ht.out;cases b2<;>simp_all
   have gw:=Hd g8;clear gg gP ht g8;have kh:=Hd (Zw1 Zeu HF.out (fun k e=>e.elim) 0 (by omega) kj.out (HB2.out.app _) (hI.out _) (q:=kb) (Q:=R) (List.mem_append_left _ HR.out.2.2.1) (by have:=hA.out;have:=kx.out;omega) (by have:=hD.out;have:=gc.out;have:=gw.out;simp;omega) (kL.out _ (by omega)));go_wp2_with fail;refine kh.out.mono ?_;rintro y wF ge;obtain⟨h3,k3,e3,r3,nx3,s3,rfl,kE,kG,hP,gJ⟩:=Zm3 ge (by omega) (by omega);rw[List.append_assoc,List.append_assoc] at gJ;have gO:=Hd hP;have kl:=Hd gJ;have g4:=hM.out _ _ _ _ gJ;obtain⟨x0,x1,x2,x3,xf⟩:=cells4 g4.2.2.2.1;have g7:=Hd (Zwb (n:=n) gy (kind:=kind) HR.out.2.2.2 g4.1 g4.2.1 g4.2.2.1 g4.2.2.1 hz.out kP.out);unfold Zik at g7;clear ge gJ hP g4 xf kh kE kG kj kx;go_wp2_with fail;refine g7.out.mono ?_;rintro y wG ⟨u3,st3,b3,rfl,gU,k6⟩;have ho:=Hd gU;have he:=Hd (kl.out.below NxB.keepB k6);have gh:=Hd (Zny (by omega) he.out (fun p hp=>List.mem_append_right _ (List.mem_append_right _ (List.mem_append_right _ hp))) gO.out gU);clear gU k6 g7 kl x0 x1 x2 x3
   go_upto_if 148 with fail
   go_cut [26] (fun sl wx=>sl=.int .i64 ((hs.length:Nat)+(r1.length:Nat)+(r2.length:Nat)+(r3.length:Nat))/\Hid (wG=wx))
   case first =>
    have gd:=gO.out.len ho.out;have g5:=gc.out;have g8:=gw.out;cases b3 with
    | true =>
      have ga:r3.length=1:=gd;go_wp2_with fail;go_meet
      case rel=>exact⟨by rw[ga];rfl,Hd rfl⟩
    | false =>
      have ga:r3.length=0:=gd;go_wp2_with fail;go_meet
      case rel=>exact⟨by rw[ga];simp,Hd rfl⟩
   case rest =>
   obtain⟨rfl,gg⟩:=hcut;have gx:=gg.out;subst gx;have ga:r3.length<=1:=by have:=gO.out.len ho.out;cases b3<;>simp_all
   clear gg gO ho;have hm:=Hd ga
   have ku:Hid (∀ W,FxS Zh5 n (Zce n) wb mb q.plan NoB o3 w6 (NxB bm bs bf bg mb kind v' kf kg) (fs++(r1++(r2++r3))) nx3 W->∀ z:Int,z=(hs.length:Nat)+(r1.length:Nat)+(r2.length:Nat)+(r3.length:Nat)->Calls prog 29 #[.pointer (some ⟨mb,0,none⟩),.int .i64 z] W fun x w'=>x=.returned (.bool true)/\W=w'):=Hd (by
    rintro W ⟨o,m,V,_,_,h3,_⟩ z rfl;have hq:=Zxs h3 (hs.length+r1.length+r2.length+r3.length) (by have:=gc.out;have:=gw.out;have:=hm.out;omega);rw[Int.natCast_add,Int.natCast_add,Int.natCast_add] at hq;refine hq.mono fun e w' ⟨h1,h2⟩=>⟨?_,h2⟩
    rw[h1,decide_eq_true (by rw[hC.out];simp[two];omega)])
   have kC:Hid (∀ W,FxS Zh5 n (Zce n) wb mb q.plan NoB o3 w6 (NxB bm bs bf bg mb kind v' kf kg) (fs++(r1++(r2++r3))) nx3 W->Calls prog 28 #[.pointer (some ⟨mb,0,none⟩),.slice al hs.length cl,vx] W fun x w'=>x=.returned (.bool true)/\Below W.heap.size W w'):=Hd (by
    rintro W ⟨o,m,V,h1,h2,h3,h4⟩;have hl:=kr.out.l.chg h1;have hx:=kr.out.x.chg h1;exact Zzy h3 (by omega) (Zvg hl hx (fun p hp=>by rw[hC.out];exact List.mem_append_left _ (gE.out p hp)) (by omega)))
   clear gc gw hm ga;go_wp2_with fail;refine gh.out.mono ?_;rintro y wH ⟨rfl,k5⟩;have gl:=Hd (he.out.below NxB.keepB k5);clear k5 gh he;go_wp2_with fail;refine(ku.out wH gl.out _ rfl).mono ?_;rintro y w' ⟨rfl,rfl⟩;go_wp2_with fail;refine(kC.out wH gl.out).mono ?_;rintro y wl ⟨rfl,k4⟩;have hJ:=Hd (gl.out.below0.trans (k4.mono gl.out.below0.size));have gr:=Hd (Zkm Zeu wl);clear k4 kC ku gl;go_wp2_with fail;refine gr.out.mono ?_;rintro y wm ⟨rfl,hZ⟩;have kO:=Hd (kB.out.trans ((hJ.out.trans (hZ.mono hJ.out.size)).mono kB.out.size));clear hZ gr;go_wp2_with fail;go_ret;exact⟨rfl,kO.out⟩
theorem runs_walk (q:AskD)(ao ae ap:Option Addr)(co ce cp:Nat)(kind pp qq vv fr:Int)(w:World)(h:AskAt w q ao ae ap) :
 Calls prog 7 #[askV q ao ae ap co ce cp,.int .i64 kind,.int .i64 pp,.int .i64 qq,.int .i64 vv,.int .i64 fr] w fun y w'=>y=.returned (.bool true)/\Below w.heap.size w w' :=
 Ztp { q with plan:=[] } rfl ao ae co ce _ kind pp qq vv fr w ⟨h.vars,h.order,h.es,⟨by simp,fun k hk=>by simp at hk⟩⟩
end Go.Proofs.YtkbegdkpboklpaaGreat
