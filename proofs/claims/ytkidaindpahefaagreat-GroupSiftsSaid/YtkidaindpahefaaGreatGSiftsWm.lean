/- The walk of a law: GSiftsW. -/
import Derived.Test.YtkidaindpahefaaGreatY10
set_option linter.unusedSimpArgs false
set_option linter.unusedVariables false
set_option linter.unusedSectionVars false
set_option linter.unnecessarySimpa false
set_option maxRecDepth 100000
set_option maxHeartbeats 8000000
namespace Go.Proofs.YtkidaindpahefaaGreat
open Go.Proofs.Tryz
open Go.RowKit
theorem groupsifts_walk (q:AskD)(ao ae ap:Option Addr)(co ce cp:Nat)(lv0:Value)(gs0:List (List Int))(grow raw:Int)(w:Wd)(h:AskAt w q ao ae ap)(hlc:SlsC w lv0 gs0) :
 Cl 3 #[askV q ao ae ap co ce cp,lv0,Iv grow,Iv raw] w (Bl (.bool true) w):=by
 have Hp:=Hd hlc;obtain⟨al0,cl0,xs0,rfl,-,-,-,-,-⟩:=hlc;have gd:Hq (∀ W,Bw w W->∀ u,u=askV q ao ae ap co ce cp->Cl 14 #[u] W fun y w'=>∃ b,y=.returned (.bool b)/\(b=true->D7 q)/\Bw W w'):=Hd fun W hb u hu=>by subst hu;exact Rv q ao ae ap co ce cp W (h.below hb)
 have gc:Hq (∀ W n,Bw w W->D7 q->q.vars=(n:Nat)->∀ u,u=.agg #[Iv q.vars,.slice ao q.order.length co,.slice ae q.es.length ce,.slice none 0 0]->Cl 17 #[u] W (SetP D4 { q with plan:=[] } n W)):=Hd fun W n hb hs hn u hu=>by subst hu;exact Ty PU { q with plan:=[] } ao ae none co ce 0 W ⟨(h.below hb).vars,(h.below hb).order,(h.below hb).es,⟨by simp,fun k hk=>by simp at hk⟩⟩ (UV hs) n hn
 obtain⟨vars,gj⟩:∃ z,z=q.vars:=⟨_,rfl⟩;have HV:=Hd gj;obtain⟨plen,gT⟩:∃ z,z=q.plan.length:=⟨_,rfl⟩;unfold askV at gd ⊢;rw[<- gj,<- gT] at gd ⊢;rw[<- gj] at gc;obtain⟨olen,gV⟩:∃ z,z=q.order.length:=⟨_,rfl⟩;obtain⟨elen,gX⟩:∃ z,z=q.es.length:=⟨_,rfl⟩;rw[<- gV,<- gX] at gd gc ⊢;obtain⟨w1,gR⟩:=Ex (w.alloc (.cells #[Iv vars,.slice ao olen co,.slice ae elen ce,.slice ap plen cp] 26));have HW1:Hq (_=w1):=Hd gR.symm;have gr:Hq (Bw w w1):=by rw[gR];exact Hd (Af _ _)
 have g4:w1.heap[w.heap.size]?=some (.cells #[Iv vars,.slice ao olen co,.slice ae elen ce,.slice ap plen cp] 26 (0,0)):=by rw[gR];exact Vq _ _
 have d0:w1.cell? (Av w.heap.size)=some (Iv vars):=by rw[Vp _ _ 0 _ _ _ g4];rfl
 have d1:w1.cell? (Aw w.heap.size 1)=some (.slice ao olen co):=by rw[Vp _ _ 1 _ _ _ g4];rfl
 have d2:w1.cell? (Aw w.heap.size 2)=some (.slice ae elen ce):=by rw[Vp _ _ 2 _ _ _ g4];rfl
 have d3:w1.cell? (Aw w.heap.size 3)=some (.slice ap plen cp):=by rw[Vp _ _ 3 _ _ _ g4];rfl
 have hT:=Hd g4;have Hi:Hq (w.heap.size<w1.heap.size):=Hd (Vm.1 g4).1;clear h gR g4 gj gT gV gX
 go_enter func3,ntmps3
 go_upto_region 1 with fail;rw[HW1.o];have hN:=Hd (TV (Hp.o.below gr.o));go_wp2_with fail;refine hN.o.mono ?_;rintro y w1c ⟨u0,rfl,gS,h5,gl⟩;obtain⟨au,cu,rfl,-⟩:=gS.slice;obtain⟨gs,gA⟩:∃ g,g=cutG gs0:=⟨_,rfl⟩;have Hv:gs.length<=8:=by rw[gA];exact MV _
 have hM:Hq (∀ g∈gs,g.length<=8):=Hd (by rw[gA];exact MW);have Hf:gs.flatten.length<=64:=by rw[gA];exact TS _
 rw[<- gA] at gS h5 ⊢;have Hl:=Hd gS;have Hk:Hq ((Value.slice au gs.length cu).ownBlock≠some w.heap.size):=Hd fun e=>by have h1:=h5 _ e;have h2:=Hi.o;omega
 have gq:=Hd ((gl.block _ (Vm.1 hT.o).1).trans hT.o);have gr:=Hd (gr.o.trans (gl.mono gr.o.size));have d0:=Cq gl d0;have d1:=Cq gl d1;have d2:=Cq gl d2;have d3:=Cq gl d3;clear gA gS h5 gl hN;go_wp2_with fail;refine(gd.o _ gr.o _ rfl).mono ?_;rintro y w2 ⟨b,rfl,hb,g5⟩;have HB:=Hd hb;have gz:=Hd (gr.o.trans (g5.mono gr.o.size));have gq:=Hd ((g5.block _ (Vm.1 gq.o).1).trans gq.o);have hy:=Hd (Hl.o.below g5);have kC:Hq (∀ W,Cl 16 #[] W (Bl (.bool true) W)):=Hd fun W=>Nd (K:=D4) W
 have e0:=Cq g5 d0;have e1:=Cq g5 d1;have e2:=Cq g5 d2;have e3:=Cq g5 d3;have gZ:=Hd (Nd (K:=D4) w2);clear hb g5 gd d0 d1 d2 d3 HW1;cases b with
 | false =>
   go_wp2_with fail;refine gZ.o.mono ?_;rintro y w3 ⟨rfl,gE⟩;have hX:=Hd (gz.o.trans (gE.mono gz.o.size));clear gE;go_wp2_with fail;go_ret;exact⟨rfl,hX.o⟩
 | true =>
   have gI:=Hd (HB.o (by first|rfl|trivial));obtain⟨n,hn⟩:∃ n:Nat,vars=(n:Nat):=⟨vars.toNat,by have:=gI.o.lo;have:=HV.o;omega⟩;subst hn;have H8:n<=6:=by have:=gI.o.hi;have:=HV.o;omega
   have ka:1<=n:=by have:=gI.o.lo;have:=HV.o;omega
   have Hw:q.es.length<=5:=gI.o.es;have kM:=Hd (Q9 (n:=n) hy.o (by omega) (by omega));go_wp2_with fail;refine kM.o.mono ?_;rintro y w2c ⟨e,rfl,gB,g6⟩;have kN:=Hd gB;have hU:=Hd (gz.o.trans (g6.mono gz.o.size));have gJ:=Hd (hy.o.below g6);have f0:=Cq g6 e0;have f1:=Cq g6 e1;have f2:=Cq g6 e2;have f3:=Cq g6 e3;have fb:=(g6.block w.heap.size (Vm.1 gq.o).1).trans gq.o;clear gB g6 kM e0 e1 e2 e3 gZ
   by_cases he:e=0
   ·subst he;have Hr:=Hd fb;obtain⟨g0,g1,g2,g3,gf⟩:=cells4 fb;obtain⟨w2s,gk⟩:∃ W,W=w2c.setCell (Aw w.heap.size 3) (.slice none 0 0):=⟨_,rfl⟩;have ht:Hq (_=w2s):=Hd gk.symm;have hS:Hq (Bw w w2s):=Hd (by rw[gk];exact hU.o.setCell (Vo _) _);have g4:w2s.heap[w.heap.size]?=some (.cells #[Iv (n:Nat),.slice ao olen co,.slice ae elen ce,.slice none 0 0] 26 (0,0)):=by rw[gk];exact A5 Hr.o _
    obtain⟨e0,e1,e2,e3,-⟩:=cells4 g4;have kv:Hq (AL w2s (.slice au gs.length cu) gs):=Hd (by rw[gk];exact UU gJ.o Hk.o f3 (fun i e=>by cases e));have hC:=Hd (gc.o w2s n hS.o gI.o rfl _ rfl);clear gc HB gk g4 fb;go_upto_region 5 with fail;rw[ht.o];clear ht g0 g1 g2 g3 gf f0 f1 f2 f3;go_wp2_with fail;refine hC.o.mono ?_;rintro y w3 ⟨mb,vl,vx,wb,hs,nx,rfl,gg,h8,hnx,o3,m3,V3,lt3,-⟩;have He:hs.length<=5:=by have:=Wb List.length h8;simp at this;omega
    obtain⟨alh,cl,H3⟩:∃ a c,vl=.slice a hs.length c:=by
     obtain⟨a,c,e,_⟩:=lt3.l.own.slice;exact⟨a,c,by rw[e];simp[Aq]⟩
    subst H3;have Hu:Hq (∀ p∈hs,p∈two++hs):=Hd fun p hp=>X0 _ hp
    have kg:(two++hs).length=2+hs.length:=by simp[two];omega
    have k3:Hq (∀ k,k<=192->k*2^n<=Bf n):=Hd fun k hk=>MB hk
    have kP:Hq (wb.cell? (Av w.heap.size)=some (Iv (n:Nat))):=Hd (Cq gg e0);have c0:=(lt3.below0.cell (p:=Av w.heap.size) (Ah (Cq gg e0))).trans (Cq gg e0);have kV:Hq (Bw w wb):=Hd (hS.o.trans (gg.mono hS.o.size));have kU:=Hd gg;have kz:=Hd (kv.o.below (gg.trans (lt3.below0.mono gg.size)));have Hx:Hq (∀ p∈two++hs,p.1<nx):=Hd fun p hp=>(lt3.sat.range p hp).2
    have HL:=Hd ((lt3.withOd (Od':=fun _=>True) trivial).withSt (Wt':=SufW []) (by rw[lt3.st.1];exact List.suffix_refl _));clear lt3 gg h8 hC e0 e1 e2 e3;have kt:Hq (∀ W',Bw w3 W'->Cl 62 #[Pt mb] W' (Sm (Iv (n:Nat)) W')):=Hd fun W' hb=>(HL.o.below hb).sat.vars_any.mono fun x w' h=>h
    have kJ:=Hd (Lh kt.o kz.o (by omega) (by omega) (by omega) ka)
    have HQ:Hq (Q23 n hs nx):=Hd ⟨ka,H8,He,by omega,by
     have:=k3.o (3*(two++hs).length) (by rw[kg];omega);rw[Nat.mul_assoc] at this;exact this⟩
    have ku:Hq (∀ W,Bw wb W->AL W (.slice au gs.length cu) gs):=Hd fun W hb=>kv.o.below (kU.o.trans (hb.mono kU.o.size))
    clear kz hnx;go_wp2_with fail;refine kJ.o.mono ?_;rintro y w4 ⟨gD,e,gB,gY⟩;obtain rfl:e=0:=gB.uniq kN.o;obtain⟨gb,lv,rfl,kf⟩:∃ gb lv,y=.returned (.tuple #[Pt gb,Iv 0])/\GrM w3.heap.size mb gb lv (AY gs n) w4:=by
     rcases gY with ⟨H7,_⟩|⟨_,gb,lv,h1,h2⟩
     . exact(H7 rfl).elim
     . exact⟨gb,lv,h1,h2⟩
    have gh:=Hd (KM kN.o);have Ha:(AY gs n).length<=100:=by rw[DP,Vr,Vw];have:=Eu gs.flatten n;omega
    have kE:Hq (∀ g∈AY gs n,g.length<=8):=Hd fun g hg=>by
     rw[DP] at hg;rcases Vy.1 hg with hg|hg
     . exact hM.o g hg
     . obtain⟨v,_,rfl⟩:=Vz.1 hg;simp
    have kK:=Hd (kf.toB (o:=o3) (by omega) fun k hk=>HL.o.sat.lt.none hk);have hZ:Hq (∀ zs,BV (AY gs n) zs n->BV gs zs n):=Hd fun zs h=>⟨h.1,h.2.1,Q0.1 h.2.2⟩
    have hL:Hq (∀ W v x,Bw wb W->SliceIs W v x->x.length<=64->Cl 27 #[.slice au gs.length cu,v,Iv (n:Nat)] W fun x' w'=>∃ u,x'=.returned u/\OwnI w' W.heap.size u (gather (AY gs n) (AT (AY gs n) x))/\Bw W w'):=Hd fun W v x hb hv hx =>
     TR (ku.o W hb) hv hx (by omega) (fun g hg=>by have:=hM.o g hg;omega) (by omega)
    have hJ:Hq (∀ W v zs,Bw wb W->SliceIs W v zs->zs.length=n->BV (AY gs n) zs n->Cl 24 #[.slice au gs.length cu,v,Iv (n:Nat)] W (Bl (.bool true) W)):=Hd fun W v zs hb hv hz hk =>
     (TI (n:=n) (ku.o W hb) hv (by omega) (by omega) (fun g hg=>by have:=hM.o g hg;omega)).mono fun x w' ⟨b,h1,h2,h3⟩=>⟨by rw[h1,h2.2 (hZ.o zs hk)],h3⟩
    obtain⟨al,kp⟩:∃ x,x=AY gs n:=⟨_,rfl⟩;rw[<- kp] at gh Ha kE kK hL hJ;obtain⟨BG,gG⟩:=Ex (fun W o=>LwB n wb.heap.size (.slice alh hs.length cl) vx hs W o/\GrB mb gb lv al W o:Wd->Own->Prop)
    have kG:Hq (AR BG):=Hd (by rw[gG];exact LwB.keep.and GrB.keep);have HG:Hq (∀ W o,BG W o->GrB mb gb lv al W o):=Hd fun W o hh=>by rw[gG] at hh;exact hh.2
    have ge:Hq (∀ W o,BG W o->LwB n wb.heap.size (.slice alh hs.length cl) vx hs W o):=Hd fun W o hh=>by rw[gG] at hh;exact hh.1
    have kL:Hq (FxO D4 n (Bf n) wb mb [] NoB o3 w3 BG (fun _=>True) (two++hs) nx w4):=Hd ⟨o3,m3,V3,ChgX.of_below gD o3 NoB,HL.o.st,HL.o.sat.below gD,by
     rw[gG];exact⟨⟨HL.o.l.chg (ChgX.of_below gD o3 NoB),HL.o.x.chg (ChgX.of_below gD o3 NoB)⟩,kK.o⟩⟩
    have gK:=Hd (FxO.order kG.o kL.o);clear kf kp Hf gG gB gY gD kJ c0 kt hZ;go_wp2_with fail;refine gK.o.mono ?_;rintro y w5 ⟨v5,l,rfl,hl,-,ha,-,ga,-⟩;obtain⟨zs,gQ⟩:=Ex (l.map Int.ofNat);have h0:zs.length=n:=by rw[gQ,Vw,hl]
    rw[<- gQ] at ha ga;have H6:SliceIs w5 v5 zs:=ga.know (Q:=fun W=>SliceIs W v5 zs) fun W o hh=>hh.2.slice
    obtain⟨a5,c5,rfl,-,-⟩:=H6;rw[h0] at ga ⊢;have ga:=ga.imp (P':=fun l'=>l'.map Int.ofNat=zs) fun l' _ e=>by rw[e];exact gQ.symm
    have gN:=Hd ga;have gv:=Hd (show Ay zs=true/\zs.length=n from ⟨ha,h0⟩);have go:Hq (AR fun W o=>BG W o/\AM (.slice a5 n c5) zs W o):=Hd (kG.o.and AM.keep);have H0:Hq (∀ P' W,FxO D4 n (Bf n) wb mb [] NoB o3 w3 (fun W o=>BG W o/\AM (.slice a5 n c5) zs W o) P' (two++hs) nx W->SliceIs W (.slice a5 n c5) zs):=Hd fun P' W h=>h.know (Q:=fun W=>SliceIs W (.slice a5 n c5) zs) fun W o hh=>hh.2.slice
    obtain⟨ST,gF⟩:=Ex (fun z W=>FxO D4 n (Bf n) wb mb [] NoB o3 w3 (fun W o=>BG W o/\AM (.slice a5 n c5) zs W o) (fun l'=>l'.map Int.ofNat=z) (two++hs) nx W:List Int->Wd->Prop)
    have gc:=Hd gF;have ky:Hq (ST zs w5):=Hd (by rw[gF];exact ga);obtain⟨kb,ke,kd⟩:∃ b:Bool,(b=true↔known (two++hs) raw)/\Cl 20 #[Pt mb,Iv raw] w5 (Sm (.bool b) w5):=by
     obtain⟨b,hb⟩:=Gz (known (two++hs) raw);exact⟨b,hb,ga.ask fun o m V hs _=>NI hs raw hb⟩
    have gM:=Hd ke;have gL:=Hd kd;have gO:Hq (∀ W,ST zs W->Cl 19 #[Pt mb] W fun x w'=>∃ v,x=.returned v/\SliceIs w' v zs/\SliceIs w' (.slice a5 n c5) zs/\ST zs w'):=Hd fun W h=>by
     rw[gF] at h ⊢;refine(h.order go.o).mono ?_;rintro x w' ⟨v,l',rfl,_,hP,_,_,hf,_⟩;rw[hP] at hf;refine⟨v,rfl,hf.know (Q:=fun W=>SliceIs W v zs) fun W o hh=>hh.2.slice,hf.know (Q:=fun W=>SliceIs W (.slice a5 n c5) zs) fun W o hh=>hh.1.2.slice,(hf.withB fun _ _ _ _ hh=>hh.1).imp fun l' _ e=>by rw[e];exact hP⟩
    have hA:Hq (∀ W W',ST zs W->Bw W W'->ST zs W'):=Hd fun W W' h hb=>by
     rw[gF] at h ⊢;exact h.below go.o hb
    clear hl ha gQ h0 ga gF ke kd gK kL;go_upto_region 12 with fail
    go_cut [69] (fun s69 wx=>∃ bb:Bool,s69=.bool bb/\Hq (bb=true->¬ known (two++hs) raw)/\Hq (w5=wx))
    case first =>
     by_cases k0:raw=0
     ·have k0b:(raw != 0)=false:=by simp[k0]
      clear gL gM;go_wp2_with fail;go_meet
      case rel=>exact⟨false,by first|rfl|simp,Hd fun e=>(by cases e),Hd rfl⟩
     ·have k0b:(raw != 0)=true:=by simp[k0]
      by_cases k1:raw=1
      ·have k1b:(raw != 1)=false:=by simp[k1]
       clear gL gM;go_wp2_with fail;go_meet
       case rel=>exact⟨false,by first|rfl|simp,Hd fun e=>(by cases e),Hd rfl⟩
      ·have k1b:(raw != 1)=true:=by simp[k1]
       go_wp2_with fail;refine gL.o.mono ?_;rintro y w5' ⟨rfl,rfl⟩;have HN:Hq ((!kb)=true->¬ known (two++hs) raw):=Hd fun e h=>by rw[gM.o.2 h] at e;cases e
       clear gL gM k0 k1;go_wp2_with fail;go_meet
       case rel=>exact⟨!kb,by first|rfl|simp,HN,Hd rfl⟩
    case rest =>
    obtain⟨bb,rfl,hH,kr⟩:=hcut;have H2:=kr.o;subst H2;clear kr gL gM
    go_upto_if 69 with fail
    go_cut [16,17] (fun _ _ wx=>Hq (ST zs wx))
    case first =>
     cases bb with
     | false =>
       go_wp2_with fail;go_meet
       case rel=>exact ky
     | true =>
       have Ho:=Hd (hH.o rfl);obtain⟨ax,cx,evx⟩:∃ a c,vx=.slice a hs.length c:=by
        obtain⟨o,m,V,_,_,_,h4⟩:=gN.o;obtain⟨a,c,e,_⟩:=(ge.o _ _ h4.1).rowT HQ.o (Vo _);exact⟨a,c,e⟩
       have hB:Hq (Au (w5.alloc (.cells #[] 3)) alh (hs.map Prod.fst)):=Hd (by
        obtain⟨o,m,V,_,_,_,h4⟩:=gN.o;exact((ge.o _ _ h4.1).arg (w0:=wb) HQ.o).z.below (Af w5 _))
       have hI:Hq (alh=none->cl=0):=Hd fun e=>by
        obtain⟨o,m,V,_,_,_,h4⟩:=gN.o;obtain⟨a,c,e2,H9⟩:=(ge.o _ _ h4.1).1.own.slice;injection e2 with e3 _ e5
        rw[e5];exact H9 (by rw[<- e3];exact e)
       have hW:Hq (∀ w8 u,Bw w5 w8->OwnI w8 w5.heap.size u (hs.map Prod.fst++[raw])->Cl 21 #[Pt gb,Iv grow,u] w8 fun e w'=>e=.returned (.tuple #[Iv 0,Iv 8])/\ST zs w'):=Hd fun w8 u hb ho=>by
        rw[gc.o];obtain⟨g8,c8,rfl,Hg,kY⟩:=ho.shape (by simp);have H1:=ho.sliceIs (by simp;omega);obtain⟨a8,c8',e8,hz,-⟩:=H1;injection e8 with q1 q2 q3
        subst q1;refine(Vg (B:=fun W o=>(BG W o/\AM (.slice a5 n c5) zs W o)/\ArgB wb (some (Av g8)) (hs.map Prod.fst++[raw]) W o) (go.o.and ArgB.keep) (fun W o hh=>HG.o W o hh.1.1) (fun W o hh=>hh.2) ⟨raw,by simp,Ho.o⟩ grow (gN.o.argMine go.o hb hz Hg kY)).mono ?_;rintro e w' ⟨rfl,hf⟩;exact⟨rfl,hf.withB fun _ _ _ _ hh=>hh.1⟩
       have hd:(hs.map Prod.fst).length=hs.length:=by simp
       have hK:=Hd hd;have Hqz:Hq ((hs.map Prod.fst++[raw]).length=hs.length+1):=Hd (by simp);clear hH evx hd
       go_upto_region 14 with (at_builtin;first
        | (refine CQ w7 rfl _ _ rfl w5.heap.size w5 _ (hs.map Prod.fst) raw rfl rfl rfl rfl kq.o (by have:=hK.o;omega) hm kW.o ?_;intro v8 w8 gy kn H5 Hb;have kQ:=Hd (hW.o w8 v8 kn gy);obtain⟨g8,d8,e8,-,-⟩:=gy.shape (by simp);rw[Hqz.o] at e8;subst e8;clear gy kn H5 Hb)
        | (rw[<- hK.o];refine Dn rfl _ _ rfl w5.heap.size w5 _ [] (hs.map Prod.fst) alh cl rfl rfl (UW w5) hB.o (by have:=hK.o;simp;omega) (Af w5 _).size (Af w5 _) hI.o ?_;intro v7 w7 gU ko gt Hc;have kq:=Hd (show OwnI w7 w5.heap.size v7 (hs.map Prod.fst) from gU);have kW:=Hd ko;have hm:=gt;clear gU ko gt Hc))
       refine kQ.o.mono ?_;rintro y w9 ⟨rfl,k7⟩;have kB:=Hd (gO.o w9 k7);clear k7 kQ hW hB hI kq kW hm gO;go_wp2_with fail;refine kB.o.mono ?_;rintro y wA ⟨vA,rfl,k6,k5,h7⟩;have gd:=Hd (La k6 k5 (by have:=gv.o.2;omega));rw[We rfl] at gd;have gn:=Hd h7;obtain⟨aA,cA,rfl,-,-⟩:=k6;clear k5 h7 kB;go_wp2_with fail;refine gd.o.mono ?_;rintro y wB ⟨rfl,gC⟩;have gi:=Hd (hA.o wA wB gn.o gC);clear gC gd gn;go_wp2_with fail;go_meet
       case rel=>exact gi
    case rest =>
    have kx:=hcut;clear ky gN hH gO hA H0 hcut
    rename Wd=>w6
    have h6:=kx.o;rw[gc.o] at h6
    have kw:Hq (Cl 21 #[Pt gb,Iv grow,.slice alh hs.length cl] w6 fun e w'=>∃ now:List Int,e=.returned (.tuple #[Iv (szO n (hs.map Prod.snd) now:Nat),Iv 0])/\BV al now n/\szO n (hs.map Prod.snd) now<=szO n (hs.map Prod.snd) (gather al (AT al zs))/\ST now w'):=Hd (by
     have:=Vf (c:=cl) (a:=alh) (ks:=hs.map Prod.fst) (Fs:=hs.map Prod.snd) go.o (fun W o hh=>HG.o W o hh.1) gh.o (by omega) HQ.o.nx HQ.o.room (fun W o hh=>(ge.o W o hh.1).arg (w0:=wb) HQ.o) (by simp) UT HQ.o.big grow h6;rw[Vw] at this;refine this.mono ?_;rintro e w' ⟨p0,p1,h1,h2,h3,rfl,h4⟩;have e0:p0=AT al zs:=h1.uniq (I4 gh.o gv.o.1 gv.o.2);rw[e0] at h3;exact⟨_,rfl,KN gh.o (J1 gh.o h1 h2),h3,by rw[gc.o];exact h4⟩)
    have gH:Hq (BV al (gather al (AT al zs)) n):=Hd (KN gh.o (I4 gh.o gv.o.1 gv.o.2));clear h6 kx;go_wp2_with fail;refine kw.o.mono ?_;rintro y w7 ⟨now,rfl,kc,hc,gt⟩;obtain⟨s1,hs1⟩:∃ q,q=szO n (hs.map Prod.snd) now:=⟨_,rfl⟩;obtain⟨want,gx⟩:∃ q,q=gather al (AT al zs):=⟨_,rfl⟩;obtain⟨s0,h9⟩:∃ q,q=szO n (hs.map Prod.snd) want:=⟨_,rfl⟩;rw[<- gx] at hc gH;rw[<- h9,<- hs1] at hc;rw[<- hs1];have Ht:(s1:Int)<=(s0:Int):=by omega
    have g9:=Hd kc;have Hm:=Hd hs1;have Hn:=Hd h9;have Hj:=Hd gx;rw[gc.o] at gt;have gK:=Hd (gt.order go.o);clear kc gt hs1 h9 gx hc kw;go_wp2_with fail;refine gK.o.mono ?_;rintro y w8 ⟨v8,l8,rfl,-,hq,-,-,gu,-⟩;rw[hq] at gu;have gu:=gu.imp (P':=fun l'=>l'.map Int.ofNat=now) fun l' _ e=>by rw[e];exact hq
    obtain⟨a8,c8,e8,-,-⟩:=gu.know (Q:=fun W=>SliceIs W v8 now) fun W o hh=>hh.2.slice
    have k9:now.length=n:=g9.o.1;rw[k9] at e8;subst e8;obtain⟨S2,g7⟩:=Ex (fun W=>FxO D4 n (Bf n) wb mb [] NoB o3 w3 (fun W o=>(BG W o/\AM (.slice a5 n c5) zs W o)/\AM (.slice a8 n c8) now W o) (fun l'=>l'.map Int.ofNat=now) (two++hs) nx W:Wd->Prop)
    have gw:Hq (S2 w8):=Hd (by rw[g7];exact gu);have gi:Hq (∀ W W',S2 W->Bw W W'->S2 W'):=Hd fun W W' h hb=>by
     rw[g7] at h ⊢;exact h.below (go.o.and AM.keep) hb
    have hG:Hq (∀ W,S2 W->Au W a8 now):=Hd fun W h=>by
     rw[g7] at h;obtain⟨a,c,e,hz,_⟩:=h.know (Q:=fun W=>SliceIs W (.slice a8 n c8) now) fun W o hh=>hh.2.slice
     injection e with e1 _ _
     subst e1;exact hz
    have gP:Hq (∀ W,S2 W->SliceIs W (.slice a8 n c8) now):=Hd fun W h=>by
     rw[g7] at h;exact h.know (Q:=fun W=>SliceIs W (.slice a8 n c8) now) fun W o hh=>hh.2.slice
    have kZ:Hq (∀ W,S2 W->SliceIs W (.slice a5 n c5) zs):=Hd fun W h=>by
     rw[g7] at h;exact h.know (Q:=fun W=>SliceIs W (.slice a5 n c5) zs) fun W o hh=>hh.1.2.slice
    have gp:Hq (∀ W,S2 W->Bw wb W):=Hd fun W h=>by
     rw[g7] at h;exact h.below0
    have kO:Hq (∀ W,S2 W->W.cell? (Av w.heap.size)=some (Iv (n:Nat))):=Hd fun W h=>((gp.o W h).cell (p:=Av w.heap.size) (Ah kP.o)).trans kP.o
    have HSZ:Hq (∀ W ts ao co,S2 W->Ay ts=true->ts.length=n->Au W ao ts->Cl 26 #[vx,.slice ao n co] W (Bl (Iv (szO n (hs.map Prod.snd) ts:Nat)) W)):=Hd fun W ts ao co h hr hl hz=>by
     rw[g7] at h;obtain⟨o,m,V,_,_,kX,hh⟩:=h;exact(ge.o W o hh.1.1).size18 (w0:=wb) HQ.o (fun p hp=>kX.dep (Fu p hp)) hr hl hz
    have kF:Hq (∀ W,S2 W->Cl 25 #[Pt gb,.slice a8 n c8] W (Bl (.bool true) W)):=Hd fun W h=>by
     have H4:=gP.o W h;rw[g7] at h;exact h.ask fun o m V hs hh=>(MP (n:=n) (HG.o W o hh.1.1) (fun W' Hh=>(hs.below Hh).vars_any.mono fun x w' h=>h) H4 (by have:=g9.o.1;omega) (fun x hx=>(gh.o.mem x).1 hx) (by omega) (fun g hg=>by have:=kE.o g hg;omega)).mono fun x w' ⟨b,h1,h2,h3⟩=>⟨by rw[h1,h2.2 g9.o],h3⟩
    have hY:Hq (∀ W,S2 W->Cl 28 #[Pt mb,.slice alh hs.length cl,vx] W (Bl (.bool true) W)):=Hd fun W h=>by
     rw[g7] at h;obtain⟨o,m,V,_,_,h3,h4⟩:=h;have hw:=ge.o W o h4.1.1;exact UP h3 (by omega) (IF hw.1 hw.2 Fu (by omega))
    have kD:Hq (∀ W,S2 W->Cl 29 #[Pt mb,Iv (hs.length:Nat)] W (Sm (.bool true) W)):=Hd fun W h=>by
     rw[g7] at h;exact h.ask fun o m V h3 _=>(Ro h3 hs.length (by omega)).mono fun e w' ⟨h1,h2⟩=>⟨by rw[h1,We (by rw[kg];omega)],h2⟩
    have c8':=kO.o w8 gw.o
    have kA:Hq (Cl 23 #[.slice a8 n c8,Iv (n:Nat)] w8 (Sm (.bool true) w8)):=Hd (by
     have:=II a8 c8 now n w8 (hG.o w8 gw.o) (by have:=g9.o.1;omega);rw[g9.o.1] at this;refine this.mono ?_;rintro x w' ⟨rfl,rfl⟩;exact⟨by rw[TA,We ⟨g9.o.1,g9.o.2.1⟩],rfl⟩)
    have kI:=Hd (hJ.o w8 _ now (gp.o w8 gw.o) (gP.o w8 gw.o) g9.o.1 g9.o);clear hq gu g7 k9 gK hJ gP;go_wp2_with fail;refine kA.o.mono ?_;rintro y w8' ⟨rfl,rfl⟩;clear kA;go_wp2_with fail;refine kI.o.mono ?_;rintro y w9 ⟨rfl,km⟩;have hF:=Hd (gi.o w8 w9 gw.o km);have kH:=Hd (kF.o w9 hF.o);clear km kI gw c8';go_wp2_with fail;refine kH.o.mono ?_;rintro y wA ⟨rfl,kl⟩;have gn:=Hd (gi.o w9 wA hF.o kl);have hR:=Hd (HSZ.o wA now a8 c8 gn.o g9.o.2.1 g9.o.1 (hG.o wA gn.o));rw[<- Hm.o] at hR;clear kl kH hF kF;go_wp2_with fail;refine hR.o.mono ?_;rintro y wB ⟨rfl,gC⟩;have gm:=Hd (gi.o wA wB gn.o gC);have cB:=kO.o wB gm.o;have hQ:=Hd (hL.o wB _ zs (gp.o wB gm.o) (kZ.o wB gm.o) (by have:=gv.o.2;omega));rw[<- Hj.o] at hQ;clear gC hR gn hL;go_wp2_with fail;refine hQ.o.mono ?_;rintro y wC ⟨uC,rfl,k8,kk⟩;have gJ:=Hd (gi.o wB wC gm.o kk);obtain⟨aC,cC,eC,k4,-⟩:=k8.sliceIs (by have:=gH.o.1;omega);rw[gH.o.1] at eC;subst eC;have hO:=Hd (HSZ.o wC want aC cC gJ.o gH.o.2.1 gH.o.1 k4);rw[<- Hn.o] at hO;clear kk k8 k4 hQ gm cB HSZ;go_wp2_with fail;refine hO.o.mono ?_;rintro y wD ⟨rfl,kj⟩;have hE:=Hd (gi.o wC wD gJ.o kj);have kT:=Hd (hY.o wD hE.o);clear kj hO gJ hY;go_wp2_with fail;refine kT.o.mono ?_;rintro y wE ⟨rfl,ki⟩;have hD:=Hd (gi.o wD wE hE.o ki);have kS:=Hd (kD.o wE hD.o);clear ki kT hE kD;go_wp2_with fail;refine kS.o.mono ?_;rintro y wE' ⟨rfl,rfl⟩;have kR:=Hd (kC.o wE);clear kS;go_wp2_with fail;refine kR.o.mono ?_;rintro y wF ⟨rfl,kh⟩;have HF:=Hd (kV.o.trans (((gp.o wE hD.o).trans (kh.mono (gp.o wE hD.o).size)).mono kV.o.size));clear kh kR;go_wp2_with fail;go_ret;exact⟨rfl,HF.o⟩
   ·have Hs:(e != 0)=true:=by simp[he]
    have gZ:=Hd (kC.o w2c);clear he;go_wp2_with fail;refine gZ.o.mono ?_;rintro y w3 ⟨rfl,gE⟩;have hX:=Hd (hU.o.trans (gE.mono hU.o.size));clear gE;go_wp2_with fail;go_ret;exact⟨rfl,hX.o⟩
end Go.Proofs.YtkidaindpahefaaGreat
