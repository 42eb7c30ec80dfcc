/- The walk of a law: SatpBackW. -/
import Derived.Test.YtnphndlbfeagbaaGreatBb
set_option linter.unusedSimpArgs false
set_option linter.unusedVariables false
set_option linter.unusedSectionVars false
set_option linter.unnecessarySimpa false
set_option maxRecDepth 100000
set_option maxHeartbeats 8000000
namespace Go.Proofs.YtnphndlbfeagbaaGreat
open Go.Proofs.Tryz
open Go.RowKit
theorem satpback_walk (q:AskD)(S T R:Option Addr)(co ce cp:Nat)(pk:Nat)(hpk:pk<256)(tb:Bool)(w:Wd)(h:AskAt w q S T R):
 Cl 5 #[askV q S T R co ce cp,.int .u8 pk,.bool tb] w (Bl (.bool true) w):=by
 have gH:Hq (∀W,Bw w W->∀u,u=askV q S T R co ce cp->Cl 7 #[u] W λy w'=>∃b,y=.returned (.bool b)/\(b=true->Dl q)/\Bw W w'):=Hd λW hb u hu=>by subst hu;exact JD q S T R co ce cp W (h.below hb)
 have gF:Hq (∀W n,Bw w W->Dl q->q.vars=(n:Nat)->∀u,u=askV q S T R co ce cp->Cl 9 #[u] W (SetP As q n W)):=Hd λW n hb hs hn u hu=>by subst hu;exact JT Cf q S T R co ce cp W (h.below hb) hs n hn
 obtain⟨vars,gq⟩:∃z,z=q.vars:=⟨_,rfl⟩;have HV:=Hd gq;obtain⟨plen,gP⟩:∃z,z=q.plan.length:=⟨_,rfl⟩;unfold askV at gH gF⊢;rw[<-gq,<-gP]at gH gF⊢;obtain⟨olen,gQ⟩:∃z,z=q.order.length:=⟨_,rfl⟩;obtain⟨elen,gU⟩:∃z,z=q.es.length:=⟨_,rfl⟩;rw[<-gQ,<-gU]at gH gF⊢;obtain⟨w1,gO⟩:=Ex (w.alloc (.cells #[Iv vars,.slice S olen co,.slice T elen ce,.slice R plen cp] 26));have k9:Hq (_=w1):=Hd gO.symm;have hR:Hq (Bw w w1):=by rw[gO];exact Hd (Ag _ _)
 have gh:w1.heap[w.heap.size]?=some (.cells #[Iv vars,.slice S olen co,.slice T elen ce,.slice R plen cp] 26 (0,0)):=by rw[gO];exact Xv _ _
 have d0:w1.cell? (Av w.heap.size)=some (Iv vars):=by rw[Xw _ _ 0 _ _ _ gh];rfl
 have d1:w1.cell? (Aw w.heap.size 1)=some (.slice S olen co):=by rw[Xw _ _ 1 _ _ _ gh];rfl
 have d2:w1.cell? (Aw w.heap.size 2)=some (.slice T elen ce):=by rw[Xw _ _ 2 _ _ _ gh];rfl
 have d3:w1.cell? (Aw w.heap.size 3)=some (.slice R plen cp):=by rw[Xw _ _ 3 _ _ _ gh];rfl
 clear h gO gh gq gP gQ gU
 go_enter func5,ntmps5
 go_upto_region 1 with fail;rw[k9.o];go_wp2_with fail;refine(gH.o _ hR.o _ rfl).mono ?_;rintro y w2 ⟨b,rfl,hb,gb⟩;have K:=Hd hb;have g8:=Hd (hR.o.trans (gb.mono hR.o.size));have e0:=Cq gb d0;have e1:=Cq gb d1;have e2:=Cq gb d2;have e3:=Cq gb d3;have g9:=Hd (CV w2);clear hb gb gH d0 d1 d2 d3 k9;cases b with
 | false=>
   go_wp2_with fail;refine g9.o.mono ?_;rintro y w3 ⟨rfl,gC⟩;have hQ:=Hd (g8.o.trans (gC.mono g8.o.size));clear gC;go_wp2_with fail;go_ret;exact⟨rfl,hQ.o⟩
 | true=>
   by_cases kl:(vars:Int)>5
   . go_wp2_with fail;refine g9.o.mono ?_;rintro y w3 ⟨rfl,gC⟩;have hQ:=Hd (g8.o.trans (gC.mono g8.o.size));clear gC;go_wp2_with fail;go_ret;exact⟨rfl,hQ.o⟩
   have gG:=Hd (K.o (by first|rfl|trivial));obtain⟨n,hn⟩:∃n:Nat,vars=(n:Nat):=⟨vars.toNat,by have:=gG.o.lo;have:=HV.o;omega⟩;subst hn;have kU:n<=6:=by have:=gG.o.hi;have:=HV.o;omega
   have hd:1<=n:=by have:=gG.o.lo;have:=HV.o;omega
   have kY:q.es.length<=5:=gG.o.es;have hz:=Hd (gF.o w2 n g8.o gG.o rfl _ rfl);clear gF g9 K;go_wp2_with fail;refine hz.o.mono ?_;rintro y w3 ⟨mb,vl,vx,wb,hs,nx,rfl,gA,h4,hZ,o3,m3,V3,A,-⟩;have kX:hs.length<=5:=by have:=Yf List.length h4;simp at this;omega
   obtain⟨al,cl,ku⟩:∃a c,vl=.slice a hs.length c:=by
    obtain⟨a,c,e,_⟩:=A.l.own.slice;exact⟨a,c,by rw[e];simp[Ar]⟩
   subst ku;have kn:Hq (∀p∈hs,p∈two++hs):=Hd λp hp=>Zf _ hp
   have k4:(two++hs).length=2+hs.length:=by simp[two];omega
   have kP:Hq (∀k,k<=192->k*2^n<=AQ n):=Hd λk hk=>GP hk
   have ki:Hq (wb.cell? (Av w.heap.size)=some (Iv (n:Nat))):=Hd (Cq gA e0);have E:=(A.below0.cell (p:=Av w.heap.size) (Ad (Cq gA e0))).trans (Cq gA e0);have gZ:Hq (Bw w wb):=Hd (g8.o.trans (gA.mono g8.o.size));have kZ:Hq (∀p∈two++hs,p.1<nx):=Hd λp hp=>(A.sat.range p hp).2
   have HL:=Hd ((A.withOd (Od':=λ_=>True) trivial).withSt (Wt':=SufW q.plan) (by rw[A.st.1];exact ZU _));clear A gA h4 hz e0 e1 e2 e3;have kV:n<=5:=by omega
   have kG:=Hd hZ;have kb:=Hd (K7 HL.o kn.o (by omega) (by omega) pk hpk);clear kl;go_wp2_with fail;refine kb.o.mono ?_;rintro y C ⟨a1,N,r1,rfl,hf,kB,k6⟩;have go:=Hd (HL.o.below k6);have kN:Hq (DepF n N):=Hd (go.o.sat.dep hf);have kM:Hq ((two++hs).length=2+hs.length):=Hd k4;have cA:=(go.o.sat.chg.below0.cell (p:=Av w.heap.size) (Ad ki.o)).trans ki.o;have kJ:=Hd hf;clear kB k6 kb HL E hf k4 hZ;go_wp2_with fail
   go_loopw [13,14] (λs13 s14 wx=>∃i:Nat,i<=n/\s14=Iv (i:Nat)/\Hq (OwnI wx C.heap.size s13 (intL ((vsT tb n).take i)))/\Hq (Bw C wx)) (λ_ s14 _=>n-(intOf s14).toNat)
   case atStart=>exact⟨0,X0 _,rfl,Hd (by rw[aF];exact Ga C _ (Xs _)),Hd (Ag C _)⟩
   case round=>
    obtain⟨i,hi,rfl,HO,K⟩:=hrel;have cr:=Cq K.o cA
    by_cases kw:i<n
    ·have kW:(i:Int)<(n:Int):=by omega
     have hg:(intL ((vsT tb n).take i)).length<1099511627776:=by rw[Cw,YB];omega
     have gu:=vsT_take (t:=tb) kw;obtain⟨zi,hU⟩:∃z,z=intL ((vsT tb n).take i):=⟨_,rfl⟩;rw[<-hU]at hg gu HO;clear hU;cases tb with
     | true=>
       have hy:=Hd gu;have HE:Hq (((n-1-i:Nat):Int)=(n:Int)-1-(i:Int)):=Hd (by omega);clear gu;go_wp2_with (at_builtin;refine D7 _ rfl _ _ rfl C.heap.size C _ zi ((n:Int)-1-(i:Int)) rfl rfl rfl rfl (by exact HO.o) hg (by exact K.o.size) (by exact K.o) ?_;intro v' wy g1 g2 g3 g4);have HG:Hq (OwnI wy C.heap.size v' (intL ((vsT true n).take (i+1)))):=Hd (by rw[hy.o,Xx rfl,HE.o];exact g1);have hI:=Hd g2;clear g1 g2 g3 g4;go_wp2_with fail;go_roundw
       case rel=>exact⟨i+1,by omega,by go_num,HG,hI⟩
       case measure=>simp[intOf];omega
     | false=>
       have hy:=Hd gu;clear gu;go_wp2_with (at_builtin;refine D7 _ rfl _ _ rfl C.heap.size C _ zi (i:Int) rfl rfl rfl rfl (by exact HO.o) hg (by exact K.o.size) (by exact K.o) ?_;intro v' wy g1 g2 g3 g4);have HG:Hq (OwnI wy C.heap.size v' (intL ((vsT false n).take (i+1)))):=Hd (by rw[hy.o];exact g1);have hI:=Hd g2;clear g1 g2 g3 g4;go_wp2_with fail;go_roundw
       case rel=>exact⟨i+1,by omega,by go_num,HG,hI⟩
       case measure=>simp[intOf];omega
    ·obtain rfl:i=n:=by omega
     have kQ:¬ (i:Int)<(i:Int):=by omega
     obtain⟨wo,ks⟩:∃W,W=wr:=⟨_,rfl⟩;subst ks;obtain⟨zs,gj⟩:∃z,z=intL (vsT tb i):=⟨_,rfl⟩;have ho:OwnI wo C.heap.size u13 zs:=by
      have:=HO.o;rw[XK (by rw[vsT_len];exact Xs _),<-gj]at this;exact this
     have kp:zs.length=i:=by rw[gj,Cw,vsT_len]
     obtain⟨av,cv,e13,k8,hm⟩:∃av cv,u13=.slice av zs.length cv/\Aj wo av zs/\zs.length<=cv:=by
      obtain⟨a9,c9,F,h9,_⟩:=ho.sliceIs (by omega);refine⟨a9,c9,F,h9,?_⟩;rcases ho.2 with ⟨_,h0⟩|⟨g,cap,cur,hv,_,_,h3,_⟩
      . omega
      ·rw[F]at hv;injection hv with _ _ e
       rw[e];simpa [Ar]using h3
     have k2:∀k,u13.ownBlock=some k->C.heap.size<=k:=λk hk=>(ho.lt k hk).1
     subst e13;obtain⟨B,hB⟩:=Ex (λW o=>IntN av zs W o:Wd->Own->Prop)
     have kg:Hq (AX B):=by rw[hB];exact Hd (IntN.keepB av zs)
     have H0:Hq (SpT i (AQ i) wb mb (two++hs) nx q.plan B wo):=Hd ⟨_,_,_,go.o.st,go.o.sat.below K.o,by
      rw[hB];exact⟨k8,λkT x hx=>go.o.sat.lt.none (k2 _ (by subst hx;rfl))⟩⟩
     have gI:Hq (∀(B':Wd->Own->Prop) nx',AX B'->(∀W o,B' W o->B W o)->nx'<=nx+100000->PkH i (AQ i) (two++hs) nx' B' a1 N zs av cv):=Hd λB' nx' hk gv hn'=>⟨go.o.b2,kJ.o,λW o h=>by have:=gv W o h;rw[hB]at this;exact this.1,hm,λW o h=>by have:=gv W o h;rw[hB]at this;exact this.2,hk,by have:=kG.o;omega,by omega,room20 (by have:=kM.o;omega)⟩
     have gf:Hq (cntE i N zs=0/\chkE i N zs=0):=Hd (by rw[gj];exact vsT_chk);obtain⟨L,hL⟩:=Ex (allZ i N zs)
     have gW:Hq (L.length<=64):=Hd (by
      have h1:=Xj (n:=i) (G:=N) (zs:=zs);have h2:2^zs.length<=2^6:=X8 (by omega) (by omega);rw[hL];omega)
     have hD:Hq (L=allL (vsT tb i) N):=Hd (by rw[hL,gj];exact Dr (by rw[<-gj];exact gf.o.2));have gn:=Hd hL;have hN:=Hd (pk_count (gI.o B nx kg.o (λ_ _ h=>h) (by omega)) H0.o kN.o gf.o.1 gf.o.2);rw[<-hL]at hN;clear HO ho k8 k2 hB H0 gj hL cA K hm kp;go_wp2_with fail;refine hN.o.mono ?_;rintro y wB ⟨v1,rfl,h5⟩;have gT:AX (λW o=>B W o/\NatN v1 L.length W o):=K6 kg.o (NatN.keepB _ _);obtain⟨B1,ht⟩:=Ex (λW o=>B W o/\NatN v1 L.length W o:Wd->Own->Prop)
     rw[<-ht]at gT h5;have gX:Hq (∀W o,B1 W o->B W o/\NatN v1 L.length W o):=by rw[ht];exact Hd λW o h=>h
     have kh:=Hd gT;have hS:=Hd (Xi (gI.o B1 nx gT (λW o h=>(gX.o W o h).1) (by omega)) h5 4096);rw[gf.o.2,<-gn.o,XK (show L.length<=BZ 4096 by have:=gW.o;have:BZ 4096=4096:=(by decide);omega)]at hS;clear h5 gT ht hN;go_wp2_with fail;refine hS.o.mono ?_;rintro y wC ⟨v3,nx1,rfl,hd,g6⟩;obtain⟨B2,gV⟩:=Ex (λW o=>B1 W o/\BlsN v3 L W o:Wd->Own->Prop)
     have gp:Hq (∀W o,B2 W o->B W o/\BlsN v3 L W o):=by rw[gV];exact Hd λW o h=>⟨(gX.o W o h.1).1,h.2⟩
     have hG:Hq (AX B2):=by rw[gV];exact Hd (K6 kh.o (BlsN.keepB _ _))
     have hC:Hq (Cl 14 #[v1] wC (Sm (Iv (L.length:Nat)) wC)):=Hd (by
      obtain⟨o,m,V,_,_,h1,_⟩:=g6;exact FW (gX.o _ _ h1).2.1 (by have:=gW.o;omega))
     rw[<-gV]at g6;have H2:=Hd g6;obtain⟨p3,c3,kv⟩:∃a c,v3=.slice a L.length c:=by
      obtain⟨o,m,V,_,_,h⟩:=g6;obtain⟨a,c,e,_⟩:=((gp.o _ _ h).2.is (by have:=gW.o;omega)).slice;exact⟨a,c,e⟩
     subst kv;obtain⟨M,hM⟩:=Ex L.length;have J:=Hd hM;rw[<-hM]at hC⊢;have kS:M<=64:=by rw[hM];exact gW.o
     have ke:=Hd hd;clear g6 gV hM hS gX kh hd;go_wp2_with fail;refine hC.o.mono ?_;rintro y w' ⟨rfl,rfl⟩;have kk:Hq (∀k,atE i N zs k=if M<=k then 2 else 0):=Hd λk=>by unfold atE;rw[Xu (by simp[gf.o.2]),<-gn.o,<-J.o]
     have kF:Hq (∀(W:Wd) (k:Nat),k<=64->Cl 27 #[.int .u64 (k:Nat)] W λx w'=>(∃v,x=.returned v/\NatV w' v k/\∀q,v.ownBlock=some q->W.heap.size<=q)/\Bw W w'):=Hd λW k hk=>Ib (w:=W) (n:=k) (by omega)
     have kj:Hq (∀(W0 W:Wd) (v:Value) (k:Nat) nx',SpT i (AQ i) wb mb (two++hs) nx' q.plan B2 W0->nx'<=nx+100000->Bw W0 W->NatV W v k->(∀q,v.ownBlock=some q->W0.heap.size<=q)->Cl 26 #[Pt mb,Iv a1,v,.slice av zs.length cv] W λx w'=>∃v Y,x=.returned (.tuple #[v,Iv (if M<=k then 2 else 0)])/\Y<=nx'+200/\SpT i (AQ i) wb mb (two++hs) Y q.plan (λW o=>B2 W o/\RowN v (L.getD k []) W o) w'):=Hd λW0 W v k nx' h0 hn hb hv hq=>by
      have:=Xh (gI.o B2 nx' hG.o (λW o h=>(gp.o W o h).1) hn) h0 hb hv hq;rw[kk.o,<-gn.o]at this;exact this
     have kE:Hq (∀(W:Wd) (lv:Value) (k:Nat) (ds:List Bool) (B':Wd->Own->Prop) nx',AX B'->(∀W o,B' W o->B2 W o)->SpT i (AQ i) wb mb (two++hs) nx' q.plan B' W->nx'<=nx+100000->L[k]?=some ds->(∀o,B2 W o->RowN lv ds W o)->Cl 11 #[Pt mb,Iv a1,lv,.slice av zs.length cv] W λx w'=>∃v Y,x=.returned (.tuple #[v,Iv 0])/\NatV w' v k/\Y<=nx'+200/\SpT i (AQ i) wb mb (two++hs) Y q.plan B' w'):=Hd λW lv k ds B' nx' hk gv h0 hn hi hl=>pk_place (gI.o B' nx' hk (λW o h=>(gp.o W o (gv W o h)).1) hn) h0 gf.o.2 (by rw[<-gn.o];exact hi) (λo h=>hl o (gv W o h))
     have kK:Hq (∀k,0<k->k<M->lexB (L.getD (k-1) []) (L.getD k [])=true):=Hd λk h0 h=>by
      rw[J.o]at h;rw[hD.o]at h⊢;exact allL_lt h0 h
     have hF:Hq (∀k,k<M->(L.getD k []).length=i):=Hd λk h=>by
      rw[J.o]at h;have h2:=h;rw[hD.o]at h2;have:=D6 (Xy h2);rw[vsT_len]at this;rw[hD.o];simpa [List.getD,h2]using this
     have ko:Hq (∀k,k<M->L[k]?=some (L.getD k [])):=Hd λk h=>by
      rw[J.o]at h;simp[List.getD,h]
     have kq:Hq (chkE i N zs=0):=Hd gf.o.2;clear hC kk gf;go_wp2_with fail
     go_loopw [19,20,21,22,23] (λs19 _ _ _ _ wx=>∃(k:Nat) (D:Int),k<=M/\s19=Iv (k:Nat)/\D<=nx+200+400*(k:Int)/\Hq (SpT i (AQ i) wb mb (two++hs) D q.plan B2 wx)) (λs19 _ _ _ _ _=>M-(intOf s19).toNat)
     case atStart=>exact⟨0,nx1,X0 _,rfl,by have:=ke.o;omega,H2⟩
     case round=>
      obtain⟨k,D,hk,rfl,k0,HS⟩:=hrel;have gJ:=Hd k0;clear H2 ke k0;have gY:=Hd (kF.o wr k (by omega));have k5:IntKind.u64.wrap (k:Int)=(k:Int):=by rw[aV];omega
      by_cases ga:k<M
      ·have kx:(k:Int)<(M:Int):=by omega
       go_wp2_with fail;refine gY.o.mono ?_;rintro y wr1 ⟨⟨vk,rfl,gy,gz⟩,gD⟩;have HA:=Hd (kj.o wr wr1 vk k D HS.o (by have:=gJ.o;omega) gD gy gz);rw[Xu (by omega)]at HA;clear gy gz gD gY HS k5;go_wp2_with fail;refine HA.o.mono ?_;rintro y wr2 ⟨vp,Y,rfl,gR,gk⟩;obtain⟨ds,g7⟩:∃d,d=L.getD k []:=⟨_,rfl⟩;obtain⟨es,gr⟩:∃d,d=L.getD (k-1) []:=⟨_,rfl⟩;have gM:=Hd (show ds.length=i/\(0<k->es.length=i/\lexB es ds=true) from⟨by rw[g7];exact hF.o k ga,λh=>⟨by rw[gr];exact hF.o _ (by omega),by rw[g7,gr];exact kK.o k h ga⟩⟩);have hH:=Hd (ko.o k ga);rw[<-g7]at gk hH;have gS:AX (λW o=>B2 W o/\RowN vp ds W o):=K6 hG.o (RowN.keepB _ _);obtain⟨B3,hr⟩:=Ex (λW o=>B2 W o/\RowN vp ds W o:Wd->Own->Prop)
       have gK:Hq (∀W o,B3 W o->B2 W o/\RowN vp ds W o):=by rw[hr];exact Hd λW o h=>h
       rw[<-hr]at gk gS;have gm:∀W o,B2 W o->∀j,j<M->∃b off c a2 c2,Value.slice p3 M c3=.slice (some (Aw b off)) M c/\W.cell? (Aw b (off+j))=some (.slice a2 (L.getD j []).length c2)/\RowN (.slice a2 (L.getD j []).length c2) (L.getD j []) W o:=λW o h j hj=>by
        have:=(gp.o W o h).2.elem (i:=j) (by rw[<-J.o];exact hj);rw[<-J.o]at this;exact this
       have hK:=Hd gm;obtain⟨o2,m2,V2,hV,hW,h2⟩:=gk;obtain⟨b,off,c9,a2,c2,F,d1,hX⟩:=gm _ _ (gK.o _ _ h2).1 k ga;rw[<-g7]at d1 hX;injection F with F _ e10
       subst F;subst e10
       obtain⟨pp,pc,kt⟩:∃a c,vp=.slice a ds.length c:=by
        obtain⟨a,c,e,_⟩:=(gK.o _ _ h2).2.1;exact⟨a,c,e⟩
       subst kt
       have ka:=Hd (kE.o wr2 (.slice a2 ds.length c2) k ds B3 Y gS (λW o h=>(gK.o W o h).1) ⟨o2,m2,V2,hV,hW,h2⟩ (by have:=gJ.o;omega) hH.o (λo h=>by
        obtain⟨b',off',c',a5,c5,r,d5,gw⟩:=hK.o _ _ h k ga;injection r with r _ _
        injection r with r
        injection r with e1 e2 _
        subst e1;subst e2
        rw[d1,<-g7]at d5;injection d5 with d5
        injection d5 with e1 _ e2
        subst e1;subst e2
        rw[<-g7]at gw;exact gw))
       have kI:=Hd gR;have kL:=Hd gS;have gL:=Hd (show ds=L.getD k []/\es=L.getD (k-1) [] from⟨g7,gr⟩);clear hX gm h2 gS hr g7 gr gR HA hH hV hW;go_wp2_with fail;refine ka.o.mono ?_;rintro y X ⟨vn,s,rfl,hc,k1,g6⟩;have kc:=Hd hc;have kD:=Hd g6;have kH:=Hd k1;obtain⟨j,hj⟩:=Ex (k-1);have hT:∃a2 c2 a0 E,X.cell? (Aw b (off+k))=some (.slice a2 ds.length c2)/\(0<k->X.cell? (Aw b (off+j))=some (.slice a0 es.length E))/\AM X a2 ds/\(0<k->AM X a0 es)/\AM X pp ds:=by
        obtain⟨o3,m3,V3,_,_,h3⟩:=g6;have hh:=gK.o _ _ h3;obtain⟨b',off',c',a5,c5,r,d5,gw⟩:=hK.o _ _ hh.1 k ga;injection r with r _ _
        injection r with r
        injection r with e1 e2 _
        subst e1;subst e2
        rw[<-gL.o.1]at d5 gw;obtain⟨a6,c6,e6,h6,_⟩:=gw.1;injection e6 with e6 _ _
        subst e6;obtain⟨a7,c7,e7,h7,_⟩:=hh.2.1;injection e7 with e7 _ _
        subst e7
        by_cases h0:0<k
        ·obtain⟨b',off',c',a0,E,r,d0,hY⟩:=hK.o _ _ hh.1 (k-1) (by omega);injection r with r _ _
         injection r with r
         injection r with e1 e2 _
         subst e1;subst e2
         rw[<-gL.o.2,<-hj]at d0;rw[<-gL.o.2]at hY;obtain⟨a8,c8,e8,h8,_⟩:=hY.1;injection e8 with e8 _ _
         subst e8;exact⟨_,c5,_,E,d5,λ_=>d0,h6,λ_=>h8,h7⟩
        . exact⟨_,c5,none,0,d5,λh=>absurd h h0,h6,λh=>absurd h h0,h7⟩
       clear d1;obtain⟨a2,c2,a0,E,d1,d0,gl,ha,gx⟩:=hT;have kC:=gM.o.1;have gc:Hq (∀W,Bw X W->Cl 16 #[.slice pp ds.length pc,.slice a2 ds.length c2] W (Bl (.bool true) W)):=Hd λW hb=>by
        have:=Is ds ds rfl pp a2 pc c2 W (gx.below hb) (gl.below hb);rw[XQ rfl]at this;exact this
       have hE:Hq (∀W,Bw X W->0<k->Cl 28 #[.slice a0 es.length E,.slice a2 ds.length c2] W (Bl (.bool true) W)):=Hd λW hb h0=>by
        have gm:=(gM.o.2 h0).1;have:=refLess02_any es ds (by rw[gM.o.1,gm]) a0 a2 E c2 W ((ha h0).below hb) (gl.below hb);rw[show ds.length=es.length by rw[gM.o.1,gm]];rw[(gM.o.2 h0).2]at this;exact this
       have gB:=An X 1;have gd:X.drew.cell? (Aw b (off+k))=some (.slice a2 ds.length c2)/\(0<k->X.drew.cell? (Aw b (off+j))=some (.slice a0 es.length E))/\Hq (Bw X X.drew):=⟨d1,d0,Hd gB⟩;have gt:Hq (∀W,Bw X W->SpT i (AQ i) wb mb (two++hs) s q.plan B2 W):=Hd λW hb=>by
        obtain⟨o3,m3,V3,g1,g2,g3⟩:=kD.o.below kL.o hb;exact⟨o3,m3,V3,g1,g2,(gK.o _ _ g3).1⟩
       have kd:Hq (s<=nx+200+400*((k+1:Nat):Int)):=Hd (by have:=kH.o;have:=kI.o;have:=gJ.o;omega);clear hc g6 k1 gl ha gx d1 d0 ka kC
       by_cases gg:0<k
       ·have km:(k:Int)>0:=by omega
        have kA:(k:Int)-1=(j:Int):=by omega
        have kz:(j:Int)<(M:Int):=by omega
        have ky:IntKind.i64.wrap (j:Int)=(j:Int):=aK _ ⟨by omega,by omega⟩;clear hj;go_upto_region 23 with fail;refine AJ (λW:Wd=>W.cell? (Aw b (off+k))=some (.slice a2 ds.length c2)/\(0<k->W.cell? (Aw b (off+j))=some (.slice a0 es.length E))/\Hq (Bw X W)) false 38 [(0,false),(1,false),(2,false),(3,false),(4,false),(5,false),(6,false),(7,false),(9,false),(8,true),(10,false),(11,false),(12,false),(13,false),(14,false),(15,false),(16,false),(17,false),(18,true),(19,false),(20,false),(21,false),(22,false),(23,false),(24,false),(25,false),(26,false),(27,false),(28,false),(29,false),(30,false),(31,false),(32,false),(33,false),(34,true),(35,false),(36,false),(37,false)] (by kernel_rfl) (by kernel_rfl) gd ?_;simp only[planned,AI];refine A0 rfl ?_;apply Exists.intro;refine⟨λw' H=>?_,?_⟩
        . obtain⟨U,I,O⟩:=H;go_simp;rfl
        simp only[Ab];refine A0 rfl ?_;apply Exists.intro;refine⟨λw' H=>?_,?_⟩
        . obtain⟨U,I,O⟩:=H;go_simp;rfl
        simp only[Ab];refine A0 rfl ?_;apply Exists.intro;refine⟨λw' H=>?_,?_⟩
        . obtain⟨U,I,O⟩:=H;go_simp;rfl
        simp only[Ab];refine Eh true (by go_simp) ?_;apply Exists.intro;refine⟨λg0 w' H=>?_,?_⟩
        . obtain⟨U,I,O⟩:=H;go_simp;rfl
        simp only[Ab];refine Eh true (by go_simp) ?_;apply Exists.intro;refine⟨λg0 w' H=>?_,?_⟩
        . obtain⟨U,I,O⟩:=H;go_simp;rfl
        simp only[Ab];refine A0 rfl ?_;apply Exists.intro;refine⟨λw' H=>?_,?_⟩
        . obtain⟨U,I,O⟩:=H;go_simp;rfl
        simp only[Ab];refine A0 rfl ?_;apply Exists.intro;refine⟨λw' H=>?_,?_⟩
        . obtain⟨U,I,O⟩:=H;go_simp;rfl
        simp only[Ab];refine Eh true (by go_simp) ?_;apply Exists.intro;refine⟨λg0 w' H=>?_,?_⟩
        . obtain⟨U,I,O⟩:=H;go_simp;rfl
        simp only[Ab];refine Eh true (by go_simp) ?_;apply Exists.intro;refine⟨λg0 w' H=>?_,?_⟩
        . obtain⟨U,I,O⟩:=H;go_simp;rfl
        simp only[Ab];refine mix_callG (v:=Iv (k:Nat)) true (by go_simp) gd (λ_=>by go_simp) (λ_=>(FW (kc.o.below gB) (by omega)).mono λe w' Q=>?_) ?_
        . obtain⟨rfl,rfl⟩:=Q;exact⟨rfl,gd⟩
        rintro wN g5;clear gd;simp only[Ab];refine Eh true (by go_simp) ?_;apply Exists.intro;refine⟨λg0 w' H=>?_,?_⟩
        . obtain⟨U,I,O⟩:=H;go_simp;rfl
        simp only[Ab];refine A0 rfl ?_;apply Exists.intro;refine⟨λw' H=>?_,?_⟩
        . obtain⟨U,I,O⟩:=H;go_simp;rfl
        simp only[Ab];refine A0 rfl ?_;apply Exists.intro;refine⟨λw' H=>?_,?_⟩
        . obtain⟨U,I,O⟩:=H;go_simp;rfl
        simp only[Ab];refine Eh true (by go_simp) ?_;apply Exists.intro;refine⟨λg0 w' H=>?_,?_⟩
        . obtain⟨U,I,O⟩:=H;go_simp;rfl
        simp only[Ab];refine Eh true (by go_simp) ?_;apply Exists.intro;refine⟨λg0 w' H=>?_,?_⟩
        . obtain⟨U,I,O⟩:=H;go_simp;rfl
        simp only[Ab];refine Eh true (by go_simp) ?_;apply Exists.intro;refine⟨λg0 w' H=>?_,?_⟩
        . obtain⟨U,I,O⟩:=H;go_simp;rfl
        simp only[Ab];refine Eh true (by go_simp) ?_;apply Exists.intro;refine⟨λg0 w' H=>?_,?_⟩
        . obtain⟨U,I,O⟩:=H;go_simp;rfl
        simp only[Ab];refine Eh true (by go_simp) ?_;apply Exists.intro;refine⟨λg0 w' H=>?_,?_⟩
        . obtain⟨U,I,O⟩:=H;go_simp;rfl
        simp only[Ab];refine mix_callG (v:=.bool true) true (by go_simp) g5 (λ_=>by go_simp) (λ_=>(gc.o wN g5.2.2.o).mono λe w' Q=>?_) ?_
        . obtain⟨rfl,hb⟩:=Q;exact⟨rfl,(hb.cell (p:=(Aw b (off+k))) (Ad g5.1)).trans g5.1,λh=>(hb.cell (p:=(Aw b (off+j))) (Ad (g5.2.1 h))).trans (g5.2.1 h),Hd (g5.2.2.o.trans (hb.mono g5.2.2.o.size))⟩
        clear g5;rintro wP g5;simp only[Ab];refine Eh true (by go_simp) ?_;apply Exists.intro;refine⟨λg0 w' H=>?_,?_⟩
        . obtain⟨U,I,O⟩:=H;go_simp;rfl
        simp only[Ab];refine A0 rfl ?_;apply Exists.intro;refine⟨λw' H=>?_,?_⟩
        . obtain⟨U,I,O⟩:=H;go_simp;rfl
        simp only[Ab];refine A0 rfl ?_;apply Exists.intro;refine⟨λw' H=>?_,?_⟩
        . obtain⟨U,I,O⟩:=H;go_simp;rfl
        simp only[Ab];refine Eh true (by go_simp) ?_;apply Exists.intro;refine⟨λg0 w' H=>?_,?_⟩
        . obtain⟨U,I,O⟩:=H;go_simp;rfl
        simp only[Ab];refine Eh true (by go_simp) ?_;apply Exists.intro;refine⟨λg0 w' H=>?_,?_⟩
        . obtain⟨U,I,O⟩:=H;go_simp;rfl
        simp only[Ab];refine Eh true (by go_simp) ?_;apply Exists.intro;refine⟨λg0 w' H=>?_,?_⟩
        . obtain⟨U,I,O⟩:=H;go_simp;rfl
        simp only[Ab];refine Eh true (by go_simp) ?_;apply Exists.intro;refine⟨λg0 w' H=>?_,?_⟩
        . obtain⟨U,I,O⟩:=H;go_simp;rfl
        simp only[Ab];refine Eh true (by go_simp) ?_;apply Exists.intro;refine⟨λg0 w' H=>?_,?_⟩
        . obtain⟨U,I,O⟩:=H;go_simp;rfl
        simp only[Ab];refine Eh true (by go_simp) ?_;apply Exists.intro;refine⟨λg0 w' H=>?_,?_⟩
        . obtain⟨U,I,O⟩:=H;go_simp;rfl
        simp only[Ab];refine Eh true (by go_simp) ?_;apply Exists.intro;refine⟨λg0 w' H=>?_,?_⟩
        . obtain⟨U,I,O⟩:=H;have q4:=I gg;clear I;go_simp;rfl
        simp only[Ab];refine Eh true (by go_simp) ?_;apply Exists.intro;refine⟨λg0 w' H=>?_,?_⟩
        . obtain⟨U,I,O⟩:=H;have q4:=I gg;clear I;go_simp;rfl
        simp only[Ab];refine Eh true (by go_simp) ?_;apply Exists.intro;refine⟨λg0 w' H=>?_,?_⟩
        . obtain⟨U,I,O⟩:=H;go_simp;rfl
        simp only[Ab];refine Eh true (by go_simp) ?_;apply Exists.intro;refine⟨λg0 w' H=>?_,?_⟩
        . obtain⟨U,I,O⟩:=H;go_simp;rfl
        simp only[Ab];refine Eh true (by go_simp) ?_;apply Exists.intro;refine⟨λg0 w' H=>?_,?_⟩
        . obtain⟨U,I,O⟩:=H;go_simp;rfl
        simp only[Ab];refine Eh true (by go_simp) ?_;apply Exists.intro;refine⟨λg0 w' H=>?_,?_⟩
        . obtain⟨U,I,O⟩:=H;go_simp;rfl
        simp only[Ab];refine mix_callG (v:=.bool true) true (by go_simp) g5 (λ_=>by go_simp) (λ_=>(hE.o wP g5.2.2.o gg).mono λe w' Q=>?_) ?_
        . obtain⟨rfl,hb⟩:=Q;exact⟨rfl,(hb.cell (p:=(Aw b (off+k))) (Ad g5.1)).trans g5.1,λh=>(hb.cell (p:=(Aw b (off+j))) (Ad (g5.2.1 h))).trans (g5.2.1 h),Hd (g5.2.2.o.trans (hb.mono g5.2.2.o.size))⟩
        clear g5;rintro wQ g5;simp only[Ab];refine Eh true (by go_simp) ?_;apply Exists.intro;refine⟨λg0 w' H=>?_,?_⟩
        . obtain⟨U,I,O⟩:=H;go_simp;rfl
        simp only[Ab];refine Eh true (by go_simp) ?_;apply Exists.intro;refine⟨λg0 w' H=>?_,?_⟩
        . obtain⟨U,I,O⟩:=H;go_simp;rfl
        simp only[Ab];refine A0 rfl ?_;apply Exists.intro;refine⟨λw' H=>?_,?_⟩
        . obtain⟨U,I,O⟩:=H;go_simp;rfl
        simp only[Ab];refine B6 ?_;have hO:=g5.2.2;have hA:=Hd (gt.o wQ hO.o);clear g5 gt gc hE gB kA kz ky;go_wp2_with fail;go_roundw
        case rel=>exact⟨k+1,s,by omega,by go_num,kd.o,hA⟩
        case measure=>simp[intOf];omega
       ·have km:¬ (k:Int)>0:=by omega
        go_upto_region 23 with fail;refine AJ (λW:Wd=>W.cell? (Aw b (off+k))=some (.slice a2 ds.length c2)/\(0<k->W.cell? (Aw b (off+j))=some (.slice a0 es.length E))/\Hq (Bw X W)) false 38 [(0,false),(1,false),(2,false),(3,false),(4,false),(5,false),(6,false),(7,false),(9,false),(8,true),(10,false),(11,false),(12,false),(13,false),(14,false),(15,false),(16,false),(17,false),(18,true),(19,false),(20,false),(21,false),(22,false),(23,false),(24,false),(25,false),(26,false),(27,false),(28,false),(29,false),(30,false),(31,false),(32,false),(33,false),(34,true),(35,false),(36,false),(37,false)] (by kernel_rfl) (by kernel_rfl) gd ?_;simp only[planned,AI];refine A0 rfl ?_;apply Exists.intro;refine⟨λw' H=>?_,?_⟩
        . obtain⟨U,I,O⟩:=H;go_simp;rfl
        simp only[Ab];refine A0 rfl ?_;apply Exists.intro;refine⟨λw' H=>?_,?_⟩
        . obtain⟨U,I,O⟩:=H;go_simp;rfl
        simp only[Ab];refine A0 rfl ?_;apply Exists.intro;refine⟨λw' H=>?_,?_⟩
        . obtain⟨U,I,O⟩:=H;go_simp;rfl
        simp only[Ab];refine Eh true (by go_simp) ?_;apply Exists.intro;refine⟨λg0 w' H=>?_,?_⟩
        . obtain⟨U,I,O⟩:=H;go_simp;rfl
        simp only[Ab];refine Eh true (by go_simp) ?_;apply Exists.intro;refine⟨λg0 w' H=>?_,?_⟩
        . obtain⟨U,I,O⟩:=H;go_simp;rfl
        simp only[Ab];refine A0 rfl ?_;apply Exists.intro;refine⟨λw' H=>?_,?_⟩
        . obtain⟨U,I,O⟩:=H;go_simp;rfl
        simp only[Ab];refine A0 rfl ?_;apply Exists.intro;refine⟨λw' H=>?_,?_⟩
        . obtain⟨U,I,O⟩:=H;go_simp;rfl
        simp only[Ab];refine Eh true (by go_simp) ?_;apply Exists.intro;refine⟨λg0 w' H=>?_,?_⟩
        . obtain⟨U,I,O⟩:=H;go_simp;rfl
        simp only[Ab];refine Eh true (by go_simp) ?_;apply Exists.intro;refine⟨λg0 w' H=>?_,?_⟩
        . obtain⟨U,I,O⟩:=H;go_simp;rfl
        simp only[Ab];refine mix_callG (v:=Iv (k:Nat)) true (by go_simp) gd (λ_=>by go_simp) (λ_=>(FW (kc.o.below gB) (by omega)).mono λe w' Q=>?_) ?_
        . obtain⟨rfl,rfl⟩:=Q;exact⟨rfl,gd⟩
        rintro wN g5;clear gd;simp only[Ab];refine Eh true (by go_simp) ?_;apply Exists.intro;refine⟨λg0 w' H=>?_,?_⟩
        . obtain⟨U,I,O⟩:=H;go_simp;rfl
        simp only[Ab];refine A0 rfl ?_;apply Exists.intro;refine⟨λw' H=>?_,?_⟩
        . obtain⟨U,I,O⟩:=H;go_simp;rfl
        simp only[Ab];refine A0 rfl ?_;apply Exists.intro;refine⟨λw' H=>?_,?_⟩
        . obtain⟨U,I,O⟩:=H;go_simp;rfl
        simp only[Ab];refine Eh true (by go_simp) ?_;apply Exists.intro;refine⟨λg0 w' H=>?_,?_⟩
        . obtain⟨U,I,O⟩:=H;go_simp;rfl
        simp only[Ab];refine Eh true (by go_simp) ?_;apply Exists.intro;refine⟨λg0 w' H=>?_,?_⟩
        . obtain⟨U,I,O⟩:=H;go_simp;rfl
        simp only[Ab];refine Eh true (by go_simp) ?_;apply Exists.intro;refine⟨λg0 w' H=>?_,?_⟩
        . obtain⟨U,I,O⟩:=H;go_simp;rfl
        simp only[Ab];refine Eh true (by go_simp) ?_;apply Exists.intro;refine⟨λg0 w' H=>?_,?_⟩
        . obtain⟨U,I,O⟩:=H;go_simp;rfl
        simp only[Ab];refine Eh true (by go_simp) ?_;apply Exists.intro;refine⟨λg0 w' H=>?_,?_⟩
        . obtain⟨U,I,O⟩:=H;go_simp;rfl
        simp only[Ab];refine mix_callG (v:=.bool true) true (by go_simp) g5 (λ_=>by go_simp) (λ_=>(gc.o wN g5.2.2.o).mono λe w' Q=>?_) ?_
        . obtain⟨rfl,hb⟩:=Q;exact⟨rfl,(hb.cell (p:=(Aw b (off+k))) (Ad g5.1)).trans g5.1,λh=>(hb.cell (p:=(Aw b (off+j))) (Ad (g5.2.1 h))).trans (g5.2.1 h),Hd (g5.2.2.o.trans (hb.mono g5.2.2.o.size))⟩
        clear g5;rintro wP g5;simp only[Ab];refine Eh true (by go_simp) ?_;apply Exists.intro;refine⟨λg0 w' H=>?_,?_⟩
        . obtain⟨U,I,O⟩:=H;go_simp;rfl
        simp only[Ab];refine A0 rfl ?_;apply Exists.intro;refine⟨λw' H=>?_,?_⟩
        . obtain⟨U,I,O⟩:=H;go_simp;rfl
        simp only[Ab];refine A0 rfl ?_;apply Exists.intro;refine⟨λw' H=>?_,?_⟩
        . obtain⟨U,I,O⟩:=H;go_simp;rfl
        simp only[Ab];refine Eh true (by go_simp) ?_;apply Exists.intro;refine⟨λg0 w' H=>?_,?_⟩
        . obtain⟨U,I,O⟩:=H;go_simp;rfl
        simp only[Ab];refine Eh true (by go_simp) ?_;apply Exists.intro;refine⟨λg0 w' H=>?_,?_⟩
        . obtain⟨U,I,O⟩:=H;go_simp;rfl
        simp only[Ab];refine Eh true (by go_simp) ?_;apply Exists.intro;refine⟨λg0 w' H=>?_,?_⟩
        . obtain⟨U,I,O⟩:=H;go_simp;rfl
        simp only[Ab];refine Eh false (by go_simp) ?_;refine Exists.intro undef (And.intro (λg0=>absurd g0 (by simp)) ?_);simp only[Ab];refine Eh false (by go_simp) ?_;refine Exists.intro undef (And.intro (λg0=>absurd g0 (by simp)) ?_);simp only[Ab];refine Eh false (by go_simp) ?_;refine Exists.intro undef (And.intro (λg0=>absurd g0 (by simp)) ?_);simp only[Ab];refine Eh false (by go_simp) ?_;refine Exists.intro undef (And.intro (λg0=>absurd g0 (by simp)) ?_);simp only[Ab];refine Eh false (by go_simp) ?_;refine Exists.intro undef (And.intro (λg0=>absurd g0 (by simp)) ?_);simp only[Ab];refine Eh false (by go_simp) ?_;refine Exists.intro undef (And.intro (λg0=>absurd g0 (by simp)) ?_);simp only[Ab];refine Eh false (by go_simp) ?_;refine Exists.intro undef (And.intro (λg0=>absurd g0 (by simp)) ?_);simp only[Ab];refine Eh false (by go_simp) ?_;refine Exists.intro undef (And.intro (λg0=>absurd g0 (by simp)) ?_);simp only[Ab];refine Eh false (by go_simp) ?_;refine Exists.intro undef (And.intro (λg0=>absurd g0 (by simp)) ?_);simp only[Ab];refine mix_callG (v:=.bool true) (f:=0) (args:=#[]) false (by go_simp) g5 (λh=>by cases h) (λh=>by cases h) ?_;clear g5;rintro wQ g5;simp only[Ab];refine Eh false (by go_simp) ?_;refine Exists.intro undef (And.intro (λg0=>absurd g0 (by simp)) ?_);simp only[Ab];refine Eh true (by go_simp) ?_;apply Exists.intro;refine⟨λg0 w' H=>?_,?_⟩
        . obtain⟨U,I,O⟩:=H;go_simp;rfl
        simp only[Ab];refine A0 rfl ?_;apply Exists.intro;refine⟨λw' H=>?_,?_⟩
        . obtain⟨U,I,O⟩:=H;go_simp;rfl
        simp only[Ab];refine B6 ?_;have hO:=g5.2.2;have hA:=Hd (gt.o wQ hO.o);clear g5 gt gc hE gB;go_wp2_with fail;go_roundw
        case rel=>exact⟨k+1,s,by omega,by go_num,kd.o,hA⟩
        case measure=>simp[intOf];omega
      ·obtain rfl:k=M:=by omega
       have kO:¬ (k:Int)<(k:Int):=by omega
       obtain⟨wz,kr⟩:∃W,W=wr:=⟨_,rfl⟩;subst kr;go_wp2_with fail;refine gY.o.mono ?_;rintro y wr1 ⟨⟨vk,rfl,gy,gz⟩,gD⟩;have HA:=Hd (kj.o wz wr1 vk k D HS.o (by have:=gJ.o;omega) gD gy gz);rw[Xx (Xs _)]at HA;clear gy gz gD gY HS k5;go_wp2_with fail;refine HA.o.mono ?_;rintro y wr2 ⟨vp,Y,rfl,gR,gk⟩;have ge:=Hd (Xg (gI.o (λW o=>B2 W o/\RowN vp (L.getD k []) W o) Y (K6 hG.o (RowN.keepB _ _)) (λW o h=>(gp.o W o h.1).1) (by have:=gJ.o;omega)) gk);have k3:leE i N zs=if L=[]then 20 else 0:=by unfold leE;rw[Xu (by rw[kq.o];simp),<-gn.o]
       rw[k3,<-gn.o]at ge;clear gk gR HA k3
       by_cases gg:k=0
       . have gE:L=[]:=Zl.1 (by rw[<-J.o];exact gg);rw[Xx gE]at ge;clear gE;subst gg;go_wp2_with fail;refine ge.o.mono ?_;rintro y X ⟨vl,s,rfl,_,g6⟩;have gN:=Hd g6.below0;have g9:=Hd (CV X);clear g6 ge;go_wp2_with fail;refine g9.o.mono ?_;rintro y w11 ⟨rfl,gi⟩;have hJ:=Hd (gZ.o.trans ((gN.o.trans (gi.mono gN.o.size)).mono gZ.o.size));clear gi g9;go_wp2_with fail;go_ret;exact⟨rfl,hJ.o⟩
       ·have gE:L≠[]:=λe=>gg (by rw[J.o,e];rfl)
        rw[Xu gE]at ge;obtain⟨ds,g7⟩:∃d,d=L.getD 0 []:=⟨_,rfl⟩;rw[<-g7]at ge;have gL:=Hd g7;have kx:¬ ((k:Int)=0):=by omega
        have kR:(0:Int)<(k:Int):=by omega
        clear gE g7;go_wp2_with fail;refine ge.o.mono ?_;rintro y X ⟨vl,s,rfl,_,g6⟩;obtain⟨b,off,c9,a2,c2,pp,pc,F,evl,d1,gl,gx⟩:∃b off c a2 c2 pp pc,Value.slice p3 k c3=.slice (some (Aw b off)) k c/\vl=.slice pp ds.length pc/\X.cell? (Aw b off)=some (.slice a2 ds.length c2)/\AM X a2 ds/\AM X pp ds:=by
         obtain⟨o3,m3,V3,_,_,h3⟩:=g6;have:=(gp.o _ _ h3.1.1).2.elem (i:=0) (by rw[<-J.o];omega);rw[<-J.o,<-gL.o]at this;obtain⟨b,off,c,a2,c2,e1,e2,e3⟩:=this;obtain⟨a6,c6,e6,h6,_⟩:=e3.1;injection e6 with e6 _ _
         subst e6;obtain⟨a7,c7,e7,h7,_⟩:=h3.2.1;exact⟨b,off,c,_,c2,a7,c7,e1,e7,e2,h6,h7⟩
        subst evl;injection F with F _ e10
        subst F;subst e10
        have gc:=Hd (Is ds ds rfl pp a2 pc c2 X gx gl);rw[XQ rfl]at gc;have hP:=Hd g6.below0;clear g6 ge gl gx;go_wp2_with fail;refine gc.o.mono ?_;rintro y wr4 ⟨rfl,k7⟩;have gN:=Hd (hP.o.trans (k7.mono hP.o.size));have g9:=Hd (CV wr4);clear k7 gc d1;go_wp2_with fail;refine g9.o.mono ?_;rintro y w11 ⟨rfl,gi⟩;have hJ:=Hd (gZ.o.trans ((gN.o.trans (gi.mono gN.o.size)).mono gZ.o.size));clear gi g9;go_wp2_with fail;go_ret;exact⟨rfl,hJ.o⟩
end Go.Proofs.YtnphndlbfeagbaaGreat
