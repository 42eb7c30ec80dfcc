/- The walk of a law: SiftRefW. -/
import Derived.Test.YtkidaindpahefaaGreatC9
set_option linter.unusedSimpArgs false
set_option linter.unusedVariables false
set_option linter.unusedSectionVars false
set_option linter.unnecessarySimpa false
set_option maxRecDepth 100000
set_option maxHeartbeats 8000000
namespace Go.Proofs.YtkidaindpahefaaGreat
open Go.Proofs.Tryz
open Go.RowKit
theorem siftref_walk (q:AskD)(ao ae ap:Option Addr)(co ce cp:Nat)(kf:Int)(mq:Nat)(hmq:mq<256)(w:Wd)(h:AskAt w q ao ae ap) :
 Cl 8 #[askV q ao ae ap co ce cp,Iv kf,.int .u8 mq] w (Bl (.bool true) w):=by
 have gg:Hq (∀ W,Bw w W->∀ u,u=askV q ao ae ap co ce cp->Cl 14 #[u] W fun y w'=>∃ b,y=.returned (.bool b)/\(b=true->C6 q)/\Bw W w'):=Hd fun W hb u hu=>by subst hu;exact Fl q ao ae ap co ce cp W (h.below hb)
 have gu:Hq (∀ W n,Bw w W->C6 q->q.vars=(n:Nat)->∀ u,u=askV q ao ae ap co ce cp->Cl 17 #[u] W (SetP Bd q n W)):=Hd fun W n hb hs hn u hu=>by subst hu;exact F4 Bz q ao ae ap co ce cp W (h.below hb) hs n hn
 obtain⟨vars,gq⟩:∃ z,z=q.vars:=⟨_,rfl⟩;have HV:=Hd gq;obtain⟨plen,gz⟩:∃ z,z=q.plan.length:=⟨_,rfl⟩;unfold askV at gg gu ⊢;rw[<- gq,<- gz] at gg gu ⊢;obtain⟨olen,gA⟩:∃ z,z=q.order.length:=⟨_,rfl⟩;obtain⟨elen,gB⟩:∃ z,z=q.es.length:=⟨_,rfl⟩;rw[<- gA,<- gB] at gg gu ⊢;obtain⟨w1,gy⟩:=Ex (w.alloc (.cells #[Iv vars,.slice ao olen co,.slice ae elen ce,.slice ap plen cp] 26));have HW1:Hq (_=w1):=Hd gy.symm;have gR:Hq (Bw w w1):=by rw[gy];exact Hd (Af _ _)
 have gm:w1.heap[w.heap.size]?=some (.cells #[Iv vars,.slice ao olen co,.slice ae elen ce,.slice ap plen cp] 26 (0,0)):=by rw[gy];exact VT _ _
 have d0:w1.cell? (Av w.heap.size)=some (Iv vars):=by rw[VR _ _ 0 _ _ _ gm];rfl
 have d1:w1.cell? (Aw w.heap.size 1)=some (.slice ao olen co):=by rw[VR _ _ 1 _ _ _ gm];rfl
 have d2:w1.cell? (Aw w.heap.size 2)=some (.slice ae elen ce):=by rw[VR _ _ 2 _ _ _ gm];rfl
 have d3:w1.cell? (Aw w.heap.size 3)=some (.slice ap plen cp):=by rw[VR _ _ 3 _ _ _ gm];rfl
 clear h gy gm gq gz gA gB
 go_enter func8,ntmps8
 go_upto_region 1 with fail;rw[HW1.o];go_wp2_with fail;refine(gg.o _ gR.o _ rfl).mono ?_;rintro y w2 ⟨b,rfl,hb,gi⟩;have HB:=Hd hb;have gp:=Hd (gR.o.trans (gi.mono gR.o.size));have e0:=Cq gi d0;have e1:=Cq gi d1;have e2:=Cq gi d2;have e3:=Cq gi d3;have g5:=Hd (Cp (K:=Bd) Bz w2);clear hb gi gg d0 d1 d2 d3 HW1;cases b with
 | false =>
   go_wp2_with fail;refine g5.o.mono ?_;rintro y w3 ⟨rfl,h6⟩;have hw:=Hd (gp.o.trans (h6.mono gp.o.size));clear h6;go_wp2_with fail;go_ret;exact⟨rfl,hw.o⟩
 | true =>
   have gv:=Hd (HB.o (by first|rfl|trivial));obtain⟨n,hn⟩:∃ n:Nat,vars=(n:Nat):=⟨vars.toNat,by have:=gv.o.lo;have:=HV.o;omega⟩;subst hn;have ho:n<=6:=by have:=gv.o.hi;have:=HV.o;omega
   have hq:1<=n:=by have:=gv.o.lo;have:=HV.o;omega
   have hz:q.es.length<=5:=gv.o.es;have gJ:=Hd (gu.o w2 n gp.o gv.o rfl _ rfl);clear gu g5 HB;go_wp2_with fail;refine gJ.o.mono ?_;rintro y w3 ⟨mb,vl,vx,wb,hs,nx,rfl,gr,gE,hnx,o3,m3,V3,lt3,-⟩;have hr:hs.length<=5:=by have:=WA List.length gE;simp at this;omega
   obtain⟨al,cl,hj⟩:∃ a c,vl=.slice a hs.length c:=by
    obtain⟨a,c,e,_⟩:=lt3.l.own.slice;exact⟨a,c,by rw[e];simp[Ao]⟩
   subst hj;have hf:Hq (∀ p∈hs,p∈two++hs):=Hd fun p hp=>Xs _ hp
   have gZ:(two++hs).length=2+hs.length:=by simp[two];omega
   have gC:Hq (∀ k,k<=192->k*2^n<=Bc n):=Hd fun k hk=>EE hk
   have hA:Hq (wb.cell? (Av w.heap.size)=some (Iv (n:Nat))):=Hd (Cq gr e0);have c0:=(lt3.below0.cell (p:=Av w.heap.size) (Ag (Cq gr e0))).trans (Cq gr e0);have gk:Hq (Bw w wb):=Hd (gp.o.trans (gr.mono gp.o.size));have hv:Hq (∀ p∈two++hs,p.1<nx):=Hd fun p hp=>(lt3.sat.range p hp).2
   have HL:=Hd ((lt3.withOd (Od':=fun _=>True) trivial).withSt (Wt':=SufW q.plan) (by rw[lt3.st.1];exact XI _));clear lt3 gr gE gJ e0 e1 e2 e3;obtain⟨zs,hS⟩:=S23.start HL.o
   have HQ:Hq (Q23 n hs nx):=Hd ⟨hq,ho,hr,by omega,by
    have:=gC.o (3*(two++hs).length) (by rw[gZ];omega);rw[Nat.mul_assoc] at this;exact this⟩
   have HS:=Hd hS;clear hS hnx gC hf hv gZ HL;have g7:=Hd (HS.o.order AY);clear HS c0;go_wp2_with fail;refine g7.o.mono ?_;rintro y w4 ⟨v4,rfl,hm,h4,ht⟩;obtain⟨a4,c4,e4,hg,-⟩:=hm;rw[h4.len] at e4;subst e4;have hc:As (fun W o=>True/\AA (.slice a4 n c4) zs W o):=AY.and AA.keep;have g0:=Hd hc;have h9:=Hd h4;clear h4 ht hg g7 hc;have gj:=Hd (VH 100 w4);go_wp2_with fail;refine gj.o.mono ?_;rintro y w5 ⟨rfl,h5⟩;have h8:=Hd (h9.o.below g0.o h5);clear h5 h9 gj;have gj:=Hd (VI 0 100 w5);go_wp2_with fail;refine gj.o.mono ?_;rintro y w6 ⟨rfl,h3⟩;have h7:=Hd (h8.o.below g0.o h3);clear h3 h8 gj;have gj:=Hd (VJ w6);go_wp2_with fail;refine gj.o.mono ?_;rintro y w7 ⟨rfl,h2⟩;have gh:=Hd (h7.o.below g0.o h2);clear h2 h7 gj;obtain⟨kb,gY,gX⟩:=gh.o.knows kf;have ha:=Hd gX;have gQ:=Hd gY;clear gY gX;go_wp2_with fail;refine ha.o.mono ?_;rintro y w7' ⟨rfl,rfl⟩;clear ha;obtain⟨mm,gU⟩:∃ q,q=mq%9:=⟨_,rfl⟩;have gV:mm<=8:=by omega
   have hy:((mq:Int)).tmod 9=(mm:Nat):=by rw[gU];exact(XC (by omega)).trans (by omega)
   clear gU;cases kb with
   | true =>
     clear gQ;have gw:=Hd (new23 (K:=Bd) gV w7);go_wp2_with fail;refine gw.o.mono ?_;rintro y wA ⟨mb2,rfl,gG,gx⟩;clear gw gG;go_wp2_with fail;refine gx.o.mono ?_;rintro y wB ⟨rfl,gt⟩;have go:=Hd (gh.o.below g0.o gt);have g7:=Hd (go.o.order g0.o);clear gt gx gh;obtain⟨eb,g6⟩:∃ q:Int,q=if mm<=6 then 0 else 18:=⟨_,rfl⟩
     rw[<- g6];have gF:(eb=0/\(mm:Int)<=6/\¬ (mm:Int)>6)\/(eb=18/\¬ (mm:Int)<=6/\(mm:Int)>6):=by
      by_cases h:mm<=6
      . rw[VW h] at g6;exact .inl ⟨g6,by omega,by omega⟩
      . rw[VS h] at g6;exact .inr ⟨g6,by omega,by omega⟩
     clear g6;rcases gF with ⟨rfl,g1,g2⟩|⟨rfl,g1,g2⟩
     . go_wp2_with fail;refine g7.o.mono ?_;rintro y wC ⟨vC,rfl,gf,hC,gn⟩;obtain⟨aC,cC,eC,g8,-⟩:=gf;rw[hC.len] at eC;subst eC;have HN:=Hd (hC.nodes (co:=cC) HQ.o hC.r hC.len g8);have gd:=Hd hC;clear hC gn g8 g7 go;go_wp2_with fail;refine HN.o.mono ?_;rintro y wD ⟨rfl,gc⟩;have g3:=Hd (gd.o.below (g0.o.and AA.keep) gc);have g4:=Hd (DQ (g0.o.and AA.keep) HQ.o g3.o);obtain⟨s1,hs1⟩:∃ q,q=szO n (hs.map Prod.snd) zs:=⟨_,rfl⟩;rw[<- hs1] at g4 ⊢;clear gc gd HN hs1;go_wp2_with fail;refine g4.o.mono ?_;rintro y wE ⟨rfl,ga⟩;have ge:=Hd (gk.o.trans ((g3.o.below (g0.o.and AA.keep) ga).below0.mono gk.o.size));have g5:=Hd (Cp (K:=Bd) Bz wE);clear ga g3 g4;go_wp2_with fail;refine g5.o.mono ?_;rintro y wZ ⟨rfl,g9⟩;have HZ:=Hd (ge.o.trans (g9.mono ge.o.size));clear g9 g5;go_wp2_with fail;go_ret;exact⟨by go_simp,HZ.o⟩
     . go_wp2_with fail;refine g7.o.mono ?_;rintro y wC ⟨vC,rfl,gf,hC,gn⟩;obtain⟨aC,cC,eC,g8,-⟩:=gf;rw[hC.len] at eC;subst eC;have HN:=Hd (hC.nodes (co:=cC) HQ.o hC.r hC.len g8);have gd:=Hd hC;clear hC gn g8 g7 go;go_wp2_with fail;refine HN.o.mono ?_;rintro y wD ⟨rfl,gc⟩;have g3:=Hd (gd.o.below (g0.o.and AA.keep) gc);have g4:=Hd (DQ (g0.o.and AA.keep) HQ.o g3.o);obtain⟨s1,hs1⟩:∃ q,q=szO n (hs.map Prod.snd) zs:=⟨_,rfl⟩;rw[<- hs1] at g4 ⊢;clear gc gd HN hs1;go_wp2_with fail;refine g4.o.mono ?_;rintro y wE ⟨rfl,ga⟩;have ge:=Hd (gk.o.trans ((g3.o.below (g0.o.and AA.keep) ga).below0.mono gk.o.size));have g5:=Hd (Cp (K:=Bd) Bz wE);clear ga g3 g4;go_wp2_with fail;refine g5.o.mono ?_;rintro y wZ ⟨rfl,g9⟩;have HZ:=Hd (ge.o.trans (g9.mono ge.o.size));clear g9 g5;go_wp2_with fail;go_ret;exact⟨by go_simp,HZ.o⟩
   | false =>
     have gP:Hq (¬ known (two++hs) kf):=Hd fun e=>by have:=gQ.o.2 e;cases this
     clear gQ;have gl:=Hd (gh.o.badSift gP.o rfl 100);go_wp2_with fail;refine gl.o.mono ?_;rintro y w8 ⟨rfl,h1⟩;have gL:=Hd (gh.o.below g0.o ((Af w7 _).trans (h1.mono (Af w7 (.cells #[Iv kf] 3)).size)));clear h1 gh gl;have gl:=Hd (gL.o.badVar gP.o rfl (-1) 100);go_wp2_with fail;refine gl.o.mono ?_;rintro y w9 ⟨rfl,h0⟩;have gK:=Hd (gL.o.below g0.o ((Af w8 _).trans (h0.mono (Af w8 (.cells #[Iv kf] 3)).size)));clear h0 gL gl;have gl:=Hd (gK.o.badBest gP.o rfl);go_wp2_with fail;refine gl.o.mono ?_;rintro y w10 ⟨rfl,gH⟩;have gN:=Hd (gK.o.below g0.o ((Af w9 _).trans (gH.mono (Af w9 (.cells #[Iv kf] 3)).size)));clear gH gK gl;have gO:=Hd (gN.o.order g0.o);go_wp2_with fail;refine gO.o.mono ?_;rintro y w11 ⟨v11,rfl,gS,gI,he⟩;obtain⟨a11,c11,e11,gD,-⟩:=gS;subst e11;have hd:SliceIs w11 (.slice a4 n c4) zs:=gI.know (Q:=fun W=>SliceIs W (.slice a4 n c4) zs) fun W o hh=>hh.1.2.slice
     obtain⟨a4',c4',e9,gT,-⟩:=hd;injection e9 with e1 e2 e3
     subst e1;have gg:=Hd (EO a11 a4 c11 c4 zs zs w11 gD gT);rw[WG rfl,<- e2] at gg;rw[<- e2];have gM:=Hd (gI.withB (B':=fun W o=>True/\AA (.slice a4 n c4) zs W o) fun _ _ hh=>hh.1);clear gD gT gI he e2 e3 gO gN;go_wp2_with fail;refine gg.o.mono ?_;rintro y w12 ⟨rfl,qq,rfl⟩;have gh:=Hd (gM.o.below g0.o (Bj (VZ w11.heap.size w11) qq));clear gg gM;have gw:=Hd (new23 (K:=Bd) gV (w11.drewN qq));go_wp2_with fail;refine gw.o.mono ?_;rintro y wA ⟨mb2,rfl,gG,gx⟩;clear gw gG;go_wp2_with fail;refine gx.o.mono ?_;rintro y wB ⟨rfl,gt⟩;have go:=Hd (gh.o.below g0.o gt);have g7:=Hd (go.o.order g0.o);clear gt gx gh;obtain⟨eb,g6⟩:∃ q:Int,q=if mm<=6 then 0 else 18:=⟨_,rfl⟩
     rw[<- g6];have gF:(eb=0/\(mm:Int)<=6/\¬ (mm:Int)>6)\/(eb=18/\¬ (mm:Int)<=6/\(mm:Int)>6):=by
      by_cases h:mm<=6
      . rw[VW h] at g6;exact .inl ⟨g6,by omega,by omega⟩
      . rw[VS h] at g6;exact .inr ⟨g6,by omega,by omega⟩
     clear g6;rcases gF with ⟨rfl,g1,g2⟩|⟨rfl,g1,g2⟩
     . go_wp2_with fail;refine g7.o.mono ?_;rintro y wC ⟨vC,rfl,gf,hC,gn⟩;obtain⟨aC,cC,eC,g8,-⟩:=gf;rw[hC.len] at eC;subst eC;have HN:=Hd (hC.nodes (co:=cC) HQ.o hC.r hC.len g8);have gd:=Hd hC;clear hC gn g8 g7 go;go_wp2_with fail;refine HN.o.mono ?_;rintro y wD ⟨rfl,gc⟩;have g3:=Hd (gd.o.below (g0.o.and AA.keep) gc);have g4:=Hd (DQ (g0.o.and AA.keep) HQ.o g3.o);obtain⟨s1,hs1⟩:∃ q,q=szO n (hs.map Prod.snd) zs:=⟨_,rfl⟩;rw[<- hs1] at g4 ⊢;clear gc gd HN hs1;go_wp2_with fail;refine g4.o.mono ?_;rintro y wE ⟨rfl,ga⟩;have ge:=Hd (gk.o.trans ((g3.o.below (g0.o.and AA.keep) ga).below0.mono gk.o.size));have g5:=Hd (Cp (K:=Bd) Bz wE);clear ga g3 g4;go_wp2_with fail;refine g5.o.mono ?_;rintro y wZ ⟨rfl,g9⟩;have HZ:=Hd (ge.o.trans (g9.mono ge.o.size));clear g9 g5;go_wp2_with fail;go_ret;exact⟨by go_simp,HZ.o⟩
     . go_wp2_with fail;refine g7.o.mono ?_;rintro y wC ⟨vC,rfl,gf,hC,gn⟩;obtain⟨aC,cC,eC,g8,-⟩:=gf;rw[hC.len] at eC;subst eC;have HN:=Hd (hC.nodes (co:=cC) HQ.o hC.r hC.len g8);have gd:=Hd hC;clear hC gn g8 g7 go;go_wp2_with fail;refine HN.o.mono ?_;rintro y wD ⟨rfl,gc⟩;have g3:=Hd (gd.o.below (g0.o.and AA.keep) gc);have g4:=Hd (DQ (g0.o.and AA.keep) HQ.o g3.o);obtain⟨s1,hs1⟩:∃ q,q=szO n (hs.map Prod.snd) zs:=⟨_,rfl⟩;rw[<- hs1] at g4 ⊢;clear gc gd HN hs1;go_wp2_with fail;refine g4.o.mono ?_;rintro y wE ⟨rfl,ga⟩;have ge:=Hd (gk.o.trans ((g3.o.below (g0.o.and AA.keep) ga).below0.mono gk.o.size));have g5:=Hd (Cp (K:=Bd) Bz wE);clear ga g3 g4;go_wp2_with fail;refine g5.o.mono ?_;rintro y wZ ⟨rfl,g9⟩;have HZ:=Hd (ge.o.trans (g9.mono ge.o.size));clear g9 g5;go_wp2_with fail;go_ret;exact⟨by go_simp,HZ.o⟩
end Go.Proofs.YtkidaindpahefaaGreat
