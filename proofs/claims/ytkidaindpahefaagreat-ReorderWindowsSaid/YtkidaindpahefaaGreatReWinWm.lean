/- The walk of a law: ReWinW. -/
import Derived.Test.YtkidaindpahefaaGreatX9
set_option linter.unusedSimpArgs false
set_option linter.unusedVariables false
set_option linter.unusedSectionVars false
set_option linter.unnecessarySimpa false
set_option maxRecDepth 100000
set_option maxHeartbeats 8000000
namespace Go.Proofs.YtkidaindpahefaaGreat
open Go.Proofs.Tryz
open Go.RowKit
variable {base c k n:Nat}{w:Wd}
theorem J9 {e:TypeId}{size:Nat}{a:Option Addr}{xs:List Value}(h:w.ownsRow base e size (.slice a n c) k xs):k<=c:=by
 rcases h.2 with ⟨hv,h0⟩|⟨g,cap,cur,hv,_,_,h1,_⟩
 . omega
 ·injection hv with _ _ e3
  omega
theorem Vn (q:AskD)(hqp:q.plan=[])(ao ae:Option Addr)(co ce:Nat)(pv:Value)(lm wm sm:Int)(w:Wd)(h:AskAt w q ao ae none) :
 Cl 9 #[.agg #[Iv q.vars,.slice ao q.order.length co,.slice ae q.es.length ce,pv],Iv lm,Iv wm,Iv sm] w (Bl (.bool true) w):=by
 obtain⟨ap,gG⟩:∃ a:Option Addr,a=none:=⟨_,rfl⟩;rw[<- gG] at h;obtain⟨cp,gU⟩:∃ c:Nat,c=0:=⟨_,rfl⟩;have gk:Hq (∀ W,Bw w W->∀ u,u=askV q ao ae ap co ce cp->Cl 14 #[u] W fun y w'=>∃ b,y=.returned (.bool b)/\(b=true->Eh q)/\Bw W w'):=Hd fun W hb u hu=>by subst hu;exact Rl q ao ae ap co ce cp W (h.below hb)
 have gj:Hq (∀ W n,Bw w W->Eh q->q.vars=(n:Nat)->∀ u,u=askV q ao ae ap co ce cp->Cl 17 #[u] W (SetP Il q n W)):=Hd fun W n hb hs hn u hu=>by subst hu;exact Tn DA q ao ae ap co ce cp W (h.below hb) hs n hn
 obtain⟨vars,gm⟩:∃ z,z=q.vars:=⟨_,rfl⟩;have HV:=Hd gm;obtain⟨plen,gu⟩:∃ z,z=q.plan.length:=⟨_,rfl⟩;unfold askV at gk gj;rw[hqp] at gu;rw[hqp,gG,gU] at gk gj;rw[<- gm] at gk gj ⊢;obtain⟨olen,gv⟩:∃ z,z=q.order.length:=⟨_,rfl⟩;obtain⟨elen,gw⟩:∃ z,z=q.es.length:=⟨_,rfl⟩;rw[<- gv,<- gw] at gk gj ⊢;have hP:=Hd hqp;obtain⟨w1,ge⟩:=Ex (w.alloc (.cells #[Iv vars,.slice ao olen co,.slice ae elen ce,pv] 26));have HW1:Hq (_=w1):=Hd ge.symm;have gn:w1.heap[w.heap.size]?=some (.cells #[Iv vars,.slice ao olen co,.slice ae elen ce,pv] 26 (0,0)):=by rw[ge];exact Vv _ _
 obtain⟨g0,g1,g2,g3,gf⟩:=cells4 gn;obtain⟨w1s,gl⟩:∃ W,W=w1.setCell (Aw w.heap.size 3) (.slice none 0 0):=⟨_,rfl⟩;have gI:Hq (_=w1s):=Hd gl.symm;have gK:Hq (Bw w w1s):=by rw[gl,ge];exact Hd ((Ah _ _).setCell (Vu _) _)
 have gh:w1s.heap[w.heap.size]?=some (.cells #[Iv vars,.slice ao olen co,.slice ae elen ce,.slice none 0 0] 26 (0,0)):=by rw[gl];exact A2 gn _
 have d0:w1s.cell? (Av w.heap.size)=some (Iv vars):=by rw[Vt _ _ 0 _ _ _ gh];rfl
 have d1:w1s.cell? (Aw w.heap.size 1)=some (.slice ao olen co):=by rw[Vt _ _ 1 _ _ _ gh];rfl
 have d2:w1s.cell? (Aw w.heap.size 2)=some (.slice ae elen ce):=by rw[Vt _ _ 2 _ _ _ gh];rfl
 have d3:w1s.cell? (Aw w.heap.size 3)=some (.slice none 0 0):=by rw[Vt _ _ 3 _ _ _ gh];rfl
 clear h ge gh gm gu gv gw gl gn hqp gG gU
 go_enter func9,ntmps9
 go_upto_region 1 with fail;rw[HW1.o];go_upto_region 2 with fail;rw[gI.o];clear HW1 gI g0 g1 g2 g3 gf;go_wp2_with fail;refine(gk.o _ gK.o _ rfl).mono ?_;rintro y w2 ⟨b,rfl,hb,gc⟩;have HB:=Hd hb;have gi:=Hd (gK.o.trans (gc.mono gK.o.size));have e0:=Cq gc d0;have e1:=Cq gc d1;have e2:=Cq gc d2;have e3:=Cq gc d3;have hf:=Hd (N5 (K:=Il) DA w2);clear hb gc gk d0 d1 d2 d3;cases b with
 | false =>
   go_wp2_with fail;refine hf.o.mono ?_;rintro y w3 ⟨rfl,gX⟩;have hE:=Hd (gi.o.trans (gX.mono gi.o.size));clear gX;go_wp2_with fail;go_ret;exact⟨rfl,hE.o⟩
 | true =>
   have gp:=Hd (HB.o (by first|rfl|trivial));obtain⟨n,hn⟩:∃ n:Nat,vars=(n:Nat):=⟨vars.toNat,by have:=gp.o.lo;have:=HV.o;omega⟩;subst hn;have gQ:n<=6:=by have:=gp.o.hi;have:=HV.o;omega
   have ht:1<=n:=by have:=gp.o.lo;have:=HV.o;omega
   have hK:q.es.length<=5:=gp.o.es;have gJ:=Hd (gj.o w2 n gi.o gp.o rfl _ rfl);clear gj hf HB;go_wp2_with fail;refine gJ.o.mono ?_;rintro y w3 ⟨mb,vl,vx,wb,hs,nx,rfl,go,gD,hnx,o3,m3,V3,lt3,-⟩;have hw:hs.length<=5:=by have:=Wo List.length gD;simp at this;omega
   obtain⟨al,cl,hm⟩:∃ a c,vl=.slice a hs.length c:=by
    obtain⟨a,c,e,_⟩:=lt3.l.own.slice;exact⟨a,c,by rw[e];simp[Au]⟩
   subst hm;have hg:Hq (∀ p∈hs,p∈two++hs):=Hd fun p hp=>WY _ hp
   have gS:(two++hs).length=2+hs.length:=by simp[two];omega
   have gz:Hq (∀ k,k<=192->k*2^n<=Bi n):=Hd fun k hk=>M9 hk
   have gA:Hq (wb.cell? (Av w.heap.size)=some (Iv (n:Nat))):=Hd (Cq go e0);have c0:=(lt3.below0.cell (p:=Av w.heap.size) (Af (Cq go e0))).trans (Cq go e0);have g9:Hq (Bw w wb):=Hd (gi.o.trans (go.mono gi.o.size));have hB:Hq (∀ p∈two++hs,p.1<nx):=Hd fun p hp=>(lt3.sat.range p hp).2
   have HL:=Hd ((lt3.withOd (Od':=fun _=>True) trivial).withSt (Wt':=SufW q.plan) (by rw[lt3.st.1];exact List.suffix_refl _));clear lt3 go gD gJ e0 e1 e2 e3;obtain⟨zs,hS⟩:=S23.start HL.o
   have HQ:Hq (Q23 n hs nx):=Hd ⟨ht,gQ,hw,by omega,by
    have:=gz.o (3*(two++hs).length) (by rw[gS];omega);rw[Nat.mul_assoc] at this;exact this⟩
   have HS:=Hd hS;have gH:=Hd (show w.heap.size<=wb.heap.size from g9.o.size);clear hS hnx gz hg hB gS HL;have gL:∃ ax cx,vx=.slice ax hs.length cx/\hs.length<=cl/\hs.length<=cx:=by
    obtain⟨o9,m9,V9,_,_,_,gC,_⟩:=HS.o.st;obtain⟨ax,cx,e,_⟩:=gC.rowT HQ.o (Vu _);have k1:=J9 gC.1.own;obtain⟨rs,r1,r2,_⟩:=gC.2.ex;rw[e] at r2;have k2:=J9 r2;simp[Au] at k1;rw[VP] at r1;exact⟨ax,cx,e,k1,by omega⟩
   obtain⟨ax,cx,rfl,hN,hM⟩:=gL;obtain⟨d,hd⟩:=Ex (if 0<=sm/\sm<(hs.length:Int) then sm.toNat else hs.length:Nat)
   have gE:d<=hs.length:=by rw[hd];split<;>omega
   have HD:=Hd hd;clear hd;go_upto_region 8 with fail
   go_cut [43] (fun sc wx=>∃ bb:Bool,sc=.bool bb/\Hq (bb=true->sm=(d:Int))/\Hq (bb=false->d=hs.length)/\Hq (w3=wx))
   case first =>
    by_cases k1:0<=sm
    ·by_cases k2:sm<(hs.length:Int)
     ·have gT:sm=(d:Int):=by have:=HD.o;rw[Vw ⟨k1,k2⟩] at this;omega
      have HH:=Hd gT;clear HD gT;go_wp2_with fail;go_meet
      case rel=>exact⟨true,by first|rfl|simp,Hd fun _=>HH.o,Hd fun e=>(by cases e),Hd rfl⟩
     ·have HH:=Hd (show d=hs.length by have:=HD.o;rw[Vs (fun hh=>k2 hh.2)] at this;exact this);clear HD;go_wp2_with fail;go_meet
      case rel=>exact⟨false,by first|rfl|simp,Hd fun e=>(by cases e),Hd fun _=>HH.o,Hd rfl⟩
    ·have HH:=Hd (show d=hs.length by have:=HD.o;rw[Vs (fun hh=>k1 hh.1)] at this;exact this);clear HD;go_wp2_with fail;go_meet
     case rel=>exact⟨false,by first|rfl|simp,Hd fun e=>(by cases e),Hd fun _=>HH.o,Hd rfl⟩
   case rest =>
   obtain⟨bb,rfl,h9,h7,gZ⟩:=hcut;have gB:=gZ.o;subst gB;clear gZ HD
   go_upto_if 43 with fail
   go_cut [13] (fun sk wx=>sk=Iv (d:Nat)/\Hq (w3=wx))
   case first =>
    cases bb with
    | true =>
      have HE:Hq (Value.int .i64 sm=Iv (d:Nat)):=Hd (by rw[h9.o rfl]);go_wp2_with fail;go_meet
      case rel=>exact⟨HE.o,Hd rfl⟩
    | false =>
      have HE:Hq (Value.int .i64 (hs.length:Nat)=Iv (d:Nat)):=Hd (by rw[h7.o rfl]);go_wp2_with fail;go_meet
      case rel=>exact⟨HE.o,Hd rfl⟩
   case rest =>
   obtain⟨rfl,h3⟩:=hcut;have gB:=h3.o;subst gB;clear h3 h9 h7;have he:=Hd (HS.o.order2 Ct);clear HS;go_wp2_with fail;refine he.o.mono ?_;rintro y w4 ⟨v4,rfl,gt,h4,hA⟩;obtain⟨g4,c4,gO,hJ,hI⟩:=gt.shape (by rw[h4.len];omega);have gF:zs.length<=c4:=by
    have:=gt;rw[gO] at this;exact J9 this
   subst gO;rw[h4.len] at h4 gt gF ⊢;have ga:=Hd (show AA (fun W o=>True/\AW (.slice (some (Av g4)) n c4) zs W o) from Ct.and AW.keep);have gY:=Hd (And.intro h4.r h4.len);have gy:=Hd h4;have hD:=Hd gF;clear h4 hA gt gF he;have hL:(d:Int)<=(cl:Int):=by omega
   have hF:(d:Int)<=(cx:Int):=by omega
   have hr:((1<=wm/\wm<=4)/\0<=lm/\lm<=(n:Int)-wm)\/¬ (1<=wm/\wm<=4/\0<=lm/\lm<=(n:Int)-wm):=by omega
   rcases hr with ⟨⟨k1,k2⟩,k3,k4⟩|gP
   ·obtain⟨wd,rfl⟩:∃ q:Nat,wm=(q:Int):=⟨wm.toNat,by omega⟩;obtain⟨lv,rfl⟩:∃ q:Nat,lm=(q:Int):=⟨lm.toNat,by omega⟩;have ge:1<=wd:=by omega
    have gN:wd<=4:=by omega
    have gR:lv+wd<=n:=by omega
    have h0:=Hd (gy.o.window ga.o HQ.o (d:=d) ge gN gR gE);have q1:¬ ((wd:Int)<1):=by omega
    have q2:¬ ((wd:Int)>4):=by omega
    have q3:¬ ((lv:Int)<0):=by omega
    have q4:¬ ((lv:Int)>(n:Int)-(wd:Int)):=by omega
    have q5:IntKind.i64.wrap ((n:Int)-(wd:Int))=(n:Int)-(wd:Int):=Xf _ (by omega);clear gy k1 k2 k3 k4;go_wp2_with fail;refine h0.o.mono ?_;rintro y w8 ⟨k,ts,gM,hH,rfl,h8⟩;have c8:=(h8.below0.cell (p:=Av w.heap.size) (Af gA.o)).trans gA.o;have hc:Hq (Cl 43 #[.slice ax d cx,.slice (some (Av g4)) n c4,Iv (lv:Nat),Iv (wd:Nat)] w8 fun e w'=>∃ v,e=.returned (.tuple #[v,Iv (k:Nat)])/\SliceIs w' v ts/\Bw w8 w'):=by
     obtain⟨o8,m8,V8,_,_,gq,hj,_,hv⟩:=h8.st;obtain⟨a,c,e,hq,hy⟩:=hj.rowT HQ.o gE;injection e with ea eb ec
     subst ea ec;obtain⟨a9,c9,e9,gr,-⟩:=hv.slice;injection e9 with e1 e2 e3
     subst e1;have hl:((hs.take d).map Prod.snd).length=d:=by simp;omega
     have:=Vk (fc:=cx) gQ ge gN gR gY.o.1 gY.o.2 gM hD.o gr hq (fun G hG=>by
      obtain⟨p,hp,rfl⟩:=VD.1 hG;exact gq.dep (Fc p (Xy hp))) (by
      rw[hl];have h1:=HQ.o.pow;have h2:=XI (show d<=5 by omega) h1;omega) hy
     rw[hl] at this;exact Hd this
    have ha:=Hd h8;clear h8 gM h0;go_wp2_with fail;refine hc.o.mono ?_;rintro y w9 ⟨v9,rfl,ho,gV⟩;have gx:=Hd (ha.o.below ga.o gV);obtain⟨b9,d9,e9,gr,-⟩:=ho;rw[gx.o.len] at e9;subst e9;have g6:=Hd (Fe DA ga.o HQ.o gx.o (c:=d9) gr);have g7:=Hd (g9.o.trans (gx.o.below0.mono g9.o.size));clear gV gr ha gx hc;go_wp2_with fail;refine g6.o.mono ?_;rintro y wY ⟨rfl,g5⟩;have HY:=Hd (g7.o.trans (g5.mono g7.o.size));clear g5 g6;go_wp2_with fail;go_ret;exact⟨rfl,HY.o⟩
   ·have gH:=Hd (gy.o.windowBad ga.o HQ.o (d:=d) gP gE);clear gy;go_wp2_with fail;refine gH.o.mono ?_;rintro y w5 ⟨rfl,h5⟩
    have hC:Hq (∀ p∈two++hs,p.1≠(-1:Int)):=Hd (by
     obtain⟨o5,m5,V5,_,_,gq,_⟩:=h5.st;intro p hp e;have:=(gq.range p hp).1;omega)
    have c5:=(h5.below0.cell (p:=Av w.heap.size) (Af gA.o)).trans gA.o;have hO:=Hd h5;have gd:=Hd (h5.windowUn ga.o (lv:=lm) (wd:=wm) hC.o rfl);clear h5 gH;have hz:wm<1\/(¬ wm<1/\wm>4)\/(¬ wm<1/\¬ wm>4/\lm<0)\/(¬ wm<1/\¬ wm>4/\¬ lm<0/\lm>(n:Int)-wm/\IntKind.i64.wrap ((n:Int)-wm)=(n:Int)-wm):=by
     by_cases q1:wm<1
     . exact .inl q1
     by_cases q2:wm>4
     . exact .inr (.inl ⟨q1,q2⟩)
     by_cases q3:lm<0
     . exact .inr (.inr (.inl ⟨q1,q2,q3⟩))
     exact .inr (.inr (.inr ⟨q1,q2,q3,by omega,Xf _ (by omega)⟩))
    clear gP;rcases hz with q1|⟨q1,q2⟩|⟨q1,q2,q3⟩|⟨q1,q2,q3,q4,q5⟩
    ·go_wp2_with fail;refine gd.o.mono ?_;rintro y w6 ⟨rfl,h6⟩;have gg:SliceIs w6 (.slice (some (Av g4)) n c4) zs:=h6.know (Q:=fun W=>SliceIs W (.slice (some (Av g4)) n c4) zs) fun W o hh=>hh.2.slice
     obtain⟨a6,c6',e6,g8,-⟩:=gg;injection e6 with e1 e2 e3
     subst e1;have g6:=Hd (Fe DA ga.o HQ.o h6 (c:=c4) g8);have g7:=Hd (g9.o.trans (h6.below0.mono g9.o.size));clear h6 g8 e2 e3 gd;go_wp2_with fail;refine g6.o.mono ?_;rintro y wY ⟨rfl,g5⟩;have HY:=Hd (g7.o.trans (g5.mono g7.o.size));clear g5 g6;go_wp2_with fail;go_ret;exact⟨rfl,HY.o⟩
    ·go_wp2_with fail;refine gd.o.mono ?_;rintro y w6 ⟨rfl,h6⟩;have gg:SliceIs w6 (.slice (some (Av g4)) n c4) zs:=h6.know (Q:=fun W=>SliceIs W (.slice (some (Av g4)) n c4) zs) fun W o hh=>hh.2.slice
     obtain⟨a6,c6',e6,g8,-⟩:=gg;injection e6 with e1 e2 e3
     subst e1;have g6:=Hd (Fe DA ga.o HQ.o h6 (c:=c4) g8);have g7:=Hd (g9.o.trans (h6.below0.mono g9.o.size));clear h6 g8 e2 e3 gd;go_wp2_with fail;refine g6.o.mono ?_;rintro y wY ⟨rfl,g5⟩;have HY:=Hd (g7.o.trans (g5.mono g7.o.size));clear g5 g6;go_wp2_with fail;go_ret;exact⟨rfl,HY.o⟩
    ·go_wp2_with fail;refine gd.o.mono ?_;rintro y w6 ⟨rfl,h6⟩;have gg:SliceIs w6 (.slice (some (Av g4)) n c4) zs:=h6.know (Q:=fun W=>SliceIs W (.slice (some (Av g4)) n c4) zs) fun W o hh=>hh.2.slice
     obtain⟨a6,c6',e6,g8,-⟩:=gg;injection e6 with e1 e2 e3
     subst e1;have g6:=Hd (Fe DA ga.o HQ.o h6 (c:=c4) g8);have g7:=Hd (g9.o.trans (h6.below0.mono g9.o.size));clear h6 g8 e2 e3 gd;go_wp2_with fail;refine g6.o.mono ?_;rintro y wY ⟨rfl,g5⟩;have HY:=Hd (g7.o.trans (g5.mono g7.o.size));clear g5 g6;go_wp2_with fail;go_ret;exact⟨rfl,HY.o⟩
    ·go_wp2_with fail;refine gd.o.mono ?_;rintro y w6 ⟨rfl,h6⟩;have gg:SliceIs w6 (.slice (some (Av g4)) n c4) zs:=h6.know (Q:=fun W=>SliceIs W (.slice (some (Av g4)) n c4) zs) fun W o hh=>hh.2.slice
     obtain⟨a6,c6',e6,g8,-⟩:=gg;injection e6 with e1 e2 e3
     subst e1;have g6:=Hd (Fe DA ga.o HQ.o h6 (c:=c4) g8);have g7:=Hd (g9.o.trans (h6.below0.mono g9.o.size));clear h6 g8 e2 e3 gd;go_wp2_with fail;refine g6.o.mono ?_;rintro y wY ⟨rfl,g5⟩;have HY:=Hd (g7.o.trans (g5.mono g7.o.size));clear g5 g6;go_wp2_with fail;go_ret;exact⟨rfl,HY.o⟩
theorem rewin_walk (q:AskD)(ao ae ap:Option Addr)(co ce cp:Nat)(lm wm sm:Int)(w:Wd)(h:AskAt w q ao ae ap) :
 Cl 9 #[askV q ao ae ap co ce cp,Iv lm,Iv wm,Iv sm] w (Bl (.bool true) w) :=
 Vn { q with plan:=[] } rfl ao ae co ce _ lm wm sm w ⟨h.vars,h.order,h.es,⟨by simp,fun k hk=>by simp at hk⟩⟩
end Go.Proofs.YtkidaindpahefaaGreat
