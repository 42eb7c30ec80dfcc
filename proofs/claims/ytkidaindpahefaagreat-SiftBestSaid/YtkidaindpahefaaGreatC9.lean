/- Several texts in one file: contracts of the program's functions and what follows from them. -/
import Derived.Test.YtkidaindpahefaaGreatC8
import Derived.Maps.OwnIn
import Derived.Deep.Slices
import Derived.ChangeArms
import Derived.WideShapes
set_option linter.unusedSimpArgs false
set_option linter.unusedVariables false
set_option linter.unusedSectionVars false
set_option linter.unnecessarySimpa false
set_option maxRecDepth 100000
set_option maxHeartbeats 8000000
namespace Go.Proofs.YtkidaindpahefaaGreat
open Go.Proofs.Tryz
open Go.RowKit
variable {B B':Wd->Own->Prop}{Bp b base c f fuel gf i j k mb n n₀ room t:Nat}{C M M':Nat->Prop}{F G:BF}{Fs:List BF}{K:Law}{Od P':List Nat->Prop}{P:Program}{Q:Exit->Act->Wd->Prop}{T:TypeId}{V:Nat->BF}{W W' W0 W1 w w' w0 wb:Wd}{a ao:Option Addr}{cs lop:Array Value}{fs hs r:List (Int×BF)}{gs:List (List Int)}{held:Bool}{ks ys zs:List Int}{m:ManD}{nx:Int}{o0:Own}{ops:Array Oper}{rest:List Oper}{spare:Nat->Bool}{st:Nat×List Int}{v v' vb vl vx z:Value}{ws0:List Ev}{xs:List Value}
structure OrdS {τ:Type}(G:(Wd->Own->Prop)->Prop)(R:Value->List Int->Wd->Own->Prop)(S:(Wd->Own->Prop)->τ->Wd->Prop):Prop where
 slice:∀ {v zs W o},R v zs W o->SliceIs W v zs
 and:∀ {B v zs},G B->G fun W o=>B W o/\R v zs W o
 below:∀ {B t W W'},G B->S B t W->Bw W W'->S B t W'
 mine:∀ {B t W W' v zs},G B->S B t W->Bw W W'->SliceIs W' v zs->(∀ k,v.ownBlock=some k->W.heap.size<=k/\k<W'.heap.size)->S (fun W o=>B W o/\R v zs W o) t W'
 know:∀ {B t W},S B t W->∃ o,B W o
 imp:∀ {B B' t W},S B t W->(∀ W o,B W o->B' W o)->S B' t W
theorem UM (k:Nat)(b l:List Int)(hi:i<l.length):((l.take (i+1)).flatMap fun v=>ordL k (b++[v]) (l.filter fun x=>decide (x≠v)))=((l.take i).flatMap fun v=>ordL k (b++[v]) (l.filter fun x=>decide (x≠v)))++ordL k (b++[at0 l i]) (l.filter fun x=>decide (x≠at0 l i)):=by
 rw[VX hi,XD,Au hi];simp
theorem UN {l:List Int}(hn:l.Nodup)(hi:i<l.length):(l.filter fun x=>decide (x≠at0 l i))=l.take i++l.drop (i+1):=by
 have e:l=l.take i++at0 l i::l.drop (i+1):=by rw[<- D1 hi,Xn]
 have g0:(l.take i++at0 l i::l.drop (i+1)).Nodup:=by rw[<- e];exact hn
 generalize l.take i=a at e g0 ⊢
 generalize l.drop (i+1)=c at e g0 ⊢
 generalize at0 l i=v at e g0 ⊢
 rw[e];obtain⟨h1,h2,h3⟩:=WJ.1 g0;have h4:=(XQ.1 h2).1;have f1:a.filter (fun x=>decide (x≠v))=a:=List.filter_eq_self.2 fun x hx=>WG fun e=>h3 x hx v (by simp) e
 have f2:c.filter (fun x=>decide (x≠v))=c:=List.filter_eq_self.2 fun x hx=>WG fun e=>h4 (e ▸ hx)
 rw[WB,Yf,VS (by simp),f1,f2]
section
variable {τ:Type}{G:(Wd->Own->Prop)->Prop}{R:Value->List Int->Wd->Own->Prop}{S:(Wd->Own->Prop)->τ->Wd->Prop}
theorem UO (H:OrdS G R S)(eg:∀ args w,(callFunc gf args).run prog w=.ok (.enter gf args) w){stp:τ->List Int->τ}{Q:List Int->Prop}
 (hdo:∀ B t W v zs,G B->Q zs->S B t W->(∀ W o,B W o->R v zs W o)->Calls prog gf (#[v]++lop) W fun e w'=>e=.returned (.tuple #[])/\S B (stp t zs) w') :
 ∀ (k:Nat) (l b:List Int) (vb vl:Value) (B:Wd->Own->Prop) (t:τ) (W:Wd),l.length=k->k+b.length<=1000->l.Nodup->(∀ z∈ordL k b l,Q z)->G B->S B t W->(∀ W o,B W o->R vb b W o)->(∀ W o,B W o->R vl l W o) ->
 Cl 80 #[vb,vl,.func (.func gf) #[] lop] W fun e w'=>e=.returned (.tuple #[])/\S B ((ordL k b l).foldl stp t) w':=by
 intro k
 induction k with
 | zero =>
   intro l b vb vl B t W hl hk g9 hQ hG h g5 g0;obtain rfl:l=[]:=Yd.1 hl;have gJ:=Hd (hdo B t W vb b hG (hQ b (Wf.2 rfl)) h g5);obtain⟨o,hB⟩:=H.know h;obtain⟨a,c,rfl,-,-⟩:=H.slice (g0 _ _ hB);clear hdo hQ hG g5 g0 h hB
   go_enter func80,ntmps80
   go_wp2_with fail;refine gJ.o.mono ?_;rintro e w' ⟨rfl,hs⟩;go_wp2_with fail;refine Wu (Wy rfl _ _ _) rfl ?_;exact⟨rfl,hs⟩
 | succ k ih =>
   intro l b vb vl B t W hl hk g9 hQ hG h g5 g0;obtain⟨o,hB⟩:=H.know h;have gC:=H.slice (g0 _ _ hB);obtain⟨a,c,rfl,hz,-⟩:=gC;obtain⟨g,off,rfl,-⟩:=hz.cells 0 (by omega);have ge:Hq (∀ (t:τ) W i,i<l.length->S B t W->W.cell? (Aw g (off+i))=some (Iv (at0 l i))):=Hd fun t W i hi h=>by
    obtain⟨o,hB⟩:=H.know h;obtain⟨a2,c2,e,hz,-⟩:=H.slice (g0 _ _ hB);obtain⟨g2,off2,e2,hc⟩:=hz.cells i hi;injection e with e1
    rw[<- e1] at e2;injection e2 with e2
    injection e2 with e3 e4
    rw[e3,e4];exact hc
   obtain⟨F,hF⟩:=Ex (fun i=>((l.take i).flatMap fun v=>ordL k (b++[v]) (l.filter fun x=>decide (x≠v))).foldl stp t:Nat->τ)
   have HG:=Hd hG;have g7:Hq (F l.length=(ordL (k+1) b l).foldl stp t):=Hd (by rw[hF];show ((l.take l.length).flatMap _).foldl stp t=_;rw[W9];rfl);have gx:Hq (∀ t W,S B t W->Cl 96 #[.slice (some (Aw g off)) l.length c] W fun e w'=>∃ v',e=.returned v'/\OwnI w' W.heap.size v' l/\Bw W w'):=Hd fun t W h=>by
    obtain⟨o,hB⟩:=H.know h;exact NG (H.slice (g0 _ _ hB)) (by omega)
   have gK:Hq (∀ t W W',S B t W->Bw W W'->Cl 96 #[vb] W' fun e w'=>∃ v',e=.returned v'/\OwnI w' W'.heap.size v' b/\Bw W' w'):=Hd fun t W W' h hb=>by
    obtain⟨o,hB⟩:=H.know h;exact NG ((H.slice (g5 _ _ hB)).below hb) (by omega)
   obtain⟨L,hL⟩:=Ex l.length
   have gI:Hq (∀ (i:Nat) (x:Int) (v4 v2:Value) (B4:Wd->Own->Prop) w4,i<L->x=at0 l i->G B4->S B4 (F i) w4->(∀ W o,B4 W o->R v4 (b++[x]) W o)->(∀ W o,B4 W o->R v2 (l.take i++l.drop (i+1)) W o)->(∀ W o,B4 W o->B W o) ->
    Cl 80 #[v4,v2,.func (.func gf) #[] lop] w4 fun e w'=>e=.returned (.tuple #[])/\S B (F (i+1)) w'):=Hd fun i x v4 v2 B4 w4 hi hx gE gc h1 h2 h3=>by
    subst hx;have gg:i<l.length:=by omega
    have e:=UN g9 gg;have gF:F (i+1)=(ordL k (b++[at0 l i]) (l.take i++l.drop (i+1))).foldl stp (F i):=by
     rw[hF]
     show ((l.take (i+1)).flatMap _).foldl stp t=_
     rw[UM k b l gg,XA,e]
    refine(ih (l.take i++l.drop (i+1)) (b++[at0 l i]) v4 v2 B4 (F i) w4 (by simp;omega) (by simp;omega) ?_ (fun z hz=>hQ z ?_) gE gc h1 h2).mono ?_
    . rw[<- e];exact g9.filter _
    . refine XS.2 ⟨at0 l i,?_,by rw[e];exact hz⟩;rw[Au gg];exact Wh _
    . rintro y w' ⟨rfl,h5⟩;exact⟨rfl,by rw[gF];exact H.imp h5 h3⟩
   have gv:Hq (S B (F 0) W):=Hd (by rw[hF];exact h);have HL:=Hd hL;have gL:L<=1000:=by omega
   have gM:(((L:Nat):Int) == 0)=false:=by rw[Xu];omega
   have gy:Hq (b.length<1000):=Hd (by omega);rw[<- hL] at ge g7 gx ⊢;obtain⟨P,hP⟩:=Ex (fun e w'=>e=.returned (.tuple #[])/\S B ((ordL (k+1) b l).foldl stp t) w':Ending->Wd->Prop)
   have gB:Hq (∀ w',S B (F L) w'->P (.returned (.tuple #[])) w'):=Hd fun w' hh=>by rw[hP];exact⟨rfl,by rw[<- g7.o];exact hh⟩
   have goal:Cl 80 #[vb,.slice (some (Aw g off)) L c,.func (.func gf) #[] lop] W P:=by
    clear g7 hP hF h g5 g0 hz hB hQ hdo g9 ih hG hl hk hL
    go_enter func80,ntmps80
    go_wp2_with fail
    go_loopw [6,7,8,17] (fun _ _ _ s17 wr=>∃ i:Nat,i<=L/\s17=Iv (i:Nat)/\Hq (S B (F i) wr)) (fun _ _ _ s17 _=>L-(intOf s17).toNat)
    case atStart=>exact⟨0,Wb _,rfl,gv⟩
    case round =>
     obtain⟨i,hi,rfl,HS⟩:=hrel
     by_cases g6:i<L
     ·have hc:=ge.o _ wr i g6 HS.o;obtain⟨x,hx⟩:=Ex (at0 l i);rw[<- hx] at hc;have HX:=Hd hx;clear hx gv;go_wp2_with fail;refine(gx.o _ wr HS.o).mono ?_;rintro e w1 ⟨v1,rfl,g4,gt⟩;have gH:=Hd g4;have gm:=Hd gt;have gh:=UK (w:=w1) (f:=i) g4 (by rw[<- HL.o];exact g6) (by rw[<- HL.o];omega);have gk:=Hd gh;clear g4 gt gh;go_wp2_with fail;refine gk.o.mono ?_;rintro e w2 ⟨v2,rfl,go,gp,ga⟩;have ga:=ga gm.o.size;have HB2:Hq (Bw wr w2):=Hd (gm.o.trans (ga.mono (VQ _)));obtain⟨B2,gj⟩:=Ex (fun W o=>B W o/\R v2 (l.take i++l.drop (i+1)) W o:Wd->Own->Prop)
      have gu:Hq (S B2 (F i) w2):=Hd (by rw[gj];exact H.mine HG.o HS.o HB2.o go gp);have gd:=Hd gj;clear go gp ga gj gk gH;go_wp2_with fail;refine(gK.o _ wr w2 HS.o HB2.o).mono ?_;rintro e w3 ⟨v3,rfl,g8,gr⟩;have gw:=Hd g8;have gl:=Hd gr;clear g8 gr;go_wp2_with (at_builtin;refine CR _ rfl _ _ rfl w2.heap.size w2 v3 b x rfl rfl rfl rfl gw.o (by have:=gy.o;omega) gl.o.size gl.o ?_;intro v4 w4 g3 gq gz gA);obtain⟨B4,g1⟩:=Ex (fun W o=>B2 W o/\R v4 (b++[x]) W o:Wd->Own->Prop)
      have gi:G B2:=by rw[gd.o];exact H.and HG.o
      have gc:S B4 (F i) w4:=by rw[g1];exact H.mine gi gu.o gq (g3.sliceIs (by rw[VY,Xm];have:=gy.o;omega)) g3.lt
      have HC:=Hd (gI.o i x v4 v2 B4 w4 g6 HX.o (by rw[g1];exact H.and gi) gc (fun W o hh=>by rw[g1] at hh;exact hh.2) (fun W o hh=>by rw[g1] at hh;have:=hh.1;rw[gd.o] at this;exact this.2) (fun W o hh=>by rw[g1] at hh;have:=hh.1;rw[gd.o] at this;exact this.1));clear g3 gq gz gA g1 gi gc gd gu HS gl gw HB2 gm HX;go_wp2_with fail;refine HC.o.mono ?_;rintro e w5 ⟨rfl,gn⟩;have gG:=Hd gn;clear gn HC;go_wp2_with fail;go_roundw
      case rel=>exact⟨i+1,g6,by go_num,gG⟩
      case measure=>simp[intOf];omega
     ·have gD:i=L:=by omega
      subst gD;clear g6 hi;go_wp2_with fail;refine WR (Wy rfl _ _ _) rfl ?_;exact gB.o _ HS.o
   rw[hP] at goal;exact goal
end
theorem Am.of_sl {l:Nat}(h:SliceIs W (.slice a l c) zs):Am W a zs/\l=zs.length:=by
 obtain⟨a2,c2,e,h1,_⟩:=h;injection e with e1 e2 _
 subst e1;exact⟨h1,e2⟩
section
variable {P:List Nat->Prop}
theorem UP (hB:As B)(h:FxO K n room w0 mb ws0 C o0 wb B P fs nx W)(hn:nx<=549755813888)(hr:3*(fs.length*2^n)<=room)(hz:∀ W o,B W o->SliceIs W v zs)(hzr:Az zs=true)(hzl:zs.length=n) :
 Cl 100 #[Pt mb,v] W fun x w'=>x=.returned (Iv 0)/\FxO K n room w0 mb ws0 C o0 wb B (fun l=>l.map Int.ofNat=zs) fs nx w':=by
 have hn64:n<=64:=by obtain⟨o,m,V,_,_,h3,_⟩:=h;have:=h3.ok.store.small;rw[h3.vars] at this;exact this
 have gg:=Hd (h.order hB);have gi:=Hd hB;have HZ:=Hd hz;have ge:=Hd hzr;have g8:=Hd hzl;have gl:Hq (∀ (B':Wd->Own->Prop) (gd:As B') (P P':List Nat->Prop) W k,FxO K n room w0 mb ws0 C o0 wb B' P fs nx W->k+1<n->(∀ l,l.length=n->P l->P' (exL l k))->Cl 113 #[Pt mb,Iv k] W fun e w'=>e=.returned (Iv 0)/\FxO K n room w0 mb ws0 C o0 wb B' P' fs nx w'):=Hd fun B' gd P P' W k hA hk hP=>hA.swap gd hk hn hr hP
 obtain⟨a,c,rfl,-⟩:∃ a c,v=.slice a zs.length c/\True:=by
  obtain⟨o,m,V,_,_,_,h4⟩:=h;obtain⟨a,c,e,_⟩:=hz _ _ h4;exact⟨a,c,e,trivial⟩
 clear h hz hzr hzl hr hB
 go_enter func100,ntmps100
 go_wp2_with fail;refine gg.o.mono ?_;rintro x w1 ⟨v1,l,rfl,hl,gk,g1,_,h1,_⟩;have hs1:SliceIs w1 v1 (l.map Int.ofNat):=h1.know (Q:=fun W=>SliceIs W v1 (l.map Int.ofNat)) fun W o hh=>hh.2.slice
 have ga:SliceIs w1 (.slice a zs.length c) zs:=h1.know (Q:=fun W=>SliceIs W (.slice a zs.length c) zs) fun W o hh=>HZ.o _ _ hh.1
 have g3:=Hd (LW _ _ _ _ w1 hs1 ga (by rw[Wn];omega) (by rw[g8.o];omega));have gf:=Hd (show Az (l.map Int.ofNat)=true/\(l.map Int.ofNat).length=zs.length from ⟨g1,by rw[Wn,hl,g8.o]⟩);have g5:=T7 g1 ge.o gf.o.2;have g7:CB (l.map Int.ofNat) zs=0:=by unfold CB;rw[VW ⟨g1,ge.o⟩,VW gf.o.2]
 have H1:=Hd h1;obtain⟨ss,g4⟩:=Ex (Cf (l.map Int.ofNat) zs);unfold Jh at g3;rw[g7,<- g4] at g3;rw[<- g4] at g5;have gh:=Hd g5.2;have gm:ss.length<=64*64:=by
  have h2:=MX (AZ zs) (l.map Int.ofNat);have h3:(l.map Int.ofNat).length*(l.map Int.ofNat).length<=64*64:=XT (by rw[Wn];omega) (by rw[Wn];omega);omega
 clear h1 hs1 ga g5 g7 g4 g1 gk gg;go_wp2_with fail;refine g3.o.mono ?_;rintro x w2 ⟨v2,rfl,g0,gc⟩;have h2:=H1.o.mine (gi.o.and AA.keep) gc (g0.sliceIs (by omega)) fun k hk=>g0.lt k hk
 obtain⟨a2,c2,rfl,-,-⟩:=g0.sliceIs (by omega);have H2:Hq (FxO K n room w0 mb ws0 C o0 wb (fun W o=>(B W o/\AA v1 (l.map Int.ofNat) W o)/\AA (.slice a2 ss.length c2) ss W o) (fun l'=>l'.map Int.ofNat=(ss.take 0).foldl A6 (l.map Int.ofNat)) fs nx w2):=Hd (h2.imp fun l' _ e=>by rw[e];rfl);clear h2 g0 gc g3;go_wp2_with fail
 go_loopw [4,8,9,22] (fun _ _ _ s22 wr=>∃ i:Nat,i<=ss.length/\s22=Iv i/\Hq (FxO K n room w0 mb ws0 C o0 wb (fun W o=>(B W o/\AA v1 (l.map Int.ofNat) W o)/\AA (.slice a2 ss.length c2) ss W o) (fun l'=>l'.map Int.ofNat=(ss.take i).foldl A6 (l.map Int.ofNat)) fs nx wr)) (fun _ _ _ s22 _=>ss.length-(intOf s22).toNat)
 case atStart=>exact⟨0,Wb _,rfl,H2⟩
 case round =>
  clear H2;obtain⟨i,hi,rfl,HI⟩:=hrel
  by_cases g2:i<ss.length
  ·have gn:(i:Int)<ss.length:=by omega
   have gj:SliceIs wr (.slice a2 ss.length c2) ss:=HI.o.know (Q:=fun W=>SliceIs W (.slice a2 ss.length c2) ss) fun W o hh=>hh.2.slice
   obtain⟨a3,c3,e3,g9,_⟩:=gj;injection e3 with e3 _ e4
   subst e3 e4;obtain⟨b,off,rfl,hc⟩:=g9.cells i g2;obtain⟨q1,q2⟩:=gh.o.1 (at0 ss i) (by rw[Au g2];exact Wh _);obtain⟨k,hk⟩:∃ k:Nat,at0 ss i=(k:Int):=⟨(at0 ss i).toNat,by omega⟩;rw[hk] at hc;have g6:k+1<n:=by rw[<- g8.o];omega
   have HS:=Hd (gl.o _ ((gi.o.and AA.keep).and AA.keep) _ (fun l'=>l'.map Int.ofNat=(ss.take (i+1)).foldl A6 (l.map Int.ofNat)) wr k HI.o g6 (fun l' hl' e=>by
    rw[Jw (by rw[hl'];exact g6),e,VX g2,XA,Yy,List.foldl_nil,<- Au g2,hk]))
   clear g9 q1 q2 hk g6 HI;go_wp2_with fail;refine HS.o.mono ?_;rintro x w3 ⟨rfl,h3⟩;have H3:=Hd h3;clear h3 HS hc;go_wp2_with fail;go_roundw
   case rel=>exact⟨i+1,by omega,by go_num,H3⟩
   case measure=>simp[intOf];omega
  ·obtain rfl:i=ss.length:=by omega
   have HF:=Hd ((HI.o.withB (B':=B) fun o m V _ hh=>hh.1.1).imp (P':=fun l=>l.map Int.ofNat=zs) fun l' _ e=>by rw[e,W9];exact gh.o.2);clear HI;go_wp2_with fail;go_ret;exact⟨rfl,HF.o⟩
end
section
variable {gb:Nat}{P:List Nat->Prop}{lv:Value}
theorem NH (hB:As B)(h:FxO K n room w0 mb ws0 C o0 wb B P fs nx W)(hn:nx<=549755813888)(hr:3*(fs.length*2^n)<=room)(hz:∀ W o,B W o->SliceIs W v zs)(hzr:Az zs=true)(hzl:zs.length=n) :
 Cl 44 #[Pt mb,v] W fun x w'=>x=.returned (Iv 0)/\FxO K n room w0 mb ws0 C o0 wb B (fun l=>l.map Int.ofNat=zs) fs nx w':=by
 have hn64:n<=64:=by obtain⟨o,m,V,_,_,h3,_⟩:=h;have:=h3.ok.store.small;rw[h3.vars] at this;exact this
 have HV:=Hd h.vars;have g2:Hq (∀ w',Bw W w'->Cl 100 #[Pt mb,v] w' fun x w'=>x=.returned (Iv 0)/\FxO K n room w0 mb ws0 C o0 wb B (fun l=>l.map Int.ofNat=zs) fs nx w'):=Hd fun w' hb=>UP hB (h.below hB hb) hn hr hz hzr hzl
 have hs:SliceIs W v zs:=h.know (Q:=fun W=>SliceIs W v zs) fun W o hh=>hz W o hh
 obtain⟨a,c,rfl,g0,_⟩:=hs;have HZ:=Hd g0;have HR:=Hd hzr;subst hzl;clear h hB hz g0 hzr hr
 go_enter func44,ntmps44
 go_wp2_with fail;refine HV.o.mono ?_;rintro x w' ⟨rfl,rfl⟩;go_wp2_with fail;refine(DL _ _ zs _ HZ.o (by omega)).mono ?_;rintro e w1 ⟨rfl,g1⟩;rw[HR.o];have HB2:=Hd (g2.o w1 g1);clear g1 g2;go_wp2_with fail;refine HB2.o.mono ?_;rintro x w2 ⟨rfl,h2⟩;have H2:=Hd h2;clear h2 HB2;go_wp2_with fail;go_ret;exact⟨rfl,H2.o⟩
end
structure BeN where
 m:Nat
 l:Nat
 best:Nat
 ord:Nat
def BeN.args (k:BeN):Array Value:=#[Pt k.m,Pt k.l,Pt k.best,Pt k.ord]
def BeN.D (k:BeN)(q:Nat):Prop:=q=k.best\/q=k.ord
def B7 (k:BeN)(v:Value)(zs:List Int):Wd->Own->Prop:=fun W o=>AA v zs W o/\∀ q,v.ownBlock=some q->¬ k.D q
theorem B7.keep {k:BeN}{v:Value}{zs:List Int}:As (B7 k v zs):=fun _ _ _ _ h hc=>⟨AA.keep _ _ _ _ h.1 hc,h.2⟩
theorem B7.wr {k:BeN}{o:Own}(h:B7 k v zs W o)(hw:Wr k.D W W'):B7 k v zs W' o :=
 ⟨⟨h.1.1.same fun q hq=>hw.keep q (h.1.2 q hq).1 (h.2 q hq),fun q hq=>⟨Wm (h.1.2 q hq).1 hw.size,(h.1.2 q hq).2⟩⟩,h.2⟩
def BeC (B:Wd->Own->Prop)(k:BeN)(mb:Nat)(a:Option Addr)(L c:Nat)(st:Nat×List Int):Wd->Own->Prop:=fun W o =>
 (B W o/\BxN k.m (Pt mb) 32 W o)/\BxN k.l (.slice a L c) 22 W o/\BxN k.best (Iv (st.1:Nat)) 3 W o/\∃ v,BxN k.ord v 22 W o/\B7 k v st.2 W o
theorem BeC.keep {B:Wd->Own->Prop}{k:BeN}{mb:Nat}{a:Option Addr}{L c:Nat}{st:Nat×List Int}(hB:As B):As (BeC B k mb a L c st):=fun W o W' o' h hc=>by
 obtain⟨⟨h1,h2⟩,h3,h4,v,h5,h6⟩:=h;exact⟨⟨hB _ _ _ _ h1 hc,BxN.keep _ _ _ _ h2 hc⟩,BxN.keep _ _ _ _ h3 hc,BxN.keep _ _ _ _ h4 hc,v,BxN.keep _ _ _ _ h5 hc,B7.keep _ _ _ _ h6 hc⟩
def BeG (k:BeN)(w0:Wd)(a:Option Addr)(ks:List Int)(B:Wd->Own->Prop):Prop :=
 As B/\(∀ W o,B W o->ArgI w0 W o a ks)/\∀ W o W',Ac o W->B W o->Wr k.D W W'->B W' o
section
variable {k:BeN}
def BeS (K:Law)(n room:Nat)(w0:Wd)(mb:Nat)(ws0:List Ev)(C:Nat->Prop)(o0:Own)(wb:Wd)(k:BeN)(a:Option Addr)(L c:Nat)(fs:List (Int×BF))(nx:Int)(B:Wd->Own->Prop)(st:Nat×List Int)(W:Wd):Prop :=
 FxO K n room w0 mb ws0 C o0 wb (BeC B k mb a L c st) (fun _=>True) fs nx W
theorem BeS.ords:OrdS (BeG k w0 a ks) (B7 k) (BeS K n room w0 mb ws0 C o0 wb k a ks.length c fs nx) where
 slice:=fun h=>h.1.1
 and:=fun {B v zs} h=>⟨fun _ _ _ _ hh hc=>⟨h.1 _ _ _ _ hh.1 hc,B7.keep _ _ _ _ hh.2 hc⟩,fun W o hh=>h.2.1 W o hh.1,fun W o W' hl hh hw=>⟨h.2.2 W o W' hl hh.1 hw,hh.2.wr hw⟩⟩
 below:=fun h hs hb=>FxO.below (BeC.keep h.1) hs hb
 mine:=fun {B t W W' v zs} h hs hb hv hk=>by
  obtain⟨o,m,V,h1,h2,h3,h4⟩:=hs;have hc:=ChgX.of_below hb o NoB;have h4':=BeC.keep h.1 _ _ _ _ h4 hc;have hlt:k.best<W.heap.size/\k.ord<W.heap.size:=⟨h4.2.2.1.lt,by obtain⟨_,v,h5,_⟩:=h4.2.2;exact h5.lt⟩;exact⟨o,m,V,h1.trans hc NoB.sub,h2,h3.below hb,⟨⟨h4'.1.1,⟨hv,fun q hq=>⟨(hk q hq).2,h3.lt.none (hk q hq).1⟩⟩,fun q hq e=>by have:=(hk q hq).1;rcases e with e|e<;>omega⟩,h4'.1.2⟩,h4'.2⟩
 know:=fun {B t W} h=>by
  obtain⟨o,m,V,_,_,_,h4⟩:=h;exact⟨o,h4.1.1⟩
 imp:=fun {B B' t W} h hi=>by
  obtain⟨o,m,V,h1,h2,h3,h4⟩:=h;exact⟨o,m,V,h1,h2,h3,⟨hi _ _ h4.1.1,h4.1.2⟩,h4.2⟩
theorem UQ (args:Array Value)(w:Wd):(callFunc 83 args).run prog w=.ok (.enter 83 args) w:=XH func83 (by kernel_rfl) rfl args w
theorem UR (hG:BeG k w0 a ks B)(hn64:n<=64)(hn:nx<=549755813888)(hr:3*(fs.length*2^n)<=room)(hlen:Fs.length=ks.length)(hmm:∀ i (h:i<ks.length),(ks[i],Fs[i]'(by omega))∈fs)(hsz:Fs.length*2^n<=1000000000)
 (hb1:wb.heap.size<=k.best) (hb2:wb.heap.size<=k.ord) (hc1:w0.heap.size<=k.best) (hc2:w0.heap.size<=k.ord) (hne:k.best≠k.ord) (hn1:k.best≠k.m/\k.best≠k.l) (hn2:k.ord≠k.m/\k.ord≠k.l)
 (hzr:Az zs=true) (hzl:zs.length=n) (hst:st.2.length=n) (hs1:st.1<=1000000000)
 (h:BeS K n room w0 mb ws0 C o0 wb k a ks.length c fs nx B st W) (hv:∀ W o,B W o->B7 k v zs W o) :
 Cl 83 (#[v]++k.args) W fun e w'=>e=.returned (.tuple #[])/\BeS K n room w0 mb ws0 C o0 wb k a ks.length c fs nx B (Cd (szO n Fs) st zs) w':=by
 have gc:As (BeC B k mb a ks.length c st):=BeC.keep hG.1;obtain⟨a2,n2,c2,rfl⟩:∃ a2 n2 c2,v=.slice a2 n2 c2:=by
  obtain⟨o,m,V,_,_,_,h4⟩:=h;obtain⟨x,y,e,_⟩:=(hv _ _ h4.1.1).1.1;exact⟨x,_,y,e⟩
 obtain⟨S,hS⟩:=Ex (fun t W=>FxO K n room w0 mb ws0 C o0 wb (BeC B k mb a ks.length c t) (fun l=>l.map Int.ofNat=zs) fs nx W:(Nat×List Int)->Wd->Prop)
 have gd:=Hd (NH (v:=.slice a2 n2 c2) gc h hn hr (zs:=zs) (fun W o hh=>(hv W o hh.1.1).1.1) hzr hzl);rw[show FxO K n room w0 mb ws0 C o0 wb (BeC B k mb a ks.length c st) (fun l=>l.map Int.ofNat=zs) fs nx=S st from by rw[hS]] at gd;obtain⟨sx,g1⟩:∃ q,q=szO n Fs zs:=⟨_,rfl⟩;have HSZ:Hq (∀ W,S st W->Cl 65 #[Pt mb,.slice a ks.length c] W fun x w'=>x=.returned (.tuple #[Iv (sx:Nat),Iv 0])/\S st w'):=Hd fun W h=>by
  rw[hS] at h ⊢;rw[g1];exact FxO.size (c:=c) gc h (fun W o hh=>hG.2.1 W o hh.1.1) hlen hmm
 obtain⟨ST,g5⟩:∃ q:Nat×List Int,q=Cd (szO n Fs) st zs:=⟨_,rfl⟩;obtain⟨sb,ob⟩:=st;dsimp only at hst hs1;have gm:sx<=1000000000:=by rw[g1];exact VU (En n Fs _) hsz
 have gh:Hq (∀ W,S (sb,ob) W->W.cell? (Av k.m)=some (Pt mb)/\W.cell? (Av k.l)=some (.slice a ks.length c)/\W.cell? (Av k.best)=some (Iv (sb:Nat))/\W.frozen? (Av k.best)=false/\∃ u,W.cell? (Av k.ord)=some u/\W.frozen? (Av k.ord)=false/\Hq (Cl 84 #[.slice a2 n2 c2,u] W fun e w'=>(∃ z,e=.returned (Iv z)/\(z<0↔lexI zs ob=true))/\W=w')):=Hd fun W h=>by
  rw[hS] at h;obtain⟨o,m,V,_,_,_,h1,h2,h3,u,h4,h5⟩:=h;exact⟨h1.2.cell,h2.cell,h3.cell,h3.fz,u,h4.cell,h4.fz,Hd (UL (hv _ _ h1.1).1.1 h5.1.1 (by rw[hst,hzl]) (by omega))⟩
 have gl:Hq (∀ W,S (sb,ob) W->S (sx,zs) ((W.setCell (Av k.best) (Iv (sx:Nat))).setCell (Av k.ord) (.slice a2 n2 c2))):=Hd fun W h=>by
  rw[hS] at h ⊢;have hw:Wr k.D W ((W.setCell (Av k.best) (Iv (sx:Nat))).setCell (Av k.ord) (.slice a2 n2 c2)):=(((Wr.refl _ W).setCell (p:=Av k.best) (.inl (.inl rfl)) _)).setCell (p:=Av k.ord) (.inl (.inr rfl)) _;refine h.wrC hw (fun q e=>.inr (by rcases e with rfl|rfl<;>assumption)) (fun q e=>by rcases e with rfl|rfl<;>assumption) (fun o hh q e=>?_) fun o g2 hh=>?_
  ·obtain⟨_,_,h6,u,h7,_⟩:=hh;rcases e with rfl|rfl
   . exact h6.2
   . exact h7.2
  ·obtain⟨h1,h2,h6,u,h7,h8⟩:=hh;have nD:∀ q,k.best≠q->k.ord≠q->¬ k.D q:=fun q e1 e2 e=>e.elim (fun e=>e1 e.symm) (fun e=>e2 e.symm)
   exact⟨⟨hG.2.2 _ _ _ g2 h1.1 hw,h1.2.wr hw (nD _ hn1.1 hn2.1)⟩,h2.wr hw (nD _ hn1.2 hn2.2),(h6.set _).other (fun e=>hne e.symm) _,.slice a2 n2 c2,(h7.other hne _).set _,(hv _ _ h1.1).wr hw⟩
 have g7:Hq (sx<sb->ST=(sx,zs)):=Hd fun h=>by rw[g5,g1];exact VW (.inl (by rw[<- g1];exact h))
 have HB2:Hq (sx=sb->lexI zs ob=true->ST=(sx,zs)):=Hd fun h h2=>by rw[g5,g1];exact VW (.inr ⟨by rw[<- g1];exact h,h2⟩)
 have g3:Hq (¬ (sx<sb\/sx=sb/\lexI zs ob=true)->ST=(sb,ob)):=Hd fun h=>by rw[g5];exact VS (by rw[<- g1];exact h)
 obtain⟨Q,hQ⟩:=Ex (fun e w'=>e=.returned (.tuple #[])/\BeS K n room w0 mb ws0 C o0 wb k a ks.length c fs nx B ST w':Ending->Wd->Prop)
 rw[<- g5,<- hQ];have g0:Hq (∀ w',S ST w'->Q (.returned (.tuple #[])) w'):=Hd fun w' h=>by
  rw[hS] at h;rw[hQ];exact⟨rfl,h.imp fun _ _ _=>trivial⟩
 have c1:W.cell? (Av k.m)=some (Pt mb):=by
  obtain⟨o,m,V,_,_,_,h1,_⟩:=h;exact h1.2.cell
 unfold BeN.args;clear h hG gc hS hQ g1 g5 hmm hsz hv hlen
 go_enter func83,ntmps83
 go_wp2_with fail;refine gd.o.mono ?_;rintro y w1 ⟨rfl,hs1⟩;obtain⟨d1,d2,-⟩:=gh.o w1 hs1;have H1:=Hd (HSZ.o w1 hs1);clear hs1 c1 gd;go_wp2_with fail;refine H1.o.mono ?_;rintro y w2 ⟨rfl,g9⟩;obtain⟨-,-,d3,f3,u,d4,f4,gf⟩:=gh.o w2 g9;have g6:=gf;have H2:=Hd g9;clear d1 d2 H1 g9 gf;obtain⟨w3,g8⟩:∃ W,W=(w2.setCell (Av k.best) (Iv (sx:Nat))).setCell (Av k.ord) (.slice a2 n2 c2):=⟨_,rfl⟩;have H3:Hq (S (sx,zs) w3):=Hd (by rw[g8];exact gl.o w2 H2.o);have gg:=Hd g8.symm;have g4:(w2.setCell (Av k.best) (Iv (sx:Nat))).cell? (Av k.ord)=some u:=B9 d4 (.inl hne);clear g8;rcases XY sx sb with g2|g2|g2
 ·have gj:(sx:Int)<(sb:Int):=by omega
  have HE:=g7.o g2;have HR:=Hd (g0.o w3 (by rw[HE];exact H3.o));clear HE g0 g7 HB2 g3 g6;go_wp2_with fail;rw[gg.o];exact WR (Wy rfl _ _ _) rfl HR.o
 ·subst g2;have ge:¬ (sx:Int)<(sx:Int):=by omega
  have ga:((sx:Int) == (sx:Int))=true:=beq_self_eq_true _;clear hs1 g7;go_wp2_with fail;refine g6.o.mono ?_;rintro e w5 ⟨⟨z,rfl,hz⟩,rfl⟩;cases hl:lexI zs ob with
  | true =>
    have gk:z<0:=hz.2 hl;have HE:=HB2.o trivial hl;have HR:=Hd (g0.o w3 (by rw[HE];exact H3.o));clear HE g0 HB2 g3 g6 hl hz ge ga;go_wp2_with fail;rw[gg.o];exact WR (Wy rfl _ _ _) rfl HR.o
  | false =>
    have gk:¬ z<0:=fun e=>by have:=hz.1 e;rw[hl] at this;cases this
    have HE:=g3.o (fun e=>e.elim (fun e=>by omega) (fun e=>by rw[hl] at e;exact absurd e.2 (by decide)));have HR:=Hd (g0.o w2 (by rw[HE];exact H2.o));clear HE g0 HB2 g3 g6 hl hz ge ga;go_wp2_with fail;exact WR (Wy rfl _ _ _) rfl HR.o
 ·have gj:¬ (sx:Int)<(sb:Int):=by omega
  have gi:¬ (sx:Int)=(sb:Int):=by omega
  have ga:((sx:Int) == (sb:Int))=false:=by rw[Xu];exact gi
  have HE:=g3.o (fun e=>e.elim (fun e=>by omega) (fun e=>by have:=e.1;omega));have HR:=Hd (g0.o w2 (by rw[HE];exact H2.o));clear HE g0 g7 HB2 g3 g6;go_wp2_with fail;exact WR (Wy rfl _ _ _) rfl HR.o
end
open Go.RowKit Go.Shelf
attribute [local go_sem] Yx
structure ItV (n₀:Nat)(w0:Wd)(Bp:Nat)(v:Value)(M0 M:Nat->Prop)(W0 W:Wd):Prop where
 low:Below n₀ w0 W
 box:W.cell? (Av Bp)=some v
 wr:Wr (fun k=>n₀<=k) W0 W
 sub:∀ k,M k->M0 k\/W0.heap.size<=k
 nb:¬ M Bp
theorem ItV.go {M0:Nat->Prop}(h:ItV n₀ w0 Bp v M0 M W0 W)(hn:n₀<=W0.heap.size)(hge:∀ k,M k->n₀<=k)(hw:Wr M W W')
 (hM:∀ k,M' k->M k\/W.heap.size<=k):ItV n₀ w0 Bp v M0 M' W0 W':=by
 have hs:=h.wr.size;have hb:=Ag h.box;refine⟨h.low.trans (hw.below hge (by omega)),?_,h.wr.trans hw (fun _ _ h=>h) (fun k _ hk=>hge k hk),fun k hk=>?_,fun e=>?_⟩
 . exact(Co h.box (hw.keep Bp hb h.nb))
 ·rcases hM k hk with h1|h1
  . exact h.sub k h1
  . right;omega
 ·rcases hM Bp e with h1|h1
  . exact h.nb h1
  . have g0:Bp<W.heap.size:=hb;omega
theorem US (h:k<zs.length):zs.take (k+1)=zs.take k++[at0 zs k]:=by
 rw[VX h,Au h]
theorem UT (F:Fence)(n:Nat)(hF:F.fn 135)(hro:F.round=none)(hn:1<=n)(Bp n₀:Nat)(hz:Am w0 a zs)(h0:w0.heap.size<=n₀)(hl6:zs.length<=1000000)(w:Wd)
 (hw:Below n₀ w0 w) (hn0:n₀<=w.heap.size) (hBp:w.cell? (Av Bp)=some (.slice a zs.length c)) :
 Gives F n 0 prog 135 #[Pt Bp] (fun z:Int=>#[Iv z]) n₀ (· = Bp) zs w:=by
 intro l J M W g9 gg g1 gd hY hJ;have g8:=Ag hBp;have g2:ItV n₀ w0 Bp (.slice a zs.length c) M M W W:=⟨hw.trans (g1.below (fun k h=>h.1) hn0),Co hBp (g1.keep Bp g8 (fun h=>h.2 rfl)),Wr.refl _ _,fun k h=>.inl h,gd Bp rfl⟩;have gf:n₀<=W.heap.size:=VU hn0 g1.size;have ge:Hq (∀ W' k,Below n₀ w0 W'->k<zs.length->∃ b off,a=some (Aw b off)/\W'.cell? (Aw b (off+k))=some (Iv (at0 zs k))):=Hd fun W' k hb hk=>(hz.below (hb.mono h0)).cells k hk
 obtain⟨L,hL⟩:=Ex zs.length;have gn:Hq (∀ M' W',J (zs.take L) M' W'->J zs M' W'):=Hd fun M' W' h=>by rw[hL,W9] at h;exact h
 have gi:Hq (∀ k,k<L->zs.take (k+1)=zs.take k++[at0 zs k]/\∃ suf,zs.take k++at0 zs k::suf=zs):=Hd fun k hk=>⟨US (by omega),zs.drop (k+1),by rw[<- D1 (by omega),Xn]⟩
 have gh:=Hd hY;have gk:=Hd g9;have g7:=g2.box;rw[<- hL] at g2 ge hl6 g7;have gj:=Hd g2;clear hY hz h0 g2 g9 gg g1 gd hw hn0 hBp g8 hL;refine callsIn_of_wp func135 rfl hF ?_ hro;simp only[ntmps135,Xc,Wp,Xi,Nat.reduceAdd,Nat.reduceSub,Xq,Xr,X3,Xt,WQ,Xy]
 gi_wp2
 gi_loopw [4,7] (fun _ i wr=>∃ (k:Nat) (M1:Nat->Prop),k<=L/\i=Iv k/\J (zs.take k) M1 wr/\ItV n₀ w0 Bp (.slice a L c) M M1 W wr) (fun _ i _=>L-(intOf i).toNat)
 case atStart=>exact⟨0,M,Wb _,rfl,by rw[Ys];exact hJ,gj.o⟩
 case round =>
  obtain⟨k,M1,hk,rfl,g0,hS⟩:=hrel
  by_cases g6:k<L
  ·obtain⟨b,off,rfl,hc⟩:=ge.o wr k hS.low g6;obtain⟨g5,g3⟩:=gi.o k g6;have gq:=Hd (fun q (hq:M1 q)=>(gk.o _ _ _ g0 q hq).1);obtain⟨fn,tmps,assign,body,hy,hR⟩:=gh.o _ (at0 zs k) M1 wr g0 g3;have HT:=Hd g5;have HS:=Hd hS;obtain⟨x,hx⟩:=Ex (at0 zs k);rw[<- hx] at hc hR HT hy;have HR:=Hd hR;have gr:(k:Int)<(L:Int):=by omega
   clear hS g0 hR hJ g3 g5 hx g7
   gi_wp2
   refine HR.o.mono ?_;rintro e W3 ⟨rfl,M3,gc,g4,ga⟩;have gp:=Hd gc;have gl:=Hd (HS.o.go gf gq.o g4 ga);clear gc g4 ga
   gi_wp2
   go_roundw
   case rel=>exact⟨k+1,M3,by omega,by go_num,by rw[HT.o];exact gp.o,gl.o⟩
   case measure=>simp[intOf];omega
  ·obtain rfl:k=L:=by omega
   have gm:=Hd g0;have HS:=Hd hS;clear g0 hS hJ
   gi_wp2
   go_end0;exact⟨⟨_,rfl⟩,M1,gn.o _ _ gm.o,HS.o.wr,HS.o.sub⟩
theorem UU (W:Wd):Cl 204 #[.slice none 0 0,Iv 0,Iv 0] W (Sm (.tuple #[]) W):=by
 go_enter func204,ntmps204
 go_wp2_with fail
 go_loopw [6,7] (fun s8 _ wr=>s8=Iv 1/\W=wr) (fun _ _ _=>0)
 case atStart=>exact⟨rfl,rfl⟩
 case round =>
  obtain⟨rfl,rfl⟩:=hrel;go_wp2_with fail;refine WR (Wy rfl _ _ _) rfl ?_;exact⟨rfl,rfl⟩
theorem UV (W:Wd)(z:Int):Cl 149 #[.slice none 0 0,Iv 0,Iv 0,Iv z] W (Sm (.tuple #[]) W):=by
 have HI:=Hd (UU W)
 go_enter func149,ntmps149
 go_wp2_with fail
 go_loopw [1,2,3] (fun s1 s2 s3 wr=>s1=Iv 0/\s2=Iv 0/\s3=Iv z/\W=wr) (fun _ _ _ _=>0)
 case atStart=>exact⟨rfl,rfl,rfl,rfl⟩
 case round =>
  obtain⟨rfl,rfl,rfl,rfl⟩:=hrel;go_wp2_with fail;refine HI.o.mono ?_;rintro e w' ⟨rfl,rfl⟩;go_wp2_with fail;refine Wu (Wy rfl _ _ _) rfl ?_;exact⟨rfl,rfl⟩
theorem UW (W:Wd):Cl 97 #[.slice none 0 0] W (Sm (.tuple #[]) W):=by
 have HI:=Hd (UV W);have g0:=Hd (JF 0 (by omega) W);have g2:IntKind.u64.wrap 0=0:=by decide
 go_enter func97,ntmps97
 go_wp2_with fail;refine g0.o.mono ?_;rintro e w' ⟨⟨z,rfl⟩,rfl⟩;have g1:=Hd (HI.o z);clear HI g0;go_wp2_with fail;refine g1.o.mono ?_;rintro e w' ⟨rfl,rfl⟩;go_wp2_with fail;refine WR (Wy rfl _ _ _) rfl ?_;exact⟨rfl,rfl⟩
attribute [local go_sem] Yx
theorem UX {F:Fence}{fu:Nat}(wr:Wd){o:Oper}{a:Act}(hgd:o.guard=none)(s x:Operand)
 (ho:o.op=.call { callee:=.builtin .append,args:=#[s,x],argTypes:=#[22,22] })
 (base:Nat) (v:Value) (zs:List Int) (y:Int) (hs:a.eval s=v) {N:Nat} (hx:a.eval x=.slice (some (Av N)) 1 1)
 (hW:W=wr.alloc (.cells #[Iv y] 3)) (hN:N=wr.heap.size)
 (hown:OwnI wr base v zs) (hlen:zs.length<1099511627776) (hbase:base<=wr.heap.size)
 (h:∀ v' w',OwnI w' base v' (zs++[y])->BQ v v' wr w'->w'.os=wr.os->w'.tape=wr.tape->w'.output=wr.output->wr.heap.size<=w'.heap.size->wpListIn F fu prog ops Q rest (a.put o.dst v') w') :
 wpListIn F fu prog ops Q (o::rest) a W:=by
 obtain⟨i,hi,hz,g1,g2⟩:=XN DS;subst hN;subst hW
 refine wpListIn_append_own_at (w:=wr.alloc (.cells #[Iv y] 3)) hgd s x 22 ho base 3 i (Iv 0) 1 8 underlying22 hi hz g1 g2 rfl (by decide)
  v zs.length (Ao zs) hs (hown.alloc _) (Av wr.heap.size) 1 1 [Iv y] hx rfl (cell_one_new _ _ _) (ints_oneCell .i64 [y]) (by unfold maxLen;omega) (by omega) (by simp;omega) ?_
 intro v' w' h1 h2 _ g0;refine h v' w' ?_ ⟨FG h2,g0.imp id fun e=>⟨_,e,by simp⟩⟩ h2.os h2.tape h2.output (by have:=h2.size;simp at this;omega);unfold OwnI;have e1:(zs++[y]).length=zs.length+1:=by simp
 have e2:Ao (zs++[y])=Ao zs++[Iv y]:=by simp[Ao]
 rw[e1,e2];exact h1
theorem OwnI.same (h:OwnI w base v zs)(hk:∀ k,v.ownBlock=some k->w'.heap[k]?=w.heap[k]?):OwnI w' base v zs:=by
 refine⟨h.1,h.2.imp id ?_⟩;rintro⟨g,cap,cur,h1,h2,h3,h4⟩;exact⟨g,cap,cur,h1,h2,(hk g (by rw[h1];rfl)).trans h3,h4⟩
structure AppS (w:Wd)(pre:List Int)(M:Nat->Prop)(W:Wd)(v:Value):Prop where
 mm:∀ k,M k↔(k=w.heap.size\/v.ownBlock=some k)
 low:Bw w W
 boxg:W.heap[w.heap.size]?=some (.cells #[v] 22 (0,0))
 row:OwnI W (w.heap.size+1) v pre
def App (w:Wd)(pre:List Int)(M:Nat->Prop)(W:Wd):Prop:=∃ v,AppS w pre M W v
theorem AppS.minds {pre:List Int}(h:AppS w pre M W v)(hw:Wr (fun k=>w.heap.size<=k/\¬ M k) W W'):AppS w pre M W' v:=by
 have hk:∀ k,k<W.heap.size->M k->W'.heap[k]?=W.heap[k]?:=fun k h1 h2=>hw.keep k h1 (fun e=>e.2 h2)
 have hm:=h.mm;exact⟨hm,h.low.trans (hw.below (fun k h=>h.1) h.low.size),(hk _ (VP.1 h.boxg).1 ((hm _).2 (.inl rfl))).trans h.boxg,h.row.same fun k e=>hk k (h.row.lt k e).2 ((hm k).2 (.inr e))⟩
theorem AppS.add {pre:List Int}{x:Int}(h:AppS w pre M W v)
 (hr:OwnI W1 (w.heap.size+1) v' (pre++[x])) (hk:BQ v v' W W1) (e1:W1.os=W.os) (e2:W1.tape=W.tape) (e3:W1.output=W.output) (e4:W.heap.size<=W1.heap.size) {n:Nat} (hn:n<=W.heap.size) :
 ∃ M',App w (pre++[x]) M' (W1.setCell (Av w.heap.size) v')/\Wr (fun k=>M k\/n<=k) W (W1.setCell (Av w.heap.size) v')/\∀ k,M' k->M k\/n<=k:=by
 have g1:w.heap.size<W.heap.size:=(VP.1 h.boxg).1;have hv:∀ k,v.ownBlock=some k->w.heap.size+1<=k:=fun k e=>(h.row.lt k e).1
 have k1:=(hk.keep w.heap.size g1 (fun e=>by have:=hv _ e.symm;omega)).trans h.boxg;have hw:Wr (fun k=>M k\/n<=k) W W1:=⟨e1,e2,e3,e4,fun k g0 hm=>hk.keep k g0 fun e=>hm (.inl ((h.mm k).2 (.inr e.symm)))⟩;refine⟨fun k=>k=w.heap.size\/v'.ownBlock=some k,⟨v',⟨fun k=>Iff.rfl,?_,A7 k1 _,?_⟩⟩,?_,fun k g0=>?_⟩
 . have:Bw w W1:=h.low.trans ⟨e1,e2,e3,e4,fun k g0=>hk.keep k (Wm g0 h.low.size) (fun e=>by have:=hv _ e.symm;omega)⟩;exact this.setCell (p:=⟨w.heap.size,0,Option.none⟩) (VQ _) _
 . exact hr.setCell_other (fun e=>by have:=(hr.lt _ e).1;dsimp only at this;omega) _
 . exact hw.setCell (p:=⟨w.heap.size,0,Option.none⟩) (.inl (.inl ((h.mm _).2 (.inl rfl)))) _
 ·rcases g0 with g0|g0
  . exact .inl ((h.mm k).2 (.inl g0))
  ·rcases hk.loc with e|⟨q,e,hq⟩
   . rw[e] at g0;exact .inl ((h.mm k).2 (.inr g0))
   . rw[e] at g0;cases g0;right;omega
theorem UY (hz:Am w a zs)(hl6:zs.length<=1000000)(hBp:w.cell? (Av Bp)=some (.slice a zs.length c)) :
 Cl 184 #[.slice none 0 0,.func (.func 135) #[] #[Pt Bp]] w fun e w'=>∃ v',e=.returned v'/\OwnI w' w.heap.size v' zs/\Bw w w':=by
 have g6:=Ag hBp;obtain⟨w1,g1⟩:=Ex (w.alloc (.cells #[.slice none 0 0] 22));have g3:Bw w w1:=by rw[g1];exact Af w _
 have hG:w1.heap[w.heap.size]?=some (.cells #[.slice none 0 0] 22 (0,0)):=by rw[g1];exact VT w _
 have hs1:w1.heap.size=w.heap.size+1:=by rw[g1];simp
 have g7:=(g3.cell (p:=Av Bp) g6).trans hBp;have HG:=Hd (UT Fence.wide 8 trivial rfl (by omega) Bp w.heap.size hz (VQ _) hl6 w1 g3 (by omega) g7);have HW1:Hq (_=w1):=Hd g1.symm;have gh:=Hd hG;have gi:=Hd g3;have gn:=Hd hl6;clear hz hBp g7 g1 g3 hG hl6;refine(Yu (n:=9)).1 ?_;refine Yw func184 rfl trivial ?_;refine YB.2 ?_;simp only[ntmps184,Xc,Wp,Xi,Nat.reduceAdd,Nat.reduceSub,Xq,Xr,X3,Xt,WQ,Xy];go_upto_region 1 with fail;rw[HW1.o];go_wp2_with fail;refine(YB (n:=9)).1 ?_;refine I7 rfl (by omega) (gf:=135) (lb:=#[Pt Bp]) rfl trivial (XH func135 (by kernel_rfl) rfl) HG.o (by omega) (by rintro k rfl;have:k<w.heap.size:=g6;omega) (fun x=>rfl)
  (App w) ?_ ?_ (fun k=>k=w.heap.size) (by rintro k rfl h;have:k<w.heap.size:=g6;omega) ⟨.slice none 0 0,fun k=>by simp[Value.ownBlock],gi.o,gh.o,D0 _ _⟩
  (fun(x:Int) a' _ _=>a'={ tmps:=#[.slice none 0 0,.func (.func 135) #[] #[Pt Bp],Pt w.heap.size,undef,.slice none 0 0,Iv x,.func (.func 135) #[] #[Pt Bp],Iv x,undef,undef,undef,undef,undef],defers:=[] }) ?_ ?_ ?_ ?_
 ·rintro pre M W ⟨v,hS⟩ k hk;rcases(hS.mm k).1 hk with rfl|hg
  . exact⟨VQ _,(VP.1 hS.boxg).1⟩
  . have:=hS.row.lt k hg;exact⟨by omega,this.2⟩
 . rintro pre M W W' ⟨v,hS⟩ hw;exact⟨v,hS.minds hw⟩
 . rintro x a' W W1 W2 l hl h1 hw;exact h1
 ·intro l pre x M W K hI hK
  gi_wp2
  exact hK _ _ (Wr.refl _ W) rfl
 ·rintro l pre x a' M W0 W ⟨v,hS⟩ rfl gl hs1 g0;obtain⟨suf,g0⟩:=g0;have cg:=cell1 hS.boxg;have HS:=Hd hS;have g5:pre.length<1000000:=by
   have:=gn.o;rw[<- g0,VY,Wp] at this;omega
  have gj:=Hd g5;have gq:prog.follows .mixedOrders=true:=by kernel_rfl
  have ga:w.heap.size<W.heap.size:=(VP.1 hS.boxg).1;clear hS g0 g5
  gi_wp2_with (gi_at_builtin
               refine UX W rfl _ _ rfl (w.heap.size+1) v pre x rfl rfl rfl rfl HS.o.row (by have:=gj.o;omega) ga ?_;intro v1 w1' g8 g9 e1 e2 e3 e4;have ge:=Hd g8;have gg:=Hd g9;have g4:=Hd (And.intro e1 (And.intro e2 (And.intro e3 e4)));clear g8 g9 e1 e2 e3 e4;have g2:w1'.heap[w.heap.size]?=some (.cells #[v] 22 (0,0)):=(gg.o.keep w.heap.size ga (fun e=>by have:=(HS.o.row.lt _ e.symm).1;omega)).trans HS.o.boxg;have cg1:=cell1 g2;have fz:∀ k,w1'.frozen? (Aw w.heap.size k)=false:=fun k=>by simp[World.frozen?,g2]
               obtain⟨av,nv,cv,rfl⟩:∃ a n c,v1=.slice a n c:=by
                rcases ge.o.2 with ⟨h,_⟩|⟨g,cap,cur,h,_⟩
                . exact⟨_,_,_,h⟩
                . exact⟨_,_,_,h⟩
               clear cg g2)
  obtain⟨M',a1,a2,a3⟩:=HS.o.add ge.o gg.o g4.o.1 g4.o.2.1 g4.o.2.2.1 g4.o.2.2.2 gl;exact⟨M',a1,a2,a3⟩
 ·rintro D M W2 hD gc ⟨v,hS⟩ _ gk gd;have HS:=Hd hS;have gp:=Hd gd;have go:=Hd gc;have cg:=cell1 hS.boxg;have gr:w.heap.size<D:=by omega
  clear hS gd gc gk HG gh gi;go_wp2_with fail;have gm:∀ k,v.ownBlock=some k->k≠D:=fun k e h=>go.o ((HS.o.mm D).2 (.inr (by rw[<- h];exact e)))
  refine⟨by simp,.inl ⟨D,_,rfl,run_takeDeferred gp.o,?_⟩⟩;refine⟨_,results_tmp rfl _ _ _,v,rfl,?_,?_⟩
  . exact(HS.o.row.lower (Nat.le_succ _)).same fun k e=>WO (gm k e)
  . have hc:=HS.o.low;exact⟨hc.os,hc.tape,hc.output,by have:=hc.size;simpa using this,fun k hk=>(WO (by omega)).trans (hc.block k hk)⟩
theorem UZ (a:Option Addr)(n c:Nat)(w:Wd) :
 Cl 82 #[.slice a n c] w fun e w'=>e=.returned (.func (.func 135) #[] #[Pt w.heap.size])/\w'=w.alloc (.cells #[.slice a n c] 22):=by
 go_enter func82,ntmps82
 go_wp2_with fail;go_ret;exact⟨rfl,rfl⟩
theorem Va (hz:Am w a zs)(hl6:zs.length<=1000000)(hBp:w.cell? (Av Bp)=some (.slice a zs.length c)) :
 Cl 134 #[.func (.func 135) #[] #[Pt Bp]] w fun e w'=>∃ v',e=.returned v'/\OwnI w' w.heap.size v' zs/\Bw w w':=by
 have H:=Hd (UY hz hl6 hBp);clear hz hl6 hBp
 go_enter func134,ntmps134
 go_wp2_with fail;refine H.o.mono ?_;rintro e w' ⟨v,rfl,h1,h2⟩;have H1:=Hd h1;have H2:=Hd h2;clear h1 h2 H;go_wp2_with fail;go_ret;exact⟨v,rfl,H1.o,H2.o⟩
theorem Vb {c:List Int}(hp:PreP n c)(hl:c.length=n)(hs:BU n c):c=(List.range n).map Int.ofNat:=by
 have g0:∀ p q,p<q->q<n->at0 c p<at0 c q:=fun p q h1 h2=>by
  have h3:=hs p q h1 h2;have:at0 c p≠at0 c q:=fun e=>by
   rw[Au (by omega),Au (by omega)] at e;exact(XF.1 hp.1) p q (by omega) (by omega) h1 e
  omega
 have g1:∀ i,i<n->(i:Int)<=at0 c i:=by
  intro i
  induction i with
  | zero =>
    intro h;have:=hp.2 _ (Wh (by omega:0<c.length));rw[Au (by omega)];omega
  | succ i ih =>
    intro h;have h1:=ih (by omega);have h2:=g0 i (i+1) (by omega) h;omega
 have g2:∀ j,j<n->at0 c (n-1-j)<=((n-1-j:Nat):Int):=by
  intro j
  induction j with
  | zero =>
    intro h;have:=hp.2 _ (Wh (by omega:n-1-0<c.length));rw[Au (by omega)];omega
  | succ j ih =>
    intro h;have h1:=ih (by omega);have h2:=g0 (n-1-(j+1)) (n-1-j) (by omega) (by omega);omega
 refine CZ (by simp[hl]) fun k hk=>?_
 have a1:=g1 k (by omega);have a2:=g2 (n-1-k) (by omega);rw[show n-1-(n-1-k)=k by omega] at a2;have a3:at0 ((List.range n).map Int.ofNat) k=(k:Int):=by
  rw[Au (by simp;omega)];simp
 omega
theorem Vc (hz:Am w a zs)(hn:zs.length<=12)(hBp:w.cell? (Av Bp)=some (.slice a zs.length c)) :
 Cl 81 #[.func (.func 135) #[] #[Pt Bp]] w fun e w'=>∃ v' c2,e=.returned v'/\(c2.Perm zs/\c2.length=zs.length/\BU zs.length c2)/\OwnI w' w.heap.size v' c2/\Bw w w':=by
 have H:=Hd (Va hz (by omega) hBp);have HN:=Hd hn;clear hz hBp hn
 go_enter func81,ntmps81
 go_wp2_with fail;refine H.o.mono ?_;rintro e w1 ⟨v,rfl,h1,h2⟩;have H2:=Hd h2;have hc:(v=.slice none 0 0/\zs=[])\/∃ g cap,v=.slice (some (Av g)) zs.length cap/\w.heap.size<=g:=by
  rcases h1.2 with ⟨e,e2⟩|⟨g,cap,cur,e,hb,_⟩
  . exact .inl ⟨e,Yd.1 e2⟩
  . exact .inr ⟨g,cap,e,hb⟩
 rcases hc with ⟨rfl,rfl⟩|⟨g,cap,rfl,g0⟩
 . have HS:=Hd (UW w1);clear h1 h2 H;go_wp2_with fail;refine HS.o.mono ?_;rintro e w2 ⟨rfl,rfl⟩;clear HS;go_wp2_with fail;go_ret;exact⟨_,[],rfl,⟨List.Perm.refl _,rfl,fun p q h1 h2=>by simp at h2⟩,D0 _ _,H2.o⟩
 have HS:=Hd (UB h1 rfl HN.o);have g2:=Hd g0;obtain⟨L,hL⟩:=Ex zs.length;rw[<- hL] at HS ⊢;have g1:=Hd hL;clear h1 h2 H g0 hL;go_wp2_with fail;refine HS.o.mono ?_;rintro e w2 ⟨rfl,c2,h3,h4,h5⟩;have H3:=Hd h3;have H4:=Hd h4;have H5:=Hd (H2.o.trans (h5.below (fun k e=>by rw[e];exact g2.o) H2.o.size));clear h3 h4 h5 HS;go_wp2_with fail;go_ret;exact⟨_,c2,rfl,by rw[<- g1.o];exact H3.o,H4.o,H5.o⟩
section
variable {k:BeN}
def BeT (K:Law)(n room:Nat)(w0:Wd)(mb:Nat)(ws0:List Ev)(C:Nat->Prop)(o0:Own)(wb:Wd)(k:BeN)(a:Option Addr)(L c:Nat)(fs:List (Int×BF))(nx:Int)(B:Wd->Own->Prop)(st:Nat×List Int)(W:Wd):Prop :=
 BeS K n room w0 mb ws0 C o0 wb k a L c fs nx B st W/\st.2.length=n/\st.1<=1000000000
theorem BeT.ords:OrdS (BeG k w0 a ks) (B7 k) (BeT K n room w0 mb ws0 C o0 wb k a ks.length c fs nx):=by
 have H:OrdS (BeG k w0 a ks) (B7 k) (BeS K n room w0 mb ws0 C o0 wb k a ks.length c fs nx):=BeS.ords;exact { slice:=H.slice,and:=H.and,below:=fun h hs hb=>⟨H.below h hs.1 hb,hs.2⟩,mine:=fun h hs hb hv hk=>⟨H.mine h hs.1 hb hv hk,hs.2⟩,know:=fun h=>H.know h.1,imp:=fun h hi=>⟨H.imp h.1 hi,h.2⟩ }
theorem Vd {sz:List Int->Nat}{t:List Int}(h1:st.2.length=n)(h2:st.1<=1000000000)(h3:t.length=n)(h4:sz t<=1000000000):(Cd sz st t).2.length=n/\(Cd sz st t).1<=1000000000:=by
 unfold Cd;split
 . exact⟨h3,h4⟩
 . exact⟨h1,h2⟩
theorem Vf (n:Nat):EM n []=(List.range n).map Int.ofNat:=by
 unfold EM;exact List.filter_eq_self.2 fun x _=>WG (by simp)
theorem Vg (hG:BeG k w0 a ks B)(hn64:n<=64)(hn:nx<=549755813888)(hr:3*(fs.length*2^n)<=room)(hlen:Fs.length=ks.length)(hmm:∀ i (h:i<ks.length),(ks[i],Fs[i]'(by omega))∈fs)(hsz:Fs.length*2^n<=1000000000)
 (hb1:wb.heap.size<=k.best) (hb2:wb.heap.size<=k.ord) (hc1:w0.heap.size<=k.best) (hc2:w0.heap.size<=k.ord) (hne:k.best≠k.ord) (hn1:k.best≠k.m/\k.best≠k.l) (hn2:k.ord≠k.m/\k.ord≠k.l)
 (h:BeT K n room w0 mb ws0 C o0 wb k a ks.length c fs nx B st W) (hv:∀ W o,B W o->B7 k vl ((List.range n).map Int.ofNat) W o) :
 Cl 80 #[.slice none 0 0,vl,.func (.func 83) #[] k.args] W fun e w'=>e=.returned (.tuple #[])/\BeT K n room w0 mb ws0 C o0 wb k a ks.length c fs nx B ((ordR n n []).foldl (Cd (szO n Fs)) st) w':=by
 have e:ordL n [] ((List.range n).map Int.ofNat)=ordR n n []:=by rw[<- Vf];exact ND n n []
 have HT:OrdS (BeG k w0 a ks) (B7 k) (BeT K n room w0 mb ws0 C o0 wb k a ks.length c fs nx):=BeT.ords;have H:=UO (H:=HT) (Q:=fun zs=>Az zs=true/\zs.length=n) (stp:=Cd (szO n Fs)) (lop:=k.args) UQ (fun B' t W' v zs g1 hQ hS g0=>?_) n ((List.range n).map Int.ofNat) [] (.slice none 0 0) vl (fun W o=>B W o/\B7 k (.slice none 0 0) [] W o) st W (by simp) (by simp;omega) ?_ ?_ ?_ ?_ ?_ ?_
 . rw[e] at H;refine H.mono ?_;rintro y w' ⟨h1,h2⟩;exact⟨h1,HT.imp h2 fun _ _ hh=>hh.1⟩
 . refine(UR g1 hn64 hn hr hlen hmm hsz hb1 hb2 hc1 hc2 hne hn1 hn2 hQ.1 hQ.2 hS.2.1 hS.2.2 hS.1 g0).mono ?_;rintro y w' ⟨h1,h2⟩;exact⟨h1,h2,Vd hS.2.1 hS.2.2 hQ.2 (VU (En n Fs _) hsz)⟩
 . exact List.Pairwise.map _ (fun a b h e=>h (by injection e)) List.nodup_range
 ·intro z hz;rw[e] at hz;obtain⟨q1,q2⟩:=FB n n [] z ⟨Ye,fun x hx=>by cases hx⟩ hz;have q3:z.length=n:=by simpa using q2
  exact⟨FD q1 q3,q3⟩
 . exact HT.and hG
 . refine HT.imp (HT.mine hG h (VZ _ _) (FI _) (fun q hq=>by cases hq)) fun _ _ hh=>hh
 . exact fun W o hh=>hh.2
 . exact fun W o hh=>hv W o hh.1
theorem JH (hB:As B)(hzr:Az zs=true)(hzl:zs.length=n)(hn6:n<=6)(hn:nx<=549755813888)(hr:3*(fs.length*2^n)<=room)(hl:∀ W o,B W o->ArgI w0 W o a ks)(hlen:Fs.length=ks.length)(hmm:∀ i (h:i<ks.length),(ks[i],Fs[i]'(by omega))∈fs)(hsz:Fs.length*2^n<=1000000000)
 (h:FxO K n room w0 mb ws0 C o0 wb B (fun l=>l.map Int.ofNat=zs) fs nx W) :
 Cl 36 #[Pt mb,.slice a ks.length c] W fun e w'=>e=.returned (.tuple #[Iv ((Cy (szO n Fs) n zs).1:Nat),Iv 0])/\FxO K n room w0 mb ws0 C o0 wb B (fun l=>l.map Int.ofNat=(Cy (szO n Fs) n zs).2) fs nx w':=by
 have gf:PreP n zs:=DP hzr hzl;obtain⟨bo,gz⟩:∃ q,q=Cy (szO n Fs) n zs:=⟨_,rfl⟩;have go:=FE (szO n Fs) gf hzl;rw[<- gz] at go ⊢;have gg:Az bo.2=true/\bo.2.length=n:=by
  obtain⟨q1,q2⟩:=FB n n [] bo.2 ⟨Ye,fun x hx=>by cases hx⟩ go.1;have q3:bo.2.length=n:=by simpa using q2
  exact⟨FD q1 q3,q3⟩
 have gS:szO n Fs bo.2=bo.1:=go.2.1;obtain⟨T,hT⟩:=Ex (fun B' z W'=>FxO K n room w0 mb ws0 C o0 wb B' (fun l=>l.map Int.ofNat=z) fs nx W':(Wd->Own->Prop)->List Int->Wd->Prop)
 obtain⟨Q,hQ⟩:=Ex (fun e w'=>e=.returned (.tuple #[Iv (bo.1:Nat),Iv 0])/\FxO K n room w0 mb ws0 C o0 wb B (fun l=>l.map Int.ofNat=bo.2) fs nx w':Ending->Wd->Prop)
 obtain⟨o,m,V,h1,h2,h3,h4⟩:=h;have gd:wb.heap.size<=W.heap.size/\w0.heap.size<=W.heap.size:=⟨h1.size,h3.chg.size⟩;have gF:Hq (∀ (B':Wd->Own->Prop) w',T B' bo.2 w'->(∀ W1 o1,B' W1 o1->BfB o W W1 o1)->Q (.returned (.tuple #[Iv (bo.1:Nat),Iv 0])) w'):=Hd fun B' w' ht hi=>by
  rw[hT] at ht;rw[hQ];exact⟨rfl,ht.withB fun o' m' V' _ hc=>hB _ _ _ _ h4 (hi _ _ hc)⟩
 have h0:T (BfB o W) zs W:=by
  rw[hT];exact⟨o,m,V,h1,h2,h3,ChgX.of_below (VZ _ _) o NoB⟩
 have hy:Hq (∀ W' o',BfB o W W' o'->ArgI w0 W' o' a ks):=Hd fun W' o' hc=>hl _ _ (hB _ _ _ _ h4 hc)
 have hd:Hq (∀ (B':Wd->Own->Prop) z W',As B'->(∀ W1 o1,B' W1 o1->BfB o W W1 o1)->T B' z W'->Cl 65 #[Pt mb,.slice a ks.length c] W' fun x' w'=>x'=.returned (.tuple #[Iv (szO n Fs z:Nat),Iv 0])/\T B' z w'):=Hd fun B' z W' hk hs ht=>by
  rw[hT] at ht ⊢;exact FxO.size (c:=c) hk ht (fun W1 o1 h=>hy.o W1 o1 (hs W1 o1 h)) hlen hmm
 have g9:Hq (∀ (B':Wd->Own->Prop) z W',T B' z W'->∃ o',B' W' o'):=Hd fun B' z W' ht=>by
  rw[hT] at ht;obtain⟨o',_,_,_,_,_,h⟩:=ht;exact⟨o',h⟩
 have hJ:Hq (∀ (B':Wd->Own->Prop) z W',T B' z W'->Cl 62 #[Pt mb] W' (Sm (Iv n) W')):=Hd fun B' z W' ht=>by
  rw[hT] at ht;exact ht.vars
 have gt:Hq (∀ (B':Wd->Own->Prop) z W' v t,As B'->T B' z W'->T (fun W1 o1=>B' W1 o1/\BxN W'.heap.size v t W1 o1) z (W'.alloc (.cells #[v] t))):=Hd fun B' z W' v t hk ht=>by
  rw[hT] at ht ⊢;exact ht.box hk v t
 have hz:Hq (∀ (B':Wd->Own->Prop) W',As B'->T B' zs W'->Cl 19 #[Pt mb] W' fun e w'=>∃ v,e=.returned v/\T (fun W1 o1=>B' W1 o1/\AA v zs W1 o1) zs w'/\(∀ q,v.ownBlock=some q->W'.heap.size<=q/\q<w'.heap.size)/\W'.heap.size<=w'.heap.size):=Hd fun B' W' hk ht=>by
  rw[hT] at ht ⊢;refine(ht.order hk).mono ?_;rintro y w' ⟨u,l,rfl,hl,hP,_,hF,hf,hI⟩;exact⟨u,rfl,by rw[<- hP];exact hf.imp fun l' _ e=>by rw[e],hF.lt,hI.size⟩
 have h5:Hq (∀ (B':Wd->Own->Prop) v W',As B'->(∀ W1 o1,B' W1 o1->SliceIs W1 v bo.2)->FxO K n room w0 mb ws0 C o0 wb B' (fun _=>True) fs nx W'->Cl 44 #[Pt mb,v] W' fun x w'=>x=.returned (Iv 0)/\T B' bo.2 w'):=Hd fun B' v W' hk hv ht=>by
  rw[hT];exact NH hk ht hn hr hv gg.1 gg.2
 have hn64:n<=64:=by omega
 have gK:Hq (∀ (k:BeN) (B5:Wd->Own->Prop) vl W5 w7,W.heap.size<=k.best->W.heap.size<=k.ord->k.best≠k.ord->(k.best≠k.m/\k.best≠k.l)->(k.ord≠k.m/\k.ord≠k.l)->T B5 zs W5->(∀ o',B5 W5 o'->BeC (BfB o W) k mb a ks.length c (szO n Fs zs,zs) W5 o')->Bw W5 w7->SliceIs w7 vl ((List.range n).map Int.ofNat)->(∀ q,vl.ownBlock=some q->W5.heap.size<=q/\q<w7.heap.size) ->
  Cl 80 #[.slice none 0 0,vl,.func (.func 83) #[] k.args] w7 fun e w'=>e=.returned (.tuple #[])/\∃ v2,(∀ W1 o1,B7 k v2 bo.2 W1 o1->SliceIs W1 v2 bo.2)/\As (fun W1 o1=>(BfB o W W1 o1/\BxN k.m (Pt mb) 32 W1 o1)/\BxN k.l (.slice a ks.length c) 22 W1 o1/\BxN k.ord v2 22 W1 o1/\B7 k v2 bo.2 W1 o1) /\
   FxO K n room w0 mb ws0 C o0 wb (fun W1 o1=>(BfB o W W1 o1/\BxN k.m (Pt mb) 32 W1 o1)/\BxN k.l (.slice a ks.length c) 22 W1 o1/\BxN k.ord v2 22 W1 o1/\B7 k v2 bo.2 W1 o1) (fun _=>True) fs nx w'):=Hd fun k B5 vl W5 w7 q1 q2 q3 q4 q5 ht hi hb gk hH=>by
  rw[hT] at ht;have hG:BeG k w0 a ks (BfB o W):=⟨BfB.keep,hy.o,fun W1 o1 W2 _ hb hw=>hb.wr hw fun q e=>by rcases e with rfl|rfl;exact q1;exact q2⟩;have HS:OrdS (BeG k w0 a ks) (B7 k) (BeS K n room w0 mb ws0 C o0 wb k a ks.length c fs nx):=BeS.ords;have hC:BeS K n room w0 mb ws0 C o0 wb k a ks.length c fs nx (BfB o W) (szO n Fs zs,zs) W5:=(ht.withB fun o' _ _ _ hh=>hi o' hh).imp fun _ _ _=>trivial
  have hA:=HS.mine hG hC hb gk hH;refine(Vg (HS.and hG) hn64 hn hr hlen hmm hsz (VU gd.1 q1) (VU gd.1 q2) (VU gd.2 q1) (VU gd.2 q2) q3 q4 q5 ⟨hA,hzl,VU (En n Fs _) hsz⟩ fun _ _ hh=>hh.2).mono ?_;rintro y w' ⟨e1,e2,_⟩;refine⟨e1,?_⟩;have:(ordR n n []).foldl (Cd (szO n Fs)) (szO n Fs zs,zs)=bo:=by rw[gz];rfl
  rw[this] at e2;obtain⟨o',m',V',g1,g2,g3,⟨⟨g4,_⟩,g5⟩,g6,_,v2,g7,g8⟩:=e2;exact⟨v2,fun _ _ hh=>hh.1.1,(BfB.keep.and BxN.keep).and (BxN.keep.and (BxN.keep.and B7.keep)),o',m',V',g1,g2,g3,⟨g4,g5⟩,g6,g7,g8⟩
 have hO:=Hd gS;have hg:=Hd gf;have gU:=Hd hzl;obtain⟨sx,gN⟩:∃ q,q=szO n Fs zs:=⟨_,rfl⟩;have h9:=Hd gN;rw[<- hQ];have hR:¬ (n:Int)>6:=by omega
 clear hQ hT hl hlen hmm hsz hr hB h4 h3 h2 h1 gd gg go gz gS gf hzr gN;obtain⟨D,hD⟩:=Ex W.heap.size;obtain⟨B1,ga⟩:=Ex (fun W' o'=>(BfB o W W' o'/\BxN D (Pt mb) 32 W' o')/\BxN (D+1) (.slice a ks.length c) 22 W' o':Wd->Own->Prop)
 have gy:As B1:=by rw[ga];exact(BfB.keep.and BxN.keep).and BxN.keep
 obtain⟨w1,gu⟩:=Ex ((W.alloc (.cells #[Pt mb] 32)).alloc (.cells #[.slice a ks.length c] 22));have t1:T B1 zs w1:=by
  have:=gt.o _ _ _ (.slice a ks.length c) 22 (BfB.keep.and BxN.keep) (gt.o _ _ _ (Pt mb) 32 BfB.keep h0);simp only[Wi] at this;rw[<- hD] at this;rw[ga,gu];exact this
 have HW1:Hq (_=w1):=Hd gu.symm;have gA:∀ W1 o1,B1 W1 o1->BfB o W W1 o1:=fun W1 o1 h=>by rw[ga] at h;exact h.1.1
 have he:=Hd (hd.o B1 zs w1 gy gA t1);rw[<- h9.o] at he;obtain⟨c4,c7⟩:w1.cell? (Av D)=some (Pt mb)/\w1.cell? (Av (D+1))=some (.slice a ks.length c):=by
  obtain⟨o',h⟩:=g9.o _ _ _ t1;rw[ga] at h;exact⟨h.1.2.cell,h.2.cell⟩
 have gJ:=Hd ga;have hm:=Hd gy;have hp:=Hd hD;clear gu t1 h0 gA gy ga
 go_enter func36,ntmps36
 go_upto_region 1 with fail;rw[<- hD,HW1.o];clear HW1 hD;go_wp2_with fail;refine he.o.mono ?_;rintro y w2 ⟨rfl,t2⟩;obtain⟨b10,g0⟩:∃ b,b=w2.heap.size:=⟨_,rfl⟩;obtain⟨w3,gj⟩:∃ W,W=w2.alloc (.cells #[Iv (sx:Nat)] 3):=⟨_,rfl⟩;obtain⟨B2,ge⟩:=Ex (fun W' o'=>B1 W' o'/\BxN b10 (Iv (sx:Nat)) 3 W' o':Wd->Own->Prop)
 have gP:As B2:=by rw[ge];exact hm.o.and BxN.keep
 have t3:T B2 zs w3:=by
  have:=gt.o _ _ _ (Iv (sx:Nat)) 3 hm.o t2;rw[<- g0] at this;rw[ge,gj];exact this
 have gx:D+1<b10/\b10<w3.heap.size:=by
  obtain⟨o',h⟩:=g9.o _ _ _ t2;rw[gJ.o] at h;have:=h.2.lt;refine⟨by rw[g0];exact this,?_⟩;rw[gj,Wi,<- g0];omega
 have d4:w3.cell? (Av D)=some (Pt mb):=by
  obtain⟨o',h⟩:=g9.o _ _ _ t3;rw[ge] at h;have h:=h.1;rw[gJ.o] at h;exact h.1.2.cell
 have gX:=Hd gj.symm;have gI:=Hd g0.symm;have HB2:=Hd ge;have hj:=Hd gP;have hL:=Hd t3;have gc:=Hd gx;have gZ:=Hd (hJ.o _ _ _ t3);clear gj g0 ge gP t3 gx t2 c4 c7;go_upto_region 2 with fail;rw[gX.o,gI.o];clear gX gI;go_wp2_with fail;refine gZ.o.mono ?_;rintro y w3' ⟨rfl,rfl⟩;have HO:=Hd (hz.o B2 w3 hj.o hL.o);clear gZ;go_wp2_with fail;refine HO.o.mono ?_;rintro y w4 ⟨u,rfl,t4,hu,hE⟩;obtain⟨a2,n2,c2,rfl⟩:∃ a2 n2 c2,u=.slice a2 n2 c2:=by
  obtain⟨o',h⟩:=g9.o _ _ _ t4;obtain⟨x,y,e,_⟩:=h.2.1;exact⟨x,_,y,e⟩
 have gv:Am w4 a2 zs/\n2=zs.length:=by
  obtain⟨o',h⟩:=g9.o _ _ _ t4;exact Am.of_sl h.2.1
 obtain⟨b11,gh⟩:∃ b,b=w4.heap.size:=⟨_,rfl⟩;obtain⟨w5,gi⟩:∃ W,W=w4.alloc (.cells #[.slice a2 n2 c2] 22):=⟨_,rfl⟩;obtain⟨B5,gq⟩:=Ex (fun W' o'=>(B2 W' o'/\AA (.slice a2 n2 c2) zs W' o')/\BxN b11 (.slice a2 n2 c2) 22 W' o':Wd->Own->Prop)
 have t5:T B5 zs w5:=by
  have:=gt.o _ _ _ (.slice a2 n2 c2) 22 (hj.o.and AA.keep) t4;rw[<- gh] at this;rw[gq,gi];exact this
 have gw:b10<b11/\w3.heap.size<=b11:=by
  have:=gc.o;omega
 have ho:Hq (∀ o',B5 w5 o'->BeC (BfB o W) ⟨D,D+1,b10,b11⟩ mb a ks.length c (szO n Fs zs,zs) w5 o'):=Hd fun o' h=>by
  rw[gq] at h;obtain⟨⟨g1,g2⟩,g3⟩:=h;rw[HB2.o] at g1;obtain⟨g1,g4⟩:=g1;rw[gJ.o] at g1;refine⟨g1.1,g1.2,by rw[<- h9.o];exact g4,_,g3,g2,fun q hq e=>?_⟩;have h1:=hu q hq;have h2:=gc.o;rcases e with e|e
  . have:q=b10:=e;omega
  . have:q=b11:=e;omega
 have d8:w5.cell? (Av b11)=some (.slice a2 n2 c2):=by
  obtain⟨o',h⟩:=g9.o _ _ _ t5;rw[gq] at h;exact h.2.cell
 have gM:Am w5 a2 zs:=by rw[gi];exact gv.1.below (Af _ _)
 have hM:=Hd gv.2;have hK:=Hd gM;have h8:=Hd t5;have gE:=Hd gw;have gV:=Hd gi.symm;have gH:=Hd gh.symm;have gY:=Hd (UZ a2 n2 c2 w5);clear gi gh gq t5 t4 hu gv gM gw d4 HO hE;go_upto_region 7 with fail;rw[gV.o,gH.o];clear gV gH;go_wp2_with fail;refine gY.o.mono ?_;rintro y w6 ⟨rfl,h6⟩;have gB:Bw w5 w6:=by rw[h6];exact Af _ _
 have gR:w6.cell? (Av w5.heap.size)=some (.slice a2 zs.length c2):=by rw[h6,<- hM.o];exact cell1 (VT _ _)
 have ha:=Hd (Vc (hK.o.below gB) (by rw[gU.o];omega) gR);have gG:=Hd gB;clear h6 gB gR gY;go_wp2_with fail;refine ha.o.mono ?_;rintro y w7 ⟨vl,c3,rfl,gO,gl,gT⟩;have gC:Bw w5 w7:=gG.o.trans (gT.mono gG.o.size);have gQ:c3=(List.range n).map Int.ofNat:=by
  obtain⟨q1,q2,q3⟩:=gO;rw[gU.o] at q2 q3;exact Vb ⟨q1.nodup_iff.2 hg.o.1,fun x hx=>hg.o.2 x (q1.mem_iff.1 hx)⟩ q2 q3
 rw[gQ] at gl;have gL:=Hd (gK.o ⟨D,D+1,b10,b11⟩ B5 vl w5 w7 (by have:=gc.o;have:=hp.o;show _<=b10;omega) (by have:=gc.o;have:=gE.o;have:=hp.o;show _<=b11;omega) (by have:=gE.o;show b10≠b11;omega) (by have:=gc.o;exact⟨by show b10≠D;omega,by show b10≠D+1;omega⟩) (by have:=gc.o;have:=gE.o;exact⟨by show b11≠D;omega,by show b11≠D+1;omega⟩) h8.o ho.o gC (gl.sliceIs (by simp;omega)) (fun q hq=>by have h1:=gl.lt q hq;have:=gG.o.size;exact⟨by omega,h1.2⟩));unfold BeN.args at gL;clear gO gl gT gC gQ gK ha ho h8 d8;go_wp2_with fail;refine gL.o.mono ?_;rintro y w8 ⟨rfl,v2,gk,gm,gn⟩;obtain⟨B8,gp⟩:=Ex (fun W1 o1=>(BfB o W W1 o1/\BxN D (Pt mb) 32 W1 o1)/\BxN (D+1) (.slice a ks.length c) 22 W1 o1/\BxN b11 v2 22 W1 o1/\B7 ⟨D,D+1,b10,b11⟩ v2 bo.2 W1 o1:Wd->Own->Prop)
 rw[<- gp] at gm gn;have gr:Hq (∀ W1 o1,B8 W1 o1->W1.cell? (Av D)=some (Pt mb)/\W1.cell? (Av (D+1))=some (.slice a ks.length c)/\W1.cell? (Av b11)=some v2/\BfB o W W1 o1):=Hd fun W1 o1 h=>by
  rw[gp] at h;exact⟨h.1.2.cell,h.2.1.cell,h.2.2.1.cell,h.1.1⟩
 obtain⟨e1,e3⟩:w8.cell? (Av D)=some (Pt mb)/\w8.cell? (Av b11)=some v2:=by
  obtain⟨o',_,_,_,_,_,h⟩:=gn;have:=gr.o _ _ h;exact⟨this.1,this.2.2.1⟩
 have h7:=Hd (h5.o B8 v2 w8 gm (fun W1 o1 hh=>by rw[gp] at hh;exact gk W1 o1 hh.2.2.2) gn);have hN:=Hd gm;clear gk gm gn gp gL h5;go_wp2_with fail;refine h7.o.mono ?_;rintro y w9 ⟨rfl,t9⟩;obtain⟨f1,f2⟩:w9.cell? (Av D)=some (Pt mb)/\w9.cell? (Av (D+1))=some (.slice a ks.length c):=by
  obtain⟨o',h⟩:=g9.o _ _ _ t9;have:=gr.o _ _ h;exact⟨this.1,this.2.1⟩
 have gD:=Hd (hd.o B8 bo.2 w9 hN.o (fun W1 o1 hh=>(gr.o W1 o1 hh).2.2.2) t9);rw[hO.o] at gD;clear t9 h7 e1 e3;go_wp2_with fail;refine gD.o.mono ?_;rintro y w10 ⟨rfl,t10⟩;have HF:=Hd (gF.o B8 w10 t10 fun W1 o1 hh=>(gr.o W1 o1 hh).2.2.2);clear t10 gD f1 f2 gF;go_wp2_with fail;exact HF.o
end
theorem Vh (hf:f<zs.length)(ht:t<zs.length):((A3 zs (f:Int) (t:Int)).filter fun x=>decide (x≠at0 zs f))=zs.filter fun x=>decide (x≠at0 zs f):=by
 rw[<- MS hf ht];have h1:zs.take f++at0 zs f::zs.drop (f+1)=zs:=by
  rw[Au hf,<- WN hf,Xn]
 obtain⟨m,hm⟩:=Ex (zs.take f++zs.drop (f+1));obtain⟨x,hx⟩:=Ex (at0 zs f);rw[<- hm,<- hx];rw[<- hx] at h1;have e0:([x].filter fun y=>decide (y≠x))=[]:=by simp
 rw[WB,WB,e0,WX,<- WB,Xn,hm,WB]
 conv=>rhs;rw[<- h1]
 rw[WB,Yf];simp
def LwB (n base:Nat)(vl vx:Value)(hs:List (Int×BF)):Wd->Own->Prop:=fun W o=>LawL W o base vl (hs.map Prod.fst)/\LawX W o base vx (hs.map fun p=>tabB n p.2)
theorem LwB.keep :As (LwB n base vl vx hs):=fun _ _ _ _ h hc=>⟨h.1.chg hc,h.2.chg hc⟩
structure Q23 (n:Nat)(hs:List (Int×BF))(nx:Int):Prop where
 n1:1<=n
 n6:n<=6
 h5:hs.length<=5
 nx:nx<=549755813888
 room:3*((two++hs).length*2^n)<=Bc n
structure S23 (K:Law)(n:Nat)(w0:Wd)(mb:Nat)(ws0:List Ev)(o0:Own)(wb:Wd)(vl vx:Value)(hs:List (Int×BF))(nx:Int)(B:Wd->Own->Prop)(zs:List Int)(W:Wd):Prop where
 st:FxO K n (Bc n) w0 mb ws0 NoB o0 wb (fun W o=>LwB n w0.heap.size vl vx hs W o/\B W o) (fun l=>l.map Int.ofNat=zs) (two++hs) nx W
 r:Az zs=true
 len:zs.length=n
section
variable {o:Own}{al:Option Addr}{cl:Nat}
theorem Q23.pow (q:Q23 n hs nx):2^n<=64:=WC (by omega) q.n6
theorem Q23.size (q:Q23 n hs nx):hs.length*2^n+2^n<=1000:=by
 have h1:=q.pow;have h2:=XT q.h5 h1;omega
theorem S23.start (h:LawT K n Od (Bc n) w0 mb (two++hs) nx (SufW ws0) hs hs W o m V vl vx):∃ zs,S23 K n w0 mb ws0 o W vl vx hs nx (fun _ _=>True) zs W:=by
 have hp:=h.sat.ok.store.permB;exact⟨m.d.vars.map Int.ofNat,⟨o,m,V,ChgX.of_below (VZ _ _) o NoB,h.st,h.sat.withOd rfl,⟨h.l,h.x⟩,trivial⟩,GI (Fz hp),by rw[Wn];exact h.sat.vars⟩
theorem S23.keepB (hB:As B):As (fun W o=>LwB n w0.heap.size vl vx hs W o/\B W o):=LwB.keep.and hB
theorem S23.below (hB:As B)(h:S23 K n w0 mb ws0 o0 wb vl vx hs nx B zs W)(hb:Bw W W'):S23 K n w0 mb ws0 o0 wb vl vx hs nx B zs W':=⟨h.st.below (S23.keepB hB) hb,h.r,h.len⟩
theorem S23.below0 (h:S23 K n w0 mb ws0 o0 wb vl vx hs nx B zs W):Bw w0 W:=h.st.below0
theorem S23.withB (h:S23 K n w0 mb ws0 o0 wb vl vx hs nx B zs W)(hB:∀ W o,B W o->B' W o):S23 K n w0 mb ws0 o0 wb vl vx hs nx B' zs W:=⟨h.st.withB fun _ _ _ _ hh=>⟨hh.1,hB _ _ hh.2⟩,h.r,h.len⟩
theorem S23.know (h:S23 K n w0 mb ws0 o0 wb vl vx hs nx B zs W){Q:Wd->Prop}(hq:∀ W o,B W o->Q W):Q W:=h.st.know fun W o hh=>hq W o hh.2
theorem Ep :∀ p∈hs,p∈two++hs:=fun _ hp=>Xs _ hp
theorem LwB.arg (q:Q23 n hs nx)(h:LwB n w0.heap.size (.slice al hs.length cl) vx hs W o):ArgI w0 W o al (hs.map Prod.fst):=by
 obtain⟨a,c,e,h1⟩:=(IS h.1 h.2 Ep (by have:=q.h5;omega)).l;injection e with e1 e2 e3
 subst e1;refine⟨h1,fun x hx=>?_⟩;have hk:(Value.slice al hs.length cl).ownBlock=some x.block:=by rw[hx];rfl
 have:=h.1.own.lt _ hk;exact⟨this.2,this.1,h.1.no _ hk⟩
theorem LwB.tabs (q:Q23 n hs nx)(h:LwB n w0.heap.size vl vx hs W o):∃ a c,vx=.slice a (hs.map Prod.snd).length c/\Dy n W a (hs.map Prod.snd):=by
 obtain⟨a,c,e,h1⟩:=(IS h.1 h.2 Ep (by have:=q.h5;omega)).tabs;exact⟨a,c,by rw[e,Wn],h1⟩
theorem S23.order (hB:As B)(h:S23 K n w0 mb ws0 o0 wb vl vx hs nx B zs W) :
 Cl 19 #[Pt mb] W fun x w'=>∃ v,x=.returned v/\SliceIs w' v zs/\S23 K n w0 mb ws0 o0 wb vl vx hs nx (fun W o=>B W o/\AA v zs W o) zs w'/\Bw W w':=by
 refine(h.st.order (S23.keepB hB)).mono ?_;rintro x w' ⟨v,l,rfl,-,hP,-,-,hf,hb⟩;rw[hP] at hf;have g0:=hf.imp (P':=fun l=>l.map Int.ofNat=zs) fun l' _ e=>by rw[e];exact hP
 exact⟨v,rfl,g0.know fun W o hh=>hh.2.slice,⟨g0.withB fun _ _ _ _ hh=>⟨hh.1.1,hh.1.2,hh.2⟩,h.r,h.len⟩,hb⟩
theorem S23.vars (h:S23 K n w0 mb ws0 o0 wb vl vx hs nx B zs W):Cl 62 #[Pt mb] W (Sm (Iv n) W):=h.st.vars
theorem S23.left (q:Q23 n hs nx)(h:S23 K n w0 mb ws0 o0 wb vl vx hs nx B zs W):Cl 29 #[Pt mb,Iv (hs.length:Nat)] W (Sm (.bool true) W) :=
 h.st.ask fun o m V hs' _=>(QB hs' hs.length (by have:=q.h5;omega)).mono fun e w' ⟨h1,h2⟩=>⟨by rw[h1,WG (by simp[two])],h2⟩
theorem S23.nodes (q:Q23 n hs nx)(h:S23 K n w0 mb ws0 o0 wb vl vx hs nx B zs W){ts:List Int}(hr:Az ts=true)(hl:ts.length=n){co:Nat}(hz:Am W ao ts) :
 Cl 31 #[vx,.slice ao n co] W (Bl (Iv (szO n (hs.map Prod.snd) ts:Nat)) W):=by
 obtain⟨o,m,V,_,_,g1,hw,_⟩:=h.st;obtain⟨a,c,rfl,ht⟩:=hw.tabs q;have hp:=DP hr hl;have et:(ts.map Int.toNat).map Int.ofNat=ts:=by
  rw[XJ];refine(List.map_congr_left fun x hx=>?_).trans (List.map_id _);have:=(hp.2 x hx).1
  show ((x.toNat:Nat):Int)=x
  omega
 have g0:(ts.map Int.toNat).length=n:=by simpa using hl
 have hq:=q.size
 have:=N2 (n:=n) (by have:=q.n6;omega) (os:=ts.map Int.toNat) g0 (fun v hv=>by
  obtain⟨x,hx,rfl⟩:=Wg.1 hv;have:=hp.2 x hx;omega) (fun v hv=>Wg.2 ⟨(v:Int),GH hr hl ⟨by omega,by omega⟩,by simp⟩) (fa:=a) (fc:=c) (ao:=ao) (co:=co) (w:=W) ht (fun G hG=>by
  obtain⟨p,hp,rfl⟩:=Wg.1 hG;exact g1.dep (Ep p hp)) (by rw[et];exact hz) (fun x hx=>by
  obtain⟨b,off,e,hc⟩:=hz.cells 0 (by have:=q.n1;omega);rw[hx] at e;cases e;exact Ag hc) (by rw[Wn];exact hq)
 rw[g0] at this;exact this
theorem S23.is (q:Q23 n hs nx)(h:S23 K n w0 mb ws0 o0 wb vl vx hs nx B zs W)(hj:j<hs.length)(hv:Bb W v (tabB n hs[j].2)) :
 Cl 72 #[Pt mb,Iv hs[j].1,v] W (Bl (.bool true) W) :=
 h.st.ask fun o m V hsat _=>(QE hsat (by have:=q.n6;omega) (Ep _ (Wh hj)) hv).mono fun x w' ⟨b,h1,h2,h3⟩=>⟨by rw[h1,h2.2 rfl],h3⟩
theorem S23.lists (q:Q23 n hs nx)(h:S23 K n w0 mb ws0 o0 wb (.slice al hs.length cl) vx hs nx B zs W):∃ ax cx,vx=.slice ax hs.length cx/\∀ W',Bw W W'->∀ j (hj:j<hs.length),∃ b1 of1 b2 of2 v,al=some (Aw b1 of1)/\ax=some (Aw b2 of2)/\W'.cell? (Aw b1 (of1+j))=some (Iv hs[j].1)/\W'.cell? (Aw b2 (of2+j))=some v/\Bb W' v (tabB n hs[j].2):=by
 obtain⟨o,m,V,_,_,g1,hw,_⟩:=h.st;have hr:=IS hw.1 hw.2 Ep (by have:=q.h5;omega);obtain⟨a,c,e,_⟩:=hr.l;obtain⟨ax,cx,e2,_⟩:=hr.x;injection e with e1
 subst e1 e2;refine⟨ax,cx,rfl,fun W' hb j hj=>?_⟩;have g0:=hr.below hb;obtain⟨a1,c1,e3,h1⟩:=g0.l;obtain⟨a2,c2,e4,h2⟩:=g0.x;injection e3 with e3
 injection e4 with e4
 subst e3 e4;obtain⟨b1,of1,q1,q2⟩:=h1.cells j (by simpa using hj);obtain⟨b2,of2,v,q3,q4,q5,_⟩:=h2.cells j (by simpa using hj);have e5:at0 (hs.map Prod.fst) j=hs[j].1:=by rw[Au (by simpa using hj)];simp
 have e6:(hs.map fun p=>tabB n p.2).getD j []=tabB n hs[j].2:=by simp[List.getD,hj]
 rw[e5] at q2;rw[e6] at q5;exact⟨b1,of1,b2,of2,v,q1,q3,q2,q4,q5⟩
theorem GM :∀ i (h:i<(hs.map Prod.fst).length),((hs.map Prod.fst)[i],(hs.map Prod.snd)[i]'(by simpa using h))∈two++hs:=fun i h=>by
 simp only[List.getElem_map];exact Ep _ (Wh _)
theorem Q23.big (q:Q23 n hs nx):(hs.map Prod.snd).length*2^n<=1000000000:=by
 rw[Wn];exact VU (Yv _ _) (VU q.size (by omega))
theorem S23.sift (hB:As B)(q:Q23 n hs nx)(h:S23 K n w0 mb ws0 o0 wb (.slice al hs.length cl) vx hs nx B zs W)(grow:Int) :
 Cl 38 #[Pt mb,Iv grow,.slice al hs.length cl] W fun e w'=>∃ zs',e=.returned (.tuple #[Iv (szO n (hs.map Prod.snd) zs':Nat),Iv 0])/\szO n (hs.map Prod.snd) zs'<=szO n (hs.map Prod.snd) zs/\S23 K n w0 mb ws0 o0 wb (.slice al hs.length cl) vx hs nx B zs' w':=by
 have:=UF (c:=cl) (a:=al) (ks:=hs.map Prod.fst) (Fs:=hs.map Prod.snd) (S23.keepB hB) h.r h.len q.n1 (by have:=q.n6;omega) q.nx q.room (fun W o hh=>hh.1.arg q) (by simp) GM q.big grow h.st;rw[Wn] at this;refine this.mono ?_;rintro e w' ⟨zs',⟨h1,h2⟩,rfl,h3,h4⟩;exact⟨zs',rfl,h3,h4,h1,h2⟩
theorem S23.var (hB:As B)(q:Q23 n hs nx)(h:S23 K n w0 mb ws0 o0 wb (.slice al hs.length cl) vx hs nx B zs W)(grow:Int){v:Int}(hv:0<=v/\v<(n:Int)) :
 Cl 32 #[Pt mb,Iv v,Iv grow,.slice al hs.length cl] W fun e w'=>∃ zs',e=.returned (.tuple #[Iv (szO n (hs.map Prod.snd) zs':Nat),Iv 0])/\szO n (hs.map Prod.snd) zs'<=szO n (hs.map Prod.snd) zs/\(zs'.filter fun x=>decide (x≠v))=(zs.filter fun x=>decide (x≠v))/\S23 K n w0 mb ws0 o0 wb (.slice al hs.length cl) vx hs nx B zs' w':=by
 obtain⟨hm,hh,e⟩:=Xp (GH h.r h.len hv);have:=JE (c:=cl) (a:=al) (ks:=hs.map Prod.fst) (Fs:=hs.map Prod.snd) (S23.keepB hB) h.r h.len (hm:=hm) (by have:=h.len;omega) q.nx q.room (fun W o hh=>hh.1.arg q) (by simp) GM q.big grow ((Au hh).trans e) h.st;rw[Wn] at this;refine this.mono ?_;rintro e' w' ⟨x,hx,rfl,h3,h4⟩;have g0:x<zs.length:=by have:=h.len;omega
 have hp:=T8 hh g0;have hl:(A3 zs (hm:Int) (x:Int)).length=n:=by rw[hp.length_eq];exact h.len
 refine⟨_,rfl,h3,?_,h4,FD ⟨hp.nodup_iff.2 (DP h.r h.len).1,fun y hy=>(DP h.r h.len).2 y (hp.mem_iff.1 hy)⟩ hl,hl⟩;rw[<- (Au hh).trans e];exact Vh hh g0
theorem S23.best (hB:As B)(q:Q23 n hs nx)(h:S23 K n w0 mb ws0 o0 wb (.slice al hs.length cl) vx hs nx B zs W) :
 Cl 36 #[Pt mb,.slice al hs.length cl] W fun e w'=>∃ b zb,(b,zb)=Cy (szO n (hs.map Prod.snd)) n zs/\e=.returned (.tuple #[Iv (b:Nat),Iv 0])/\szO n (hs.map Prod.snd) zb=b/\b<=szO n (hs.map Prod.snd) zs/\S23 K n w0 mb ws0 o0 wb (.slice al hs.length cl) vx hs nx B zb w':=by
 have:=JH (c:=cl) (a:=al) (ks:=hs.map Prod.fst) (Fs:=hs.map Prod.snd) (S23.keepB hB) h.r h.len q.n6 q.nx q.room (fun W o hh=>hh.1.arg q) (by simp) GM q.big h.st;rw[Wn] at this;refine this.mono ?_;rintro e' w' ⟨rfl,h4⟩;have hp:=DP h.r h.len;have hi:=FE (szO n (hs.map Prod.snd)) hp h.len;obtain⟨q1,q2⟩:=FB n n [] _ ⟨Ye,fun x hx=>by cases hx⟩ hi.1;have q3:(Cy (szO n (hs.map Prod.snd)) n zs).2.length=n:=by simpa using q2
 exact⟨_,_,rfl,rfl,hi.2.1,(hi.2.2 zs (FC n n [] zs hp h.len)).1,h4,FD q1 q3,q3⟩
end
section
variable {o:Own}{al:Option Addr}{cl:Nat}
theorem S23.right (h:S23 K n w0 mb ws0 o0 wb vl vx hs nx B zs W)(q:Q23 n hs nx)(hz:Am W a zs) :
 Cl 23 #[.slice a n c,Iv n] W (Sm (.bool true) W):=by
 have:=Lt a c zs n W hz (by have:=h.len;have:=q.n6;omega);rw[h.len] at this;refine this.mono ?_;rintro x w' ⟨rfl,rfl⟩;exact⟨by rw[TH,WG ⟨h.len,h.r⟩],rfl⟩
theorem DQ (hB:As B)(q:Q23 n hs nx)(h:S23 K n w0 mb ws0 o0 wb (.slice al hs.length cl) vx hs nx B zs W) :
 Cl 34 #[Pt mb,.slice al hs.length cl,vx,Iv (szO n (hs.map Prod.snd) zs:Nat)] W (Bl (.bool true) W):=by
 have g4:Hq (∀ W',Bw W W'->Cl 19 #[Pt mb] W' fun x w'=>∃ a c,x=.returned (.slice a n c)/\Bw W' w'/\Hq (Cl 62 #[Pt mb] w' (Sm (Iv n) w'))/\Hq (Cl 23 #[.slice a n c,Iv n] w' (Sm (.bool true) w')) /\
  Hq (Cl 31 #[vx,.slice a n c] w' (Bl (Iv (szO n (hs.map Prod.snd) zs:Nat)) w')) /\
  Hq (∀ W2,Bw w' W2->Cl 29 #[Pt mb,Iv (hs.length:Nat)] W2 (Sm (.bool true) W2))):=Hd fun W' hb=>by
  refine((h.below hB hb).order hB).mono ?_;rintro x w' ⟨v,rfl,gd,h2,g2⟩;obtain⟨a,c,rfl,hz,-⟩:=gd;rw[h.len];exact⟨a,c,rfl,g2,Hd h2.vars,Hd (h2.right q hz),Hd (h2.nodes q h.r h.len hz),Hd fun W2 ge=>(h2.below (hB.and AA.keep) ge).left q⟩
 have ga:Hq (∀ W',Bw W W'->∀ j v,∀ hj:j<hs.length,Bb W' v (tabB n hs[j].2)->Cl 72 #[Pt mb,Iv hs[j].1,v] W' (Bl (.bool true) W')):=Hd fun W' hb j v hj hv=>(h.below hB hb).is q hj hv
 obtain⟨ax,cx,rfl,g7⟩:=h.lists q;have g9:=Hd g7;have gi:=q.h5;obtain⟨N,hN⟩:=Ex (szO n (hs.map Prod.snd) zs);rw[<- hN] at g4 ⊢;clear h q hB g7 hN
 go_enter func34,ntmps34
 go_wp2_with fail
 go_loopw [8,9] (fun _ s10 wr=>∃ j:Nat,j<=hs.length/\s10=Iv j/\Bw W wr) (fun _ s10 _=>hs.length-(intOf s10).toNat)
 case atStart=>exact⟨0,Wb _,rfl,VZ _ _⟩
 case round =>
  obtain⟨j,hj,rfl,g1⟩:=hrel
  by_cases g6:j<hs.length
  ·obtain⟨b1,of1,b2,of2,v2,rfl,rfl,c1,c2,g5⟩:=g9.o wr g1 j g6;have gf:=Hd g5;have g0:=Hd g1;obtain⟨k1,g3⟩:=Ex (hs[j].1);have HI:Hq (∀ W',Bw W W'->∀ v,Bb W' v (tabB n hs[j].2)->Cl 72 #[Pt mb,Iv k1,v] W' (Bl (.bool true) W')):=by
    rw[g3];exact Hd fun W hb v hv=>ga.o W hb j v g6 hv
   rw[<- g3] at c1;clear g5 g1 g3;have gj:(j:Int)<(hs.length:Int):=by omega
   go_upto_region 4 with fail;refine AM (fun W':Wd=>W'.cell? (Aw b1 (of1+j))=some (Iv k1)/\W'.cell? (Aw b2 (of2+j))=some v2/\Hq (Bw W W')) false 11 [(0,false),(1,false),(2,false),(3,false),(4,false),(5,false),(6,false),(7,false),(8,false),(9,true),(10,false)] (by kernel_rfl) (by kernel_rfl) ⟨c1,c2,Hd (g0.o.trans ((Aq wr 1).mono g0.o.size))⟩ ?_;simp only[planned,AL]
   iterate 9
    refine Ay rfl ?_;apply Exists.intro;refine⟨fun w' hw=>?_,?_⟩
    . obtain⟨h1,h2,_⟩:=hw;go_simp;rfl
    simp only[Ab]
   refine Ot (v:=.bool true) rfl (by go_simp) ((HI.o wr.drew (g0.o.trans ((Aq wr 1).mono g0.o.size)) v2 (gf.o.below (Aq wr 1))).mono ?_) ?_
   . rintro x w' ⟨rfl,hb⟩;exact⟨rfl,(hb.cell (p:=(Aw b1 (of1+j))) (Ag (w:=wr.drew) c1)).trans c1,(hb.cell (p:=(Aw b2 (of2+j))) (Ag (w:=wr.drew) c2)).trans c2,Hd (g0.o.trans (((Aq wr 1).trans (hb.mono (Aq wr 1).size)).mono g0.o.size))⟩
   rintro w' ⟨_,_,gh⟩;simp only[Ab]
   iterate 1
    refine Ay rfl ?_;apply Exists.intro;refine⟨fun w' hw=>?_,?_⟩
    . obtain⟨h1,h2,_⟩:=hw;go_simp;rfl
    simp only[Ab]
   refine Cg ?_;clear g0 c1 c2;go_wp2_with fail;go_roundw
   case rel=>exact⟨j+1,by omega,by go_num,gh.o⟩
   case measure=>simp[intOf];omega
  ·have g0:=Hd g1;have HO:=Hd (g4.o wr g1);obtain rfl:j=hs.length:=by omega
   clear g1 g4 ga g9;go_wp2_with fail;refine HO.o.mono ?_;rintro x w1 ⟨a,c,rfl,g8,HV,HR,HN,HL⟩;have gc:=Hd g8;clear g8 HO;go_wp2_with fail;refine HV.o.mono ?_;rintro x w1' ⟨rfl,rfl⟩;go_wp2_with fail;refine HR.o.mono ?_;rintro x w1' ⟨rfl,rfl⟩;clear HV HR;go_wp2_with fail;refine HN.o.mono ?_;rintro x w2 ⟨rfl,g2⟩;have gg:=Hd (HL.o w2 g2);have HB2:=Hd (gc.o.trans (g2.mono gc.o.size));clear g2 HN HL;go_wp2_with fail;refine gg.o.mono ?_;rintro x w2' ⟨rfl,rfl⟩;go_wp2_with fail;go_ret;exact⟨rfl,g0.o.trans (HB2.o.mono g0.o.size)⟩
end
def JI (n:Nat)(l:List BF)(F:BF):Bool:=tabB n F == tabB n (fun _=>false)||tabB n F == tabB n (fun _=>true)||l.any fun G=>tabB n G == tabB n F||tabB n G == tabB n (notF F)
def belC (n:Nat)(os:List Nat):Nat->List BF->BF->List BF
 | 0,l,_=>l
 | k+1,l,F=>if JI n l F then l else belC n os k (belC n os k (l++[F]) (cofF F (topR n F os).toNat false)) (cofF F (topR n F os).toNat true)
theorem NI (h:DepF n F):DepF n (notF F):=fun ρ ρ' e=>by
 show (!F ρ) = !F ρ'
 rw[h ρ ρ' e]
theorem EN (hF:DepF n F)(hG:DepF n G):tabB n F=tabB n G↔F=G:=⟨G8 hF hG,fun e=>by rw[e]⟩
theorem Vi {l:List BF}(hl:∀ G∈l,DepF n G)(h:DepF n F):JI n l F=true↔(∃ c,F=fun _=>c)\/Dl l F:=by
 have hc:∀ b:Bool,DepF n fun _=>b:=fun b _ _ _=>rfl
 unfold JI Dl;rw[Ym,Ym,List.any_eq_true,Yi,Yi,EN h (hc _),EN h (hc _)];refine or_congr ⟨fun h=>h.elim (fun e=>⟨false,e⟩) fun e=>⟨true,e⟩,fun⟨c,e⟩=>by cases c;exact .inl e;exact .inr e⟩ ?_;constructor
 . rintro⟨G,hG,e⟩;rw[Ym,Yi,Yi,EN (hl G hG) h,EN (hl G hG) (NI h)] at e;obtain⟨i,hi,rfl⟩:=Xp hG;exact⟨i,hi,e⟩
 . rintro⟨i,hi,e⟩;refine⟨l[i],Wh hi,?_⟩;rw[Ym,Yi,Yi,EN (hl _ (Wh hi)) h,EN (hl _ (Wh hi)) (NI h)];exact e
theorem JJ (n:Nat)(os:List Nat):∀ (k:Nat) (l:List BF) (F:BF),(∀ G∈l,DepF n G)->DepF n F->belC n os k l F=belF n os k l F
 | 0,l,F,_,_=>rfl
 | k+1,l,F,hl,h=>by
   have hs:=Vi hl h;have hl2:∀ G∈l++[F],DepF n G:=fun G hG=>by
    rcases Wj.1 hG with h1|h1
    . exact hl G h1
    . rw[Wf.1 h1];exact h
   unfold belC belF
   by_cases hc:(∃ c,F=fun _=>c)\/Dl l F
   . rw[VW (hs.2 hc),VW hc]
   . rw[VS (fun e=>hc (hs.1 e)),VS hc,JJ n os k (l++[F]) _ hl2 (DN h _ _),JJ n os k _ _ (F8 n os k _ _ hl2 (DN h _ _)) (DN h _ _)]
def szC (n:Nat)(F:BF)(zs:List Int):Nat:=(belC n (zs.map Int.toNat) n [] F).length
theorem NJ (h:DepF n F):szO n [F]=szC n F:=by
 funext zs;unfold szC;rw[JJ n _ n [] F (fun G hG=>by cases hG) h];rfl
def l23F:BF:=fun ρ=>(ρ 0&&ρ 2)||(ρ 1&&ρ 3)
theorem NK:DepF 4 l23F:=fun ρ ρ' h=>by unfold l23F;rw[h 0 (by omega),h 1 (by omega),h 2 (by omega),h 3 (by omega)]
theorem Vk:Cy (szC 4 l23F) 4 [0,1,2,3]=(4,[0,2,1,3]):=by decide +kernel
theorem Vl:∀ t∈ordR 4 4 [],szC 4 l23F t<=6:=by decide +kernel
theorem Vm (h:PreP n zs)(hl:zs.length=n):zs∈ordR n n []:=FC n n [] zs h hl
theorem Vn (h:PreP 4 zs)(hl:zs.length=4):szO 4 [l23F] zs<=6:=by
 rw[NJ NK];exact Vl _ (Vm h hl)
theorem Vo (sz:List Int->Nat)(h:PreP n zs)(hl:zs.length=n)(h':PreP n ys)(hl':ys.length=n):Cy sz n zs=Cy sz n ys:=by
 obtain⟨e1,e2⟩:=NF sz (FE sz h hl) (FE sz h' hl');exact Prod.ext e1 e2
theorem Vp (h:PreP 4 zs)(hl:zs.length=4):Cy (szO 4 [l23F]) 4 zs=(4,[0,2,1,3]):=by
 rw[NJ NK,Vo _ h hl (ys:=[0,1,2,3]) ⟨by decide,by decide⟩ rfl];exact Vk
section
theorem FxS.wrC {D:Nat->Prop}(h:FxS K n room w0 mb ws0 C o0 wb B fs nx W)(hw:Wr D W W')(hDC:∀ k,D k->C k\/wb.heap.size<=k)(hs0:∀ k,D k->w0.heap.size<=k)(hno:∀ o,B W o->∀ k,D k->o k=none)(hB:∀ o,Ac o W->B W o->B' W' o):FxS K n room w0 mb ws0 C o0 wb B' fs nx W':=by
 obtain⟨o,m,V,h1,h2,h3,h4⟩:=h;exact⟨o,m,V,h1.trans (ChgX.of_wr (C:=D) hw o (fun _ _ q=>q)) (fun k hk q=>(hDC k q).resolve_right (by omega)),h2,h3.other hw (fun k _ q=>⟨hs0 k q,hno o h4 k q⟩),hB o h3.lt h4⟩
theorem FxS.var (hK:AE K)(hB:As B)(h:FxS K n room w0 mb ws0 C o0 wb B fs nx W)(hn:nx<=549755813888)(hr:(fs.length+1)*2^n<=room){v:Nat}(hv:v<n) :
 Cl 93 #[Pt mb,Iv v] W fun x w'=>x=.returned (.tuple #[Iv nx,Iv 0])/\FxS K n room w0 mb ws0 C o0 wb B (fs++[(nx,varF v)]) (nx+1) w' :=
 h.new hB fun o m V hw hs=>(Tn hK hs hw hn hr hv).mono fun x w' ⟨e,o',m',V',q1,q2,q3⟩=>⟨e,o',m',V',q1,q2,q3⟩
def BxA (b:Nat)(cs:Array Value)(t:TypeId)(W:Wd)(o:Own):Prop:=W.heap[b]?=some (.cells cs t (0,0))/\o b=none
theorem BxA.keep {t:TypeId}:As (BxA b cs t):=fun W o W' o' h hc=>by
 have hl:=(VP.1 h.1).1;exact⟨(hc.block b hl h.2 (fun e=>e)).trans h.1,hc.none' hl h.2⟩
end
def cs23 (v:Nat):Array Value:=#[Iv (if 0<v then 2 else 0),Iv (if 1<v then 3 else 0),Iv (if 2<v then 4 else 0),Iv (if 3<v then 5 else 0)]
def fs23 (v:Nat):List (Int×BF):=two++(List.range v).map fun i:Nat=>(((2+i:Nat):Int),varF i)
theorem Vq (v:Nat):fs23 (v+1)=fs23 v++[(((2+v:Nat):Int),varF v)]:=by
 unfold fs23;rw[X6,Wx,Wl];rfl
def f23L:List (Int×BF):=fs23 4++[(6,andF (varF 0) (varF 2))]++[(7,andF (varF 1) (varF 3))]++[(8,orF (andF (varF 0) (varF 2)) (andF (varF 1) (varF 3)))]
theorem Vr:orF (andF (varF 0) (varF 2)) (andF (varF 1) (varF 3))=l23F:=by
 funext ρ
 show iteB (iteB (ρ 0) (ρ 2) false) true (iteB (ρ 1) (ρ 3) false)=((ρ 0&&ρ 2)||(ρ 1&&ρ 3))
 cases ρ 0<;>cases ρ 1<;>cases ρ 2<;>cases ρ 3<;>rfl
theorem Vs {v:Nat}(hv:v<4):(cs23 v).setIfInBounds v (Iv ((2+v:Nat):Int))=cs23 (v+1):=by
 rcases(show v=0\/v=1\/v=2\/v=3 by omega) with rfl|rfl|rfl|rfl<;>rfl
theorem Vt {v:Nat}(hv:v<4)(hj:j<4):∃ z:Int,(cs23 v)[j]?=some (Iv z):=by
 rcases(show j=0\/j=1\/j=2\/j=3 by omega) with rfl|rfl|rfl|rfl<;>exact⟨_,rfl⟩
theorem NL (hK:AE K)(w:Wd):Cl 74 #[] w fun x w'=>∃ mb o1 w1,x=.returned (.tuple #[Pt mb,Iv 8,.bool true])/\w.heap.size<=w1.heap.size/\FxS K 4 1048576 w mb [] NoB o1 w1 (fun _ _=>True) f23L 9 w':=by
 have g4:=Hd (Jr (K:=K) 4 1048576 w (by omega) (by omega) (by omega));have HK:=Hd hK;clear hK
 go_enter func74,ntmps74
 go_wp2_with fail;refine g4.o.mono ?_;rintro x w1 ⟨mb,rfl,o,m,V,g0,g5,_,_⟩;obtain⟨b,hb⟩:=Ex w1.heap.size;obtain⟨w2,g2⟩:=Ex (w1.alloc (.cells #[Iv 0,Iv 0,Iv 0,Iv 0] 130));obtain⟨S,hS⟩:=Ex (fun v fs nx W=>FxS K 4 1048576 w mb [] NoB o w1 (BxA b (cs23 v) 130) fs nx W:Nat->List (Int×BF)->Int->Wd->Prop)
 have H2:Hq (S 0 (fs23 0) 2 w2):=Hd (by
  rw[hS,g2];have hc:=ChgX.of_below (Af w1 (.cells #[Iv 0,Iv 0,Iv 0,Iv 0] 130)) o NoB;exact⟨o,m,V,hc,by rw[g5];exact XI _,by rw[show fs23 0=two from rfl];exact g0.below (Af _ _),by rw[hb];exact VT _ _,by rw[hb];exact g0.lt.none (VQ _)⟩)
 have g3:=g0.chg.size;have gd:Hq (∀ v W,v<4->S v (fs23 v) ((2+v:Nat):Int) W->Cl 93 #[Pt mb,Iv (v:Nat)] W fun x w'=>x=.returned (.tuple #[Iv ((2+v:Nat):Int),Iv 0])/\S v (fs23 (v+1)) ((2+(v+1):Nat):Int) w'):=Hd fun v W hv h=>by
  rw[hS] at h ⊢;rw[Vq];exact h.var HK.o BxA.keep (by omega) (by simp[fs23,two];omega) hv
 have gc:Hq (∀ v W,v<4->S v (fs23 (v+1)) ((2+(v+1):Nat):Int) W->S (v+1) (fs23 (v+1)) ((2+(v+1):Nat):Int) (W.setCell (Aw b v) (Iv ((2+v:Nat):Int)))):=Hd fun v W hv h=>by
  rw[hS] at h ⊢;have hw:Wr (fun q=>q=b) W (W.setCell (Aw b v) (Iv ((2+v:Nat):Int))):=(Wr.refl (fun q=>q=b) W).setCell (p:=Aw b v) (.inl rfl) _;refine h.wrC hw (fun q e=>.inr (by rw[e,hb];exact VQ _)) (fun q e=>by rw[e,hb];exact g3) (fun o' hh q e=>by rw[e];exact hh.2) fun o' _ hh=>⟨?_,hh.2⟩
  have:=A7 (k:=v) hh.1 (Iv ((2+v:Nat):Int));rw[Vs hv] at this;exact this
 have gf:Hq (∀ v fs nx W,v<4->S v fs nx W->(∃ z:Int,W.cell? (Aw b v)=some (Iv z))/\W.frozen? (Aw b v)=false):=Hd fun v fs nx W hv h=>by
  rw[hS] at h;obtain⟨_,_,_,_,_,_,h1,_⟩:=h;obtain⟨z,hz⟩:=Vt hv hv;exact⟨⟨z,by rw[VR _ _ v _ _ _ h1];exact hz⟩,by simp[World.frozen?,h1]⟩
 have g7:Hq (∀ fs nx W,S 4 fs nx W->W.cell? (Av b)=some (Iv 2)/\W.cell? (Aw b 1)=some (Iv 3)/\W.cell? (Aw b 2)=some (Iv 4)/\W.cell? (Aw b 3)=some (Iv 5)):=Hd fun fs nx W h=>by
  rw[hS] at h;obtain⟨_,_,_,_,_,_,h1,_⟩:=h;exact⟨by rw[VR _ _ 0 _ _ _ h1];rfl,by rw[VR _ _ 1 _ _ _ h1];rfl,by rw[VR _ _ 2 _ _ _ h1];rfl,by rw[VR _ _ 3 _ _ _ h1];rfl⟩
 have g8:Hq (∀ (fs:List (Int×BF)) (nx:Int) W T k1 k2 F1 F2,T=W.alloc (.cells #[Iv k1,Iv k2] 3)->(k1,F1)∈fs->(k2,F2)∈fs->fs.length<=100->nx<=100->S 4 fs nx W->Cl 127 #[Pt mb,.slice (some (Av W.heap.size)) 2 2] T fun x w'=>x=.returned (.tuple #[Iv nx,Iv 0])/\S 4 (fs++[(nx,andF F1 F2)]) (nx+1) w'):=Hd fun fs nx W T k1 k2 F1 F2 hT h1 h2 hl hn h=>by
  rw[hS] at h ⊢;exact h.and2 HK.o BxA.keep h1 h2 (by omega) (by omega) hT
 have ge:Hq (∀ (fs:List (Int×BF)) (nx:Int) W T k1 k2 F1 F2,T=W.alloc (.cells #[Iv k1,Iv k2] 3)->(k1,F1)∈fs->(k2,F2)∈fs->fs.length<=100->nx<=100->S 4 fs nx W->Cl 128 #[Pt mb,.slice (some (Av W.heap.size)) 2 2] T fun x w'=>x=.returned (.tuple #[Iv nx,Iv 0])/\S 4 (fs++[(nx,orF F1 F2)]) (nx+1) w'):=Hd fun fs nx W T k1 k2 F1 F2 hT h1 h2 hl hn h=>by
  rw[hS] at h ⊢;exact h.or2 HK.o BxA.keep h1 h2 (by omega) (by omega) hT
 have HSZ:=Hd g3;have g6:=Hd g2.symm;have HS:=Hd hS;clear g0 g5 g4 hS g2 g3;go_upto_region 5 with fail;rw[<- hb,g6.o];clear hb g6;go_wp2_with fail
 go_loopw [6,7,8] (fun s6 _ _ wr=>∃ v:Nat,v<=4/\s6=Iv (v:Nat)/\Hq (S v (fs23 v) ((2+v:Nat):Int) wr)) (fun s6 _ _ _=>4-(intOf s6).toNat)
 case atStart=>exact⟨0,by omega,rfl,H2⟩
 case round =>
  obtain⟨v,hv,rfl,HV⟩:=hrel
  by_cases g1:v<4
  ·have HC:=Hd (gd.o v wr g1 HV.o);have gg:(v:Int)<4:=by omega
   clear H2 HV;go_wp2_with fail;refine HC.o.mono ?_;rintro x w3 ⟨rfl,h3⟩;obtain⟨⟨z,c3⟩,f3⟩:=gf.o _ _ _ _ g1 h3;have HN:=Hd (gc.o v w3 g1 h3);clear h3 HC;go_wp2_with fail;go_roundw
   case rel=>exact⟨v+1,g1,by go_num,HN⟩
   case measure=>simp[intOf];omega
  ·obtain rfl:v=4:=by omega
   obtain⟨c0,c1,c2,c3⟩:=g7.o _ _ _ HV.o;have HA:=Hd (g8.o (fs23 4) 6 wr _ 2 4 (varF 0) (varF 2) rfl (by simp[fs23,two,X6]) (by simp[fs23,two,X6]) (by simp[fs23,two]) (by omega) HV.o);clear H2 HV;go_wp2_with fail;refine HA.o.mono ?_;rintro x w3 ⟨rfl,h3⟩;obtain⟨d0,d1,d2,d3⟩:=g7.o _ _ _ h3;have ga:=Hd (g8.o _ 7 w3 _ 3 5 (varF 1) (varF 3) rfl (by simp[fs23,two,X6]) (by simp[fs23,two,X6]) (by simp[fs23,two]) (by omega) h3);clear h3 HA c0 c1 c2 c3;go_wp2_with fail;refine ga.o.mono ?_;rintro x w4 ⟨rfl,h4⟩;have g9:=Hd (ge.o _ 8 w4 _ 6 7 (andF (varF 0) (varF 2)) (andF (varF 1) (varF 3)) rfl (by simp) (by simp) (by simp[fs23,two]) (by omega) h4);clear h4 ga d0 d1 d2 d3;go_wp2_with fail;refine g9.o.mono ?_;rintro x w5 ⟨rfl,h5⟩
   have HF:Hq (FxS K 4 1048576 w mb [] NoB o w1 (fun _ _=>True) f23L 9 w5):=Hd (by
    rw[HS.o] at h5;exact h5.withB fun _ _ _ _ _=>trivial)
   clear h5 g9;go_wp2_with fail
   first|go_ret|go_ret2|go_ret3
   exact⟨mb,o,w1,rfl,HSZ.o,HF.o⟩
theorem EO (a a':Option Addr)(c c':Nat)(xs ys:List Int)(w:Wd)(h:Am w a xs)(h':Am w a' ys) :
 Cl 33 #[.slice a xs.length c,.slice a' ys.length c'] w fun e w'=>e=.returned (.bool (decide (xs=ys)))/\∃ n,w'=w.drewN n:=by
 obtain⟨hl,hc⟩:=h;have HC:=Hd hc;clear hc;obtain⟨g7,g1⟩:=h';have g4:=Hd g1;clear g1
 by_cases g0:xs.length=ys.length
 ·have H1:(xs.length == ys.length)=true:=by simpa using g0
  have HL:=Hd g0;have g6:xs.length<=ys.length:=by omega
  have g8:ys.length<=xs.length:=by omega
  have H2:((xs.length:Int) == ys.length)=true:=by simp[g0]
  have H3:((xs.length:Int) != ys.length)=false:=by simp[g0]
  clear g0
  go_enter func33,ntmps33
  go_wp2
  go_loopw [5] (fun i wr=>∃ k:Nat,k<=xs.length/\i=Iv k/\(∀ j,j<k->at0 xs j=at0 ys j)/\∃ n,wr=w.drewN n) (fun i _=>xs.length-(intOf i).toNat)
  case atStart=>exact⟨0,Wb _,rfl,by omega,0,rfl⟩
  case round =>
   obtain⟨k,hk,rfl,hrel,n,rfl⟩:=hrel;have HR:=Hd hrel;clear hrel
   by_cases g2:k<xs.length
   ·obtain⟨b,off,rfl,g5⟩:=HC.o k g2;obtain⟨b',off',rfl,g3⟩:=g4.o k (by omega)
    by_cases hx:at0 xs k=at0 ys k
    ·have H4:(at0 xs k != at0 ys k)=false:=by simpa using hx
     have HX:=Hd hx;clear hx
     go_wp2
     go_region
     go_wp2
     go_roundw
     case rel=>exact⟨k+1,by omega,by go_num,(fun j hj=>by
      by_cases e:j=k
      . subst e;exact HX.o
      . exact HR.o j (by omega)),_,rfl⟩
     case measure=>simp[intOf];omega
    ·have H4:(at0 xs k != at0 ys k)=true:=by simpa using hx
     go_wp2
     go_region
     go_wp2
     go_ret;exact⟨Cz (by symm;simp;rintro rfl;exact hx rfl),_,rfl⟩
   ·go_wp2
    go_ret;exact⟨Cz (by symm;simp;exact CZ HL.o (fun j hj=>HR.o j (by omega))),_,rfl⟩
 ·have H2:((xs.length:Int) != ys.length)=true:=by simp;omega
  go_enter func33,ntmps33
  go_wp2
  go_ret;exact⟨Cz (by symm;simp;rintro rfl;exact g0 rfl),0,rfl⟩
section
theorem FxS.fxO (h:FxS K n room w0 mb ws0 C o0 wb B fs nx W):∃ zs:List Int,zs.length=n/\Az zs=true/\FxO K n room w0 mb ws0 C o0 wb B (fun l=>l.map Int.ofNat=zs) fs nx W:=by
 obtain⟨o,m,V,h1,h2,h3,h4⟩:=h;have hp:=h3.ok.store.permB;exact⟨m.d.vars.map Int.ofNat,by rw[Wn];exact h3.vars,GI (Fz hp),o,m,V,h1,h2,h3.withOd rfl,h4⟩
theorem FxS.arg1 (hB:As B)(h:FxS K n room w0 mb ws0 C o0 wb B fs nx W)(k:Int):FxS K n room w0 mb ws0 C o0 wb (fun W' o'=>B W' o'/\ArgB w0 (some (Av W.heap.size)) [k] W' o') fs nx (W.alloc (.cells #[Iv k] 3)):=by
 obtain⟨o,m,V,h1,h2,h3,h4⟩:=h;have hb:=Af W (.cells #[Iv k] 3);have hc:=ChgX.of_below hb o NoB;exact⟨o,m,V,h1.trans hc NoB.sub,h2,h3.below hb,hB _ _ _ _ h4 hc,F3 W [k] (by simp),fun x hx=>by cases hx;exact⟨by simp,h3.chg.size,h3.lt.none (VQ _)⟩⟩
end
theorem NM:f23L.length=9:=by simp[f23L,fs23,two]
theorem NN:((8:Int),l23F)∈f23L:=by
 rw[<- Vr];simp[f23L]
theorem AY:As fun _ _=>True:=fun _ _ _ _ _ _=>trivial
section
theorem Vu (h:FxS K 4 1048576 w mb [] NoB o0 wb (fun _ _=>True) f23L 9 W) :
 Cl 36 #[Pt mb,.slice (some (Av W.heap.size)) 1 1] (W.alloc (.cells #[Iv 8] 3)) fun e w'=>e=.returned (.tuple #[Iv 4,Iv 0])/\FxO K 4 1048576 w mb [] NoB o0 wb (fun _ _=>True) (fun l=>l.map Int.ofNat=[0,2,1,3]) f23L 9 w':=by
 obtain⟨zs,g0,g1,hf⟩:=(h.arg1 AY 8).fxO
 have:=JH (c:=1) (ks:=[8]) (Fs:=[l23F]) (AY.and ArgB.keep) g1 g0 (by omega) (by omega) (by rw[NM];omega) (fun _ _ hh=>hh.2) rfl (fun i hi=>by
  obtain rfl:i=0:=by have:i<1:=hi;omega
  exact NN) (by simp) hf
 rw[Vp (DP g1 g0) g0] at this;refine this.mono ?_;rintro e w' ⟨rfl,hh⟩;exact⟨rfl,hh.withB fun _ _ _ _ _=>trivial⟩
theorem Vv (h:FxS K 4 1048576 w mb [] NoB o0 wb (fun _ _=>True) f23L 9 W) :
 Cl 32 #[Pt mb,Iv 2,Iv 1000,.slice (some (Av W.heap.size)) 1 1] (W.alloc (.cells #[Iv 8] 3)) fun e w'=>∃ k:Nat,k<=6/\e=.returned (.tuple #[Iv (k:Nat),Iv 0])/\Bw w w':=by
 obtain⟨zs,g0,g1,hf⟩:=(h.arg1 AY 8).fxO;have g2:=DP g1 g0;have g3:(2:Int)∈zs:=GH g1 g0 ⟨by omega,by omega⟩;obtain⟨hm,hh,e⟩:=Xp g3
 have:=JE (c:=1) (ks:=[8]) (Fs:=[l23F]) (AY.and ArgB.keep) g1 g0 (hm:=hm) (by omega) (by omega) (by rw[NM];omega) (fun _ _ hh=>hh.2) rfl (fun i hi=>by
  obtain rfl:i=0:=by have:i<1:=hi;omega
  exact NN) (by simp) ((Au hh).trans e) (grow:=1000) (v:=2) hf
 refine Calls.mono this ?_;rintro e w' ⟨x,_,rfl,g4,hh⟩;exact⟨_,VU g4 (Vn g2 g0),rfl,hh.below0⟩
theorem Cp (hK:AE K)(w:Wd):Cl 30 #[] w (Bl (.bool true) w):=by
 have g7:=Hd (NL hK w);have g4:=Hd (fun w=>NL hK w);clear hK
 go_enter func30,ntmps30
 go_wp2_with fail;refine g7.o.mono ?_;rintro x w2 ⟨mb,o1,w1,rfl,-,h2⟩;have HB:=Hd (Vu h2);clear h2 g7;go_wp2_with fail;refine HB.o.mono ?_;rintro x w3 ⟨rfl,h3⟩;have H3:=Hd h3;have g6:=Hd (g4.o w3);clear h3 HB g4;go_wp2_with fail;refine g6.o.mono ?_;rintro x w4 ⟨mb2,o2,w1',rfl,-,h4⟩;have HV:=Hd (Vv h4);clear h4 g6;go_wp2_with fail;refine HV.o.mono ?_;rintro x w5 ⟨k,gc,rfl,g3⟩;have H5:=Hd (H3.o.below AY g3);have HO:=Hd (H5.o.order AY);have ga:(k:Int)<=6:=by omega
 clear g3 HV H3;go_wp2_with fail;refine HO.o.mono ?_;rintro x w6 ⟨u,l,rfl,-,hP,-,-,g1,-⟩;have g2:=g1.below0;have g8:SliceIs w6 u [0,2,1,3]:=by
  rw[<- hP];exact g1.know (Q:=fun W=>SliceIs W u (l.map Int.ofNat)) fun W o hh=>hh.2.slice
 obtain⟨a,c,rfl,hz,-⟩:=g8;obtain⟨T,hT⟩:=Ex (w6.alloc (.cells #[Iv 0,Iv 2,Iv 1,Iv 3] 3));have g0:=EO a (some (Av w6.heap.size)) c 4 [0,2,1,3] [0,2,1,3] T (by rw[hT];exact hz.below (Af _ _)) (by rw[hT];exact F3 w6 [0,2,1,3] (by simp));rw[WG rfl] at g0;have g5:=Hd g0;have g9:Hq (Bw w T):=Hd (by rw[hT];exact g2.alloc g2.size _);have HT:=Hd hT.symm;clear g1 g2 hz hP g0 hT HO H5;go_wp2_with fail;rw[HT.o];refine g5.o.mono ?_;rintro x w7 ⟨rfl,q,rfl⟩;clear g5 HT;go_wp2_with fail;go_ret;exact⟨rfl,Bj g9.o q⟩
end
theorem Vw {v:Int}(h:i<zs.length):(zs.take (i+1)).filter (fun x=>decide (x≠v))=(zs.take i).filter (fun x=>decide (x≠v))++if at0 zs i=v then [] else [at0 zs i]:=by
 rw[VX h,WB,Au h];congr 1
 by_cases e:zs[i]=v<;>simp[e]
theorem NO {v:Int}(hz:Am w a zs)(hn:zs.length<=1000000) :
 Cl 35 #[.slice a zs.length c,Iv v] w fun e w'=>∃ u,e=.returned u/\OwnI w' w.heap.size u (zs.filter fun x=>decide (x≠v))/\Bw w w':=by
 obtain⟨w1,g0⟩:=Ex (w.alloc (.cells #[] 3));obtain⟨Z,hZ⟩:=Ex (fun i=>(zs.take i).filter fun x=>decide (x≠v):Nat->List Int)
 obtain⟨L,hL⟩:=Ex zs.length;have gd:L<=1000000:=by omega
 have g7:Hq (∀ i,i<=L->(Z i).length<=1000000):=Hd fun i hi=>by
  rw[hZ];exact VU (WV _ _) (VU (List.length_take_le _ _) (by omega))
 have g6:Hq (∀ i,i<L->Z (i+1)=Z i++if at0 zs i=v then [] else [at0 zs i]):=Hd fun i hi=>by rw[hZ];exact Vw (by omega)
 have g8:Hq (Z L=zs.filter fun x=>decide (x≠v)):=Hd (by rw[hZ,hL];show (zs.take zs.length).filter _=_;rw[W9]);have H0:Hq (OwnI w1 w.heap.size (.slice (some (Av w.heap.size)) 0 0) (Z 0)):=Hd (by rw[hZ,g0];exact DR w _ (VQ _));have ga:Hq (Bw w w1):=Hd (by rw[g0];exact Af _ _);have HC:Hq (∀ W i,Bw w W->i<L->∃ b off,a=some (Aw b off)/\W.cell? (Aw b (off+i))=some (Iv (at0 zs i))):=Hd fun W i hb hi=>(hz.below hb).cells i (by omega)
 have HW1:=Hd g0.symm;rw[<- g8.o,<- hL];clear hZ hL hz hn g0
 go_enter func35,ntmps35
 go_upto_region 2 with fail;rw[HW1.o];go_wp2_with fail
 go_loopw [5,6] (fun s5 s6 wr=>∃ (i:Nat) (u:Value),i<=L/\s5=u/\s6=Iv (i:Nat)/\Hq (OwnI wr w.heap.size u (Z i))/\Hq (Bw w wr)) (fun _ s6 _=>L-(intOf s6).toNat)
 case atStart=>exact⟨0,_,Wb _,rfl,rfl,H0,ga⟩
 case round =>
  obtain⟨i,u,hi,rfl,rfl,HO,HB⟩:=hrel
  by_cases g2:i<L
  ·obtain⟨b,off,rfl,hc⟩:=HC.o wr i HB.o g2;have HS:=Hd (g6.o i g2);obtain⟨x,hx⟩:=Ex (at0 zs i);rw[<- hx] at hc HS;have gc:(i:Int)<(L:Int):=by omega
   clear hx
   by_cases e:x=v
   ·subst e;rw[VW rfl,WX] at HS;go_wp2_with fail;go_roundw
    case rel=>exact⟨i+1,_,g2,rfl,by go_num,Hd (by rw[HS.o];exact HO.o),HB⟩
    case measure=>simp[intOf];omega
   ·rw[VS e] at HS;have he:¬ x=v:=e;go_wp2_with (at_builtin;refine CR _ rfl _ _ rfl w.heap.size w u5 (Z i) x rfl rfl rfl rfl HO.o (by have:=g7.o i hi;omega) HB.o.size HB.o ?_;intro v4 w4 g1 g3 g4 g5);have HN:Hq (OwnI w4 w.heap.size v4 (Z (i+1))):=Hd (by rw[HS.o];exact g1);have g9:=Hd g3;clear g1 g3 g4 g5;go_roundw
    case rel=>exact⟨i+1,_,g2,rfl,by go_num,HN,g9⟩
    case measure=>simp[intOf];omega
  ·obtain rfl:i=L:=by omega
   go_wp2_with fail;go_ret;exact⟨_,rfl,HO.o,HB.o⟩
theorem Vx {ST:TypeId}(E:DG T ST z b){o:Oper}{a:Act}{wr:Wd}(hgd:o.guard=none)(s x:Operand)
 (ho:o.op=.call { callee:=.builtin .append,args:=#[s,x],argTypes:=#[ST,ST] })
 (base:Nat) (w0:Wd) (v:Value) (xs ys:List Value) (ao:Option Addr) (c:Nat) (hs:a.eval s=v) (hx:a.eval x=.slice ao ys.length c)
 (hown:OwnC T wr base v xs) (hys:∀ j (h:j<ys.length),∃ b off,ao=some (Aw b off)/\wr.cell? (Aw b (off+j))=some ys[j]) (h1:∀ u∈ys,u.oneCell'=true) (hlen:xs.length+ys.length<1099511627776) (hbase:base<=wr.heap.size) (hb:Below base w0 wr)
 (hnil:ao=none->c=0)
 (h:∀ v' w',OwnC T w' base v' (xs++ys)->Below base w0 w'->base<=w'.heap.size->BQ v v' wr w'->wpList prog ops Q rest (a.put o.dst v') w') :
 wpList prog ops Q (o::rest) a wr:=by
 obtain⟨i,hi,hz,g3,g5⟩:=XN E.info;have g4:=E.small;cases ao with
 | none =>
   have h0:ys=[]:=by
    apply Xw;rcases Yz ys.length with h0|h0
    . exact h0
    . obtain⟨b,off,hh,_⟩:=hys 0 h0;cases hh
   subst h0;obtain rfl:=hnil rfl;refine wpList_append_own_none (w:=wr) hgd s x ST ho base T i 1 E.under hi v xs.length xs hs hown hx ?_;exact h v wr (by rw[WX];exact hown) hb hbase ⟨JR _ _,.inl rfl⟩
 | some ad =>
   refine wpList_append_own_at (w:=wr) hgd s x ST ho base T i z 1 b E.under hi hz g3 g5 (by rw[E.one];rfl) (by decide)
    v xs.length xs hs hown ad ys.length c ys hx (by simp) ?_ h1 (by unfold maxLen;omega) (by
     have h2:(xs.length+ys.length)*b<=1099511627776*100:=XT (by omega) g4;omega) hbase ?_
   ·intro j u hj;have g0:j<ys.length:=by
     rcases Wo j ys.length with h'|h'
     . exact h'
     . simp[Wq h'] at hj
    obtain⟨b,off,g6,hc⟩:=hys j g0;cases g6;rw[We g0] at hj;have hj:=XE hj;subst hj;have g2:((Aw b off):Addr).add j=(Aw b (off+j)):=by unfold Addr.add;split<;>simp_all
    rw[g2];exact hc
   ·intro v' w' h1 h2 _ g1;refine h v' w' ?_ ?_ ?_ ⟨EP h2,g1.imp id fun e=>⟨_,e,VQ _⟩⟩
    . unfold OwnC;rw[VY];exact h1
    . exact hb.grown h2 hbase (fun k hk=>(hown.lt k hk).1)
    . have:=h2.size;omega
theorem Vy (h:SliceIs W v zs):v.oneCell'=true:=by
 obtain⟨a,c,rfl,_⟩:=h;rfl
def RowO (base:Nat)(vb v:Value)(gs:List (List Int))(W:Wd):Prop :=
 ∃ xs,OwnC 22 W base v xs/\BG W xs gs/\∀ x∈xs,∀ k,x.ownBlock=some k->k<W.heap.size/\v.ownBlock≠some k/\(base<=k\/vb.ownBlock=some k)
theorem RowO.below {base:Nat}{vb v:Value}{gs:List (List Int)}{W W':Wd}(h:RowO base vb v gs W)(hb:Bw W W'):RowO base vb v gs W':=by
 obtain⟨xs,h1,h2,h3⟩:=h;exact⟨xs,h1.below hb,h2.below hb,fun x hx k hk=>⟨Wm (h3 x hx k hk).1 hb.size,(h3 x hx k hk).2⟩⟩
theorem BG.app {ys:List Value}{hs:List (List Int)}(h:BG W xs gs)(h':BG W ys hs):BG W (xs++ys) (gs++hs):=by
 have hl:=h.len;have g0:=h'.len;refine⟨by simp[hl,g0],fun i h1 h2=>?_⟩;rcases Wo i xs.length with h3|h3
 . rw[Xa h3,Xa (by omega)];exact h.at_ i h3 (by omega)
 ·rw[WU h3,WU (by omega)];have e:i-gs.length=i-xs.length:=by omega
  have:=h'.at_ (i-xs.length) (by simp at h1;omega) (by simp at h1;omega);simpa [e] using this
theorem RowO.app {base:Nat}{vb u v':Value}{gs ls:List (List Int)}{W W':Wd}{xs ys:List Value}(hx:OwnC 22 W base u xs)(hxs:BG W xs gs)(hxb:∀ x∈xs,∀ k,x.ownBlock=some k->k<W.heap.size/\u.ownBlock≠some k/\(base<=k\/vb.ownBlock=some k))
 (hys:BG W ys ls) (hyb:∀ x∈ys,∀ k,x.ownBlock=some k->k<W.heap.size/\(∀ q,u.ownBlock=some q->q<k)/\base<=k) (hv:OwnC 22 W' base v' (xs++ys)) (hk:BQ u v' W W') (hs:W.heap.size<=W'.heap.size):RowO base vb v' (gs++ls) W':=by
 have g2:∀ x∈xs++ys,∀ k,x.ownBlock=some k->k<W.heap.size/\u.ownBlock≠some k/\(base<=k\/vb.ownBlock=some k):=fun x g1 k g0=>by
  rcases Wj.1 g1 with h|h
  . exact hxb x h k g0
  . obtain⟨h1,h2,h3⟩:=hyb x h k g0;exact⟨h1,fun e=>by have:=h2 k e;omega,.inl h3⟩
 refine⟨xs++ys,hv,(hxs.app hys).same fun x g1 k g0=>?_,fun x g1 k g0=>?_⟩
 . obtain⟨h1,h2,_⟩:=g2 x g1 k g0;exact hk.keep k h1 (fun e=>h2 e.symm)
 ·obtain⟨h1,h2,h3⟩:=g2 x g1 k g0;refine⟨Wm h1 hs,fun e=>?_,h3⟩;rcases hk.loc with e2|⟨q,e2,hq⟩
  . rw[e2] at e;exact h2 e
  . rw[e2] at e;cases e;omega
theorem RowO.one {b:List Int}(hb:SliceIs w vb b)(hk:∀ k,vb.ownBlock=some k->k<w.heap.size):RowO w.heap.size vb (.slice (some (Av w.heap.size)) 1 1) [b] (w.alloc (.cells #[vb] 22)):=by
 refine⟨[vb],⟨rfl,.inr ⟨w.heap.size,1,#[vb],rfl,VQ _,VT _ _,VQ _,by unfold maxLen;omega,rfl,rfl⟩⟩,(BG.nil _).snoc (hb.below (Af _ _)),fun x hx k h=>?_⟩;rw[Wf.1 hx] at h;have:=hk k h;exact⟨by simp;omega,fun e=>by injection e with e;dsimp only at e;omega,.inr h⟩
theorem Vz (h:OwnC T w base (.slice a n c) xs):∀ j (_:j<xs.length),∃ b off,a=some (Aw b off)/\w.cell? (Aw b (off+j))=some xs[j]:=fun j hj=>by
 obtain⟨g,cap,e2,_,_⟩:=h.shape (by omega);injection e2 with e2 _ _
 subst e2;refine⟨g,0,rfl,?_⟩;rw[Wv,h.cell j hj];simp[hj]
theorem VA (i y:Int)(l:List Int):decide (i∈l++[y])=(decide (i∈l)||(y == i)):=by
 rw[Yn,Yl,Ym,Yl,Yi,Wj,Wf];exact⟨fun h=>h.imp id Eq.symm,fun h=>h.imp id Eq.symm⟩
theorem JK {α β:Type}{f:α->List β}{c:Nat}:∀ l:List α,(∀ x,(f x).length<=c)->(l.flatMap f).length<=l.length*c
 | [],_=>by simp
 | x::l,h=>by
   have h1:=JK l h;have h2:=h x;rw[X1,VY,Wp,Xz];omega
theorem GN (n:Nat):∀ (k:Nat) (b:List Int),(ordR k n b).length<=n^k
 | 0,b=>VQ _
 | k+1,b=>by
   have:=JK (f:=fun v:Nat=>if (v:Int)∈b then [] else ordR k n (b++[(v:Int)])) (c:=n^k) (List.range n) fun v=>by
    split
    . exact Wb _
    . exact GN n k _
   rw[List.length_range] at this;rw[X2,Nat.mul_comm];exact this
theorem VB (hn4:n<=4):∀ (k:Nat) (b:List Int) (vb:Value) (w:Wd),b.length+k=n->SliceIs w vb b->(∀ q,vb.ownBlock=some q->q<w.heap.size) ->
 Cl 85 #[vb,Iv (n:Nat)] w fun e w'=>∃ u,e=.returned u/\RowO w.heap.size vb u (ordR k n b) w'/\Bw w w':=by
 intro k
 induction k with
 | zero =>
   intro b vb w hl hs hk;have H1:=Hd (RowO.one hs hk);obtain⟨a,c,rfl,hz,-⟩:=hs;obtain⟨L,hL⟩:=Ex b.length;have gr:((L:Nat):Int)=(n:Int):=by omega
   have gD:(((L:Nat):Int) == (n:Int))=true:=by rw[gr];exact beq_self_eq_true _
   rw[<- hL] at H1 ⊢;have e:ordR 0 n b=[b]:=rfl;rw[e];clear hz hk hL hl e gr
   go_enter func85,ntmps85
   go_wp2_with fail;go_ret;exact⟨_,rfl,H1.o,Af _ _⟩
 | succ k ih =>
   intro b vb w hl hs hk;obtain⟨a,c,rfl,hz,gg⟩:=hs;have gy:=Hd gg;obtain⟨L,hL⟩:=Ex b.length;have gD:(((L:Nat):Int) == (n:Int))=false:=by rw[Xu];omega
   have gX:L<4:=by omega
   obtain⟨F,hF⟩:=Ex (fun i=>(List.range i).flatMap fun v:Nat=>if (v:Int)∈b then [] else ordR k n (b++[(v:Int)]):Nat->List (List Int))
   have gO:Hq (F n=ordR (k+1) n b):=Hd (by rw[hF];rfl);have gM:Hq (∀ i,F (i+1)=F i++if (i:Int)∈b then [] else ordR k n (b++[(i:Int)])):=Hd fun i=>by
    rw[hF]
    show (List.range (i+1)).flatMap _=_
    rw[X6,XD];simp
   have gv:Hq (n^k<=256):=Hd (VU (Nat.pow_le_pow_left hn4 k) (VU (WC (by omega) (show k<=4 by omega)) (by decide)));have gN:Hq (∀ i,i<=n->(F i).length<=100000):=Hd fun i hi=>by
    rw[hF];have:=JK (f:=fun v:Nat=>if (v:Int)∈b then [] else ordR k n (b++[(v:Int)])) (c:=n^k) (List.range i) fun v=>by
     split
     . exact Wb _
     . exact GN n k _
    rw[List.length_range] at this;refine VU this (VU (XT (show i<=4 by omega) gv.o) (by decide))
   obtain⟨w1,g7⟩:=Ex (w.alloc (.cells #[] 22))
   have H0:Hq (RowO w.heap.size (.slice a L c) (.slice (some (Av w.heap.size)) 0 0) (F 0) w1):=Hd (by
    rw[g7,hF];exact⟨[],Dv _ _ _ (VQ _),BG.nil _,fun x hx=>by cases hx⟩)
   have gQ:Hq (Bw w w1):=Hd (by rw[g7];exact Af _ _);have HZ:Hq (∀ W,Bw w W->Am W a b):=Hd fun W hb=>hz.below hb
   have HT:Hq (∀ j i:Nat,j<L->decide ((i:Int)∈b.take (j+1))=(decide ((i:Int)∈b.take j)||(at0 b j == (i:Int)))):=Hd fun j i hj=>by
    rw[VX (by omega),VA,Au (by omega)]
   have gI:Hq (b.take L=b):=Hd (by rw[hL,W9]);have gL:Hq (∀ (i:Nat) v2 w2 W,OwnI w2 W v2 (b++[(i:Int)])->Cl 85 #[v2,Iv (n:Nat)] w2 fun e w'=>∃ u,e=.returned u/\RowO w2.heap.size v2 u (ordR k n (b++[(i:Int)])) w'/\Bw w2 w'):=Hd fun i v2 w2 W ho =>
    ih (b++[(i:Int)]) v2 w2 (by simp;omega) (ho.sliceIs (by simp;omega)) (fun q hq=>(ho.lt q hq).2)
   have ge:=Hd hL;have HW1:=Hd g7.symm;rw[<- gO.o,<- hL];have gR:n<=4:=hn4;clear ih hz hk gg hF hL hl g7 hn4
   go_enter func85,ntmps85
   go_upto_region 4 with fail;rw[HW1.o];go_wp2_with fail
   go_loopw [5,6,7,8] (fun s5 s6 _ _ wr=>∃ (i:Nat) (u:Value),i<=n/\s5=u/\s6=Iv (i:Nat)/\Hq (RowO w.heap.size (.slice a L c) u (F i) wr)/\Hq (Bw w wr)) (fun _ s6 _ _ _=>n-(intOf s6).toNat)
   case atStart=>exact⟨0,_,Wb _,rfl,rfl,H0,gQ⟩
   case round =>
    obtain⟨i,u,hi,rfl,rfl,HO,HB⟩:=hrel
    by_cases gm:i<n
    ·have gV:(i:Int)<(n:Int):=by omega
     have gt:=Hd (HZ.o wr HB.o);go_wp2_with fail
     go_loopw [7,8] (fun s7 s8 wr2=>∃ j:Nat,j<=L/\s7=.bool (decide ((i:Int)∈b.take j))/\s8=Iv (j:Nat)/\wr2=wr) (fun _ s8 _=>L-(intOf s8).toNat)
     case atStart=>exact⟨0,Wb _,by rw[Ys];rfl,rfl,rfl⟩
     case round =>
      obtain⟨j,hj,rfl,rfl,rfl⟩:=hrel
      by_cases ga:j<L
      ·have gU:(j:Int)<(L:Int):=by omega
       obtain⟨bb,off,rfl,hc⟩:=gt.o.cells j (by rw[<- ge.o];exact ga);have gd:=Hd (HT.o j i ga);obtain⟨y,hy⟩:=Ex (at0 b j);rw[<- hy] at gd hc;obtain⟨d,hd⟩:=Ex (decide ((i:Int)∈b.take j));rw[<- hd] at gd ⊢;clear hy hd;cases d with
       | true =>
         go_wp2_with fail;go_roundw
         case rel=>exact⟨j+1,ga,by rw[gd.o];rfl,by go_num,trivial⟩
         case measure=>simp[intOf];omega
       | false =>
         go_wp2_with fail;go_roundw
         case rel=>exact⟨j+1,ga,by rw[gd.o];simp,by go_num,trivial⟩
         case measure=>simp[intOf];omega
      ·obtain rfl:j=L:=by omega
       have HS:=Hd (gM.o i);rw[gI.o]
       by_cases hm:(i:Int)∈b
       ·rw[VW hm,WX] at HS;rw[show decide ((i:Int)∈b)=true from WG hm];clear hm;go_wp2_with fail;go_roundw
        case rel=>exact⟨i+1,_,gm,rfl,by go_num,Hd (by rw[HS.o];exact HO.o),HB⟩
        case measure=>simp[intOf];omega
       ·rw[VS hm] at HS;rw[show decide ((i:Int)∈b)=false from Xe hm];clear hm
        go_wp2_with (at_builtin;first
         | (refine EQ rfl _ _ rfl wr.heap.size wr _ [] b a c rfl (by rw [<- ge.o]; rfl) (DR wr wr.heap.size (VQ _)) (gt.o.below (Af _ _)) (by have := ge.o; simp; omega) (by simp) (Af _ _) gy.o ?_
            intro v1 w1 g9 gq hs1 gC)
         | (refine CR _ rfl _ _ rfl wr.heap.size wr v1 b (i : Int) rfl rfl rfl rfl g9 (by have := ge.o; omega) hs1 gq ?_
            intro v2 w2 g0 gc gA gB))
        refine(gL.o i v2 w2 _ g0).mono ?_;rintro e w3 ⟨r,rfl,hr,gp⟩;obtain⟨ys,ho,g5,go⟩:=hr;obtain⟨ar,cr,rfl,gl⟩:=ho.slice;have g6:Bw wr w3:=gc.trans (gp.mono gc.size);obtain⟨xs,gk,gf,gj⟩:=HO.o.below g6;have gi:∀ x∈ys,∀ q,x.ownBlock=some q->q<w3.heap.size/\(∀ p,u5.ownBlock=some p->p<q)/\w.heap.size<=q:=fun x hx q hq=>by
         obtain⟨g1,_,g2⟩:=go x hx q hq;have g3:wr.heap.size<=q:=by
          rcases g2 with g2|g2
          . exact VU gc.size g2
          . exact(g0.lt q g2).1
         refine⟨g1,fun p hp=>?_,VU HB.o.size g3⟩;obtain⟨_,g4,_⟩:=HO.o;exact Wm (g4.lt p hp).2 g3
        have gT:xs.length<=100000:=by rw[gf.len];exact gN.o i (by omega)
        have gS:ys.length<=256:=by rw[g5.len];exact VU (GN n k _) gv.o
        have gE:=Hd (Vz ho);have gx:Hq (∀ u∈ys,u.oneCell'=true):=Hd fun u hu=>by
         obtain⟨q,hq,rfl⟩:=Xp hu;exact Vy (g5.at_ q hq (by rw[<- g5.len];exact hq))
        have gu:=Hd gk;have gH:=Hd gf;have gG:=Hd gj;have gJ:=Hd g5;have gF:=Hd gi;have gK:=Hd gl;have gw:Hq (Bw w w3):=Hd (HB.o.trans (g6.mono HB.o.size));clear gk gf gj g5 gi gl ho go g6 gp gc gA gB g0 gC hs1 gq g9;go_wp2_with (at_builtin;refine Vx To rfl _ _ rfl w.heap.size w3 u5 xs ys ar cr rfl rfl gu.o gE.o gx.o (by omega) gw.o.size (VZ _ _) gK.o ?_;intro v4 w4 g8 gh gz gn);have HN:Hq (RowO w.heap.size (.slice a j c) v4 (F (i+1)) w4):=Hd (by rw[HS.o];exact RowO.app gu.o gH.o gG.o gJ.o gF.o g8 gn gh.size);have gP:Hq (Bw w w4):=Hd (gw.o.trans gh);clear g8 gh gz gn;go_roundw
        case rel=>exact⟨i+1,_,gm,rfl,by go_num,HN,gP⟩
        case measure=>simp[intOf];omega
    ·obtain rfl:i=n:=by omega
     go_wp2_with fail;go_ret;exact⟨_,rfl,HO.o,HB.o⟩
theorem VC (hn4:n<=4){fa:Option Addr}{fc:Nat}{Gs:List BF}(hfs:Dy n w fa Gs)(hd:∀ G∈Gs,DepF n G)(hL:Gs.length*2^n+2^n<=1000){t0:List Int}{r:List (List Int)}(he:ordR n n []=t0::r) :
 Cl 37 #[.slice fa Gs.length fc,Iv (n:Nat)] w fun e w'=>∃ v,e=.returned (.tuple #[v,Iv ((r.foldl (Cn (szO n Gs)) (t0,szO n Gs t0)).2:Nat)])/\SliceIs w' v (r.foldl (Cn (szO n Gs)) (t0,szO n Gs t0)).1/\Bw w w':=by
 obtain⟨sz,g2⟩:=Ex (szO n Gs);rw[<- g2];obtain⟨st,g3⟩:=Ex (fun j=>(r.take j).foldl (Cn sz) (t0,sz t0):Nat->List Int×Nat)
 obtain⟨R,hR⟩:=Ex r.length;have g0:=GN n n [];rw[he] at g0;have gy:n^n<=256:=VU (Nat.pow_le_pow_left hn4 n) (VU (WC (by omega) hn4) (by decide));have gK:R<=256:=by rw[hR];simp at g0;omega
 have g5:∀ t,sz t<=1000:=fun t=>by rw[g2];exact VU (En n Gs t) (VU (Yv _ _) hL)
 have gD:Hq (st R=r.foldl (Cn sz) (t0,sz t0)):=Hd (by rw[g3,hR];show (r.take r.length).foldl _ _=_;rw[W9]);have gE:Hq (∀ j,j<R->st (j+1)=Cn sz (st j) ((t0::r).getD (j+1) [])):=Hd fun j hj=>by
  rw[g3]
  show (r.take (j+1)).foldl _ _=_
  rw[VX (by omega),XA];simp[List.getD,show j<r.length by omega]
 have gj:Hq (Cl 85 #[.slice none 0 0,Iv (n:Nat)] w fun e w1=>∃ g cap,e=.returned (.slice (some (Av g)) (R+1) cap)/\Bw w w1/\∀ i W,i<R+1->Bw w1 W->∃ ax cx,W.cell? (Aw g i)=some (.slice ax n cx)/\Hq (SliceIs W (.slice ax n cx) ((t0::r).getD i []))/\Hq (∀ W2,Bw W W2->Cl 31 #[.slice fa Gs.length fc,.slice ax n cx] W2 (Bl (Iv (sz ((t0::r).getD i []):Nat)) W2))):=Hd (by
  refine(VB hn4 n [] (.slice none 0 0) w (by simp) (FI _) (fun q hq=>by cases hq)).mono ?_;rintro e w1 ⟨u,rfl,⟨xs,h1,h2,h3⟩,hb⟩;rw[he] at h2;have gz:xs.length=R+1:=by rw[h2.len,hR];rfl
  obtain⟨g,cap,rfl,_,_⟩:=h1.shape (by omega);refine⟨g,cap,by rw[gz],hb,fun i W hi hW=>?_⟩;have g4:i<xs.length:=by omega
  have ga:i<(t0::r).length:=by rw[<- h2.len];omega
  have hg:(t0::r).getD i []=(t0::r)[i]:=by rw[List.getD,We ga];rfl
  have g8:=h2.at_ i g4 ga;have gx:(t0::r)[i]∈ordR n n []:=by rw[he];exact Wh ga
  obtain⟨q1,q2⟩:=FB n n [] _ ⟨Ye,fun x hx=>by cases hx⟩ gx;have q3:(t0::r)[i].length=n:=by simpa using q2
  rw[<- hg] at g8 q1 q3;have hc:w1.cell? (Aw g i)=some xs[i]:=by rw[h1.cell i g4];simp[g4]
  have gw:=g8.below hW;obtain⟨ax,cx,ex,hz,gH⟩:=gw;rw[q3] at ex;have gA:∀ y,ax=some y->y.block<w1.heap.size:=fun y hy=>(h3 _ (Wh g4) y.block (by rw[ex,hy];rfl)).1
  refine⟨ax,cx,by rw[<- ex];exact(Cq hW hc),Hd (by rw[<- ex];exact g8.below hW),Hd fun W2 gd=>?_⟩
  generalize (t0::r).getD i []=t at q1 q3 hz
  have et:(t.map Int.toNat).map Int.ofNat=t:=by
   rw[XJ];refine(List.map_congr_left fun x hx=>?_).trans (List.map_id _);have:=(q1.2 x hx).1
   show ((x.toNat:Nat):Int)=x
   omega
  have g0:(t.map Int.toNat).length=n:=by simpa using q3
  have:=N2 (n:=n) (by omega) (os:=t.map Int.toNat) g0 (fun v hv=>by
   obtain⟨x,hx,rfl⟩:=Wg.1 hv;have:=q1.2 x hx;omega) (fun v hv=>by
   have hr:=FD q1 q3;exact Wg.2 ⟨(v:Int),GH hr q3 ⟨by omega,by omega⟩,by simp⟩) (fa:=fa) (fc:=fc) (ao:=ax) (co:=cx) (w:=W2) (hfs.below (hb.trans ((hW.trans (gd.mono hW.size)).mono hb.size))) hd (by rw[et];exact hz.below gd) (fun a ha=>by have h5:=gA a ha;have h6:=hW.size;have h7:=gd.size;omega) hL
  rw[g0] at this;rw[g2];exact this)
 have gF:Hq (∀ t,sz t<=1000):=Hd g5;have g7:st 0=(t0,sz t0):=by rw[g3];rfl
 have gi:=Hd g7;have gI:prog.follows .mixedOrders=true:=by kernel_rfl
 obtain⟨Gl,gp⟩:∃ q,q=Gs.length:=⟨_,rfl⟩;rw[<- gD.o];rw[<- gp] at gj ⊢;clear g3 g7 hR he g0 gy g2 hL hd hfs gp g5
 go_enter func37,ntmps37
 go_wp2_with fail;refine gj.o.mono ?_;rintro e w1 ⟨g,cap,rfl,go,gc⟩;have gv:=Hd go;have gG:=Hd gc;obtain⟨a0,c0,d0,gl,gm⟩:=gc 0 w1 (by omega) (VZ _ _);have gq:=Hd (gm.o w1.drew (Aq w1 1));have gg:=gl;have gC:(0:Int)<((R+1:Nat):Int):=by omega
 have d0':w1.drew.cell? (Av g)=some (.slice a0 n c0):=d0;clear go gc gm gj gl;go_upto_region 2 with fail;have d0l:=Ag d0';have gt:=Hd d0';clear d0 d0';refine AM (fun W:Wd=>Hq (Below w1.drew.heap.size w1.drew W)) false 10 [(0,false),(1,false),(2,false),(3,false),(4,false),(5,false),(6,false),(7,true),(8,false),(9,false)] (by kernel_rfl) (by kernel_rfl) (Hd (VZ _ _)) ?_;simp only[planned,AL]
 iterate 7
  refine Ay rfl ?_;apply Exists.intro;refine⟨fun w' hw=>?_,?_⟩
  . have dW:=(hw.o.cell (p:=Av g) d0l).trans gt.o;clear hw;go_simp;rfl
  simp only[Ab]
 refine Ch (R:=fun v w'=>v=Iv (sz ((t0::r).getD 0 []):Nat)/\Below w1.drew.heap.size w1.drew w') rfl (by go_simp) (gq.o.mono fun e w' he=>⟨_,he.1,Hd he.2,rfl,he.2⟩) ?_;rintro _ w2-⟨rfl,gn⟩;simp only[Ab]
 iterate 2
  refine Ay rfl ?_;apply Exists.intro;refine⟨fun w' hw=>?_,?_⟩
  . clear hw;go_simp;rfl
  simp only[Ab]
 refine Oo (C2 ?_);have g1:Bw w1 w2:=(Aq w1 1).trans gn;have HB2:=Hd g1;have HV:Hq (SliceIs w2 (.slice a0 n c0) (st 0).1):=Hd (by rw[gi.o];exact gg.o.below g1);have ez:sz ((t0::r).getD 0 [])=(st 0).2:=by rw[gi.o];rfl
 rw[ez];clear gn g1 gq gg gt d0l ez gC;go_wp2_with fail
 go_loopw [7,8,9,10] (fun s7 s8 s9 _ wr=>∃ (j:Nat) (v:Value),j<=R/\s7=v/\s8=Iv ((st j).2:Nat)/\s9=Iv ((j+1:Nat):Int)/\Hq (SliceIs wr v (st j).1)/\Hq (Bw w1 wr)) (fun _ _ s9 _ _=>R+1-(intOf s9).toNat)
 case atStart=>exact⟨0,_,Wb _,rfl,by rw[gi.o],rfl,HV,HB2⟩
 case round =>
  obtain⟨j,v,hj,rfl,rfl,rfl,HV,HB⟩:=hrel
  by_cases g9:j<R
  ·obtain⟨ax,cx,dc,g6,hnx⟩:=gG.o (j+1) wr (by omega) HB.o;obtain⟨t,ht⟩:=Ex ((t0::r).getD (j+1) []);have gh:=Hd (gE.o j g9);rw[<- ht] at g6 hnx gh;have HN:=Hd (hnx.o wr (VZ _ _));have gf:=g6;have gJ:((j+1:Nat):Int)<((R+1:Nat):Int):=by omega
   obtain⟨x,hx⟩:=Ex (sz t);obtain⟨y,hy⟩:=Ex ((st j).2);rw[<- hx] at HN;rw[<- hy];have HX:=Hd hx;have HY:=Hd hy;have gr:=gF.o t;clear ht hnx g6 hx hy;go_wp2_with fail;refine HN.o.mono ?_;rintro e w2 ⟨rfl,hb⟩;have dc2:=Cq hb dc;have gu:=Hd (HB.o.trans (hb.mono HB.o.size))
   by_cases hc:x<y
   ·have gB:(x:Int)<(y:Int):=by omega
    have es:st (j+1)=(t,x):=by rw[gh.o];unfold Cn;rw[VW (by rw[<- HX.o,<- HY.o];exact hc),<- HX.o]
    have ge:Hq (SliceIs w2 (.slice ax n cx) (st (j+1)).1):=Hd (by rw[es];exact gf.o.below hb);have gk:Hq ((st (j+1)).2=x):=Hd (by rw[es]);clear hb es HN dc gf HV HX HY gr;go_wp2_with fail;go_roundw
    case rel=>exact⟨j+1,_,g9,rfl,by rw[gk.o],by go_num,ge,gu⟩
    case measure=>simp[intOf];omega
   ·have gB:¬ (x:Int)<(y:Int):=by omega
    have es:st (j+1)=st j:=by rw[gh.o];unfold Cn;rw[VS (by rw[<- HX.o,<- HY.o];exact hc)]
    have ge:Hq (SliceIs w2 u7 (st (j+1)).1):=Hd (by rw[es];exact HV.o.below hb);have gk:Hq ((st (j+1)).2=y):=Hd (by rw[es];exact HY.o.symm);clear hb es HN dc dc2 gf HV HX HY gr;go_wp2_with fail;go_roundw
    case rel=>exact⟨j+1,_,g9,rfl,by rw[gk.o],by go_num,ge,gu⟩
    case measure=>simp[intOf];omega
  ·obtain rfl:j=R:=by omega
   go_wp2_with fail
   go_ret2
   exact⟨_,rfl,HV.o,gv.o.trans (HB.o.mono gv.o.size)⟩
theorem VD (n:Nat):∃ t0 r,ordR n n []=t0::r:=by
 have hm:(List.range n).map Int.ofNat∈ordR n n []:=FC n n [] _ ⟨by
  rw[WQ];exact XM.2 ((List.nodup_range (n:=n)).imp fun h e=>h (Int.ofNat.inj e)),fun x hx=>by
  rw[WQ] at hx;obtain⟨k,hk,rfl⟩:=Wg.1 hx;have:=XV.1 hk;exact⟨Int.natCast_nonneg k,by show (k:Int)<n;omega⟩⟩ (by simp)
 cases h:ordR n n [] with
 | nil=>rw[h] at hm;cases hm
 | cons t r=>exact⟨t,r,rfl⟩
theorem S23.refBest {z0:List Int}(q:Q23 n hs nx)(h:S23 K n w0 mb ws0 o0 wb vl vx hs nx B zs W)(hn4:n<=4)(h0:PreP n z0)(hl0:z0.length=n){zb:List Int}(hb:(b,zb)=Cy (szO n (hs.map Prod.snd)) n z0) :
 Cl 37 #[vx,Iv n] W fun e w'=>∃ v,e=.returned (.tuple #[v,Iv (b:Nat)])/\SliceIs w' v zb/\Bw W w':=by
 obtain⟨o,m,V,_,_,g0,hw,_⟩:=h.st;obtain⟨a,c,rfl,ht⟩:=hw.tabs q;obtain⟨t0,r,he⟩:=VD n;rw[UJ (szO n (hs.map Prod.snd)) h0 hl0 he] at hb;have e1:=WA Prod.fst hb;have e2:=WA Prod.snd hb;dsimp only at e1 e2;rw[e1,e2]
 exact VC hn4 ht (fun G hG=>by
  obtain⟨p,hp,rfl⟩:=Wg.1 hG;exact g0.dep (Ep p hp)) (by rw[Wn];exact q.size) he
section
variable {o:Own}
def known (fs:List (Int×BF))(k:Int):Prop:=∃ F,(k,F)∈fs
theorem NQ (h:SatE K n Od room w0 mb fs nx w o m V)(k:Int){b:Bool}(hb:b=true↔known fs k):Cl 20 #[Pt mb,Iv k] w (Sm (.bool b) w):=by
 cases b with
 | true =>
   obtain⟨F,hF⟩:=hb.1 rfl;exact LZ h hF
 | false=>exact Si h (fun p hp e=>by
  have:known fs k:=⟨p.2,by rw[<- e];exact hp⟩;have:=hb.2 this;cases this)
end
def BadR (v:Value)(w:Wd)(e:Ending)(w':Wd):Prop:=e=.returned v/\Bw w w'
section
variable {o:Own}
theorem JL (a:Option Addr)(l c:Nat)(w:Wd):Cl 122 #[.pointer none,.slice a l c] w (BadR (.tuple #[.map none,Iv 5]) w):=by
 obtain⟨w2,g0⟩:=Ex ((w.alloc (.cells #[.slice a l c] 22)).alloc (.cells #[.map none] 153));have g3:Bw w w2:=by rw[g0];exact(Af _ _).alloc (by simp) _
 have g1:w2.heap[w.heap.size+1]?=some (.cells #[.map none] 153 (0,0)):=by
  have:=VT (w.alloc (.cells #[.slice a l c] 22)) (.cells #[.map none] 153);rw[Wi] at this;rw[g0];exact this
 obtain⟨s,hs⟩:=Ex (w.heap.size+1);rw[<- hs] at g1;have g2:=J9 g1;have c1:=cell1 g1;have fz:w2.frozen? (Av s)=false:=by simp[World.frozen?,g1]
 have g4:=Hd g0.symm;have HS:=Hd hs;have HB:=Hd g3;have g5:=Hd g2;clear g0 g3 g1 hs g2
 go_enter func122,ntmps122
 go_upto_region 1 with fail;rw[g4.o];rw[<- HS.o];go_wp2_with fail;rw[g5.o];have hu:=underlying153;refine Wu (v:=.tuple #[.map none,Iv 5]) ((results_cell_tmp rfl _ _ _).trans ?_) rfl ⟨rfl,HB.o⟩
 show ((asAddr (Pt s)).run prog w2).andThen (fun a w₁=>((loadVar 153 a).run prog w₁).andThen fun v w₂=>.ok (Value.tuple #[v,Iv 5]) w₂)=_
 go_simp
theorem VE (h:SatE K n Od room w0 mb fs nx w o m V){k:Int}(hl:Am w a [k])(hk:¬ known fs k):Cl 122 #[Pt mb,.slice a 1 c] w (BadR (.tuple #[.map none,Iv 8]) w):=by
 obtain⟨w2,g2⟩:=Ex ((w.alloc (.cells #[.slice a 1 c] 22)).alloc (.cells #[.map none] 153));have g4:Bw w w2:=by rw[g2];exact(Af _ _).alloc (by simp) _
 have g0:w2.heap[w.heap.size]?=some (.cells #[.slice a 1 c] 22 (0,0)):=by
  rw[g2];exact(Wk _ _ (by simp)).trans (VT _ _)
 have g1:w2.heap[w.heap.size+1]?=some (.cells #[.map none] 153 (0,0)):=by
  have:=VT (w.alloc (.cells #[.slice a 1 c] 22)) (.cells #[.map none] 153);rw[Wi] at this;rw[g2];exact this
 obtain⟨s,hs⟩:=Ex (w.heap.size+1);rw[<- hs] at g1;have g3:=J9 g1;have c1:=cell1 g1;have c0:=cell1 g0;have fz:w2.frozen? (Av s)=false:=by simp[World.frozen?,g1]
 obtain⟨b,off,rfl,ck⟩:=(hl.below g4).cells 0 (by simp);have ck2:w2.cell? (Aw b off)=some (Iv k):=ck;have HI:=Hd (NQ (h.below g4) k (b:=false) (by simp[hk]));have g5:=Hd g2.symm;have HS:=Hd hs;have HB:=Hd g4;have g6:=Hd g3;clear g2 g4 g0 g1 hs g3 h hl hk
 go_enter func122,ntmps122
 go_upto_region 1 with fail;rw[g5.o];rw[<- HS.o];go_wp2_with fail
 go_loopw [7,12] (fun _ s12 wr=>s12=Iv 0/\wr=w2) (fun _ _ _=>0)
 case atStart=>exact⟨rfl,rfl⟩
 case round =>
  obtain⟨rfl,rfl⟩:=hrel;go_wp2_with fail;refine HI.o.mono ?_;rintro x w' ⟨rfl,rfl⟩;go_wp2_with fail;rw[g6.o];have hu:=underlying153;refine Wu (v:=.tuple #[.map none,Iv 8]) ((results_cell_tmp rfl _ _ _).trans ?_) rfl ⟨rfl,HB.o⟩
  show ((asAddr (Pt s)).run prog wr).andThen (fun a w₁=>((loadVar 153 a).run prog w₁).andThen fun v w₂=>.ok (Value.tuple #[v,Iv 8]) w₂)=_
  go_simp
theorem GO {mv:Value}{l:Nat}{e:Int}(he:e=5\/e=8)(hs:Cl 122 #[mv,.slice a l c] w (BadR (.tuple #[.map none,Iv e]) w)):Cl 65 #[mv,.slice a l c] w (BadR (.tuple #[Iv 0,Iv e]) w):=by
 have H:=Hd hs;have g0:((e:Int) == 0)=false:=by rcases he with rfl|rfl<;>rfl
 clear hs
 go_enter func65,ntmps65
 go_wp2_with fail;refine H.o.mono ?_;rintro x w' ⟨rfl,hb⟩;have HB:=Hd hb;clear hb H;go_wp2_with fail
 go_ret2
 exact⟨rfl,HB.o⟩
theorem NR {mv:Value}{l:Nat}{e:Int}(he:e=5\/e=8)(hs:Cl 122 #[mv,.slice a l c] w (BadR (.tuple #[.map none,Iv e]) w)):Cl 86 #[mv,.slice a l c] w (BadR (.tuple #[.slice none 0 0,Iv e]) w):=by
 have H:=Hd hs;have g0:((e:Int) == 0)=false:=by rcases he with rfl|rfl<;>rfl
 clear hs
 go_enter func86,ntmps86
 go_wp2_with fail;refine H.o.mono ?_;rintro x w' ⟨rfl,hb⟩;have HB:=Hd hb;clear hb H;go_wp2_with fail
 go_ret2
 exact⟨rfl,HB.o⟩
end
section
variable {mv:Value}{l:Nat}{e:Int}
theorem errI {e:Int}(he:e=5\/e=8):((e:Int) == 0)=false:=by rcases he with rfl|rfl<;>rfl
theorem NS (he:e=5\/e=8)(g:Int)(hs:Cl 86 #[mv,.slice a l c] w (BadR (.tuple #[.slice none 0 0,Iv e]) w)):Cl 38 #[mv,Iv g,.slice a l c] w (BadR (.tuple #[Iv 0,Iv e]) w):=by
 have H:=Hd hs;have g0:=errI he;clear hs
 go_enter func38,ntmps38
 go_wp2_with fail;refine H.o.mono ?_;rintro x w' ⟨rfl,hb⟩;have HB:=Hd hb;clear hb H;go_wp2_with fail
 go_ret2
 exact⟨rfl,HB.o⟩
theorem NT {mp:Option Addr}(he:e=5\/e=8)(hs:∀ w',Bw w w'->Cl 65 #[.pointer mp,.slice a l c] w' (BadR (.tuple #[Iv 0,Iv e]) w')):Cl 36 #[.pointer mp,.slice a l c] w (BadR (.tuple #[Iv 0,Iv e]) w):=by
 obtain⟨D,hD⟩:=Ex w.heap.size;obtain⟨w1,g0⟩:=Ex ((w.alloc (.cells #[.pointer mp] 32)).alloc (.cells #[.slice a l c] 22));have g1:Bw w w1:=by rw[g0];exact(Af _ _).alloc (by simp) _
 have c4:w1.cell? (Av D)=some (.pointer mp):=by
  rw[g0,hD];exact cell1 ((Wk _ _ (by simp)).trans (VT _ _))
 have c7:w1.cell? (Av (D+1))=some (.slice a l c):=by
  have:=VT (w.alloc (.cells #[.pointer mp] 32)) (.cells #[.slice a l c] 22);rw[Wi,<- g0,<- hD] at this;exact cell1 this
 have H:=Hd (hs w1 g1);have g3:=errI he;have HW1:=Hd g0.symm;have g2:=Hd g1;clear hs g0 g1
 go_enter func36,ntmps36
 go_upto_region 1 with fail;rw[<- hD,HW1.o];clear HW1 hD;go_wp2_with fail;refine H.o.mono ?_;rintro x w2 ⟨rfl,hb⟩;have HB:=Hd (g2.o.trans (hb.mono g2.o.size));clear hb H c4 c7;go_wp2_with fail
 go_ret2
 exact⟨rfl,HB.o.alloc HB.o.size _⟩
theorem NU {mp:Option Addr}(he:e=5\/e=8)(v g:Int)(hs:∀ w',Bw w w'->Cl 65 #[.pointer mp,.slice a l c] w' (BadR (.tuple #[Iv 0,Iv e]) w')):Cl 32 #[.pointer mp,Iv v,Iv g,.slice a l c] w (BadR (.tuple #[Iv 0,Iv e]) w):=by
 obtain⟨D,hD⟩:=Ex w.heap.size;obtain⟨w1,g0⟩:=Ex (((w.alloc (.cells #[.pointer mp] 32)).alloc (.cells #[Iv g] 3)).alloc (.cells #[.slice a l c] 22));have g1:Bw w w1:=by rw[g0];exact((Af _ _).alloc (by simp) _).alloc (by simp;omega) _
 have c4:w1.cell? (Av D)=some (.pointer mp):=by
  rw[g0,hD];exact cell1 ((Wk _ _ (by simp;omega)).trans ((Wk _ _ (by simp)).trans (VT _ _)))
 have c7:w1.cell? (Av (D+1+1))=some (.slice a l c):=by
  have:=VT ((w.alloc (.cells #[.pointer mp] 32)).alloc (.cells #[Iv g] 3)) (.cells #[.slice a l c] 22);rw[Wi,Wi,<- g0,<- hD] at this;exact cell1 this
 have H:=Hd (hs w1 g1);have g3:=errI he;have HW1:=Hd g0.symm;have g2:=Hd g1;clear hs g0 g1
 go_enter func32,ntmps32
 go_upto_region 1 with fail;rw[<- hD,HW1.o];clear HW1 hD;go_wp2_with fail;refine H.o.mono ?_;rintro x w2 ⟨rfl,hb⟩;have HB:=Hd (g2.o.trans (hb.mono g2.o.size));clear hb H c4 c7;go_wp2_with fail
 go_ret2
 exact⟨rfl,HB.o.alloc HB.o.size _⟩
end
section
theorem VF (hB:As B)(hn6:6<n)(hn64:n<=64)(hl:∀ W o,B W o->ArgI w0 W o a ks)(hlen:Fs.length=ks.length)(hmm:∀ i (h:i<ks.length),(ks[i],Fs[i]'(by omega))∈fs)
 (h:FxO K n room w0 mb ws0 C o0 wb B (fun l=>l.map Int.ofNat=zs) fs nx W) :
 Cl 36 #[Pt mb,.slice a ks.length c] W fun e w'=>e=.returned (.tuple #[Iv 0,Iv 18])/\FxO K n room w0 mb ws0 C o0 wb B (fun l=>l.map Int.ofNat=zs) fs nx w':=by
 obtain⟨T,hT⟩:=Ex (fun W'=>FxO K n room w0 mb ws0 C o0 wb B (fun l=>l.map Int.ofNat=zs) fs nx W':Wd->Prop)
 obtain⟨D,hD⟩:=Ex W.heap.size;obtain⟨B1,g1⟩:=Ex (fun W' o'=>(B W' o'/\BxN D (Pt mb) 32 W' o')/\BxN (D+1) (.slice a ks.length c) 22 W' o':Wd->Own->Prop)
 obtain⟨T1,g0⟩:∃ T:Wd->Prop,T=fun W'=>FxO K n room w0 mb ws0 C o0 wb B1 (fun l=>l.map Int.ofNat=zs) fs nx W':=⟨_,rfl⟩
 have g3:As B1:=by rw[g1];exact(hB.and BxN.keep).and BxN.keep
 obtain⟨w1,g6⟩:=Ex ((W.alloc (.cells #[Pt mb] 32)).alloc (.cells #[.slice a ks.length c] 22));have t1:T1 w1:=by
  have:=FxO.box (hB.and BxN.keep) (FxO.box hB h (Pt mb) 32) (.slice a ks.length c) 22;rw[Wi,<- hD] at this;rw[g0,g6,g1];exact this
 have g7:Hq (∀ W',T1 W'->W'.cell? (Av D)=some (Pt mb)/\W'.cell? (Av (D+1))=some (.slice a ks.length c)):=Hd fun W' ht=>by
  rw[g0] at ht;obtain⟨o',m',V',_,_,_,h5⟩:=ht;rw[g1] at h5;exact⟨h5.1.2.cell,h5.2.cell⟩
 have HS:=Hd (FxO.size (c:=c) g3 (by rw[g0] at t1;exact t1) (fun W' o' hh=>by rw[g1] at hh;exact hl _ _ hh.1.1) hlen hmm);rw[show FxO K n room w0 mb ws0 C o0 wb B1 (fun l=>l.map Int.ofNat=zs) fs nx=T1 by rw[g0]] at HS;have ga:Hq (∀ W',T1 W'->∀ W2,Bw W' W2->Cl 62 #[Pt mb] W2 (Sm (Iv n) W2)):=Hd fun W' ht W2 hb=>by
  rw[g0] at ht;exact(ht.below g3 hb).vars
 have g2:Hq (∀ W',T1 W'->∀ W2,Bw W' W2->FxO K n room w0 mb ws0 C o0 wb B (fun l=>l.map Int.ofNat=zs) fs nx W2):=Hd fun W' ht W2 hb=>by
  rw[g0] at ht;refine(ht.below g3 hb).withB fun o' _ _ _ hh=>?_
  rw[g1] at hh;exact hh.1.1
 obtain⟨c4,c7⟩:=g7.o w1 t1;have gc:(6:Int)<(n:Int):=by omega
 obtain⟨Q,hQ⟩:=Ex (fun w'=>FxO K n room w0 mb ws0 C o0 wb B (fun l=>l.map Int.ofNat=zs) fs nx w':Wd->Prop)
 rw[show FxO K n room w0 mb ws0 C o0 wb B (fun l=>l.map Int.ofNat=zs) fs nx=Q by rw[hQ]] at g2;have e0:(fun(e:Ending) (w':Wd)=>e=.returned (.tuple #[Iv 0,Iv 18])/\FxO K n room w0 mb ws0 C o0 wb B (fun l=>l.map Int.ofNat=zs) fs nx w')=fun e w'=>e=.returned (.tuple #[Iv 0,Iv 18])/\Q w':=by rw[hQ]
 rw[e0];have HW1:=Hd g6.symm;obtain⟨sx,g8⟩:∃ q,q=szO n Fs zs:=⟨_,rfl⟩;rw[<- g8] at HS;clear e0 hQ hT g0 g3 g1 t1 g6 h hB hl hlen hmm g8
 go_enter func36,ntmps36
 go_upto_region 1 with fail;rw[<- hD,HW1.o];clear HW1 hD;go_wp2_with fail;refine HS.o.mono ?_;rintro x w2 ⟨rfl,t2⟩;obtain⟨w3,g5⟩:∃ W,W=w2.alloc (.cells #[Iv (sx:Nat)] 3):=⟨_,rfl⟩;have g4:Bw w2 w3:=by rw[g5];exact Af _ _
 have d4:w3.cell? (Av D)=some (Pt mb):=by
  have:=(g7.o w2 t2).1;exact(Cq g4 this)
 have HV:=Hd (ga.o w2 t2 w3 g4);have HF:=Hd (g2.o w2 t2 w3 g4);have g9:=Hd g5.symm;clear g5 g4 t2 c4 c7 HS g7 ga g2;go_upto_region 2 with fail;rw[g9.o];clear g9;go_wp2_with fail;refine HV.o.mono ?_;rintro y w3' ⟨rfl,rfl⟩;clear HV;go_wp2_with fail
 go_ret2
 exact⟨rfl,HF.o⟩
theorem VG (hB:As B){v g:Int}(hv:v<0\/(n:Int)<=v)(hl:∀ W o,B W o->ArgI w0 W o a ks)(hlen:Fs.length=ks.length)(hmm:∀ i (h:i<ks.length),(ks[i],Fs[i]'(by omega))∈fs)
 (h:FxO K n room w0 mb ws0 C o0 wb B (fun l=>l.map Int.ofNat=zs) fs nx W) :
 Cl 32 #[Pt mb,Iv v,Iv g,.slice a ks.length c] W fun e w'=>e=.returned (.tuple #[Iv 0,Iv 9])/\FxO K n room w0 mb ws0 C o0 wb B (fun l=>l.map Int.ofNat=zs) fs nx w':=by
 obtain⟨T,hT⟩:=Ex (fun W'=>FxO K n room w0 mb ws0 C o0 wb B (fun l=>l.map Int.ofNat=zs) fs nx W':Wd->Prop)
 obtain⟨D,hD⟩:=Ex W.heap.size;obtain⟨B1,g1⟩:=Ex (fun W' o'=>((B W' o'/\BxN D (Pt mb) 32 W' o')/\BxN (D+1) (Iv g) 3 W' o')/\BxN (D+1+1) (.slice a ks.length c) 22 W' o':Wd->Own->Prop)
 obtain⟨T1,g0⟩:∃ T:Wd->Prop,T=fun W'=>FxO K n room w0 mb ws0 C o0 wb B1 (fun l=>l.map Int.ofNat=zs) fs nx W':=⟨_,rfl⟩
 have g3:As B1:=by rw[g1];exact((hB.and BxN.keep).and BxN.keep).and BxN.keep
 obtain⟨w1,g6⟩:=Ex (((W.alloc (.cells #[Pt mb] 32)).alloc (.cells #[Iv g] 3)).alloc (.cells #[.slice a ks.length c] 22));have t1:T1 w1:=by
  have:=FxO.box ((hB.and BxN.keep).and BxN.keep) (FxO.box (hB.and BxN.keep) (FxO.box hB h (Pt mb) 32) (Iv g) 3) (.slice a ks.length c) 22;simp only[Wi] at this;rw[<- hD] at this;rw[g0,g6,g1];exact this
 have g8:Hq (∀ W',T1 W'->W'.cell? (Av D)=some (Pt mb)/\W'.cell? (Av (D+1+1))=some (.slice a ks.length c)):=Hd fun W' ht=>by
  rw[g0] at ht;obtain⟨o',m',V',_,_,_,h5⟩:=ht;rw[g1] at h5;exact⟨h5.1.1.2.cell,h5.2.cell⟩
 have HS:=Hd (FxO.size (c:=c) g3 (by rw[g0] at t1;exact t1) (fun W' o' hh=>by rw[g1] at hh;exact hl _ _ hh.1.1.1) hlen hmm);rw[show FxO K n room w0 mb ws0 C o0 wb B1 (fun l=>l.map Int.ofNat=zs) fs nx=T1 by rw[g0]] at HS;have ga:Hq (∀ W',T1 W'->∀ W2,Bw W' W2->Cl 62 #[Pt mb] W2 (Sm (Iv n) W2)):=Hd fun W' ht W2 hb=>by
  rw[g0] at ht;exact(ht.below g3 hb).vars
 have g2:Hq (∀ W',T1 W'->∀ W2,Bw W' W2->FxO K n room w0 mb ws0 C o0 wb B (fun l=>l.map Int.ofNat=zs) fs nx W2):=Hd fun W' ht W2 hb=>by
  rw[g0] at ht;refine(ht.below g3 hb).withB fun o' _ _ _ hh=>?_
  rw[g1] at hh;exact hh.1.1.1
 obtain⟨c4,c7⟩:=g8.o w1 t1;obtain⟨Q,hQ⟩:=Ex (fun w'=>FxO K n room w0 mb ws0 C o0 wb B (fun l=>l.map Int.ofNat=zs) fs nx w':Wd->Prop)
 rw[show FxO K n room w0 mb ws0 C o0 wb B (fun l=>l.map Int.ofNat=zs) fs nx=Q by rw[hQ]] at g2;have e0:(fun(e:Ending) (w':Wd)=>e=.returned (.tuple #[Iv 0,Iv 9])/\FxO K n room w0 mb ws0 C o0 wb B (fun l=>l.map Int.ofNat=zs) fs nx w')=fun e w'=>e=.returned (.tuple #[Iv 0,Iv 9])/\Q w':=by rw[hQ]
 rw[e0];have HW1:=Hd g6.symm;obtain⟨sx,g9⟩:∃ q,q=szO n Fs zs:=⟨_,rfl⟩;rw[<- g9] at HS;clear e0 hQ hT g0 g3 g1 t1 g6 h hB hl hlen hmm g9
 go_enter func32,ntmps32
 go_upto_region 1 with fail;rw[<- hD,HW1.o];clear HW1 hD;go_wp2_with fail;refine HS.o.mono ?_;rintro x w2 ⟨rfl,t2⟩;obtain⟨w3,g5⟩:∃ W,W=w2.alloc (.cells #[Iv (sx:Nat)] 3):=⟨_,rfl⟩;have g4:Bw w2 w3:=by rw[g5];exact Af _ _
 have d4:w3.cell? (Av D)=some (Pt mb):=by
  have:=(g8.o w2 t2).1;exact(Cq g4 this)
 have HV:=Hd (ga.o w2 t2 w3 g4);have HF:=Hd (g2.o w2 t2 w3 g4);have g7:=Hd g5.symm;clear g5 g4 t2 c4 c7 HS g8 ga g2;rcases hv with hv|hv
 ·clear HV;go_wp2_with fail
  go_ret2
  exact⟨rfl,by rw[g7.o];exact HF.o⟩
 ·have gd:¬ v<0:=by omega
  have gc:v>=(n:Int):=hv;clear hv;go_upto_region 2 with fail;rw[g7.o];clear g7;go_wp2_with fail;refine HV.o.mono ?_;rintro y w3' ⟨rfl,rfl⟩;clear HV;go_wp2_with fail
  go_ret2
  exact⟨rfl,HF.o⟩
end
section
variable {T:Wd}{o:Own}{k:Int}
theorem S23.knows (h:S23 K n w0 mb ws0 o0 wb vl vx hs nx B zs W)(k:Int):∃ b:Bool,(b=true↔known (two++hs) k)/\Cl 20 #[Pt mb,Iv k] W (Sm (.bool b) W):=by
 have hb:∃ b:Bool,(b=true↔known (two++hs) k):=by
  by_cases e:known (two++hs) k
  . exact⟨true,by simp[e]⟩
  . exact⟨false,by simp[e]⟩
 obtain⟨b,hb⟩:=hb;exact⟨b,hb,h.st.ask fun o m V hs _=>NQ hs k hb⟩
theorem S23.bad (h:S23 K n w0 mb ws0 o0 wb vl vx hs nx B zs W)(hk:¬ known (two++hs) k)(hT:T=W.alloc (.cells #[Iv k] 3)):∀ W',Bw T W'->Cl 122 #[Pt mb,.slice (some (Av W.heap.size)) 1 1] W' (BadR (.tuple #[.map none,Iv 8]) W'):=fun W' hb=>by
 subst hT;have hb1:=Af W (.cells #[Iv k] 3);obtain⟨o,m,V,_,_,hsat,_⟩:=h.st;exact VE (hsat.below (hb1.trans (hb.mono hb1.size))) ((F3 W [k] (by simp)).below hb) hk
theorem S23.badSift (h:S23 K n w0 mb ws0 o0 wb vl vx hs nx B zs W)(hk:¬ known (two++hs) k)(hT:T=W.alloc (.cells #[Iv k] 3))(g:Int):Cl 38 #[Pt mb,Iv g,.slice (some (Av W.heap.size)) 1 1] T (BadR (.tuple #[Iv 0,Iv 8]) T) :=
 NS (.inr rfl) g (NR (.inr rfl) (h.bad hk hT T (VZ _ _)))
theorem S23.badVar (h:S23 K n w0 mb ws0 o0 wb vl vx hs nx B zs W)(hk:¬ known (two++hs) k)(hT:T=W.alloc (.cells #[Iv k] 3))(v g:Int):Cl 32 #[Pt mb,Iv v,Iv g,.slice (some (Av W.heap.size)) 1 1] T (BadR (.tuple #[Iv 0,Iv 8]) T) :=
 NU (.inr rfl) v g fun w' hb=>GO (.inr rfl) (h.bad hk hT w' hb)
theorem S23.badBest (h:S23 K n w0 mb ws0 o0 wb vl vx hs nx B zs W)(hk:¬ known (two++hs) k)(hT:T=W.alloc (.cells #[Iv k] 3)):Cl 36 #[Pt mb,.slice (some (Av W.heap.size)) 1 1] T (BadR (.tuple #[Iv 0,Iv 8]) T) :=
 NT (.inr rfl) fun w' hb=>GO (.inr rfl) (h.bad hk hT w' hb)
theorem VH (g:Int)(W:Wd):Cl 38 #[.pointer none,Iv g,.slice none 0 0] W (BadR (.tuple #[Iv 0,Iv 5]) W):=NS (.inl rfl) g (NR (.inl rfl) (JL _ _ _ _))
theorem VI (v g:Int)(W:Wd):Cl 32 #[.pointer none,Iv v,Iv g,.slice none 0 0] W (BadR (.tuple #[Iv 0,Iv 5]) W):=NU (.inl rfl) v g fun w' _=>GO (.inl rfl) (JL _ _ _ _)
theorem VJ (W:Wd):Cl 36 #[.pointer none,.slice none 0 0] W (BadR (.tuple #[Iv 0,Iv 5]) W):=NT (.inl rfl) fun w' _=>GO (.inl rfl) (JL _ _ _ _)
end
theorem VK {sz:List Int->Nat}(hz:∀ t,sz t=0)(n:Nat)(o0:List Int):(Cy sz n o0).1=0:=by
 unfold Cy;have:∀ (l:List (List Int)) (st:Nat×List Int),st.1=0->(l.foldl (Cd sz) st).1=0:=fun l=>by
  induction l with
  | nil=>intro st h;exact h
  | cons t l ih =>
    intro st h;rw[Yy];refine ih _ ?_;unfold Cd;split
    . exact hz t
    . exact h
 exact this _ _ (hz _)
theorem new23 {K:Law}(hk:k<=8)(W:Wd):Cl 39 #[Iv k,Iv 1048576] W fun x w1=>∃ mb,x=.returned (.tuple #[Pt mb,Iv 0])/\Bw W w1/\Hq (Cl 36 #[Pt mb,.slice none 0 0] w1 (Bl (.tuple #[Iv 0,Iv (if k<=6 then 0 else 18)]) W)):=by
 refine(Jr (K:=K) k 1048576 W (by omega) (by omega) (by omega)).mono ?_;rintro x w1 ⟨mb,rfl,o,m,V,g0,g4,_,_⟩;refine⟨mb,rfl,g0.chg.below0,Hd ?_⟩;have hf:FxS K k 1048576 W mb [] NoB o w1 (fun _ _=>True) two 2 w1:=⟨o,m,V,ChgX.of_below (VZ _ _) o NoB,by rw[g4];exact XI _,g0,trivial⟩;obtain⟨zs,g3,g2,g1⟩:=hf.fxO;have hp:2^k<=256:=WC (by omega) hk;have ha:∀ (W':Wd) (o':Own),ArgI W W' o' none []:=fun W' o'=>⟨⟨by simp,fun j hj=>by simp at hj⟩,fun x hx=>by cases hx⟩
 have hm:∀ i (h:i<([]:List Int).length),(([]:List Int)[i],([]:List BF)[i]'h)∈two:=fun i h=>by simp at h
 by_cases h6:k<=6
 . rw[VW h6];have:=JH (c:=0) (a:=none) (ks:=[]) (Fs:=[]) AY g2 g3 h6 (by omega) (by simp[two];omega) (fun W' o' _=>ha W' o') rfl hm (by simp) g1;rw[VK (fun t=>Nat.le_zero.1 (by have:=En k [] t;simpa using this))] at this;exact this.mono fun x w2 ⟨h1,h2⟩=>⟨h1,h2.below0⟩
 . rw[VS h6];exact(VF (c:=0) (a:=none) (ks:=[]) (Fs:=[]) AY (by omega) (by omega) (fun W' o' _=>ha W' o') rfl hm g1).mono fun x w2 ⟨h1,h2⟩=>⟨h1,h2.below0⟩
open Go.RowKit Go.Deep Go.ChangeShapes Go.WideShapes
theorem wfI {x:Int}(h:(Lit.int .i64 x).wf=true):okI x:=by
 unfold okI;simp only[Lit.wf,IntKind.min,IntKind.max,IntKind.signed,IntKind.bits,WW,Xh,Xb] at h;omega
theorem JM {off:Nat}(k:Nat):((Aw b off):Addr).add k=(Aw b (off+k)):=by unfold Addr.add;split<;>simp_all
theorem add0 (a:Addr):a.add 0=a:=by simp[Addr.add]
theorem JN {a:Addr}(h:w.cell? a=some v):a.spot=none:=by
 obtain⟨b,off,spot⟩:=a;cases spot with
 | none=>rfl
 | some s=>simp[World.cell?] at h;split at h<;>simp at h
theorem VL {p:Nat->Ev->Prop}(h:∀ i,i<n->∃ x,p i x):∃ f:Nat->Ev,∀ i,i<n->p i (f i):=by
 classical
 refine⟨fun i=>if hi:i<n then Classical.choose (h i hi) else ⟨0,0,0⟩,fun i hi=>?_⟩;simp only[dif_pos hi];exact Y9 (h i hi)
theorem JO {H:Type}{enc:TypeId×Value->H}{t e:TypeId}{cs:List Value}{x:DataW H×List MemPlace}(ht:P.underlying t=some (.slice e))(h:DataW.trod enc P w base spare held fuel t cs=some x) :
 cs=[.slice none 0 0]\/∃ (a:Addr) (len cap n:Nat),cs=[.slice (some a) len cap]/\len<=cap/\cap<=maxLen/\fuel=n+1/\∀ i,i<len->∃ cs' y,w.cells? base (a.add (i*P.cellsOf e)) (P.cellsOf e)=some cs'/\DataW.trod enc P w base spare held n e cs'=some y:=by
 rcases DataW.trod_slice ht h with ⟨h0,_⟩|⟨a,len,cap,elems,rest,n,hn,e1,_,_,hl,hm,g1,g0,_⟩
 . exact .inl h0
 . refine .inr ⟨a,len,cap,n,e1,hl,hm,hn,fun i hi=>?_⟩;have:=g0 i hi;rw[We (by omega)] at this;obtain⟨cs',h1,h2⟩:=Option.bind_eq_some_iff.1 this;exact⟨cs',_,h1,h2⟩
abbrev Y8:=@DataW.trod_int
theorem open_expr {H:Type}{enc:TypeId×Value->H}:∀ (fuel:Nat) {cs:List Value} {x:DataW H×List MemPlace},
 DataW.trod enc prog w base spare held fuel 79 cs=some x->∃ e x0 x1 x2,cs=[x0,x1,x2]/\A4 w e (.agg #[x0,x1,x2]):=by
 intro fuel
 induction fuel using Nat.strongRecOn with
 | _ fuel IH =>
   intro cs x h;obtain⟨xs,k,hk,g8,g5,g6,hf⟩:=DataW.trod_struct underlying79 h;have c1:prog.cellsOf 3=1:=by kernel_rfl
   have c2:prog.cellsOf 23=1:=by kernel_rfl
   have c3:prog.cellsOf 79=3:=by kernel_rfl
   rw[c3] at g5
   match xs,g6,cs,g5 with
   | [y0,y1,y2],_,[v0,v1,v2],_ =>
     have g0:=hf 0 _ rfl;have g1:=hf 1 _ rfl;have g2:=hf 2 _ rfl;simp[c1,c2] at g0 g1 g2;obtain⟨n0,e0,_,w0⟩:=Y8 underlying3 g0;obtain⟨n1,e1,_,w1⟩:=Y8 underlying3 g1;simp only[XO,and_true] at e0 e1;subst e0 e1;rcases JO underlying23 g2 with e2|⟨a,len,cap,n,e2,hl,hm,g9,hx⟩
     . simp only[XO,and_true] at e2;subst e2;exact⟨.mk n0 n1 0 (fun _=>.nil),_,_,_,rfl,by unfold A4;exact⟨none,0,rfl,wfI w0,wfI w1,by omega,fun k hk=>by omega⟩⟩
     ·simp only[XO,and_true] at e2;subst e2;have each:∀ i,i<len->∃ q:ExT,∃ x0 x1 x2,w.cell? (a.add (i*3))=some x0/\w.cell? ((a.add (i*3)).add 1)=some x1/\w.cell? ((a.add (i*3)).add 2)=some x2/\A4 w q (.agg #[x0,x1,x2]):=by
       intro i hi;obtain⟨cs',y,h1,h2⟩:=hx i hi;rw[c3] at h1;obtain⟨_,g7,g3⟩:=World.cells?_some h1;obtain⟨e,x0,x1,x2,rfl,he⟩:=IH n (by omega) h2;have f0:=g3 0 (by omega);have f1:=g3 1 (by omega);have f2:=g3 2 (by omega);rw[add0] at f0;exact⟨e,x0,x1,x2,by simpa using f0,by simpa using f1,by simpa using f2,he⟩
      obtain⟨q,hq⟩:=choose_lt each;refine⟨.mk n0 n1 len q,_,_,_,rfl,?_⟩;unfold A4;refine⟨some a,cap,rfl,wfI w0,wfI w1,by unfold maxLen at hm;omega,fun i hi=>?_⟩;obtain⟨x0,x1,x2,f0,f1,f2,he⟩:=hq i hi;have g4:a.spot=none:=by
       obtain⟨_,_,_,q0,_⟩:=hq 0 (by omega);have:=JN q0;simpa [Addr.add] using this
      obtain⟨b,off,spot⟩:=a;dsimp only at g4;subst g4;simp only[JM] at f0 f1 f2;exact⟨b,off,x0,x1,x2,rfl,f0,f1,f2,he⟩
theorem VM {H:Type}{enc:TypeId×Value->H}{cs:List Value}{x:DataW H×List MemPlace}
 (h:DataW.trod enc prog w base spare held fuel 23 cs=some x):∃ a l cap,cs=[.slice a l.length cap]/\Fk w a l:=by
 have c3:prog.cellsOf 79=3:=by kernel_rfl
 rcases JO underlying23 h with e2|⟨a,len,cap,n,e2,hl,hm,g4,hx⟩
 . exact⟨none,[],0,e2,⟨by simp,fun k hk=>by simp at hk⟩⟩
 ·subst e2;have each:∀ i,i<len->∃ q:ExT,∃ x0 x1 x2,w.cell? (a.add (i*3))=some x0/\w.cell? ((a.add (i*3)).add 1)=some x1/\w.cell? ((a.add (i*3)).add 2)=some x2/\A4 w q (.agg #[x0,x1,x2]):=by
   intro i hi;obtain⟨cs',y,h1,h2⟩:=hx i hi;rw[c3] at h1;obtain⟨_,g3,g0⟩:=World.cells?_some h1;obtain⟨e,x0,x1,x2,rfl,he⟩:=open_expr n h2;have f0:=g0 0 (by omega);have f1:=g0 1 (by omega);have f2:=g0 2 (by omega);rw[add0] at f0;exact⟨e,x0,x1,x2,by simpa using f0,by simpa using f1,by simpa using f2,he⟩
  obtain⟨q,hq⟩:=choose_lt each;refine⟨some a,(List.range len).map q,cap,by simp,⟨by unfold maxLen at hm;simp;omega,fun i hi=>?_⟩⟩;have g2:i<len:=by simpa using hi
  obtain⟨x0,x1,x2,f0,f1,f2,he⟩:=hq i g2;have g1:a.spot=none:=by
   obtain⟨_,_,_,q0,_⟩:=hq 0 (by omega);have:=JN q0;simpa [Addr.add] using this
  obtain⟨b,off,spot⟩:=a;dsimp only at g1;subst g1;simp only[JM] at f0 f1 f2;exact⟨b,off,x0,x1,x2,rfl,f0,f1,f2,by simpa using he⟩
theorem open_evs {H:Type}{enc:TypeId×Value->H}{cs:List Value}{x:DataW H×List MemPlace}
 (h:DataW.trod enc prog w base spare held fuel 24 cs=some x):∃ a l cap,cs=[.slice a l.length cap]/\EvsAt w a l/\(∀ ev∈l,okI ev.after/\okI ev.kind/\okI ev.level)/\(a=none->cap=0)/\l.length<=cap/\cap<=maxLen:=by
 have c1:prog.cellsOf 3=1:=by kernel_rfl
 have c3:prog.cellsOf 77=3:=by kernel_rfl
 rcases JO underlying24 h with e2|⟨a,len,cap,n,e2,hl,hm,ga,hx⟩
 . exact⟨none,[],0,e2,⟨by simp,fun k hk=>by simp at hk⟩,by simp,fun _=>rfl,by simp,by simp⟩
 ·subst e2;have each:∀ i,i<len->∃ q:Ev,w.cell? (a.add (i*3))=some (Iv q.after)/\w.cell? ((a.add (i*3)).add 1)=some (Iv q.kind)/\w.cell? ((a.add (i*3)).add 2)=some (Iv q.level)/\okI q.after/\okI q.kind/\okI q.level:=by
   intro i hi;obtain⟨cs',y,h1,h2⟩:=hx i hi;rw[c3] at h1;obtain⟨_,g5,g3⟩:=World.cells?_some h1;obtain⟨xs,k,hk,g9,_,g6,hf⟩:=DataW.trod_struct underlying77 h2
   match xs,g6,cs',g5 with
   | [y0,y1,y2],_,[v0,v1,v2],_ =>
     have g0:=hf 0 _ rfl;have g1:=hf 1 _ rfl;have g2:=hf 2 _ rfl;simp[c1] at g0 g1 g2;obtain⟨n0,e0,_,w0⟩:=Y8 underlying3 g0;obtain⟨n1,e1,_,w1⟩:=Y8 underlying3 g1;obtain⟨n2,e2,_,w2⟩:=Y8 underlying3 g2;simp only[XO,and_true] at e0 e1 e2;subst e0 e1 e2;have f0:=g3 0 (by omega);have f1:=g3 1 (by omega);have f2:=g3 2 (by omega);rw[add0] at f0;exact⟨⟨n0,n1,n2⟩,by simpa using f0,by simpa using f1,by simpa using f2,wfI w0,wfI w1,wfI w2⟩
  obtain⟨q,hq⟩:=VL each;refine⟨some a,(List.range len).map q,cap,by simp,⟨by unfold maxLen at hm;simp;omega,fun i hi=>?_⟩,?_,by simp,by simpa using hl,hm⟩
  ·have g7:i<len:=by simpa using hi
   obtain⟨f0,f1,f2,_⟩:=hq i g7;have g4:a.spot=none:=by
    obtain⟨q0,_⟩:=hq 0 (by omega);have:=JN q0;simpa [Addr.add] using this
   obtain⟨b,off,spot⟩:=a;dsimp only at g4;subst g4;simp only[JM] at f0 f1 f2;exact⟨b,off,rfl,by simpa using f0,by simpa using f1,by simpa using f2⟩
  . intro ev g8;obtain⟨i,hi,rfl⟩:=Wg.1 g8;exact(hq i (by simpa using hi)).2.2.2
theorem open_ask {H:Type}{enc:TypeId×Value->H}{x:DataW H×List MemPlace}(hv:v=.agg cs)
 (h:DataW.trod enc prog w base (fun _=>true) held fuel 26 v.cells.toList=some x):∃ q ao ae ap co ce cp,v=askV q ao ae ap co ce cp/\AskAt w q ao ae ap/\(∀ ev∈q.plan,okI ev.after/\okI ev.kind/\okI ev.level)/\(ao=none->co=0)/\(ap=none->cp=0)/\q.plan.length<=cp/\cp<=maxLen:=by
 subst hv;obtain⟨xs,k,hk,gi,g5,g7,hf⟩:=DataW.trod_struct underlying26 h;have c1:prog.cellsOf 3=1:=by kernel_rfl
 have c2:prog.cellsOf 22=1:=by kernel_rfl
 have c4:prog.cellsOf 23=1:=by kernel_rfl
 have c5:prog.cellsOf 24=1:=by kernel_rfl
 have c3:prog.cellsOf 26=4:=by kernel_rfl
 rw[c3] at g5;obtain⟨cl⟩:=cs;simp only[Value.cells] at g5 hf
 match xs,g7,cl,g5 with
 | [y0,y1,y2,y3],_,[v0,v1,v2,v3],_ =>
   have g0:=hf 0 _ rfl;have g1:=hf 1 _ rfl;have g2:=hf 2 _ rfl;have g3:=hf 3 _ rfl;simp[c1,c2,c4,c5] at g0 g1 g2 g3;obtain⟨n0,e0,_,w0⟩:=Y8 underlying3 g0;simp only[XO,and_true] at e0;subst e0;obtain⟨ao,zs,co,e1,gf,gc⟩:∃ a zs c,v1=.slice a zs.length c/\Am w a zs/\(a=none->c=0):=by
    rcases open_ints underlying22 underlying3 (by kernel_rfl) g1 with ⟨g4,_⟩|⟨x,l,c,zs,g4,_,hl,hm,hz,_,g6,g8⟩
    . simp at g4;subst g4;obtain⟨a,c,e,h1,h2⟩:=sliceIs_of_row (w:=w) (a:=none) (len:=0) (cap:=0) (.inl ⟨rfl,rfl,rfl,rfl⟩);exact⟨a,_,c,e,h1,h2⟩
    . simp at g4;subst g4;obtain⟨a,c,e,h1,h2⟩:=sliceIs_of_row (w:=w) (.inr ⟨_,rfl,hl,hm,by simpa using hz,g6,g8⟩);exact⟨a,_,c,e,h1,h2⟩
   obtain⟨ae,es,ce,e2,gh⟩:=VM g2;obtain⟨ap,evs,cp,e3,gg,g9,ga,ge,gd⟩:=open_evs g3;simp only[XO,and_true] at e2 e3;subst e1 e2 e3;exact⟨⟨n0,zs,es,evs⟩,ao,ae,ap,co,ce,cp,rfl,⟨wfI w0,gf,gh,gg⟩,g9,gc,ga,ge,gd⟩
end Go.Proofs.YtkidaindpahefaaGreat
