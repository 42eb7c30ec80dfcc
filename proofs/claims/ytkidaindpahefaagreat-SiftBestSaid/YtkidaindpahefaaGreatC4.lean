/- Several texts in one file: contracts of the program's functions and what follows from them. -/
import Derived.Test.YtkidaindpahefaaGreatC3
import Derived.Maps.RangeRun
import Derived.Shelf.SlSortCmp.WholeK
import Derived.Shelf.SlicesG.Cmp
import Derived.Shelf.SlGeneric
import Derived.Ground.SlsfProg
import Derived.Ground.SlgcProg
import Derived.Test.YtkidaindpahefaaGreatProg
set_option linter.unusedSimpArgs false
set_option linter.unusedVariables false
set_option linter.unusedSectionVars false
set_option linter.unnecessarySimpa false
set_option maxRecDepth 100000
set_option maxHeartbeats 8000000
namespace Go.Proofs.YtkidaindpahefaaGreat
open Go.Proofs.Tryz
open Go.RowKit
variable {C:Nat->Prop}{F G H:BF}{K:Law}{L:Array Bool}{Od:List Nat->Prop}{P:Program}{Q:Exit->Act->Wd->Prop}{S:Wd->Prop}{T:TypeId}{V:Nat->BF}{W W' W0 w w' w0 w1 w2:Wd}{a:Option Addr}{b base clock f gf gop i id k k' mb n room:Nat}{bs:List Bool}{ev:Ev}{fs hs:List (Int×BF)}{ks zs:List Int}{l:List Oper}{lim:Option Nat}{lop:Array Value}{m m':ManD}{nx op:Int}{o' oG:Own}{seen:Array Nat}{v v' vl vx:Value}{ws ws0:List Ev}
def HapG (K:Law)(n:Nat)(Od:List Nat->Prop)(room:Nat)(w0:Wd)(mb:Nat)(fs:List (Int×BF))(nx:Int)(ev:Ev):Prop :=
 ∀ (o:Own) (W:Wd) (m:ManD) (V:Nat->BF),SatE K n Od room w0 mb fs nx W o m V->Cl 243 #[Pt mb,evA ev] W fun x w'=>x=.returned (.tuple #[]) /\
  ∃ o' m' V',SatE K n Od room w0 mb fs nx w' o' m' V'/\m'.waits=m.waits/\m'.calls=m.calls/\(m'.d.pool.many<=m.d.pool.many\/m'.d.pool.many<=fs.length*2^n)/\ChgX NoB o o' W w'
def StE (K:Law)(n:Nat)(Od:List Nat->Prop)(room:Nat)(w0:Wd)(mb:Nat)(fs:List (Int×BF))(nx:Int)(St:ManD->Prop)(m':ManD):Prop :=
 ∀ (o:Own) (W:Wd) (m:ManD) (V:Nat->BF),SatE K n Od room w0 mb fs nx W o m V->m.waits=m'.waits->m.calls=m'.calls->(m.d.pool.many<=m'.d.pool.many\/m.d.pool.many<=fs.length*2^n)->St m
def OpG (K:Law)(n:Nat)(Od:List Nat->Prop)(room:Nat)(w0:Wd)(mb:Nat)(fs:List (Int×BF))(nx:Int)(C:Nat->Prop)(B:Wd->Prop)(St:ManD->Prop)(gop:Nat)(lop:Array Value)(Q:Wd->ManD->(Nat->BF)->Nat->Prop)(E:Int->ManD->ManD->Prop):Prop :=
 ∀ (o:Own) (W:Wd) (m:ManD) (V:Nat->BF) (xb:Nat),SatE K n Od room w0 mb fs nx W o m V->B W->(∀ k,C k->k<W.heap.size/\o k=none)->St m->Bs o W xb mb->¬ C xb ->
  Calls prog gop (#[Pt xb]++lop) W fun e w'=>∃ (o':Own) (m':ManD) (V':Nat->BF),CU C K o W mb m V o' w' m' V'/\B w' /\
   ((∃ r:Nat,e=.returned (Iv r)/\okE (Aa m'.d) r/\Q w' m' V' r) \/
    (∃ er:Int,e=AQ er false ev0/\er≠0/\m'.waits=m.waits/\St m'/\E er m m') \/
    (∃ ev,e=AQ 0 true ev/\m.waits=ev::m'.waits/\StE K n Od room w0 mb fs nx St m'/\HapG K n Od room w0 mb fs nx ev))
theorem Q2 (gop:Nat)(lop:Array Value)(W:Wd)(xb ob fb:Nat)(R:Nat->Wd->Prop)(R2:Int->Bool->Ev->Wd->Prop)(eg:∀ args w,(callFunc gop args).run prog w=.ok (.enter gop args) w)
 (hob:W.cell? (Av ob)=some (.func (.func gop) #[] lop)) (hop:Calls prog gop (#[Pt xb]++lop) W fun e w'=>(∃ r:Nat,e=.returned (Iv r)/\R r w'/\(∃ z:Int,w'.cell? (Av fb)=some (Iv z))/\w'.frozen? (Av fb)=false) \/
  ∃ er evt ev,e=AQ er evt ev/\R2 er evt ev w') :
 Cl 197 #[Pt xb,Pt ob,Pt fb] W fun e w'=>(e=.returned (.tuple #[])/\∃ r w1,R r w1/\w'=w1.setCell (Av fb) (Iv (r:Nat)))\/∃ er evt ev,e=AQ er evt ev/\R2 er evt ev w':=by
 have g0:=Hd hop;clear hop
 go_enter func197,ntmps197
 go_wp2_with fail;refine g0.o.mono ?_;rintro e w' (⟨r,rfl,hr,⟨z,hc⟩,hf⟩|⟨er,evt,ev,rfl,hr⟩)
 . have HR:=Hd hr;clear hr;go_wp2_with fail;go_end0;exact .inl ⟨rfl,r,w',HR.o,rfl⟩
 . have HR:=Hd hr;clear hr;unfold AQ;go_wp2_with fail;exact⟨rfl,.inr ⟨er,evt,ev,rfl,HR.o⟩⟩
structure RunI (K:Law)(n:Nat)(Od:List Nat->Prop)(room:Nat)(w0:Wd)(mb:Nat)(fs:List (Int×BF))(nx:Int)(C:Nat->Prop)(B:Wd->Prop)(St:ManD->Prop)(gop:Nat)(lop:Array Value)(o0:Own)(w:Wd)(k:Nat)(full:Bool)(W:Wd)(o:Own)(m:ManD)(V:Nat->BF):Prop where
 sat:SatE K n Od room w0 mb fs nx W o m V
 bok:B W
 st:St m
 len:m.waits.length=k
 cok:∀ c,C c->c<w.heap.size/\o c=none
 chg:ChgX C o0 o w W
 size:w.heap.size+2<=W.heap.size
 obn:o w.heap.size=none
 fbn:o (w.heap.size+1)=none
 ob:W.heap[w.heap.size]?=some (.cells #[.func (.func gop) #[] lop] 182 (0,0))
 fb:∃ z:Int,W.heap[w.heap.size+1]?=some (.cells #[Iv z] 101 (0,0))
 clean:full=true->m.d.dead=0
def RunF (K:Law)(n:Nat)(Od:List Nat->Prop)(room:Nat)(w0:Wd)(mb:Nat)(fs:List (Int×BF))(nx:Int)(C:Nat->Prop)(B:Wd->Prop)(Q:Wd->ManD->(Nat->BF)->Nat->Prop)(E:Int->ManD->ManD->Prop)(o0:Own)(w:Wd)(er:Int)(W:Wd):Prop :=
 ∃ o m V,SatE K n Od room w0 mb fs nx W o m V/\B W/\ChgX C o0 o w W/\w.heap.size+2<=W.heap.size/\o (w.heap.size+1)=none /\
  ((er=0/\∃ r:Nat,okE (Aa m.d) r/\Q W m V r/\W.heap[w.heap.size+1]?=some (.cells #[Iv r] 101 (0,0))) \/
   (er≠0/\∃ m0:ManD,E er m0 m/\(er=7->m0.d.dead=0)))
theorem Q3 {B:Wd->Prop}{St:ManD->Prop}{Q:Wd->ManD->(Nat->BF)->Nat->Prop}{E:Int->ManD->ManD->Prop}
 (hB:∀ W W',B W->(∀ c,C c->W'.heap[c]?=W.heap[c]?)->B W') (hQ:∀ W W' m V r,Q W m V r->(∀ c,C c->W'.heap[c]?=W.heap[c]?)->Q W' m V r) (hSt:∀ (m:ManD) (d:Ae),St m->AJ m.d d->St { m with d:=d }) (hC0:∀ c,C c->w0.heap.size<=c) (eg:∀ args w,(callFunc gop args).run prog w=.ok (.enter gop args) w)
 (hop:OpG K n Od room w0 mb fs nx C B St gop lop Q E) {o:Own} {w:Wd} {m:ManD} {V:Nat->BF} (h:SatE K n Od room w0 mb fs nx w o m V) (hb:B w) (hC:∀ c,C c->c<w.heap.size/\o c=none) (hst:St m) :
 Cl 196 #[Pt mb,.func (.func 197) #[] #[Pt w.heap.size,Pt (w.heap.size+1)]] (doW gop lop w) fun x w'=>∃ er,x=.returned (Iv er)/\RunF K n Od room w0 mb fs nx C B Q E o w er w':=by
 have hz:(doW gop lop w).heap.size=w.heap.size+2:=by simp[doW]
 have gi:Bw w (doW gop lop w):=(Af w _).alloc (by simp) _;have gt:(doW gop lop w).heap[w.heap.size+1]?=some (.cells #[Iv 0] 101 (0,0)):=by
  have:=VT (w.alloc (.cells #[.func (.func gop) #[] lop] 182)) (.cells #[Iv 0] 101);rw[Wi] at this;exact this
 have gq:(doW gop lop w).heap[w.heap.size]?=some (.cells #[.func (.func gop) #[] lop] 182 (0,0)):=(Wk _ _ (by simp)).trans (VT w _);have hw0:=h.chg.size;have gg:RunI K n Od room w0 mb fs nx C B St gop lop o w m.waits.length false (doW gop lop w) o m V :=
  ⟨h.below gi,hB _ _ hb (fun c hc=>gi.block c (hC c hc).1),hst,rfl,hC,ChgX.of_below gi o C,by omega,h.lt.none (VQ _),h.lt.none (by omega),gq,⟨0,gt⟩,by simp⟩
 have g8:∀ {k full W W' o1 m1 V1},RunI K n Od room w0 mb fs nx C B St gop lop o w k full W o1 m1 V1->∀ {s:Nat},w.heap.size+2<=s->o1 s=none->o1 (s+1)=none->Ali s W W'->RunI K n Od room w0 mb fs nx C B St gop lop o w k full W' o1 m1 V1:=by
  intro k full W W' o1 m1 V1 hi s hs n0 n1 a;have gj:=hi.size;have hk:∀ k,k<w.heap.size+2->W'.heap[k]?=W.heap[k]?:=fun k hk=>a.keep k (by omega) (by omega)
  refine⟨hi.sat.other a (fun k _ e=>?_),hB _ _ hi.bok (fun c hc=>hk c (by have:=(hi.cok c hc).1;omega)),hi.st,hi.len,hi.cok,hi.chg.trans (ChgX.of_wr (C:=fun k=>w.heap.size<=k) a o1 (fun k _ e=>by omega)) (fun k hk e=>by omega),VU hi.size a.size,hi.obn,hi.fbn,(hk _ (by omega)).trans hi.ob,?_,hi.clean⟩
  ·rcases e with rfl|rfl
   . exact⟨by omega,n0⟩
   . exact⟨by omega,n1⟩
  . obtain⟨z,hz⟩:=hi.fb;exact⟨z,(hk _ (by omega)).trans hz⟩
 have gf:∀ {k full full' W W' o1 m1 V1 o2 m2 V2},RunI K n Od room w0 mb fs nx C B St gop lop o w k full W o1 m1 V1->SatE K n Od room w0 mb fs nx W' o2 m2 V2->ChgX NoB o1 o2 W W'->m2.waits=m1.waits->St m2->(full'=true->m2.d.dead=0)->RunI K n Od room w0 mb fs nx C B St gop lop o w k full' W' o2 m2 V2:=by
  intro k full full' W W' o1 m1 V1 o2 m2 V2 hi gm hc e1 e2 e3;have gj:=hi.size;obtain⟨z,hz⟩:=hi.fb
  exact⟨gm,hB _ _ hi.bok (fun c ga=>hc.block c (by have:=(hi.cok c ga).1;omega) (hi.cok c ga).2 (fun e=>e)),e2,by rw[e1];exact hi.len,fun c ga=>⟨(hi.cok c ga).1,hc.none' (by have:=(hi.cok c ga).1;omega) (hi.cok c ga).2⟩,
   hi.chg.trans hc (fun _ _ e=>e.elim),VU hi.size hc.size,hc.none' (by omega) hi.obn,hc.none' (by omega) hi.fbn,(hc.block _ (by omega) hi.obn (fun e=>e)).trans hi.ob,⟨z,(hc.block _ (by omega) hi.fbn (fun e=>e)).trans hz⟩,e3⟩
 refine KS mb _ _ _ Qa (fun k full W=>∃ o1 m1 V1,RunI K n Od room w0 mb fs nx C B St gop lop o w k full W o1 m1 V1) _ ?_ _ ⟨o,m,V,gg⟩;rintro k full W ⟨o1,m1,V1,hi⟩;have gj:=hi.size;obtain⟨s,hs⟩:=Ex W.heap.size
 refine⟨fun st W1=>match st with
  | none=>∃ (o':Own) (m':ManD) (V':Nat->BF) (r:Nat) (w1:Wd),SatE K n Od room w0 mb fs nx w1 o' m' V'/\B w1/\ChgX C o o' w w1/\s+3<=w1.heap.size/\(∀ q,w.heap.size<=q->q<s+3->o1 q=none->o' q=none)/\(∃ z:Int,w1.heap[w.heap.size+1]?=some (.cells #[.int .i64 z] 101 (0,0)))/\okE (Aa m'.d) r/\Q w1 m' V' r/\W1=w1.setCell ⟨w.heap.size+1,0,none⟩ (.int .i64 (r:Nat))
  | some (er,evt,ev)=>∃ (o':Own) (m':ManD) (V':Nat->BF),RunI K n Od room w0 mb fs nx C B St gop lop o w m'.waits.length false W1 o' m' V'/\s+3<=W1.heap.size/\(∀ q,w.heap.size<=q->q<s+3->o1 q=none->o' q=none) /\
   ((evt=false/\er≠0/\m'.waits=m1.waits/\E er m1 m')\/(evt=true/\m1.waits=ev::m'.waits/\StE K n Od room w0 mb fs nx St m'/\HapG K n Od room w0 mb fs nx ev)),?_,?_,?_,?_,?_⟩
 ·unfold Ff;have g9:Bw W (tryW mb W):=((Af _ _).alloc (by simp) _).alloc (by simp;omega) _;have go:(tryW mb W).heap.size=W.heap.size+3:=by unfold tryW;simp
  obtain⟨T,hT⟩:=Ex (tryW mb W);have h1:(tryW mb W).heap[W.heap.size+2]?=some (.cells #[Pt mb] 233 (0,0)):=by
   have:=VT ((W.alloc (.cells #[Iv 0,.bool false,Iv 0,Iv 0,Iv 0] 235)).alloc (.cells #[.bool false] 4)) (.cells #[Pt mb] 233);rw[Wi,Wi] at this;exact this
  rw[<- hT] at g9 go h1 ⊢;clear hT;have g7:=hi.sat.below g9;have gv:Bs o1 T (W.heap.size+2) mb:=⟨cell1 h1,hi.sat.lt.none (by omega)⟩;have gn:=hop o1 T m1 V1 (W.heap.size+2) g7 (hB _ _ hi.bok (fun c hc=>g9.block c (by have:=(hi.cok c hc).1;omega))) (fun c hc=>⟨by have:=(hi.cok c hc).1;omega,(hi.cok c hc).2⟩) hi.st gv (fun e=>by have:=(hi.cok _ e).1;omega);have gh:=(g9.block w.heap.size (by omega)).trans hi.ob;obtain⟨z,hz⟩:=hi.fb;have ge:=(g9.block (w.heap.size+1) (by omega)).trans hz;have gy:∀ q,w.heap.size<=q->¬ C q:=fun q hq e=>by have:=(hi.cok q e).1;omega
  have g0:∀ {o':Own} {w1:Wd},ChgX C o1 o' T w1->∀ q,w.heap.size<=q->q<s+3->o1 q=none->w1.heap[q]?=T.heap[q]?:=fun hc q h1 h2 h3=>hc.block q (by omega) h3 (gy q h1)
  refine(Q2 gop lop T (W.heap.size+2) w.heap.size (w.heap.size+1) (fun r w1=>∃ o' m' V',CU C K o1 T mb m1 V1 o' w1 m' V'/\B w1/\okE (Aa m'.d) r/\Q w1 m' V' r)
   (fun er evt ev w1=>∃ o' m' V',CU C K o1 T mb m1 V1 o' w1 m' V'/\B w1/\((evt=false/\er≠0/\m'.waits=m1.waits/\St m'/\E er m1 m')\/(evt=true/\m1.waits=ev::m'.waits/\StE K n Od room w0 mb fs nx St m'/\HapG K n Od room w0 mb fs nx ev))) eg (cell1 gh) (gn.mono ?_)).mono ?_
  ·rintro e w1 ⟨o',m',V',st,b1,(⟨r,rfl,q1,q2⟩|⟨er,rfl,q1,q2,q3,q4⟩|⟨ev,rfl,q1,q2,q3⟩)⟩
   . have hf:=(g0 st.chg (w.heap.size+1) (by omega) (by omega) hi.fbn).trans ge;exact .inl ⟨r,rfl,⟨o',m',V',st,b1,q1,q2⟩,⟨z,cell1 hf⟩,by simp[World.frozen?,hf]⟩
   . exact .inr ⟨er,false,ev0,rfl,o',m',V',st,b1,.inl ⟨rfl,q1,q2,q3,q4⟩⟩
   . exact .inr ⟨0,true,ev,rfl,o',m',V',st,b1,.inr ⟨rfl,q1,q2,q3⟩⟩
  ·have n0:o1 W.heap.size=none:=hi.sat.lt.none (VQ _);have n1:o1 (W.heap.size+1)=none:=hi.sat.lt.none (by omega);rintro e W' (⟨rfl,r,w1,⟨o',m',V',st,b1,q1,q2⟩,rfl⟩|⟨er,evt,ev,rfl,o',m',V',st,b1,q⟩)
   ·have hf:=(g0 st.chg (w.heap.size+1) (by omega) (by omega) hi.fbn).trans ge;have gl:=st.chg.size;refine⟨by simp[World.setCell];omega,?_,?_,.inl ⟨rfl,o',m',V',r,w1,g7.step st hC0,b1,(hi.chg.trans (ChgX.of_below g9 o1 C) (fun _ _ e=>e)).trans st.chg (fun _ _ e=>e),by omega,fun q _ h2 h3=>st.chg.none' (by omega) h3,⟨z,hf⟩,q1,q2,rfl⟩⟩
    . exact(A0 (by show _≠w.heap.size+1;omega) _).trans (g0 st.chg _ (by omega) (by omega) n0)
    . exact(A0 (by show _≠w.heap.size+1;omega) _).trans (g0 st.chg _ (by omega) (by omega) n1)
   ·have gl:=st.chg.size;have b2:St m':=by
     rcases q with ⟨_,_,_,q,_⟩|⟨_,_,q,_⟩
     . exact q
     . exact q _ _ _ _ (g7.step st hC0) rfl rfl (.inl (VQ _))
    have gw:=(hi.chg.trans (ChgX.of_below g9 o1 C) (fun _ _ e=>e)).trans st.chg (fun _ _ e=>e);refine⟨by omega,g0 st.chg _ (by omega) (by omega) n0,g0 st.chg _ (by omega) (by omega) n1,.inr ⟨er,evt,ev,rfl,o',m',V',?_,by omega,fun q _ h2 h3=>st.chg.none' (by omega) h3,q.imp (fun⟨a1,a2,a3,_,a4⟩=>⟨a1,a2,a3,a4⟩) id⟩⟩
    exact⟨g7.step st hC0,b1,b2,rfl,fun c hc=>⟨(hi.cok c hc).1,st.chg.none' (by have:=(hi.cok c hc).1;omega) (hi.cok c hc).2⟩,gw,by omega,st.chg.none' (by omega) hi.obn,st.chg.none' (by omega) hi.fbn,
     (g0 st.chg _ (by omega) (by omega) hi.obn).trans gh,⟨z,(g0 st.chg (w.heap.size+1) (by omega) (by omega) hi.fbn).trans ge⟩,by simp⟩
 ·rintro W1 W2 ⟨o',m',V',r,w1,a1,a2,a3,a4,a5,⟨z,a6⟩,a7,a8,rfl⟩ al;have gc:Wr (fun k=>k=w.heap.size+1\/k=s\/k=s+1) w1 W2:=Wr.trans ((Wr.refl (fun k=>k=w.heap.size+1) w1).setCell (p:=(Av (w.heap.size+1))) (.inl rfl) _) al (fun k _ e=>.inl e) (fun k _ e=>.inr (by rw[hs];exact e));have n0:o' s=none:=a5 s (by omega) (by omega) (by rw[hs];exact hi.sat.lt.none (VQ _));have n1:o' (s+1)=none:=a5 (s+1) (by omega) (by omega) (by rw[hs];exact hi.sat.lt.none (by omega));have nf:o' (w.heap.size+1)=none:=a5 _ (by omega) (by omega) hi.fbn;have hf:=(al.keep (w.heap.size+1) (by simp[World.setCell];omega) (by omega)).trans (A7 a6 _);refine⟨o',m',V',a1.other gc (fun k _ e=>?_),hB _ _ a2 (fun c hc=>gc.keep c (by have:=(hi.cok c hc).1;omega) (by have:=(hi.cok c hc).1;omega)),a3.trans (ChgX.of_wr (C:=fun k=>w.heap.size<=k) gc o' (fun k _ e=>by omega)) (fun k hk e=>by omega),by have:=gc.size;omega,nf,.inl ⟨rfl,r,a7,hQ _ _ _ _ _ a8 (fun c hc=>gc.keep c (by have:=(hi.cok c hc).1;omega) (by have:=(hi.cok c hc).1;omega)),hf⟩⟩;rcases e with rfl|rfl|rfl
  . exact⟨by omega,nf⟩
  . exact⟨by omega,n0⟩
  . exact⟨by omega,n1⟩
 ·rintro er ev W1 W2 ⟨o',m',V',gd,a4,a5,(⟨h1,_⟩|⟨_,gu,gp,gx⟩)⟩ al
  . cases h1
  rw[<- hs] at al;have n0:o' s=none:=a5 s (by omega) (by omega) (by rw[hs];exact hi.sat.lt.none (VQ _));have n1:o' (s+1)=none:=a5 (s+1) (by omega) (by omega) (by rw[hs];exact hi.sat.lt.none (by omega));have g6:=g8 gd (by omega) n0 n1 al;refine(gx o' W2 m' V' g6.sat).mono ?_;rintro x w' ⟨rfl,o2,m2,V2,g1,g2,g3,g5,g4⟩;refine⟨rfl,m'.waits.length,by rw[<- hi.len,gu];simp,o2,m2,V2,gf g6 g1 g4 g2 (gp _ _ _ _ g1 g2 g3 g5) (by simp)⟩
 ·rintro ev W1 W2 ⟨o',m',V',gd,a4,a5,(⟨_,_,hw,_⟩|⟨h1,_⟩)⟩ al gz
  . rw[<- hs] at al;have n0:o' s=none:=a5 s (by omega) (by omega) (by rw[hs];exact hi.sat.lt.none (VQ _));have n1:o' (s+1)=none:=a5 (s+1) (by omega) (by omega) (by rw[hs];exact hi.sat.lt.none (by omega));have g6:=g8 gd (by omega) n0 n1 al;refine(Lj g6.sat).mono ?_;rintro x w' ⟨rfl,o2,d2,g1,g2,g3⟩;have gk:=gf (full':=true) g6 g1 (ChgX.of_chg g3 NoB) rfl (hSt _ _ g6.st g2) (fun _=>g2.dead);rw[hw,hi.len] at gk;exact⟨⟨_,rfl⟩,o2,_,V',gk⟩
  . cases h1
 ·rintro er ev W1 W2 ⟨o',m',V',gd,a4,a5,(⟨_,h0,hw,hE⟩|⟨h1,_⟩)⟩ al gr
  ·rw[<- hs] at al;have n0:o' s=none:=a5 s (by omega) (by omega) (by rw[hs];exact hi.sat.lt.none (VQ _));have n1:o' (s+1)=none:=a5 (s+1) (by omega) (by omega) (by rw[hs];exact hi.sat.lt.none (by omega));have g6:=g8 gd (by omega) n0 n1 al;refine⟨o',m',V',g6.sat,g6.bok,g6.chg,g6.size,g6.fbn,.inr ⟨h0,m1,hE,fun e7=>hi.clean ?_⟩⟩;cases full with
   | true=>rfl
   | false=>exact(gr ⟨e7,rfl⟩).elim
  . cases h1
def IL (K:Law)(n:Nat)(Od:List Nat->Prop)(room:Nat)(w0:Wd)(mb:Nat)(fs:List (Int×BF))(nx:Int)(C:Nat->Prop)(B:Wd->Prop)(Q:Wd->ManD->(Nat->BF)->Nat->Prop)(E:Int->ManD->ManD->Prop)(o:Own)(w:Wd)(x:Ending)(w':Wd):Prop :=
 ∃ o' m' V',B w'/\ChgX C o o' w w' /\
  ((∃ r m1,x=.returned (.tuple #[Iv nx,Iv 0])/\SatE K n Od room w0 mb (fs++[(nx,ef V' r)]) (nx+1) w' o' m' V'/\Q w' m1 V' r/\okE (Aa m1.d) r/\Aa m'.d=Aa m1.d/\m'.d.vars=m1.d.vars/\m'.d.level=m1.d.level/\m'.d.pool.many=m1.d.pool.many/\m'.waits=m1.waits/\m'.calls=m1.calls) \/
   (∃ er m0,er≠0/\x=.returned (.tuple #[Iv 0,Iv er])/\SatE K n Od room w0 mb fs nx w' o' m' V'/\E er m0 m'/\(er=7->m0.d.dead=0)))
theorem IM (hK:AE K){B:Wd->Prop}{St:ManD->Prop}{Q:Wd->ManD->(Nat->BF)->Nat->Prop}{E:Int->ManD->ManD->Prop}
 (hB:∀ W W',B W->(∀ c,C c->W'.heap[c]?=W.heap[c]?)->B W') (hQ:∀ W W' m V r,Q W m V r->(∀ c,C c->W'.heap[c]?=W.heap[c]?)->Q W' m V r) (hSt:∀ (m:ManD) (d:Ae),St m->AJ m.d d->St { m with d:=d }) (hC0:∀ c,C c->w0.heap.size<=c) (eg:∀ args w,(callFunc gop args).run prog w=.ok (.enter gop args) w)
 (hop:OpG K n Od room w0 mb fs nx C B St gop lop Q E) {o:Own} {w:Wd} {m:ManD} {V:Nat->BF} (h:SatE K n Od room w0 mb fs nx w o m V) (hb:B w) (hC:∀ c,C c->c<w.heap.size/\o c=none) (hst:St m) (hn:nx<1099511627776) :
 Cl 143 #[Pt mb,.func (.func gop) #[] lop] w (IL K n Od room w0 mb fs nx C B Q E o w):=by
 have gr:∀ (fn:Fn) (first cap:Array Value) (w:Wd),(Instr.makeFunc fn first cap).run prog w=.ok (.func fn first cap) w:=fun _ _ _ _=>rfl
 have g5:=Hd (Q3 hB hQ hSt hC0 eg hop h hb hC hst);have gi:=Hd hK;have gm:=Hd hB;have gl:=Hd hQ;have gd:=Hd hn;have ge:=Hd hC;have gq:=Qb (w.alloc (.cells #[.func (.func gop) #[] lop] 182)) (.func gop) #[] lop;have HW:Hq ((w.alloc (.cells #[.func (.func gop) #[] lop] 182)).alloc (.cells #[Iv 0] 101)=doW gop lop w):=Hd rfl;clear h hb hK hB hQ hSt hC0 hop hC hst hn
 go_enter func143,ntmps143
 go_wp2_with fail;rw[HW.o];refine g5.o.mono ?_;rintro x w1 ⟨er,rfl,o1,m1,V1,sat,b1,g6,g7,g4,(⟨rfl,r,hr,hq,ga⟩|⟨h0,m0,hE,h7⟩)⟩
 rotate_left
 ·have HF:Hq (IL K n Od room w0 mb fs nx C B Q E o w (.returned (.tuple #[Iv 0,Iv er])) w1):=Hd ⟨o1,m1,V1,b1,g6,.inr ⟨er,m0,h0,rfl,sat,hE,h7⟩⟩;have gt:(er == 0)=false:=by simpa using h0
  clear h0 hE h7 sat b1 g6 g7 g4 g5 HW;go_wp2_with fail
  go_ret2
  exact HF.o
 have g1:=cell1 ga;obtain⟨s1,g9⟩:=sat.is;obtain⟨c0,c1,c2,c3,c4,c5,f0⟩:=cells6 g9.blk;obtain⟨ss,g8⟩:=g9.store;have gh:r<eMax:=by have:=g8.edge_lt hr;unfold eMax;omega
 have gk:Hq (Cl 198 #[Pt s1.sb,Iv r] w1.drew (Bl (.bool true) w1)):=by
  have h1:=Eu (g8.below sat.lt (Aq w1 1)) (sat.lt.mono (Aq w1 1).size) r gh;rw[KC hr] at h1;exact Hd (h1.mono fun x w' ⟨a,b⟩=>⟨a,Ec (n:=1) b⟩)
 have gj:=Hd sat;have HR:=Hd hr;have HQ:=Hd hq;have gn:=Hd b1;have gf:=Hd g6;have gu:=Hd g4;have lmb:mb<w1.heap.size:=Ag c0;have lfb:w.heap.size+1<w1.heap.size:=Ag g1;clear sat g9 g8 hr hq b1 g6 g4 g7 g5 HW;go_upto_region 9 with fail;refine Ip (fun W:Wd=>Bw w1 W) 7 (by kernel_rfl) (Aq w1 1) ?_;refine C4 0 rfl rfl (by kernel_rfl) ?_;apply Exists.intro;refine⟨fun w' hw=>?_,?_⟩
 . have q1:=(hw.cell (p:=Av mb) lmb).trans c0;have q2:=(hw.cell (p:=(Av (w.heap.size+1))) lfb).trans g1;go_simp;rfl
 simp only[Ab];refine C4 1 rfl rfl (by kernel_rfl) ?_;apply Exists.intro;refine⟨fun w' hw=>?_,?_⟩
 . have q1:=(hw.cell (p:=Av mb) lmb).trans c0;have q2:=(hw.cell (p:=(Av (w.heap.size+1))) lfb).trans g1;go_simp;rfl
 simp only[Ab];refine C4 2 rfl rfl (by kernel_rfl) ?_;apply Exists.intro;refine⟨fun w' hw=>?_,?_⟩
 . have q1:=(hw.cell (p:=Av mb) lmb).trans c0;have q2:=(hw.cell (p:=(Av (w.heap.size+1))) lfb).trans g1;go_simp;rfl
 simp only[Ab];refine C4 3 rfl rfl (by kernel_rfl) ?_;apply Exists.intro;refine⟨fun w' hw=>?_,?_⟩
 . have q1:=(hw.cell (p:=Av mb) lmb).trans c0;have q2:=(hw.cell (p:=(Av (w.heap.size+1))) lfb).trans g1;go_simp;rfl
 simp only[Ab];refine C4 4 rfl rfl (by kernel_rfl) ?_;apply Exists.intro;refine⟨fun w' hw=>?_,?_⟩
 . have q1:=(hw.cell (p:=Av mb) lmb).trans c0;have q2:=(hw.cell (p:=(Av (w.heap.size+1))) lfb).trans g1;go_simp;rfl
 simp only[Ab];refine D9 [5] (by kernel_rfl) (fun i hi hS o ho=>?_);simp only[CF] at hi;subst hi;simp only[C9] at ho;subst ho;refine⟨rfl,?_⟩;refine Dc (v:=.bool true) (R:=fun w'=>Bw w1 w') (by go_simp) gk.o ?_;rintro w2 g3;refine⟨g3,?_⟩;simp only[Ab];have gp:=(g3.cell (p:=(Av (w.heap.size+1))) lfb).trans g1;have d0:=(g3.cell (p:=Av mb) lmb).trans c0;have g0:=Hd (gj.o.below g3);refine C4 6 rfl rfl (by kernel_rfl) ?_;apply Exists.intro;refine⟨fun w' hw=>?_,?_⟩
 . have q1:=(hw.cell (p:=Av mb) lmb).trans c0;have q2:=(hw.cell (p:=(Av (w.heap.size+1))) lfb).trans g1;go_simp;rfl
 simp only[Ab];have gc:=g3;clear c0 c1 c2 c3 c4 c5 f0 g1 ga g3;refine Ge (by kernel_rfl) ?_;have HG:=Hd (I9 gi.o g0.o.is g0.o.lt g0.o.ok r HR.o (by rw[g0.o.next];exact gd.o));have HB2:=Hd gc;clear gc;go_wp2_with fail;refine HG.o.mono ?_;rintro x w3 ⟨rfl,o3,m3,hg⟩;have g2:=Hd hg;have gd:Hq (m1.next=nx):=Hd g0.o.next
 clear hg;go_wp2_with fail
 go_ret2
 have go:=g0.o.lt;have gg:∀ c,C c->w3.heap[c]?=w1.heap[c]?:=fun c hc=>by
  have h1:=(ge.o c hc).1;have h2:=gf.o.size;have h3:=HB2.o.size;exact(g2.o.chg.alien (by omega) (gf.o.none' h1 (ge.o c hc).2)).trans (HB2.o.block c (by omega))
 refine⟨o3,m3,V1,gm.o _ _ gn.o gg,(gf.o.trans (ChgX.of_below HB2.o o1 C) (fun _ _ e=>e)).trans (ChgX.of_chg g2.o.chg C) (fun _ _ e=>e),.inl ⟨r,m1,by rw[<- gd.o];rfl,g0.o.gave g2.o,gl.o _ _ _ _ _ HQ.o gg,HR.o,g2.o.nodes,g2.o.vars,g2.o.level,g2.o.many,g2.o.waits,g2.o.calls⟩⟩
section
variable {R:List PanicEntry->Wd->Prop}{m:Nat}
def PP (R:List PanicEntry->Wd->Prop)(Q:Exit->Act->Wd->Prop):Exit->Act->Wd->Prop
 | .panic c,a,w=>a.defers=[]/\R c w
 | e,a,w=>Q e a w
theorem Q4 (a:Act)(d:Option Nat)(v:Value):(a.put d v).defers=a.defers:=by cases d<;>rfl
theorem Q5 (c:List PanicEntry)(a:Act)(d:Option Nat)(v:Value)(w:Wd)(h:PP R Q (.panic c) (a.put d v) w):PP R Q (.panic c) a w:=⟨(Q4 a d v).symm.trans h.1,h.2⟩
theorem Q6 {s:Code}{a:Act}(hR:∀ c (a:Act) w,a.defers=[]->R c w->Q (.panic c) a w)(h:s.wp P (PP R Q) a w):s.wp P Q a w :=
 Code.wp_mono (fun e a w h=>by cases e<;>first|exact h|exact hR _ _ _ h.1 h.2) h
structure Dx (P:Program)(l:List Oper)(Q:Exit->Act->Wd->Prop)(R:List PanicEntry->Wd->Prop)(S:Wd->Prop)(m f:Nat)(L:Array Bool)(a:Act)(w:Wd):Prop where
 goes:Closed l.toArray L->S w->DX P l.toArray (PP R Q) S m f L a w
theorem IN {a:Act}(S:Wd->Prop)(R:List PanicEntry->Wd->Prop)(m:Nat)(hR:∀ c (a:Act) w,a.defers=[]->R c w->Q (.panic c) a w)(hm:P.follows .mixedOrders=true)(hS:S w.drew)
 (h:Dx P l Q R S m l.length (Array.replicate l.toArray.size false) a w.drew):(Code.region id l.toArray true).wp P Q a w :=
 Q6 hR (wp_region_any hm (FP _ _ _ _ (h.goes (GX _) hS)))
theorem Q7 {a:Act}(i:Nat)(o:Oper)(v:Value)(hi:l[i]?=some o)
 (hB:(Region.noSelect l.toArray&&(Region.ready .any l.toArray L).contains i&&Region.free .any l.toArray L i&&(decide (l.toArray.size<=m)||reaches l.toArray l.toArray.size i m))=true)
 (hy:∀ w,S w->YieldsIf P l.toArray S o v a) (h:Dx P l Q R S m f (L.setIfInBounds i true) (a.put o.dst v) w):Dx P l Q R S m (f+1) L a w:=by
 refine⟨fun hc hS=>?_⟩;simp only[WW] at hB;obtain⟨⟨⟨hs,hr⟩,hf⟩,hm⟩:=hB;have g1:l.toArray[i]?=some o:=by simpa using hi
 have g0:i∈Region.ready .any l.toArray L:=by simpa using hr
 exact GY g1 hs Q5 hm f L a w hc (Region.free_spec g1 hf) g0 (hy w hS) hS (h.goes (hc.set g0) hS)
theorem Cv {a:Act}(i:Nat){o:Oper}(hi:l[i]?=some o)(hg:o.guard=none)
 (hB:(Region.noSelect l.toArray&&(Region.ready .any l.toArray L).contains i&&Region.free .any l.toArray L i&&(decide (l.toArray.size<=m)||reaches l.toArray l.toArray.size i m))=true)
 (h:∃ v,(∀ w,S w->(execOp a.eval o).run P w=.ok (.value v) w)/\Dx P l Q R S m f (L.setIfInBounds i true) (a.put o.dst v) w):Dx P l Q R S m (f+1) L a w:=by
 obtain⟨v,h1,h2⟩:=h;exact Q7 i o v hi hB (fun w _=>.inl ⟨by simp[Region.wanted,hg],h1⟩) h2
theorem De {a:Act}(is:List Nat)(hr:(decide (Region.ready .any l.toArray L=is) && !is.isEmpty)=true)
 (h:∀ i∈is,S w->∀ o,l[i]?=some o->Region.wanted o (yielded l.toArray a.tmps)=true/\o.wp P a w (fun a' w'=>S w'/\Dx P l Q R S m f (L.setIfInBounds i true) a' w') (PP R Q)):Dx P l Q R S m (f+1) L a w:=by
 refine⟨fun hc hS=>?_⟩;simp only[WW,Xh] at hr;obtain⟨hr,g1⟩:=hr;refine⟨fun h0=>(by rw[h0] at hr;subst hr;simp at g1),fun i hi=>?_⟩;have g2:i∈is:=by rw[<- hr];exact hi
 obtain⟨_,o,ho,_⟩:=mem_ready.1 hi;obtain⟨hw,g0⟩:=h i g2 hS o (by simpa using ho);unfold wpOp;rw[ho];simp only[hw,Xb];left;refine Oper.wp_mono ?_ g0;intro a' w' ⟨h1,h2⟩;exact⟨.inr h1,h2.goes (hc.set hi) h1⟩
theorem IP {a:Act}(hr:(Region.ready .any l.toArray L).isEmpty=true)(h:Q .normal a w):Dx P l Q R S m 0 L a w :=
 ⟨fun _ _=>⟨by simpa [YA] using hr,h⟩⟩
end
theorem Gw {o:Oper}{a:Act}{K:Act->Wd->Prop}{f:FuncId}{args:Array Value}{R:Value->Wd->Prop}{R2:List PanicEntry->Wd->Prop}(he:(execOp a.eval o).run P w=.ok (.enter f args) w)
 (hc:Calls P f args w fun e w'=>(∃ v,e=.returned v/\R v w')\/(∃ ch,e=.panicked ch/\R2 ch w')) (h:∀ v w',R v w'->K (a.put o.dst v) w') (h2:∀ ch w',R2 ch w'->Q (.panic ch) a w'):o.wp P a w K Q:=by
 unfold Oper.wp;simp only[he,Oper.upon];refine hc.mono fun e w' hh=>?_
 rcases hh with ⟨v,h1,h3⟩|⟨ch,h1,h3⟩
 . subst h1;exact h v w' h3
 . subst h1;exact h2 ch w' h3
abbrev C3 (bf bg bh:Nat):Nat->Prop:=fun k=>k=bf\/k=bg\/k=bh
structure B3 (bf bg bh:Nat)(kf kg kh:Int)(W:Wd):Prop where
 f:W.cell? (Av bf)=some (Iv kf)
 g:W.cell? (Av bg)=some (Iv kg)
 h:W.cell? (Av bh)=some (Iv kh)
theorem B3.keep {bf bg bh:Nat}{kf kg kh:Int}(W W':Wd)(h:B3 bf bg bh kf kg kh W)(hk:∀ c,C3 bf bg bh c->W'.heap[c]?=W.heap[c]?):B3 bf bg bh kf kg kh W' :=
 ⟨Co h.f (hk _ (.inl rfl)),Co h.g (hk _ (.inr (.inl rfl))),Co h.h (hk _ (.inr (.inr rfl)))⟩
def AX (F G H:BF):BF:=fun ρ=>iteB (F ρ) (G ρ) (H ρ)
def SatX (K:Law)(n:Nat)(Od:List Nat->Prop)(room:Nat)(w0:Wd)(mb:Nat)(fs:List (Int×BF))(nx:Int)(m:ManD):Prop:=∃ W o V,SatE K n Od room w0 mb fs nx W o m V
def Ed (lim:Option Nat)(k:Nat)(m:ManD):Prop:=∀ M,lim=some M->m.d.pool.many<=M+k
def QF (ws0:List Ev)(lim:Option Nat)(k:Nat)(F:BF)(_:Wd)(m':ManD)(V':Nat->BF)(r:Nat):Prop:=ef V' r=F/\m'.waits <:+ ws0/\Ed lim k m'
def EF (A:ManD->Prop)(k:Nat)(ws0:List Ev)(er:Int)(m m':ManD):Prop:=er=7/\A m/\m'.d.pool.many=m'.d.pool.room/\m'.d.pool.many+1<=m.d.pool.many+k/\m'.waits <:+ ws0
abbrev Ee (ws0:List Ev)(m:ManD):Prop:=m.waits <:+ ws0
abbrev StL (ws0:List Ev)(lim:Option Nat)(m:ManD):Prop:=Ee ws0 m/\Ed lim 0 m
def EL (A:ManD->Prop)(k:Nat)(ws0:List Ev)(lim:Option Nat)(er:Int)(m m':ManD):Prop:=lim=none/\EF A k ws0 er m m'
def Ef (ws0:List Ev)(lim:Option Nat)(k room:Nat):Prop:=∀ M,lim=some M->ws0=[]/\M+k<=room
theorem IQ (h:Ef ws0 lim k room)(h1:Ed lim 0 m)(h2:m'.d.pool.room+1<=m.d.pool.many+k)(h3:m'.d.pool.room=room):lim=none:=by
 cases lim with
 | none=>rfl
 | some M =>
   have:=(h M rfl).2;have:=h1 M rfl;omega
theorem IR (h:Ef ws0 lim k room)(h1:ev::ws <:+ ws0):Ed lim k' m:=fun M e=>by
 have:=(h M e).1;subst this;simp at h1
abbrev WM:=@List.mem_cons_self
theorem Q8 (hK:AE K)(ws0:List Ev)(lim:Option Nat)(hlim:Ef ws0 lim (2^n-1) room)(hhap:∀ ev∈ws0,HapG K n Od room w0 mb fs nx ev)(bf bg bh:Nat){kf kg kh:Int}(hf:(kf,F)∈fs)(hg:(kg,G)∈fs)(hh:(kh,H)∈fs) :
 OpG K n Od room w0 mb fs nx (C3 bf bg bh) (B3 bf bg bh kf kg kh) (StL ws0 lim) 146 #[Pt bf,Pt bg,Pt bh] (QF ws0 lim (2^n-1) (AX F G H)) (EL (SatX K n Od room w0 mb fs nx) (2^n-1) ws0 lim):=by
 intro o W m V xb g0 hB hC g1 g7 hnx;obtain⟨f,hf,ef1⟩:=g0.find hf;obtain⟨g,hg,ef2⟩:=g0.find hg;obtain⟨h,hh,ef3⟩:=g0.find hh;have hk:=g0.ok;have g8:=g0.lt;have gd:=hk.store;obtain⟨s,hm⟩:=g0.is;have g2:Bw W W.drew:=Aq W 1;have g6:=hm.below g8 g2;have ga:=g8.mono g2.size;have g5:Bs o W.drew xb mb:=⟨(g2.cell (p:=Av xb) (Ag g7.cell)).trans g7.cell,g7.own⟩;have df:=(g2.cell (p:=Av bf) (Ag hB.f)).trans hB.f;have dg:=(g2.cell (p:=Av bg) (Ag hB.g)).trans hB.g;have dh:=(g2.cell (p:=Av bh) (Ag hB.h)).trans hB.h;have of:=(hC bf (.inl rfl)).2;have og:=(hC bg (.inr (.inl rfl))).2;have oh:=(hC bh (.inr (.inr rfl))).2;have gj:=Hd (Fg ⟨s,g6⟩ g5 hk.handles.nodup hf);have gi:=Hd (Fg ⟨s,g6⟩ g5 hk.handles.nodup hg);have gh:=Hd (Fg ⟨s,g6⟩ g5 hk.handles.nodup hh);have ge:=Hd (KQ hK n o W.drew xb mb m V f g h ⟨s,g6⟩ ga g5 gd (hk.handles.ok _ hf) (hk.handles.ok _ hg) (hk.handles.ok _ hh) (by rw[g0.vars];omega));obtain⟨P,hP⟩:∃ P:Ending->Wd->Prop,P=fun e w'=>∃ (o':Own) (m':ManD) (V':Nat->BF),CU (C3 bf bg bh) K o W mb m V o' w' m' V'/\B3 bf bg bh kf kg kh w' /\
  ((∃ r:Nat,e=.returned (Iv r)/\okE (Aa m'.d) r/\QF ws0 lim (2^n-1) (AX F G H) w' m' V' r) \/
   (∃ er:Int,e=AQ er false ev0/\er≠0/\m'.waits=m.waits/\StL ws0 lim m'/\EL (SatX K n Od room w0 mb fs nx) (2^n-1) ws0 lim er m m') \/
   (∃ ev,e=AQ 0 true ev/\m.waits=ev::m'.waits/\StE K n Od room w0 mb fs nx (StL ws0 lim) m'/\HapG K n Od room w0 mb fs nx ev)):=⟨_,rfl⟩
 have gf:Hq (∀ e w',KO K n o W.drew mb m V f g h e w'->(∃ v,e=.returned v/\(w'.cell? (Av bf)=some (Iv kf)/\w'.cell? (Av bg)=some (Iv kg)/\w'.cell? (Av bh)=some (Iv kh))/\P (.returned v) w')\/(∃ ch,e=.panicked ch/\P (.panicked ch) w')):=by
  refine Hd ?_;subst hP;rintro e w' ⟨o',m',V',st,g9⟩;have g3:B3 bf bg bh kf kg kh w':=⟨st.chg.cell df of,st.chg.cell dg og,st.chg.cell dh oh⟩;have stx:CU (C3 bf bg bh) K o W mb m V o' w' m' V':=Step.toX (K:=K) ⟨st.is,st.lt,(Chg.of_below g2 _ o).trans st.chg,st.ok,st.ext,st.hs,st.next⟩ _;have hp2:0<2^n:=Xo (by omega);rcases g9 with ⟨r,rfl,h1,h2,h3⟩|⟨rfl,h2,h3,h4⟩|⟨ev,rfl,h1⟩
  . refine .inl ⟨_,rfl,⟨g3.f,g3.g,g3.h⟩,o',m',V',stx,g3,.inl ⟨r,rfl,h1.okR,?_,by rw[h2];exact g1.1,fun M e=>by have:=g1.2 M e;omega⟩⟩;have e1:=(st.ext.ef (hk.handles.ok _ hf)).trans ef1;have e2:=(st.ext.ef (hk.handles.ok _ hg)).trans ef2;have e3:=(st.ext.ef (hk.handles.ok _ hh)).trans ef3;dsimp only at e1 e2 e3;funext ρ;rw[h1.val ρ,e1,e2,e3];rfl
  . have gc:lim=none:=IQ hlim g1.2 (by rw[<- h3];omega) (by rw[st.ext.room];exact g0.room);exact .inr ⟨_,rfl,o',m',V',stx,g3,.inr (.inl ⟨7,rfl,by omega,h2,⟨by unfold Ee;rw[h2];exact g1.1,by subst gc;exact fun M e=>by cases e⟩,gc,rfl,⟨_,_,_,g0⟩,h3,by omega,by rw[h2];exact g1.1⟩)⟩
  ·refine .inr ⟨_,rfl,o',m',V',stx,g3,.inr (.inr ⟨ev,rfl,h1,?_,?_⟩)⟩
   all_goals
    have g4:m.waits <:+ ws0:=g1.1;rw[h1] at g4
    first|exact fun _ _ _ _ _ e _ _=>⟨by unfold Ee;rw[e];exact(List.suffix_cons ev m'.waits).trans g4,IR hlim g4⟩|exact hhap ev (g4.subset (WM ..))
 rw[<- hP];clear hm gd hk g7 hB hC g1 hnx hhap hlim hK g8 hf hg hh of og oh g6 ga g5 g2 g0 hP ef1 ef2 ef3
 go_enter func146,ntmps146
 go_upto_region 1 with fail;refine IN (fun W:Wd=>W.cell? (Av bf)=some (Iv kf)/\W.cell? (Av bg)=some (Iv kg)/\W.cell? (Av bh)=some (Iv kh)) (fun ch w'=>P (.panicked ch) w') 12 (fun c a w hd h=>⟨hd,h⟩) (by kernel_rfl) ⟨df,dg,dh⟩ ?_;refine Cv 0 rfl rfl (by kernel_rfl) ?_;apply Exists.intro;refine⟨fun w' hw=>?_,?_⟩
 . obtain⟨q1,q2,q3⟩:=hw;go_simp;rfl
 simp only[Ab];refine Cv 1 rfl rfl (by kernel_rfl) ?_;apply Exists.intro;refine⟨fun w' hw=>?_,?_⟩
 . obtain⟨q1,q2,q3⟩:=hw;go_simp;rfl
 simp only[Ab];refine Cv 2 rfl rfl (by kernel_rfl) ?_;apply Exists.intro;refine⟨fun w' hw=>?_,?_⟩
 . obtain⟨q1,q2,q3⟩:=hw;go_simp;rfl
 simp only[Ab];refine Cv 4 rfl rfl (by kernel_rfl) ?_;apply Exists.intro;refine⟨fun w' hw=>?_,?_⟩
 . obtain⟨q1,q2,q3⟩:=hw;go_simp;rfl
 simp only[Ab];refine Cv 5 rfl rfl (by kernel_rfl) ?_;apply Exists.intro;refine⟨fun w' hw=>?_,?_⟩
 . obtain⟨q1,q2,q3⟩:=hw;go_simp;rfl
 simp only[Ab];refine Cv 7 rfl rfl (by kernel_rfl) ?_;apply Exists.intro;refine⟨fun w' hw=>?_,?_⟩
 . obtain⟨q1,q2,q3⟩:=hw;go_simp;rfl
 simp only[Ab];refine Cv 8 rfl rfl (by kernel_rfl) ?_;apply Exists.intro;refine⟨fun w' hw=>?_,?_⟩
 . obtain⟨q1,q2,q3⟩:=hw;go_simp;rfl
 simp only[Ab];refine De [3] (by kernel_rfl) (fun i hi hS o ho=>?_);simp only[CF] at hi;subst hi;simp only[C9] at ho;subst ho;refine⟨rfl,?_⟩;refine Dc (v:=Iv (f:Nat)) (R:=fun w'=>W.drew=w') (by go_simp) gj.o ?_;rintro w' rfl;refine⟨⟨df,dg,dh⟩,?_⟩;simp only[Ab];refine De [6] (by kernel_rfl) (fun i hi hS o ho=>?_);simp only[CF] at hi;subst hi;simp only[C9] at ho;subst ho;refine⟨rfl,?_⟩;refine Dc (v:=Iv (g:Nat)) (R:=fun w'=>W.drew=w') (by go_simp) gi.o ?_;rintro w' rfl;refine⟨⟨df,dg,dh⟩,?_⟩;simp only[Ab];refine De [9] (by kernel_rfl) (fun i hi hS o ho=>?_);simp only[CF] at hi;subst hi;simp only[C9] at ho;subst ho;refine⟨rfl,?_⟩;refine Dc (v:=Iv (h:Nat)) (R:=fun w'=>W.drew=w') (by go_simp) gh.o ?_;rintro w' rfl;refine⟨⟨df,dg,dh⟩,?_⟩;simp only[Ab];refine De [10] (by kernel_rfl) (fun i hi hS o ho=>?_);simp only[CF] at hi;subst hi;simp only[C9] at ho;subst ho;refine⟨rfl,?_⟩;refine Gw (R:=fun v w'=>(w'.cell? (Av bf)=some (Iv kf)/\w'.cell? (Av bg)=some (Iv kg)/\w'.cell? (Av bh)=some (Iv kh))/\P (.returned v) w') (R2:=fun ch w'=>P (.panicked ch) w') (by go_simp) (ge.o.mono gf.o) ?_ ?_
 ·rintro v w' ⟨hS,g1⟩;refine⟨hS,?_⟩;have gg:=Hd g1;clear g1;simp only[Ab];refine Cv 11 rfl rfl (by kernel_rfl) ?_;apply Exists.intro;refine⟨fun w' hw=>?_,?_⟩
  . go_simp;rfl
  simp only[Ab];refine IP (by kernel_rfl) ?_;clear hS df dg dh;go_wp2_with fail;exact gg.o
 . intro ch w' g1;exact⟨rfl,g1⟩
abbrev C1 (b:Nat):Nat->Prop:=fun k=>k=b
structure B1 (b:Nat)(v:Int)(W:Wd):Prop where
 c:W.cell? (Av b)=some (Iv v)
theorem B1.keep {v:Int}(W W':Wd)(h:B1 b v W)(hk:∀ c,C1 b c->W'.heap[c]?=W.heap[c]?):B1 b v W':=⟨Co h.c (hk _ rfl)⟩
theorem Q9 (hK:AE K)(ws0:List Ev)(lim:Option Nat)(hlim:Ef ws0 lim 1 room)(hhap:∀ ev∈ws0,HapG K n Od room w0 mb fs nx ev)(v vb:Nat)(hv:v<n) :
 OpG K n Od room w0 mb fs nx (C1 vb) (B1 vb v) (StL ws0 lim) 144 #[Pt vb] (QF ws0 lim 1 (varF v)) (EL (SatX K n Od room w0 mb fs nx) 1 ws0 lim):=by
 intro o W m V xb g1 hB hC g0 hx hnx;have hk:=g1.ok;have g9:=g1.lt;have g2:=hk.store;have o0:okE (Aa m.d) 0:=.inl rfl;have o1:okE (Aa m.d) 1:=.inl rfl;have g4:lvE m.d.vars.length (levN m.d) (Aa m.d) 0=m.d.vars.length:=I3 g2 rfl;have gd:lvE m.d.vars.length (levN m.d) (Aa m.d) 1=m.d.vars.length:=I3 g2 rfl;have g8:v<m.d.vars.length:=by rw[g1.vars];exact hv
 have gc:=g2.dag.lt v g8;have gf:=Hd (KN hK g1.is g9 hx g2 v 1 0 o1 o0);have cvb:=hB.c;have ob:=(hC vb rfl).2;obtain⟨P,hP⟩:∃ P:Ending->Wd->Prop,P=fun e w'=>∃ (o':Own) (m':ManD) (V':Nat->BF),CU (C1 vb) K o W mb m V o' w' m' V'/\B1 vb v w' /\
  ((∃ r:Nat,e=.returned (Iv r)/\okE (Aa m'.d) r/\QF ws0 lim 1 (varF v) w' m' V' r) \/
   (∃ er:Int,e=AQ er false ev0/\er≠0/\m'.waits=m.waits/\StL ws0 lim m'/\EL (SatX K n Od room w0 mb fs nx) 1 ws0 lim er m m') \/
   (∃ ev,e=AQ 0 true ev/\m.waits=ev::m'.waits/\StE K n Od room w0 mb fs nx (StL ws0 lim) m'/\HapG K n Od room w0 mb fs nx ev)):=⟨_,rfl⟩
 have ga:Hq (∀ e w',Gi K o W mb m V v 1 0 e w'->(∃ r:Nat,e=.returned (Iv r)/\P (.returned (Iv r)) w')\/(∃ er evt ev,e=AQ er evt ev/\P (AQ er evt ev) w')):=by
  refine Hd ?_;subst hP;rintro e w' ⟨o',m',V',st,g7⟩;have g5:B1 vb v w':=⟨st.chg.cell cvb ob⟩;have stx:CU (C1 vb) K o W mb m V o' w' m' V':=st.toX _;rcases g7 with ⟨ev,h1,_,_,_,_,rfl⟩|⟨h1,_,_,(⟨er,ge,hd,_,rfl⟩|⟨_,_,r,rfl,h2,h3,_,h5⟩)⟩
  ·refine .inr ⟨0,true,ev,rfl,o',m',V',stx,g5,.inr (.inr ⟨ev,rfl,h1,?_,?_⟩)⟩
   all_goals
    have g3:m.waits <:+ ws0:=g0.1;rw[h1] at g3
    first|exact fun _ _ _ _ _ e _ _=>⟨by unfold Ee;rw[e];exact(List.suffix_cons ev m'.waits).trans g3,IR hlim g3⟩|exact hhap ev (g3.subset (WM ..))
  ·refine .inr ⟨er,false,ev0,rfl,o',m',V',stx,g5,.inr (.inl ?_)⟩;rcases ge with ⟨_,h⟩|⟨_,_,_,h⟩|⟨rfl,h⟩
   . exact(h ⟨by omega,by omega⟩).elim
   . simp only[Int.toNat_natCast] at h;omega
   . have g4:lim=none:=IQ (m':=m') hlim g0.2 (by rw[hd];omega) (by rw[st.ext.room];exact g1.room);exact⟨7,rfl,by omega,h1,⟨by unfold Ee;rw[h1];exact g0.1,by subst g4;exact fun M e=>by cases e⟩,g4,rfl,⟨_,_,_,g1⟩,by rw[hd];exact h,by rw[hd];omega,by rw[h1];exact g0.1⟩
  . refine .inl ⟨r,rfl,o',m',V',stx,g5,.inl ⟨r,rfl,h2,?_,by rw[h1];exact g0.1,fun M e=>by have:=g0.2 M e;omega⟩⟩;rw[h3];funext ρ;have a0:=E1 g2.dag.one ρ;have a1:=E2 g2.dag.one ρ;simp only[iteF,varF,Int.toNat_natCast,a0,a1];cases ρ v<;>rfl
 rw[<- hP];clear g2 o0 o1 g4 gd gc g8 hk hx hC hK hv g9 hB hnx g0 hP ob g1 hlim
 go_enter func144,ntmps144
 go_wp2_with fail;refine gf.o.mono ?_;intro e w' hp;rcases ga.o e w' hp with ⟨r,rfl,g0⟩|⟨er,evt,ev,rfl,g0⟩
 . have g6:=Hd g0;clear hp g0;go_wp2_with fail;exact g6.o
 . have g6:=Hd g0;clear hp g0;unfold AQ;go_wp2_with fail;exact⟨rfl,g6.o⟩
def DJ (K:Law)(n:Nat)(Od:List Nat->Prop)(room:Nat)(w0:Wd)(mb:Nat)(fs:List (Int×BF))(nx:Int)(ws0:List Ev)(lim:Option Nat)(k:Nat)(F:BF)(o:Own)(w:Wd)(x:Ending)(w':Wd):Prop :=
 ∃ o' m' V',ChgX NoB o o' w w'/\m'.waits <:+ ws0/\((x=.returned (.tuple #[Iv nx,Iv 0])/\Ed lim k m'/\SatE K n Od room w0 mb (fs++[(nx,F)]) (nx+1) w' o' m' V') \/
  (x=.returned (.tuple #[Iv 0,Iv 7])/\lim=none/\SatE K n Od room w0 mb fs nx w' o' m' V'/\∃ m0,SatX K n Od room w0 mb fs nx m0/\m0.d.dead=0/\room+1<=m0.d.pool.many+k))
theorem StL.coll (m:ManD)(d:Ae)(h:StL ws0 lim m)(r:AJ m.d d):StL ws0 lim { m with d:=d }:=⟨h.1,fun M e=>by have:=h.2 M e;have:=r.many;show d.pool.many<=M+0;omega⟩
theorem Lk {o:Own}{B:Wd->Prop}{x:Ending}(hb:Bw w w1)(hC:∀ c,C c->w.heap.size<=c)
 (h:IL K n Od room w0 mb fs nx C B (QF ws0 lim k F) (EL (SatX K n Od room w0 mb fs nx) k ws0 lim) o w1 x w'):DJ K n Od room w0 mb fs nx ws0 lim k F o w x w':=by
 obtain⟨o',m',V',_,hc,g0⟩:=h;have g1:ChgX NoB o o' w w':=(ChgX.of_below hb o NoB).trans hc (fun k hk e=>by have:=hC k e;omega);rcases g0 with ⟨r,m1,rfl,hs,⟨q1,q2,q4⟩,_,_,_,_,q5,q3,_⟩|⟨er,m0,_,rfl,hs,⟨g3,rfl,g2,h1,h2,h3⟩,h7⟩
 . exact⟨o',m',V',g1,by rw[q3];exact q2,.inl ⟨rfl,fun M e=>by rw[q5];exact q4 M e,by rw[<- q1];exact hs⟩⟩
 . refine⟨o',m',V',g1,h3,.inr ⟨rfl,g3,hs,m0,g2,h7 rfl,?_⟩⟩;have:=hs.room;omega
theorem QA (hK:AE K){o:Own}(h:SatE K n Od room w0 mb fs nx w o m V)(ws0:List Ev)(hws:m.waits <:+ ws0)(lim:Option Nat)(hlim:Ef ws0 lim (2^n-1) room)(hl0:Ed lim 0 m)(hhap:∀ ev∈ws0,HapG K n Od room w0 mb fs nx ev)(hn:nx<1099511627776)
 {kf kg kh:Int} {F G H:BF} (hf:(kf,F)∈fs) (hg:(kg,G)∈fs) (hh:(kh,H)∈fs) :
 Cl 94 #[Pt mb,Iv kf,Iv kg,Iv kh] w (DJ K n Od room w0 mb fs nx ws0 lim (2^n-1) (AX F G H) o w):=by
 have g1:∀ (fn:Fn) (first cap:Array Value) (w:Wd),(Instr.makeFunc fn first cap).run prog w=.ok (.func fn first cap) w:=fun _ _ _ _=>rfl
 obtain⟨hb,cf,cg,ch⟩:=Qf kf kg kh w;have hw0:=h.chg.size;have hz:(box3 kf kg kh w).heap.size=w.heap.size+3:=by simp[box3]
 have g0:Hq (Cl 143 #[Pt mb,.func (.func 146) #[] #[Pt w.heap.size,Pt (w.heap.size+1),Pt (w.heap.size+1+1)]] (box3 kf kg kh w) (DJ K n Od room w0 mb fs nx ws0 lim (2^n-1) (AX F G H) o w)):=by
  refine Hd ?_;refine(IM hK B3.keep (fun _ _ _ _ _ h _=>h) StL.coll ?_ Qe (Q8 hK ws0 lim hlim hhap w.heap.size (w.heap.size+1) (w.heap.size+1+1) hf hg hh) (h.below hb) ⟨cf,cg,ch⟩ ?_ ⟨hws,hl0⟩ hn).mono fun x w' hp=>Lk hb ?_ hp
  . rintro c (rfl|rfl|rfl)<;>omega
  . rintro c (rfl|rfl|rfl)<;>exact⟨by omega,h.lt.none (by omega)⟩
  . rintro c (rfl|rfl|rfl)<;>omega
 have HW:Hq (_=box3 kf kg kh w):=Hd (show ((w.alloc (.cells #[Iv kf] 3)).alloc (.cells #[Iv kg] 3)).alloc (.cells #[Iv kh] 3)=box3 kf kg kh w from rfl);clear h hK hws hhap hn hf hg hh hb cf cg ch hw0 hz hlim hl0;obtain⟨P,hP⟩:=Ex (DJ K n Od room w0 mb fs nx ws0 lim (2^n-1) (AX F G H) o w);rw[<- hP] at g0 ⊢;have HT:Hq (∀ x w',P x w'->∃ a b,x=.returned (.tuple #[Iv a,Iv b])):=by
  refine Hd ?_;subst hP;rintro x w' ⟨_,_,_,_,_,(⟨rfl,_⟩|⟨rfl,_⟩)⟩
  . exact⟨_,_,rfl⟩
  . exact⟨_,_,rfl⟩
 clear hP
 go_enter func94,ntmps94
 go_wp2_with fail;rw[HW.o];refine g0.o.mono ?_;intro x w' hd;obtain⟨a,b,rfl⟩:=HT.o x w' hd;have HD:=Hd hd;clear hd;go_wp2_with fail;exact HD.o
theorem Ll (hK:AE K){o:Own}(h:SatE K n Od room w0 mb fs nx w o m V)(ws0:List Ev)(hws:m.waits <:+ ws0)(lim:Option Nat)(hlim:Ef ws0 lim 1 room)(hl0:Ed lim 0 m)(hhap:∀ ev∈ws0,HapG K n Od room w0 mb fs nx ev)(hn:nx<1099511627776)
 (v:Nat) (hv:v<n) :
 Cl 93 #[Pt mb,Iv v] w (DJ K n Od room w0 mb fs nx ws0 lim 1 (varF v) o w):=by
 have gc:∀ (fn:Fn) (first cap:Array Value) (w:Wd),(Instr.makeFunc fn first cap).run prog w=.ok (.func fn first cap) w:=fun _ _ _ _=>rfl
 obtain⟨w1,g0⟩:=Ex (w.alloc (.cells #[Iv (v:Nat)] 3));have g1:Bw w w1:=by rw[g0];exact Af w _
 have g5:w1.heap[w.heap.size]?=some (.cells #[Iv (v:Nat)] 3 (0,0)):=by rw[g0];exact VT w _
 have cvb:w1.cell? (Av w.heap.size)=some (Iv (v:Nat)):=cell1 g5;have g8:w1.heap.size=w.heap.size+1:=by rw[g0];simp
 have hw0:=h.chg.size;obtain⟨s,g6⟩:=h.is;have g3:=g6.below h.lt g1;obtain⟨c0,c1,c2,c3,c4,c5,f0⟩:=cells6 g3.blk;obtain⟨ss,g2⟩:=g3.store;have g7:CL m.d v=(levN m.d v:Nat):=KL (by rw[g2.len,h.vars];exact hv);have g9:Hq (∀ n,Cl 142 #[Pt s.sb,Iv (v:Nat)] (w1.drewN n) fun x w'=>x=.returned (Iv (levN m.d v:Nat))/\w1.drewN n=w'):=by
  refine Hd fun n=>?_
  have:=I1 (g2.below (h.lt.mono g1.size) (Aq w1 n)) v (by rw[g2.len];have:=h.ok.store.small;omega);rw[g7] at this;exact this
 obtain⟨P,hP⟩:=Ex (DJ K n Od room w0 mb fs nx ws0 lim 1 (varF v) o w);have ga:Hq (∀ q,Cl 143 #[Pt mb,.func (.func 144) #[] #[Pt w.heap.size]] (w1.drewN q) P):=by
  refine Hd fun q=>?_
  rw[hP];have g4:Bw w (w1.drewN q):=g1.trans ((Aq w1 q).mono g1.size);refine(IM hK B1.keep (fun _ _ _ _ _ h _=>h) StL.coll ?_ Qc (Q9 hK ws0 lim hlim hhap v w.heap.size hv) (h.below g4) ⟨cvb⟩ ?_ ⟨hws,hl0⟩ hn).mono fun x w' hp=>Lk g4 ?_ hp
  . rintro c rfl;omega
  . rintro c rfl;exact⟨by have:=g4.size;show w.heap.size<w1.heap.size;omega,h.lt.none (by omega)⟩
  . rintro c rfl;omega
 have HT:Hq (∀ x w',P x w'->∃ a b,x=.returned (.tuple #[Iv a,Iv b])):=by
  refine Hd ?_;rw[hP];rintro x w' ⟨_,_,_,_,_,(⟨rfl,_⟩|⟨rfl,_⟩)⟩
  . exact⟨_,_,rfl⟩
  . exact⟨_,_,rfl⟩
 rw[<- hP];have HW:Hq (w.alloc (.cells #[Iv (v:Nat)] 3)=w1):=Hd g0.symm;clear g3 g2 g7 g6 g1 g5 g0 hK hn hv hws hhap h hw0 g8 hP hlim hl0
 go_enter func93,ntmps93
 go_upto_region 3 with fail;rw[HW.o]
 go_quiet (with_reducible exact CK (g9.o _))
 go_wp2_with fail;refine(ga.o _).mono ?_;intro x w' hd;obtain⟨a,b,rfl⟩:=HT.o x w' hd;have HD:=Hd hd;clear hd;go_wp2_with fail;exact HD.o
section
variable {o:Own}
theorem SatE.eval (h:SatE K n Od room w0 mb fs nx w o m V){k:Int}(hk:(k,F)∈fs)(hbs:Bb w v bs) :
 Cl 125 #[Pt mb,Iv k,v] w (Bl (.tuple #[.bool (F (AF bs)),Iv 0]) w):=by
 obtain⟨f,hf,e1⟩:=h.find hk;obtain⟨a,c,rfl,h1,_⟩:=hbs;rw[<- e1];exact Qk h.is h.lt h.ok hf a c bs h1
theorem SatE.vars_any (h:SatE K n Od room w0 mb fs nx w o m V):Cl 62 #[Pt mb] w (Sm (Iv n) w):=by
 have:=KV h.is;rw[h.vars] at this;exact this
theorem SatE.handles_any (h:SatE K n Od room w0 mb fs nx w o m V):Cl 73 #[Pt mb] w (Sm (Iv (fs.length:Nat)) w):=by
 have e:fs.length=m.hs.length:=by rw[<- h.hs,Wn]
 rw[e];exact Go.Proofs.YtkidaindpahefaaGreat.VN h.is
theorem QB (h:SatE K n Od room w0 mb fs nx w o m V)(q:Nat)(hq:q<=1000000) :
 Cl 29 #[Pt mb,Iv q] w (Sm (.bool (decide (fs.length=q+2))) w):=by
 have HH:=Hd h.handles_any;have HF:Hq ((((fs.length:Nat):Int) == (q:Int)+2)=decide (fs.length=q+2)):=by
  refine Hd ?_
  show (((fs.length:Nat):Int) == (q:Int)+2)=_
  by_cases e:fs.length=q+2
  . rw[WG e,Yi];omega
  . rw[Xe e,Xu];omega
 clear h
 go_enter func29,ntmps29
 go_wp2_with fail;refine HH.o.mono ?_;rintro x w' ⟨rfl,rfl⟩;go_wp2_with fail;go_ret;exact⟨by rw[<- HF.o];rfl,rfl⟩
theorem QC (i:Nat)(hi:i<=1048576):(IntKind.u64).wrap (i:Int)=(i:Int):=by
 simp[IntKind.wrap,IntKind.bits];omega
end
structure Gx (P:Nat->Prop)(w:Wd)(a:Option Addr)(us:List (List Bool)):Prop where
 len:us.length<=1000000
 cells:∀ k,k<us.length->∃ b off v,a=some (Aw b off)/\w.cell? (Aw b (off+k))=some v/\Bb w v (us.getD k [])/\∀ g,v.ownBlock=some g->P g
theorem Gx.below {P:Nat->Prop}{w w':Wd}{a:Option Addr}{us:List (List Bool)}(h:Gx P w a us)(hb:Bw w w'):Gx P w' a us :=
 ⟨h.len,fun k hk=>by
  obtain⟨b,off,v,rfl,hc,hv,hp⟩:=h.cells k hk;exact⟨b,off,v,rfl,(Cq hb hc),hv.below hb,hp⟩⟩
structure LawR (P:Nat->Prop)(n:Nat)(fs:List (Int×BF))(w:Wd)(vl vx:Value)(hs:List (Int×BF)):Prop where
 sub:∀ p∈hs,p∈fs
 small:hs.length<=1000
 l:∃ a c,vl=.slice a hs.length c/\Am w a (hs.map Prod.fst)
 x:∃ a c,vx=.slice a hs.length c/\Gx P w a (hs.map fun p=>tabB n p.2)
theorem LawR.below {P:Nat->Prop}{n:Nat}{fs:List (Int×BF)}{w w':Wd}{vl vx:Value}{hs:List (Int×BF)}(h:LawR P n fs w vl vx hs)(hb:Bw w w'):LawR P n fs w' vl vx hs:=by
 obtain⟨a,c,h1,h2⟩:=h.l;obtain⟨a',c',h3,h4⟩:=h.x;exact⟨h.sub,h.small,⟨a,c,h1,h2.below hb⟩,⟨a',c',h3,h4.below hb⟩⟩
theorem QD (n:Nat)(b:Bool):List.replicate (2^n) b=tabB n fun _=>b:=IC (by simp) fun i hi=>by simp[List.getD,hi]
section
variable {o:Own}
theorem QE (h:SatE K n Od room w0 mb fs nx w o m V)(hn:n<=16){k:Int}(hk:(k,F)∈fs)(hbs:Bb w v bs) :
 Cl 72 #[Pt mb,Iv k,v] w fun x w'=>∃ b,x=.returned (.bool b)/\(b=true↔bs=tabB n F)/\Bw w w':=by
 have HV:=Hd h.vars_any;have HC:=Hd (Qm false n hn w);have gl:Hq (∀ W,Bw w W->∀ u cs,Bb W u cs->Cl 125 #[Pt mb,Iv k,u] W (Bl (.tuple #[.bool (F (AF cs)),Iv 0]) W)) :=
  Hd fun W hb u cs hu=>(h.below hb).eval hk hu
 have gk:Hq (∀ i,i<=1048576->∀ W,Cl 126 #[.int .u64 (i:Nat),Iv n] W fun x w'=>∃ v,x=.returned v/\OwnB w' W.heap.size v (AO i n)/\Bw W w'):=Hd fun i hi W=>Qo i n hi hn W
 obtain⟨a,c,rfl,gd,gh⟩:=hbs;have gm:=Hd gd;have gp:=gd.len;have hp:=Fj (show n<=20 by omega);obtain⟨L,hL⟩:=Ex (2^n);have HL:=Hd hL;rw[<- hL] at hp HC;clear h hL gd gh
 go_enter func72,ntmps72
 go_wp2_with fail;refine HV.o.mono ?_;rintro x w' ⟨rfl,rfl⟩;go_wp2_with fail;refine HC.o.mono ?_;rintro x w1 ⟨g,rfl,_,g5⟩
 by_cases g1:bs.length=L
 ·have gi:((bs.length:Int) != (L:Int))=false:=by rw[g1];simp
  have gf:=Hd g5;clear g5 HC HV;go_wp2_with fail
  go_loopw [8,21] (fun s8 s21 wr=>∃ j:Nat,j<=L/\s21=Iv j/\Bw w wr/\Hq (∀ q,q<j->bs.getD q false=F (AF (AO q n)))) (fun _ s21 _=>L-(intOf s21).toNat)
  case atStart=>exact⟨0,Wb _,rfl,gf.o,Hd fun q hq=>by omega⟩
  case round =>
   obtain⟨j,hj,rfl,g2,HQ⟩:=hrel
   by_cases gj:j<L
   ·have g0:=Hd g2;clear g2;have go:=QC j (by omega);have gn:(j:Int)<bs.length:=by omega
    obtain⟨b1,of1,rfl,c1⟩:=(gm.o.below g0.o).cells j (by omega);go_wp2_with fail;refine(gk.o j (by omega) _).mono ?_;rintro x w3 ⟨u,rfl,g9,gc⟩;have ge:=Hd gc;have c3:=Cq gc c1;have HU:=Hd (g9.boolsIs (by rw[Gp];omega));clear g9 gc c1;go_wp2_with fail;refine(gl.o _ (g0.o.trans (ge.o.mono g0.o.size)) _ _ HU.o).mono ?_;rintro x w4 ⟨rfl,ga⟩;have c4:=Cq ga c3;have g7:=Hd (g0.o.trans ((ge.o.trans (ga.mono ge.o.size)).mono g0.o.size));clear ga c3;obtain⟨y1,g4⟩:∃ y,y=bs.getD j false:=⟨_,rfl⟩;obtain⟨y2,g3⟩:∃ y,y=F (AF (AO j n)):=⟨_,rfl⟩;rw[<- g4] at c4;rw[<- g3];have gg:Hq (y2=y1->∀ q,q<j+1->bs.getD q false=F (AF (AO q n))):=Hd fun g8 q hq=>by
     rcases Wo q j with h|h
     . exact HQ.o q h
     ·obtain rfl:q=j:=by omega
      rw[<- g4,<- g3,g8]
    have g6:Hq (y2≠y1->bs≠tabB n F):=Hd fun g8 e=>g8 (by rw[g4,g3,e,DI (by rw[<- HL.o];exact gj)])
    clear g4 g3;cases y1<;>cases y2
    ·go_wp2_with fail;go_roundw
     case rel=>exact⟨j+1,by omega,by go_num,g7.o,Hd (gg.o (by simp))⟩
     case measure=>simp[intOf];omega
    . go_wp2_with fail;go_ret;exact⟨false,rfl,by simpa using g6.o (by simp),g7.o⟩
    . go_wp2_with fail;go_ret;exact⟨false,rfl,by simpa using g6.o (by simp),g7.o⟩
    ·go_wp2_with fail;go_roundw
     case rel=>exact⟨j+1,by omega,by go_num,g7.o,Hd (gg.o (by simp))⟩
     case measure=>simp[intOf];omega
   ·have he:j=L:=by omega
    have g0:=Hd g2;have HE:Hq (bs=tabB n F):=Hd (IC (by rw[g1,HL.o]) (fun i hi=>HQ.o i (by rw[he,HL.o];exact hi)));clear g2;go_wp2_with fail;go_ret;exact⟨true,rfl,by simpa using HE.o,g0.o⟩
 ·have gi:((bs.length:Int) != (L:Int))=true:=by simp;omega
  have gf:=Hd g5;have g6:Hq (bs≠tabB n F):=Hd fun e=>g1 (by rw[e,B6,HL.o])
  clear g5 HC HV g1;go_wp2_with fail;go_ret;exact⟨false,rfl,by simpa using g6.o,gf.o⟩
end
structure LawL (W:Wd)(o:Own)(base:Nat)(vl:Value)(ks:List Int):Prop where
 own:OwnC 3 W base vl (Ao ks)
 no:∀ k,vl.ownBlock=some k->o k=none
structure LawB (W:Wd)(o:Own)(base:Nat)(v:Value)(bs:List Bool):Prop where
 is:Bb W v bs
 no:∀ k,v.ownBlock=some k->base<=k/\k<W.heap.size/\o k=none/\∃ cur,W.heap[k]?=some (.cells cur 4 (0,0))
structure LawX (W:Wd)(o:Own)(base:Nat)(vx:Value)(us:List (List Bool)):Prop where
 ex:∃ rs:List Value,rs.length=us.length/\OwnC 90 W base vx rs/\∀ i v,rs[i]?=some v->LawB W o base v (us.getD i [])
 no:∀ k,vx.ownBlock=some k->o k=none
section
variable {o:Own}{us:List (List Bool)}
theorem LawL.chg (h:LawL W o base vl ks)(hc:ChgX NoB o o' W W'):LawL W' o' base vl ks :=
 ⟨h.own.same fun k hk=>hc.block k (h.own.lt k hk).2 (h.no k hk) (fun e=>e),fun k hk=>hc.none' (h.own.lt k hk).2 (h.no k hk)⟩
theorem LawB.chg (h:LawB W o base v bs)(hc:ChgX NoB o o' W W'):LawB W' o' base v bs :=
 ⟨h.is.same fun k hk=>hc.block k (h.no k hk).2.1 (h.no k hk).2.2.1 (fun e=>e),fun k hk=>by
  obtain⟨h1,h2,h3,cur,h4⟩:=h.no k hk;exact⟨h1,Wm h2 hc.size,hc.none' h2 h3,cur,(hc.block k h2 h3 (fun e=>e)).trans h4⟩⟩
theorem LawX.chg (h:LawX W o base vx us)(hc:ChgX NoB o o' W W'):LawX W' o' base vx us:=by
 obtain⟨rs,h1,h2,h3⟩:=h.ex;exact⟨⟨rs,h1,h2.same fun k hk=>hc.block k (h2.lt k hk).2 (h.no k hk) (fun e=>e),fun i v hv=>(h3 i v hv).chg hc⟩,fun k hk=>hc.none' (h2.lt k hk).2 (h.no k hk)⟩
theorem Df (hb:Bw W W')(o:Own):ChgX NoB o o W W':=ChgX.of_below hb o NoB
theorem LawL.typ (h:LawL W o base vl ks)(hw:Wr C W W')(hT:T≠3)(hC:∀ k,C k->∃ cur,W.heap[k]?=some (.cells cur T (0,0))):LawL W' o base vl ks :=
 ⟨h.own.same fun k hk=>hw.keep k (h.own.lt k hk).2 fun e=>by
  obtain⟨c1,h1⟩:=hC k e;obtain⟨c2,h2⟩:=h.own.typed k hk;rw[h1] at h2;cases h2;exact hT rfl,h.no⟩
theorem LawB.typ (h:LawB W o base v bs)(hw:Wr C W W')(hT:T≠4)(hC:∀ k,C k->∃ cur,W.heap[k]?=some (.cells cur T (0,0))):LawB W' o base v bs:=by
 have hk:∀ k,v.ownBlock=some k->W'.heap[k]?=W.heap[k]?:=fun k hk=>by
  obtain⟨h1,h2,h3,cur,h4⟩:=h.no k hk;exact hw.keep k h2 fun e=>by
   obtain⟨c1,q1⟩:=hC k e;rw[q1] at h4;cases h4;exact hT rfl
 exact⟨h.is.same hk,fun k g0=>by
  obtain⟨h1,h2,h3,cur,h4⟩:=h.no k g0;exact⟨h1,Wm h2 hw.size,h3,cur,(hk k g0).trans h4⟩⟩
theorem LawX.typ {C:Nat->Prop}(h:LawX W o base vx us)(hw:Wr C W W'){T:TypeId}(hT:T≠4)(hT2:T≠90)(hC:∀ k,C k->∃ cur,W.heap[k]?=some (.cells cur T (0,0))):LawX W' o base vx us:=by
 obtain⟨rs,h1,h2,h3⟩:=h.ex
 exact⟨⟨rs,h1,h2.same fun k hk=>hw.keep k (h2.lt k hk).2 fun e=>by
  obtain⟨c1,q1⟩:=hC k e;obtain⟨c2,q2⟩:=h2.typed k hk;rw[q1] at q2;cases q2;exact hT2 rfl,fun i v hv=>(h3 i v hv).typ hw hT hC⟩,h.no⟩
theorem Gy (h1:W'.os=W.os)(h2:W'.tape=W.tape)(h3:W'.output=W.output)(h4:W.heap.size<=W'.heap.size)(hk:BQ v v' W W'):Wr (fun k=>v.ownBlock=some k) W W' :=
 ⟨h1,h2,h3,h4,fun k hlt hn=>hk.keep k hlt (fun e=>hn e.symm)⟩
theorem LawL.app {k:Int}(h:LawL W o base vl ks)(hlt:Ac o W)(hn:OwnC 3 W' base v' (Ao ks++[Iv k]))(hk:BQ vl v' W W'):LawL W' o base v' (ks++[k]):=by
 refine⟨by rw[show Ao (ks++[k])=Ao ks++[Iv k] by simp[Ao]];exact hn,fun q hq=>?_⟩;rcases hk.loc with e|⟨g,e,hg⟩
 . exact h.no q (by rw[<- e];exact hq)
 . rw[e] at hq;cases hq;exact hlt.none hg
theorem LawX.app (h:LawX W o base vx us)(hlt:Ac o W){rs:List Value}(hrs:rs.length=us.length)(hall:∀ i v,rs[i]?=some v->LawB W o base v (us.getD i []))(hw:Wr (fun k=>vx.ownBlock=some k) W W')(hT:∀ k,vx.ownBlock=some k->∃ cur,W.heap[k]?=some (.cells cur 90 (0,0)))
 (hb:LawB W o base v bs) (hn:OwnC 90 W' base v' (rs++[v])) (hk:BQ vx v' W W'):LawX W' o base v' (us++[bs]):=by
 refine⟨⟨rs++[v],by simp[hrs],hn,fun i u hu=>?_⟩,fun q hq=>?_⟩
 ·rcases Wo i rs.length with hi|hi
  ·rw[Ww hi] at hu;have e:(us++[bs]).getD i []=us.getD i []:=by simp[List.getD,Ww (show i<us.length by omega)]
   rw[e];exact(hall i u hu).typ hw (by decide) hT
  ·rw[WL hi] at hu;have g0:i=rs.length:=by
    have:=(WH.1 hu).1;simp at this;omega
   subst g0;simp at hu;subst hu;have e:(us++[bs]).getD rs.length []=bs:=by rw[hrs];simp[List.getD]
   rw[e];exact hb.typ hw (by decide) hT
 ·rcases hk.loc with e|⟨g,e,hg⟩
  . exact h.no q (by rw[<- e];exact hq)
  . rw[e] at hq;cases hq;exact hlt.none hg
theorem QG {n:Nat}(h:OwnB W' W.heap.size v bs)(hl:bs.length<=1000000)(hlt:Ac o W)(hb:base<=W.heap.size):LawB W' o base v bs :=
 ⟨OwnC.boolsIs h hl,fun k hk=>by
  have h1:=h.lt k hk;exact⟨by omega,h1.2,hlt.none h1.1,h.typed k hk⟩⟩
theorem IS (hl:LawL W o base vl (hs.map Prod.fst))(hx:LawX W o base vx (hs.map fun p=>tabB n p.2))(hsub:∀ p∈hs,p∈fs)(hsm:hs.length<=1000) :
 LawR (fun g=>base<=g/\g<W.heap.size/\o g=none/\∃ cur,W.heap[g]?=some (.cells cur 4 (0,0))) n fs W vl vx hs:=by
 obtain⟨rs,h1,h2,h3⟩:=hx.ex;obtain⟨al,cl,e1,_⟩:=hl.own.slice;obtain⟨ax,cx,e2,_⟩:=h2.slice;have l1:(Ao (hs.map Prod.fst)).length=hs.length:=by simp[Ao]
 have l2:rs.length=hs.length:=by rw[h1];simp
 rw[l1] at e1;rw[l2] at e2;refine⟨hsub,hsm,⟨al,cl,e1,⟨by simp;omega,fun k hk=>?_⟩⟩,⟨ax,cx,e2,⟨by simp;omega,fun k hk=>?_⟩⟩⟩
 ·obtain⟨g,cap,e3,_⟩:=hl.own.shape (by rw[l1];simp at hk;omega);rw[e1] at e3;injection e3 with e3
  subst e3;have hc:=hl.own;rw[e1] at hc;refine⟨g,0,rfl,?_⟩;rw[Wv,hc.cell k (by rw[l1];simpa using hk),Ao,Xv,getElem?_at0 hk];rfl
 ·obtain⟨g,cap,e3,_⟩:=h2.shape (by rw[l2];simp at hk;omega);rw[e2] at e3;injection e3 with e3
  subst e3;have hc:=h2;rw[e2] at hc;have g0:k<rs.length:=by rw[h1];exact hk
  have hb:=h3 k rs[k] (We g0);refine⟨g,0,rs[k],rfl,?_,hb.is,hb.no⟩;rw[Wv,hc.cell k g0,We g0]
end
def okI (z:Int):Prop:=-9223372036854775808<=z/\z<=9223372036854775807
inductive ExT where
 | nil
 | mk (op v:Int) (n:Nat) (kid:Nat->ExT)
def sumN:Nat->(Nat->Nat)->Nat
 | 0,_=>0
 | k+1,f=>sumN k f+f k
theorem Lm {f:Nat->Nat}{j:Nat}:∀ (k:Nat),j<k->f j<=sumN k f
 | 0,h=>by omega
 | k+1,h=>by
   unfold sumN
   by_cases e:j=k
   . subst e;omega
   . have:=Lm (f:=f) k (show j<k by omega);omega
def ExT.size:ExT->Nat
 | .nil=>1
 | .mk _ _ n kid=>1+sumN n fun i=>(kid i).size
theorem ExT.size_pos (e:ExT):1<=e.size:=by cases e<;>unfold ExT.size<;>omega
instance:Inhabited ExT:=⟨.nil⟩
theorem ExT.kid_size {v:Int}{kid:Nat->ExT}(h:i<n):(kid i).size<(ExT.mk op v n kid).size:=by
 have h1:(kid i).size<=sumN n fun i=>(kid i).size:=Lm (f:=fun i=>(kid i).size) n h
 show (kid i).size<1+sumN n fun i=>(kid i).size
 omega
def A4 (w:Wd):ExT->Value->Prop
 | .nil,_=>False
 | .mk op v n kid,x=>∃ a c,x=.agg #[.int .i64 op,.int .i64 v,.slice a n c]/\okI op/\okI v/\n<=9223372036854775807 /\
  ∀ k,k<n->∃ b off x0 x1 x2,a=some (Aw b off)/\w.cell? (Aw b (off+k*3))=some x0/\w.cell? (Aw b (off+k*3+1))=some x1/\w.cell? (Aw b (off+k*3+2))=some x2/\A4 w (kid k) (.agg #[x0,x1,x2])
theorem A4.below {w w':Wd}(hb:Bw w w'):∀ (e:ExT) {x:Value},A4 w e x->A4 w' e x
 | .nil,_,h=>by unfold A4 at h;exact h.elim
 | .mk op v n kid,x,h=>by
   unfold A4 at h ⊢;obtain⟨a,c,h1,h2,h3,h4,h5⟩:=h;refine⟨a,c,h1,h2,h3,h4,fun k hk=>?_⟩;obtain⟨b,off,x0,x1,x2,rfl,c0,c1,c2,hx⟩:=h5 k hk;exact⟨b,off,x0,x1,x2,rfl,(Cq hb c0),(Cq hb c1),(Cq hb c2),A4.below hb (kid k) hx⟩
theorem Ln:∀ (e:ExT) (x:Value) (q:Nat) (w:Wd),q<=1000->A4 w e x ->
 Cl 50 #[x,Iv q] w fun y w'=>(∃ r:Nat,y=.returned (Iv r)/\1<=r/\r<=q+1/\(r<=q->r=e.size))/\Bw w w'
 | .nil,x,q,w,hq,h=>by unfold A4 at h;exact h.elim
 | .mk op v n kid,x,q,w,hq,h=>by
   unfold A4 at h;obtain⟨a,c,rfl,h2,h3,h4,h5⟩:=h;have H5:=Hd h5;have HSZ:Hq ((ExT.mk op v n kid).size=1+sumN n fun i=>(kid i).size):=Hd rfl;have IH:Hq (∀ (i:Nat) (x:Value) (z:Int) (q:Nat) (W:Wd),z=(q:Int)->q<=1000->A4 W (kid i) x->Cl 50 #[x,Iv z] W fun y w'=>(∃ r:Nat,y=.returned (Iv r)/\1<=r/\r<=q+1/\(r<=q->r=(kid i).size))/\Bw W w') :=
    Hd fun i x z q W hz h1 h2=>by subst hz;exact Ln (kid i) x q W h1 h2
   obtain⟨E,hE⟩:=Ex (ExT.mk op v n kid);rw[<- hE] at HSZ ⊢;obtain⟨w1,hw1⟩:=Ex (w.alloc (.cells #[Iv op,Iv v,.slice a n c] 79));have HW1:Hq (_=w1):=Hd hw1.symm;have HB1:Hq (Bw w w1):=by rw[hw1];exact Hd (Af _ _)
   have g6:w1.heap[w.heap.size]?=some (.cells #[Iv op,Iv v,.slice a n c] 79 (0,0)):=by rw[hw1];exact VT _ _
   have hs1:w1.heap.size=w.heap.size+1:=by rw[hw1];simp
   have d2:w1.cell? (Aw w.heap.size 2)=some (.slice a n c):=by rw[VR _ _ 2 _ _ _ g6];rfl
   clear h5 hE hw1 g6 h2 h3
   go_enter func50,ntmps50
   go_upto_region 1 with fail;rw[HW1.o];go_wp2_with fail
   go_loopw [5,6] (fun s5 s6 wr=>∃ i r:Nat,i<=n/\1<=r/\i<r/\r<=q+1/\s5=Iv r/\s6=Iv i/\Bw w1 wr/\Hq (r<=q->r=1+sumN i fun i=>(kid i).size)) (fun _ s6 _=>n-(intOf s6).toNat)
   case atStart=>exact⟨0,1,by omega,by omega,by omega,by omega,rfl,rfl,VZ _ _,Hd fun _=>rfl⟩
   case round =>
    obtain⟨i,r,hi,g8,gg,g7,rfl,rfl,g5,HR⟩:=hrel;have d2':=Cq g5 d2;have g0:=Hd g5;clear g5
    by_cases gc:i<n
    ·by_cases gf:r<=q
     ·obtain⟨b,off,x0,x1,x2,rfl,c0,c1,c2,hx⟩:=H5.o i gc;have g4:=HB1.o.trans (g0.o.mono HB1.o.size);have e0:=Cq g4 c0;have e1:=Cq g4 c1;have e2:=Cq g4 c2;have HX:=Hd (hx.below g4);clear c0 c1 c2 hx g4;have g9:(i:Int)<n:=by omega
      go_wp2_with fail;refine(IH.o i _ _ (q-r) _ (by omega) (by omega) HX.o).mono ?_;rintro y w3 ⟨⟨r2,rfl,g1,g2,g3⟩,ga⟩;have ge:=Hd (g0.o.trans (ga.mono g0.o.size));have gd:Hq (r+r2<=q->r+r2=1+sumN (i+1) fun i=>(kid i).size):=Hd fun hh=>by
       have e1:=HR.o (by omega);have e2:=g3 (by omega)
       show _=1+(sumN i (fun i=>(kid i).size)+(kid i).size)
       omega
      clear ga g3 e0 e1 e2;go_wp2_with fail;go_roundw
      case rel=>exact⟨i+1,r+r2,by omega,by omega,by omega,by omega,by go_num,by go_num,ge.o,gd⟩
      case measure=>simp[intOf];omega
     ·have g9:(i:Int)<n:=by omega
      have HF:Hq ((∃ r':Nat,Ending.returned (Iv (r:Nat))=.returned (Iv r')/\1<=r'/\r'<=q+1/\(r'<=q->r'=E.size))/\Bw w wr) :=
       Hd ⟨⟨r,rfl,g8,g7,fun hh=>by omega⟩,HB1.o.trans (g0.o.mono HB1.o.size)⟩
      go_wp2_with fail;go_ret;exact HF.o
    ·have he:i=n:=by omega
     have HF:Hq ((∃ r':Nat,Ending.returned (Iv (r:Nat))=.returned (Iv r')/\1<=r'/\r'<=q+1/\(r'<=q->r'=E.size))/\Bw w wr) :=
      Hd ⟨⟨r,rfl,g8,g7,fun hh=>by rw[HSZ.o,HR.o hh,he]⟩,HB1.o.trans (g0.o.mono HB1.o.size)⟩
     have g9:¬ (i:Int)<n:=by omega
     go_wp2_with fail;go_ret;exact HF.o
theorem Eg {f:Nat->Nat}{i:Nat}:∀ {n:Nat},i<n->sumN i f+f i<=sumN n f
 | 0,h=>by omega
 | k+1,h=>by
   rcases Wo i k with h'|h'
   ·have:=Eg (f:=f) h'
    show _<=sumN k f+f k
    omega
   ·obtain rfl:i=k:=by omega
    exact VQ _
def Bm (op:Int):Int×Int :=
 if op=1\/op=2\/op=3 then (0,0) else if op=4 then (1,1) else if op=5\/op=6\/op=7 then (0,64) else if op=8\/op=9 then (2,2) else if op=10 then (3,3) else (-1,-1)
def okT:ExT->Nat->Prop
 | .nil,_=>False
 | .mk op v n kid,deep=>deep<=64/\0<=(Bm op).1/\(op=3->0<=v/\v<64)/\(op≠3->v=0)/\(Bm op).1<=n/\(n:Int)<=(Bm op).2/\∀ i,i<n->okT (kid i) (deep+1)
def Gz:ExT->Prop
 | .nil=>False
 | .mk op v n kid=>0<=(Bm op).1/\(op=3->0<=v/\v<64)/\(op≠3->v=0)/\(Bm op).1<=n/\(n:Int)<=(Bm op).2/\∀ i,i<n->Gz (kid i)
theorem okT.valid:∀ {e:ExT} {deep:Nat},okT e deep->Gz e
 | .nil,_,h=>h.elim
 | .mk op v n kid,deep,h=>by
   obtain⟨_,h1,h2,h3,h4,h5,h6⟩:=h;exact⟨h1,h2,h3,h4,h5,fun i hi=>(h6 i hi).valid⟩
theorem QH (op:Int)(w:Wd):Cl 157 #[Iv op] w (Sm (.tuple #[Iv (Bm op).1,Iv (Bm op).2]) w):=by
 obtain⟨p,hp⟩:=Ex (Bm op);rw[<- hp];unfold Bm at hp;rcases(by omega:op=1\/op=2\/op=3\/op=4\/op=5\/op=6\/op=7\/op=8\/op=9\/op=10\/(op<1\/10<op)) with rfl|rfl|rfl|rfl|rfl|rfl|rfl|rfl|rfl|rfl|h
 all_goals
  first
  | (simp at hp
     subst hp
     go_enter func157,ntmps157
     go_wp2_with fail
     go_ret2
     exact⟨rfl,rfl⟩)
  | (have h1 : (op == 1) = false := by simp; omega
     have h2:(op == 2)=false:=by simp;omega
     have h3:(op == 3)=false:=by simp;omega
     have h4:(op == 4)=false:=by simp;omega
     have h5:(op == 5)=false:=by simp;omega
     have h6:(op == 6)=false:=by simp;omega
     have h7:(op == 7)=false:=by simp;omega
     have h8:(op == 8)=false:=by simp;omega
     have h9:(op == 9)=false:=by simp;omega
     have g0:(op == 10)=false:=by simp;omega
     rw[VS (by omega),VS (by omega),VS (by omega),VS (by omega),VS (by omega)] at hp;subst hp;clear h
     go_enter func157,ntmps157
     go_wp2_with fail
     go_ret2
     exact⟨rfl,rfl⟩)
def E7 (e:ExT)(deep parts:Nat)(w:Wd)(y:Ending)(w':Wd):Prop:=∃ err m:Int,y=.returned (.tuple #[Iv err,Iv m])/\okI m/\(err=0↔okT e deep)/\(err=0->m=(parts+e.size:Nat))/\Bw w w'
theorem Lo:∀ (e:ExT) (x:Value) (deep parts:Nat) (w:Wd),deep<=65->parts+e.size<=4096->A4 w e x ->
 Cl 106 #[x,Iv deep,Iv parts] w (E7 e deep parts w)
 | .nil,x,deep,parts,w,hd,hp,h=>by unfold A4 at h;exact h.elim
 | .mk op v n kid,x,deep,parts,w,hd,hp,h=>by
   unfold A4 at h;obtain⟨a,c,rfl,h2,h3,h4,h5⟩:=h;have H5:=Hd h5;have HSZ:Hq ((ExT.mk op v n kid).size=1+sumN n fun i=>(kid i).size):=Hd rfl;have HKS:Hq (∀ i,i<n->(kid i).size<(ExT.mk op v n kid).size):=Hd fun i hi=>ExT.kid_size hi
   have HV:Hq (∀ l hh:Int,l=(Bm op).1->hh=(Bm op).2->(okT (ExT.mk op v n kid) deep↔deep<=64/\0<=l/\(op=3->0<=v/\v<64)/\(op≠3->v=0)/\l<=n/\(n:Int)<=hh/\∀ i,i<n->okT (kid i) (deep+1))):=by
    refine Hd ?_;rintro l hh rfl rfl;exact Iff.rfl
   have IH:Hq (∀ (i:Nat) (x:Value) (z1 z2:Int) (deep parts:Nat) (W:Wd),z1=(deep:Int)->z2=(parts:Int)->deep<=65->parts+(kid i).size<=4096->A4 W (kid i) x->Cl 106 #[x,Iv z1,Iv z2] W (E7 (kid i) deep parts W)) :=
    Hd fun i x z1 z2 deep parts W e1 e2 h1 h2 h3=>by subst e1;subst e2;exact Lo (kid i) x deep parts W h1 h2 h3
   have HK:=Hd (fun W=>QH op W);obtain⟨E,hE⟩:=Ex (ExT.mk op v n kid);have gC:1<=E.size:=E.size_pos;rw[<- hE] at HSZ hp HV HKS ⊢;obtain⟨l,hl⟩:=Ex ((Bm op).1);obtain⟨hi,gq⟩:=Ex ((Bm op).2);rw[<- hl,<- gq] at HK;have g4:=Hd (HV.o l hi hl gq);obtain⟨w1,gl⟩:=Ex (w.alloc (.cells #[Iv op,Iv v,.slice a n c] 79));have HW1:Hq (_=w1):=Hd gl.symm;have g8:Hq (Bw w w1):=by rw[gl];exact Hd (Af _ _)
   have gj:w1.heap[w.heap.size]?=some (.cells #[Iv op,Iv v,.slice a n c] 79 (0,0)):=by rw[gl];exact VT _ _
   have hs1:w1.heap.size=w.heap.size+1:=by rw[gl];simp
   have d0:w1.cell? (Av w.heap.size)=some (Iv op):=by rw[VR _ _ 0 _ _ _ gj];rfl
   have d1:w1.cell? (Aw w.heap.size 1)=some (Iv v):=by rw[VR _ _ 1 _ _ _ gj];rfl
   have d2:w1.cell? (Aw w.heap.size 2)=some (.slice a n c):=by rw[VR _ _ 2 _ _ _ gj];rfl
   have g0:Hq (∀ (k m:Int) (W:Wd),k≠0->¬ okT E deep->okI m->Bw w1 W->E7 E deep parts w (.returned (.tuple #[Iv k,Iv m])) W) :=
    Hd fun k m W hk gw hm hb=>⟨k,m,rfl,hm,⟨fun e=>(hk e).elim,fun e=>(gw e).elim⟩,fun e=>(hk e).elim,g8.o.trans (hb.mono g8.o.size)⟩
   unfold okI at h2 h3;clear h5 hE gl gj HV hl gq
   go_enter func106,ntmps106
   go_upto_region 1 with fail;rw[HW1.o]
   by_cases gE:(deep:Int)>64
   ·go_wp2_with fail
    go_ret2
    exact g0.o 17 _ _ (by decide) (fun h=>by have:=(g4.o.1 h).1;omega) (by unfold okI;omega) (VZ _ _)
   go_wp2_with fail;refine(HK.o _).mono ?_;rintro y w' ⟨rfl,rfl⟩
   by_cases gD:l<0
   ·go_wp2_with fail
    go_ret2
    exact g0.o 11 _ _ (by decide) (fun h=>by have:=(g4.o.1 h).2.1;omega) (by unfold okI;omega) (VZ _ _)
   have gt:((op == 3)=true/\op=3)\/((op == 3)=false/\(op != 3)=true/\op≠3):=by
    by_cases e:op=3
    . exact .inl ⟨by simp[e],e⟩
    . exact .inr ⟨by simpa using e,by simpa using e,e⟩
   rcases gt with ⟨g1,g2⟩|⟨g1,g2,g3⟩
   ·subst g2
    by_cases gc:v<0
    ·go_wp2_with fail
     go_ret2
     exact g0.o 9 _ _ (by decide) (fun h=>by have:=(g4.o.1 h).2.2.1 (by trivial);omega) (by unfold okI;omega) (VZ _ _)
    by_cases gu:v>=64
    ·go_wp2_with fail
     go_ret2
     exact g0.o 9 _ _ (by decide) (fun h=>by have:=(g4.o.1 h).2.2.1 (by trivial);omega) (by unfold okI;omega) (VZ _ _)
    have HG:Hq ((3:Int)=3->0<=v/\v<64):=Hd fun _=>⟨by omega,by omega⟩
    have gr:Hq ((3:Int)≠3->v=0):=Hd fun e=>(e rfl).elim
    go_upto_region 9 with fail
    by_cases gx:(n:Int)<l
    ·go_wp2_with fail
     go_ret2
     exact g0.o 3 _ _ (by decide) (fun h=>by have:=(g4.o.1 h).2.2.2.2.1;omega) (by unfold okI;omega) (VZ _ _)
    by_cases gy:(n:Int)>hi
    ·go_wp2_with fail
     go_ret2
     exact g0.o 3 _ _ (by decide) (fun h=>by have:=(g4.o.1 h).2.2.2.2.2.1;omega) (by unfold okI;omega) (VZ _ _)
    go_wp2_with fail
    go_loopw [2,10,11,12] (fun s2 s10 s11 s12 wr=>∃ i p:Nat,i<=n/\p<=4096/\s2=Iv p/\s10=Iv i/\Bw w1 wr/\Hq (p=parts+(1+sumN i fun i=>(kid i).size))/\Hq (∀ j,j<i->okT (kid j) (deep+1))) (fun _ s10 _ _ _=>n-(intOf s10).toNat)
    case atStart=>exact⟨0,parts+1,by omega,by omega,by go_num,rfl,VZ _ _,Hd rfl,Hd fun j hj=>by omega⟩
    case round =>
     obtain⟨i,p,gA,gv,rfl,rfl,g9,HP,gh⟩:=hrel;have d2':=Cq g9 d2;have g5:=Hd g9;clear g9
     by_cases ge:i<n
     ·obtain⟨b,off,x0,x1,x2,rfl,c0,c1,c2,hx⟩:=H5.o i ge;have g7:=g8.o.trans (g5.o.mono g8.o.size);have e0:=Cq g7 c0;have e1:=Cq g7 c1;have e2:=Cq g7 c2;have HX:=Hd (hx.below g7);have gd:p+(kid i).size<=4096:=by
       have s1:(kid i).size+sumN i (fun i=>(kid i).size)<=sumN n fun i=>(kid i).size:=by
        have:=Eg (f:=fun i=>(kid i).size) ge;omega
       have s2:=HP.o;have s3:=HSZ.o;omega
      have gi:Hq (p+(kid i).size=parts+(1+sumN (i+1) fun i=>(kid i).size)):=Hd (by
       have s2:=HP.o
       show _=parts+(1+(sumN i (fun i=>(kid i).size)+(kid i).size))
       omega)
      have gp:(i:Int)<n:=by omega
      clear c0 c1 c2 hx g7;go_wp2_with fail;refine(IH.o i _ _ _ (deep+1) p _ (by go_num) rfl (by omega) gd HX.o).mono ?_;rintro y w3 ⟨err,m,rfl,hm,gf,gm,gn⟩;have go:=Hd (g5.o.trans (gn.mono g5.o.size));have gg:=Hd gm;have ga:=Hd gf;clear gn gm gf e0 e1 e2;unfold okI at hm
      by_cases g6:err=0
      ·subst g6;have q1:=ga.o.1 rfl;have q2:=gg.o rfl;obtain⟨p2,hp2⟩:=Ex (p+(kid i).size);have gk:Hq (∀ j,j<i+1->okT (kid j) (deep+1)):=Hd fun j hj=>by
        rcases Wo j i with h|h
        . exact gh.o j h
        ·obtain rfl:j=i:=by omega
         exact q1
       rw[<- hp2] at q2 gd gi;subst q2;clear hp2 q1 gg ga;go_wp2_with fail;go_roundw
       case rel=>exact⟨i+1,p2,by omega,by omega,rfl,by go_num,go.o,gi,gk⟩
       case measure=>simp[intOf];omega
      ·have gz:(err != 0)=true:=by simpa using g6
       have HF:=Hd (g0.o err m w3 g6 (fun h=>g6 (ga.o.2 ((g4.o.1 h).2.2.2.2.2.2 i ge))) hm go.o);clear g6 gg ga;go_wp2_with fail
       go_ret2
       exact HF.o
     ·have he:i=n:=by omega
      have gp:¬ (i:Int)<n:=by omega
      have HF:Hq (E7 E deep parts w (.returned (.tuple #[Iv 0,Iv (p:Nat)])) wr):=Hd ⟨0,p,rfl,by unfold okI;omega,⟨fun _=>g4.o.2 ⟨by omega,by omega,HG.o,gr.o,by omega,by omega,fun j hj=>gh.o j (by omega)⟩,fun _=>rfl⟩,fun _=>by rw[HP.o,HSZ.o,he],g8.o.trans (g5.o.mono g8.o.size)⟩;go_wp2_with fail
      go_ret2
      exact HF.o
   ·by_cases gc:v=0
    ·have gu:(v != 0)=false:=by simp[gc]
     have HG:Hq (op=3->0<=v/\v<64):=Hd fun e=>(g3 e).elim
     have gr:Hq (op≠3->v=0):=Hd fun _=>gc
     clear gc g3;go_upto_region 9 with fail
     by_cases gx:(n:Int)<l
     ·go_wp2_with fail
      go_ret2
      exact g0.o 3 _ _ (by decide) (fun h=>by have:=(g4.o.1 h).2.2.2.2.1;omega) (by unfold okI;omega) (VZ _ _)
     by_cases gy:(n:Int)>hi
     ·go_wp2_with fail
      go_ret2
      exact g0.o 3 _ _ (by decide) (fun h=>by have:=(g4.o.1 h).2.2.2.2.2.1;omega) (by unfold okI;omega) (VZ _ _)
     go_wp2_with fail
     go_loopw [2,10,11,12] (fun s2 s10 s11 s12 wr=>∃ i p:Nat,i<=n/\p<=4096/\s2=Iv p/\s10=Iv i/\Bw w1 wr/\Hq (p=parts+(1+sumN i fun i=>(kid i).size))/\Hq (∀ j,j<i->okT (kid j) (deep+1))) (fun _ s10 _ _ _=>n-(intOf s10).toNat)
     case atStart=>exact⟨0,parts+1,by omega,by omega,by go_num,rfl,VZ _ _,Hd rfl,Hd fun j hj=>by omega⟩
     case round =>
      obtain⟨i,p,gA,gv,rfl,rfl,g9,HP,gh⟩:=hrel;have d2':=Cq g9 d2;have g5:=Hd g9;clear g9
      by_cases ge:i<n
      ·obtain⟨b,off,x0,x1,x2,rfl,c0,c1,c2,hx⟩:=H5.o i ge;have g7:=g8.o.trans (g5.o.mono g8.o.size);have e0:=Cq g7 c0;have e1:=Cq g7 c1;have e2:=Cq g7 c2;have HX:=Hd (hx.below g7);have gd:p+(kid i).size<=4096:=by
        have s1:(kid i).size+sumN i (fun i=>(kid i).size)<=sumN n fun i=>(kid i).size:=by
         have:=Eg (f:=fun i=>(kid i).size) ge;omega
        have s2:=HP.o;have s3:=HSZ.o;omega
       have gi:Hq (p+(kid i).size=parts+(1+sumN (i+1) fun i=>(kid i).size)):=Hd (by
        have s2:=HP.o
        show _=parts+(1+(sumN i (fun i=>(kid i).size)+(kid i).size))
        omega)
       have gp:(i:Int)<n:=by omega
       clear c0 c1 c2 hx g7;go_wp2_with fail;refine(IH.o i _ _ _ (deep+1) p _ (by go_num) rfl (by omega) gd HX.o).mono ?_;rintro y w3 ⟨err,m,rfl,hm,gf,gm,gn⟩;have go:=Hd (g5.o.trans (gn.mono g5.o.size));have gg:=Hd gm;have ga:=Hd gf;clear gn gm gf e0 e1 e2;unfold okI at hm
       by_cases g6:err=0
       ·subst g6;have q1:=ga.o.1 rfl;have q2:=gg.o rfl;obtain⟨p2,hp2⟩:=Ex (p+(kid i).size);have gk:Hq (∀ j,j<i+1->okT (kid j) (deep+1)):=Hd fun j hj=>by
         rcases Wo j i with h|h
         . exact gh.o j h
         ·obtain rfl:j=i:=by omega
          exact q1
        rw[<- hp2] at q2 gd gi;subst q2;clear hp2 q1 gg ga;go_wp2_with fail;go_roundw
        case rel=>exact⟨i+1,p2,by omega,by omega,rfl,by go_num,go.o,gi,gk⟩
        case measure=>simp[intOf];omega
       ·have gz:(err != 0)=true:=by simpa using g6
        have HF:=Hd (g0.o err m w3 g6 (fun h=>g6 (ga.o.2 ((g4.o.1 h).2.2.2.2.2.2 i ge))) hm go.o);clear g6 gg ga;go_wp2_with fail
        go_ret2
        exact HF.o
      ·have he:i=n:=by omega
       have gp:¬ (i:Int)<n:=by omega
       have HF:Hq (E7 E deep parts w (.returned (.tuple #[Iv 0,Iv (p:Nat)])) wr):=Hd ⟨0,p,rfl,by unfold okI;omega,⟨fun _=>g4.o.2 ⟨by omega,by omega,HG.o,gr.o,by omega,by omega,fun j hj=>gh.o j (by omega)⟩,fun _=>rfl⟩,fun _=>by rw[HP.o,HSZ.o,he],g8.o.trans (g5.o.mono g8.o.size)⟩;go_wp2_with fail
       go_ret2
       exact HF.o
    ·have gu:(v != 0)=true:=by simpa using gc
     have gB:Hq (¬ okT E deep):=Hd fun h=>gc ((g4.o.1 h).2.2.2.1 g3)
     clear gc g3;go_wp2_with fail
     go_ret2
     exact g0.o 9 _ _ (by decide) gB.o (by unfold okI;omega) (VZ _ _)
theorem IT (e:ExT)(x:Value)(w:Wd)(hs:e.size<=4096)(h:A4 w e x) :
 Cl 51 #[x] w fun y w'=>∃ err:Int,y=.returned (Iv err)/\(err=0↔okT e 1)/\Bw w w':=by
 have HC:Hq (∀ W,Bw w W->∀ u,u=x->Cl 106 #[u,Iv 1,Iv 0] W (E7 e 1 0 W)):=Hd fun W hb u hu=>by subst hu;exact Lo e _ 1 0 W (by omega) (by omega) (h.below hb)
 obtain⟨x0,x1,x2,hx⟩:∃ x0 x1 x2,x=.agg #[x0,x1,x2]:=by
  cases e with
  | nil=>unfold A4 at h;exact h.elim
  | mk op v n kid =>
    unfold A4 at h;obtain⟨a,c,rfl,_⟩:=h;exact⟨_,_,_,rfl⟩
 subst hx;obtain⟨w1,g1⟩:=Ex (w.alloc (.cells #[x0,x1,x2] 79));have HW1:Hq (_=w1):=Hd g1.symm;have g2:Hq (Bw w w1):=by rw[g1];exact Hd (Af _ _)
 have g0:w1.heap[w.heap.size]?=some (.cells #[x0,x1,x2] 79 (0,0)):=by rw[g1];exact VT _ _
 have d0:w1.cell? (Av w.heap.size)=some x0:=by rw[VR _ _ 0 _ _ _ g0];rfl
 have d1:w1.cell? (Aw w.heap.size 1)=some x1:=by rw[VR _ _ 1 _ _ _ g0];rfl
 have d2:w1.cell? (Aw w.heap.size 2)=some x2:=by rw[VR _ _ 2 _ _ _ g0];rfl
 have g3:x0.cells=#[x0]/\x1.cells=#[x1]/\x2.cells=#[x2]:=by
  cases e with
  | nil=>unfold A4 at h;exact h.elim
  | mk op v n kid =>
    unfold A4 at h;obtain⟨a,c,h1,_⟩:=h;cases h1;exact⟨rfl,rfl,rfl⟩
 obtain⟨o0,o1,o2⟩:=g3;clear h g1 g0
 go_enter func51,ntmps51
 go_upto_region 1 with fail;rw[HW1.o];go_wp2_with fail;refine(HC.o _ g2.o _ rfl).mono ?_;rintro y w2 ⟨err,m,rfl,hm,hv,_,hb⟩;have HF:Hq (∃ err':Int,Ending.returned (Iv err)=.returned (Iv err')/\(err'=0↔okT e 1)/\Bw w w2):=Hd ⟨err,rfl,hv,g2.o.trans (hb.mono g2.o.size)⟩;clear hv hb;go_wp2_with fail;go_ret;exact HF.o
def Ck:Nat->(Nat->List Int)->List Int
 | 0,_=>[]
 | k+1,f=>Ck k f++f k
def AK:ExT->List Int
 | .nil=>[]
 | .mk op v n kid=>(if op=3 then [v] else [])++Ck n fun i=>AK (kid i)
theorem G0 {f:Nat->List Int}{g:Nat->Nat}:∀ (n:Nat),(∀ i,i<n->(f i).length<=g i)->(Ck n f).length<=sumN n g
 | 0,_=>VQ _
 | k+1,h=>by
   show (Ck k f++f k).length<=sumN k g+g k
   rw[VY];have:=G0 (f:=f) (g:=g) k (fun i hi=>h i (by omega));have:=h k (by omega);omega
theorem E8:∀ e:ExT,(AK e).length<=e.size
 | .nil=>by simp[AK]
 | .mk op v n kid=>by
   show ((if op=3 then [v] else [])++Ck n fun i=>AK (kid i)).length<=1+sumN n fun i=>(kid i).size
   rw[VY];have h1:=G0 (f:=fun i=>AK (kid i)) (g:=fun i=>(kid i).size) n (fun i _=>E8 (kid i));have h2:(if op=3 then [v] else []:List Int).length<=1:=by split<;>simp
   omega
theorem OwnI.lower (h:OwnI w base v zs)(hb:b<=base):OwnI w b v zs:=by
 refine⟨h.1,?_⟩;rcases h.2 with hn|⟨g,cap,cur,rfl,g0,rest⟩
 . exact .inl hn
 . exact .inr ⟨g,cap,cur,rfl,by omega,rest⟩
theorem Lp:∀ (e:ExT) (x:Value) (w:Wd),e.size<=4096->A4 w e x ->
 Cl 107 #[x] w fun y w'=>∃ u,y=.returned u/\OwnI w' w.heap.size u (AK e)/\Bw w w'
 | .nil,x,w,hp,h=>by unfold A4 at h;exact h.elim
 | .mk op v n kid,x,w,hp,h=>by
   unfold A4 at h;obtain⟨a,c,rfl,h2,h3,h4,h5⟩:=h;have H5:=Hd h5;have HSZ:Hq ((ExT.mk op v n kid).size=1+sumN n fun i=>(kid i).size):=Hd rfl;have HKS:Hq (∀ i,i<n->(kid i).size<(ExT.mk op v n kid).size):=Hd fun i hi=>ExT.kid_size hi
   have HVT:Hq (AK (ExT.mk op v n kid)=(if op=3 then [v] else [])++Ck n fun i=>AK (kid i)):=Hd rfl;have IH:Hq (∀ (i:Nat) (x:Value) (W:Wd),(kid i).size<=4096->A4 W (kid i) x->Cl 107 #[x] W fun y w'=>∃ u,y=.returned u/\OwnI w' W.heap.size u (AK (kid i))/\Bw W w') :=
    Hd fun i x W h1 h2=>Lp (kid i) x W h1 h2
   obtain⟨E,hE⟩:=Ex (ExT.mk op v n kid);rw[<- hE] at HSZ hp HVT HKS ⊢;obtain⟨w1,hw1⟩:=Ex (w.alloc (.cells #[Iv op,Iv v,.slice a n c] 79));have HW1:Hq (_=w1):=Hd hw1.symm;have HB1:Hq (Bw w w1):=by rw[hw1];exact Hd (Af _ _)
   have g9:w1.heap[w.heap.size]?=some (.cells #[Iv op,Iv v,.slice a n c] 79 (0,0)):=by rw[hw1];exact VT _ _
   have hs1:w1.heap.size=w.heap.size+1:=by rw[hw1];simp
   have d0:w1.cell? (Av w.heap.size)=some (Iv op):=by rw[VR _ _ 0 _ _ _ g9];rfl
   have d1:w1.cell? (Aw w.heap.size 1)=some (Iv v):=by rw[VR _ _ 1 _ _ _ g9];rfl
   have d2:w1.cell? (Aw w.heap.size 2)=some (.slice a n c):=by rw[VR _ _ 2 _ _ _ g9];rfl
   unfold okI at h2 h3;obtain⟨w2,ge⟩:=Ex (w1.alloc (.cells #[] 3));have gr:Hq (_=w2):=Hd ge.symm;have HB2:Hq (Bw w1 w2):=by rw[ge];exact Hd (Af _ _)
   have gj:Hq (OwnI w2 w1.heap.size (.slice (some (Av (w.heap.size+1))) 0 0) []):=by rw[ge,<- hs1];exact Hd (DR _ _ (VQ _))
   clear h5 hE hw1 ge g9
   go_enter func107,ntmps107
   go_upto_region 1 with fail;rw[HW1.o];go_upto_region 2 with fail;obtain⟨Z,hZ⟩:=Ex (if op=3 then [v] else []:List Int)
   have HZ:=Hd hZ;have gm:Hq (Z.length<=1):=Hd (by rw[hZ];split<;>simp);rw[gr.o];have gl:w1.heap.size<=w2.heap.size:=HB2.o.size;have d0':=Cq HB2.o d0;have d1':=Cq HB2.o d1
   by_cases h3:op=3
   ·rw[VW h3] at hZ;subst h3;clear h2;go_wp2_with (at_builtin;refine CR _ rfl _ _ rfl w1.heap.size w1 _ [] _ rfl rfl rfl rfl (by exact gj.o) (by simp) gl HB2.o ?_;intro v3 w3 gk g7 go _)
    go_loopw [3,4] (fun s3 s4 wr=>∃ i:Nat,i<=n/\s4=Iv i/\Bw w1 wr/\OwnI wr w1.heap.size s3 (Z++Ck i fun i=>AK (kid i))/\w1.heap.size<=wr.heap.size) (fun _ s4 _=>n-(intOf s4).toNat)
    case atStart=>exact⟨0,Wb _,rfl,g7,by rw[hZ];simpa [Ck] using gk,go⟩
    case round =>
     obtain⟨i,gq,rfl,g2,g5,gn⟩:=hrel;have d2':=Cq g2 d2;have g0:=Hd g2;have gc:=Hd g5;clear g2 g5
     by_cases g6:i<n
     ·obtain⟨b,off,x0,x1,x2,rfl,c0,c1,c2,hx⟩:=H5.o i g6;have g1:=HB1.o.trans (g0.o.mono HB1.o.size);have e0:=Cq g1 c0;have e1:=Cq g1 c1;have e2:=Cq g1 c2;have HX:=Hd (hx.below g1);have gh:(i:Int)<n:=by omega
      have gp:=HKS.o i g6
      have gd:Hq ((Z++Ck i fun i=>AK (kid i)).length+(AK (kid i)).length<=4096):=Hd (by
       have s1:=Eg (f:=fun i=>(kid i).size) g6;have s2:=HSZ.o;have s3:=G0 (f:=fun i=>AK (kid i)) (g:=fun i=>(kid i).size) i (fun i _=>E8 (kid i));have s4:=E8 (kid i);have s5:=gm.o;rw[VY];omega)
      clear c0 c1 c2 hx g1;go_upto_region 7 with fail
      go_wp2_with (first
       | (go_at_call 107;refine(IH.o i _ _ (by omega) HX.o).mono ?_;rintro y w3 ⟨u,rfl,hu,g7⟩;obtain⟨au,cu,rfl,ga,gf⟩:=hu.sliceIs (by have:=gd.o;omega);have HU:=Hd ga;have g8:=Hd g7;clear hu ga g7)
       | (at_builtin;refine EQ rfl _ _ rfl w1.heap.size w1 _ (Z++Ck i fun i=>AK (kid i)) (AK (kid i)) au cu rfl rfl (by exact gc.o.below g8.o) (by exact HU.o) (by have:=gd.o;omega) (by have:=g8.o.size;omega) (by exact g0.o.trans (g8.o.mono g0.o.size)) gf ?_;intro v4 w4 g4 gi gg _))
      go_roundw
      case rel=>exact⟨i+1,by omega,by go_num,gi,by rw[Wl] at g4;exact g4,gg⟩
      case measure=>simp[intOf];omega
     ·have he:i=n:=by omega
      have gh:¬ (i:Int)<n:=by omega
      have HF:Hq (∃ u,Ending.returned u3=.returned u/\OwnI wr w.heap.size u (AK E)/\Bw w wr):=Hd ⟨u3,rfl,by rw[HVT.o,<- HZ.o,<- he];exact gc.o.lower (by omega),HB1.o.trans (g0.o.mono HB1.o.size)⟩;go_wp2_with fail;go_ret;exact HF.o
   ·rw[VS h3] at hZ;have g3:(op == 3)=false:=by simpa using h3
    clear h3;go_wp2_with fail
    go_loopw [3,4] (fun s3 s4 wr=>∃ i:Nat,i<=n/\s4=Iv i/\Bw w1 wr/\OwnI wr w1.heap.size s3 (Z++Ck i fun i=>AK (kid i))/\w1.heap.size<=wr.heap.size) (fun _ s4 _=>n-(intOf s4).toNat)
    case atStart=>exact⟨0,Wb _,rfl,HB2.o,by rw[hZ];simpa [Ck] using gj.o,gl⟩
    case round =>
     obtain⟨i,gq,rfl,g2,g5,gn⟩:=hrel;have d2':=Cq g2 d2;have g0:=Hd g2;have gc:=Hd g5;clear g2 g5
     by_cases g6:i<n
     ·obtain⟨b,off,x0,x1,x2,rfl,c0,c1,c2,hx⟩:=H5.o i g6;have g1:=HB1.o.trans (g0.o.mono HB1.o.size);have e0:=Cq g1 c0;have e1:=Cq g1 c1;have e2:=Cq g1 c2;have HX:=Hd (hx.below g1);have gh:(i:Int)<n:=by omega
      have gp:=HKS.o i g6
      have gd:Hq ((Z++Ck i fun i=>AK (kid i)).length+(AK (kid i)).length<=4096):=Hd (by
       have s1:=Eg (f:=fun i=>(kid i).size) g6;have s2:=HSZ.o;have s3:=G0 (f:=fun i=>AK (kid i)) (g:=fun i=>(kid i).size) i (fun i _=>E8 (kid i));have s4:=E8 (kid i);have s5:=gm.o;rw[VY];omega)
      clear c0 c1 c2 hx g1;go_upto_region 7 with fail
      go_wp2_with (first
       | (go_at_call 107;refine(IH.o i _ _ (by omega) HX.o).mono ?_;rintro y w3 ⟨u,rfl,hu,g7⟩;obtain⟨au,cu,rfl,ga,gf⟩:=hu.sliceIs (by have:=gd.o;omega);have HU:=Hd ga;have g8:=Hd g7;clear hu ga g7)
       | (at_builtin;refine EQ rfl _ _ rfl w1.heap.size w1 _ (Z++Ck i fun i=>AK (kid i)) (AK (kid i)) au cu rfl rfl (by exact gc.o.below g8.o) (by exact HU.o) (by have:=gd.o;omega) (by have:=g8.o.size;omega) (by exact g0.o.trans (g8.o.mono g0.o.size)) gf ?_;intro v4 w4 g4 gi gg _))
      go_roundw
      case rel=>exact⟨i+1,by omega,by go_num,gi,by rw[Wl] at g4;exact g4,gg⟩
      case measure=>simp[intOf];omega
     ·have he:i=n:=by omega
      have gh:¬ (i:Int)<n:=by omega
      have HF:Hq (∃ u,Ending.returned u3=.returned u/\OwnI wr w.heap.size u (AK E)/\Bw w wr):=Hd ⟨u3,rfl,by rw[HVT.o,<- HZ.o,<- he];exact gc.o.lower (by omega),HB1.o.trans (g0.o.mono HB1.o.size)⟩;go_wp2_with fail;go_ret;exact HF.o
abbrev Xp:=@List.getElem_of_mem
theorem QI (a:Option Addr)(c:Nat)(zs:List Int)(v:Int)(w:Wd)(hl:zs.length<=1000000)(h:Am w a zs) :
 Cl 108 #[.slice a zs.length c,Iv v] w (Sm (.bool (decide (v∈zs))) w):=by
 have HI:=Hd h;clear h;have g4:Hq ((∀ j,j<zs.length->at0 zs j≠v)->decide (v∈zs)=false):=Hd fun hh=>Xe fun hm=>by
  obtain⟨j,hj,e⟩:=Xp hm;exact hh j hj (by rw[Au hj];exact e)
 have g2:Hq (∀ j,j<zs.length->at0 zs j=v->decide (v∈zs)=true):=Hd fun j hj e=>WG (by rw[Au hj] at e;rw[<- e];exact Wh hj)
 go_enter func108,ntmps108
 go_wp2_with fail
 go_loopw [5] (fun s5 wr=>∃ i:Nat,i<=zs.length/\s5=Iv i/\w=wr/\Hq (∀ j,j<i->at0 zs j≠v)) (fun s5 _=>zs.length-(intOf s5).toNat)
 case atStart=>exact⟨0,Wb _,rfl,rfl,Hd fun j hj=>by omega⟩
 case round =>
  obtain⟨i,hi,rfl,rfl,HN⟩:=hrel
  by_cases g1:i<zs.length
  ·obtain⟨b,off,rfl,hc⟩:=HI.o.cells i g1;have g3:(i:Int)<zs.length:=by omega
   obtain⟨z,hz⟩:=Ex (at0 zs i);rw[<- hz] at hc
   by_cases he:z=v
   . have HY:=Hd (g2.o i g1 (by rw[<- hz,he]));subst he;clear hz;go_wp2_with fail;go_ret;exact⟨by rw[HY.o];rfl,rfl⟩
   ·have g5:(z == v)=false:=by simpa using he
    have g0:Hq (∀ j,j<i+1->at0 zs j≠v):=Hd fun j hj=>by
     rcases Wo j i with h|h
     . exact HN.o j h
     ·obtain rfl:j=i:=by omega
      rw[<- hz];exact he
    clear hz he;go_wp2_with fail;go_roundw
    case rel=>exact⟨i+1,by omega,by go_num,by simp,g0⟩
    case measure=>simp[intOf];omega
  ·have g0:=Hd (g4.o fun j hj=>HN.o j (by omega));have g3:¬ (i:Int)<zs.length:=by omega
   go_wp2_with fail;go_ret;exact⟨by rw[g0.o];rfl,rfl⟩
structure PutS (zs:List Int)(v:Int)(i:Nat)(d:Bool)(os:List Int):Prop where
 mem:∀ x,x∈os↔x∈zs.take i\/(d=true/\x=v)
 len:os.length=i+if d then 1 else 0
 srt:os.Pairwise (· < ·)
 low:d=false->∀ x∈os,x<v
 up:d=true->∀ x∈os,∀ y∈zs.drop i,x<y
theorem Lq {os:List Int}{z:Int}(h:os.Pairwise (· < ·))(hz:∀ x∈os,x<z):(os++[z]).Pairwise (· < ·) :=
 List.pairwise_append.2 ⟨h,List.pairwise_singleton ..,fun x hx y hy=>by rw[Wf.1 hy];exact hz x hx⟩
abbrev Y3:=@List.pairwise_cons
abbrev Xn:=@List.take_append_drop
theorem Lr (hs:zs.Pairwise (· < ·))(hi:i<zs.length):(∀ y∈zs.drop i,at0 zs i<=y)/\(∀ y∈zs.drop (i+1),at0 zs i<y)/\(∀ x∈zs.take i,x<at0 zs i):=by
 have e:zs.drop i=at0 zs i::zs.drop (i+1):=by rw[Au hi];exact(WN hi)
 have hd:(zs.drop i).Pairwise (· < ·):=hs.sublist (List.drop_sublist ..);rw[e,Y3] at hd;have h2:=hs;rw[<- Xn i zs,List.pairwise_append] at h2;refine⟨fun y hy=>?_,hd.1,fun x hx=>h2.2.2 x hx _ (by rw[e];exact WM ..)⟩;rw[e] at hy;rcases WT.1 hy with h|h
 . omega
 . have:=hd.1 y h;omega
theorem PutS.here {v:Int}{os:List Int}(h:PutS zs v i false os)(hu:∀ y∈zs.drop i,v<y):PutS zs v i true (os++[v]):=by
 refine⟨fun x=>?_,by simp[h.len],Lq h.srt (h.low rfl),by simp,fun _ x hx y hy=>?_⟩
 . have:=h.mem x;simp only[XU,false_and,or_false] at this;simp[this]
 ·rcases Wj.1 hx with h1|h1
  . have:=h.low rfl x h1;have:=hu y hy;omega
  . rw[Wf.1 h1];exact hu y hy
theorem PutS.next {v:Int}{d:Bool}{os:List Int}(h:PutS zs v i d os)(hs:zs.Pairwise (· < ·))(hi:i<zs.length)(hd:d=false->at0 zs i<v):PutS zs v (i+1) d (os++[at0 zs i]):=by
 obtain⟨q1,q2,q3⟩:=Lr hs hi;have g0:∀ x∈os,x<at0 zs i:=fun x hx=>by
  cases d with
  | true=>exact h.up rfl x hx _ (by rw[WN hi,Au hi];exact WM ..)
  | false =>
    rcases(h.mem x).1 hx with h1|⟨h1,_⟩
    . exact q3 x h1
    . cases h1
 refine⟨fun x=>?_,by have:=h.len;simp[this];omega,Lq h.srt g0,fun e x hx=>?_,fun e x hx y hy=>?_⟩
 ·rw[VX hi,Wj,Wj,h.mem x,Au hi];simp only[Wf];constructor
  ·rintro((h1|h1)|h1)
   . exact .inl (.inl h1)
   . exact .inr h1
   . exact .inl (.inr h1)
  ·rintro((h1|h1)|h1)
   . exact .inl (.inl h1)
   . exact .inr h1
   . exact .inl (.inr h1)
 ·rcases Wj.1 hx with h1|h1
  . exact h.low e x h1
  . rw[Wf.1 h1];exact hd e
 ·have g1:=q2 y hy;rcases Wj.1 hx with h1|h1
  . have:=g0 x h1;omega
  . rw[Wf.1 h1];exact g1
theorem QJ (a:Option Addr)(c:Nat)(zs:List Int)(v:Int)(w:Wd)(hl:zs.length<=1000000)(h:Am w a zs)(hsr:zs.Pairwise (· < ·))(hnm:v∉zs) :
 Cl 109 #[.slice a zs.length c,Iv v] w fun y w'=>∃ u os,y=.returned u/\OwnI w' w.heap.size u os/\((∀ x,x∈os↔x∈zs\/x=v)/\os.Pairwise (· < ·))/\os.length=zs.length+1/\Bw w w':=by
 have HI:=Hd h;have g9:=Hd hsr;have gi:Hq (∀ i,i<zs.length->at0 zs i≠v):=Hd fun i hi e=>hnm (by rw[<- e,Au hi];exact Wh hi)
 clear h hsr hnm;have ga:Hq (∀ os,PutS zs v zs.length true os->((∀ x,x∈os↔x∈zs\/x=v)/\os.Pairwise (· < ·))/\os.length=zs.length+1):=Hd fun os h=>⟨⟨fun x=>by have:=h.mem x;rw[W9] at this;simpa using this,h.srt⟩,by simpa using h.len⟩
 go_enter func109,ntmps109
 go_wp2_with fail
 go_loopw [5,6,7] (fun s5 s6 s7 wr=>∃ (i:Nat) (d:Bool) (os:List Int),i<=zs.length/\s6=.bool d/\s7=Iv i/\OwnI wr w.heap.size s5 os/\w.heap.size<=wr.heap.size/\Bw w wr/\Hq (PutS zs v i d os)) (fun _ _ s7 _=>zs.length-(intOf s7).toNat)
 case atStart=>exact⟨0,false,[],Wb _,rfl,rfl,DR w _ (VQ _),by simp,Af w _,Hd ⟨fun x=>by simp,by simp,List.Pairwise.nil,by simp,by simp⟩⟩
 case round =>
  obtain⟨i,d,os,hi,rfl,rfl,g7,g8,g5,HP⟩:=hrel;have gk:os.length<=i+1:=by rw[HP.o.len];split<;>omega
  by_cases g4:i<zs.length
  ·obtain⟨b,off,rfl,hc⟩:=(HI.o.below g5).cells i g4;have g6:=Hd g7;have g3:=Hd g5;have gg:(i:Int)<zs.length:=by omega
   obtain⟨z,hz⟩:=Ex (at0 zs i);rw[<- hz] at hc;have HZ:=Hd hz;clear g7 g5 hz;cases d with
   | true =>
     go_wp2_with (at_builtin;refine CR _ rfl _ _ rfl w.heap.size w _ os _ rfl rfl rfl rfl (by exact g6.o) (by omega) g8 g3.o ?_;intro v1 w1 g1 g0 g2 _);go_roundw
     case rel=>exact⟨i+1,true,_,by omega,rfl,by go_num,g1,g2,g0,Hd (by rw[HZ.o];exact HP.o.next g9.o g4 (by simp))⟩
     case measure=>simp[intOf];omega
   | false =>
     by_cases gl:z>v
     ·have cne:∀ W:Wd,Bw wr W->W.cell? (Aw b (off+i))=some (Iv z):=fun W hb=>(Cq hb hc)
      have gf:b<w.heap.size:=by
       obtain⟨b',o',e,c'⟩:=HI.o.cells i g4;cases e;exact Ag c'
      go_upto_region 8 with (at_builtin;refine CR _ rfl _ _ rfl w.heap.size w _ os _ rfl rfl rfl rfl (by exact g6.o) (by omega) g8 g3.o ?_;intro v1 w1 g1 g0 g2 _)
      have gm:w1.cell? (Aw b (off+i))=some (Iv z):=by
       obtain⟨b',o',e,c'⟩:=HI.o.cells i g4;cases e;rw[(g0.cell (p:=(Aw b (off+i))) gf),HZ.o];exact c'
      have gh:=Hd g1;have gj:=Hd g0;clear g1 g0 hc cne;go_wp2_with (at_builtin;refine CR _ rfl _ _ rfl w.heap.size w _ (os++[v]) _ rfl rfl rfl rfl (by exact gh.o) (by simp;omega) g2 gj.o ?_;intro v2 w2 gc gd ge _);go_roundw
      case rel=>exact⟨i+1,true,_,by omega,rfl,by go_num,gc,ge,gd,Hd (by rw[HZ.o];exact(HP.o.here fun y hy=>by have:=(Lr g9.o g4).1 y hy;have:=HZ.o;omega).next g9.o g4 (by simp))⟩
      case measure=>simp[intOf];omega
     ·go_wp2_with (at_builtin;refine CR _ rfl _ _ rfl w.heap.size w _ os _ rfl rfl rfl rfl (by exact g6.o) (by omega) g8 g3.o ?_;intro v1 w1 g1 g0 g2 _);go_roundw
      case rel=>exact⟨i+1,false,_,by omega,rfl,by go_num,g1,g2,g0,Hd (by rw[HZ.o];exact HP.o.next g9.o g4 fun _=>by have:=gi.o i g4;have:=HZ.o;omega)⟩
      case measure=>simp[intOf];omega
  ·have he:i=zs.length:=by omega
   have gg:¬ (i:Int)<zs.length:=by omega
   have g6:=Hd g7;have g3:=Hd g5;have HE:=Hd he;clear g7 g5 he;cases d with
   | true =>
     have HF:=ga.o os (by rw[<- HE.o];exact HP.o);go_wp2_with fail;go_ret;exact⟨_,rfl,os,g6.o,HF.1,HF.2,g3.o⟩
   | false =>
     have HF:=Hd (ga.o (os++[v]) (by rw[<- HE.o];exact HP.o.here (by rw[HE.o];simp)));go_wp2_with (at_builtin;refine CR _ rfl _ _ rfl w.heap.size w _ os _ rfl rfl rfl rfl (by exact g6.o) (by omega) g8 g3.o ?_;intro v1 w1 g1 g0 g2 _);go_ret;exact⟨_,rfl,_,g1,HF.o.1,HF.o.2,g0⟩
theorem Ls (hi:i<zs.length)(x:Int):x∈zs.take (i+1)↔x∈zs.take i\/x=at0 zs i:=by
 rw[VX hi,Wj,Au hi,Wf]
theorem QK (a:Option Addr)(c:Nat)(zs:List Int)(w:Wd)(hl:zs.length<=900000)(h:Am w a zs) :
 Cl 53 #[.slice a zs.length c] w fun y w'=>∃ u os,y=.returned u/\OwnI w' w.heap.size u os/\((∀ x,x∈os↔x∈zs)/\os.Pairwise (· < ·))/\os.length<=zs.length/\Bw w w':=by
 have HI:=Hd h;clear h
 go_enter func53,ntmps53
 go_wp2_with fail
 go_loopw [3,4] (fun s3 s4 wr=>∃ (i:Nat) (os:List Int),i<=zs.length/\s4=Iv i/\OwnI wr w.heap.size s3 os/\w.heap.size<=wr.heap.size/\Bw w wr/\os.length<=i/\Hq ((∀ x,x∈os↔x∈zs.take i)/\os.Pairwise (· < ·))) (fun _ s4 _=>zs.length-(intOf s4).toNat)
 case atStart=>exact⟨0,[],Wb _,rfl,DR w _ (VQ _),by simp,Af w _,by simp,Hd ⟨fun x=>by simp,List.Pairwise.nil⟩⟩
 case round =>
  obtain⟨i,os,hi,rfl,g0,g6,g1,gk,HP⟩:=hrel
  by_cases gd:i<zs.length
  ·obtain⟨b,off,rfl,hc⟩:=(HI.o.below g1).cells i gd;have gg:(i:Int)<zs.length:=by omega
   obtain⟨z,hz⟩:=Ex (at0 zs i);rw[<- hz] at hc;obtain⟨ao,co,rfl,g8,gj⟩:=g0.sliceIs (by omega);have g4:=Hd (QI ao co os z wr (by omega) g8);have g3:Hq (z∉os->_):=Hd fun h=>QJ ao co os z wr (by omega) g8 HP.o.2 h
   have ga:=Hd g0;have g5:=Hd g1;have HT:=Hd (Ls gd);have HZ:=Hd hz;clear g0 g1 hz g8
   by_cases hm:z∈os
   ·have hb:decide (z∈os)=true:=by simp[hm]
    rw[hb] at g4
    have gc:Hq ((∀ x,x∈os↔x∈zs.take (i+1))/\os.Pairwise (· < ·)):=Hd ⟨fun x=>by
     rw[HT.o x,<- HZ.o];constructor
     . intro h;exact .inl ((HP.o.1 x).1 h)
     ·rintro(h|rfl)
      . exact(HP.o.1 x).2 h
      . exact hm,HP.o.2⟩
    clear hm hb g3;go_wp2_with fail;refine g4.o.mono ?_;rintro y w' ⟨rfl,rfl⟩;go_wp2_with fail;go_roundw
    case rel=>exact⟨i+1,os,by omega,by go_num,ga.o,g6,g5.o,by omega,gc⟩
    case measure=>simp[intOf];omega
   ·have hb:decide (z∈os)=false:=by simp[hm]
    rw[hb] at g4;have g3:=Hd (g3.o hm);clear hm hb;go_wp2_with fail;refine g4.o.mono ?_;rintro y w' ⟨rfl,rfl⟩;go_wp2_with fail;refine g3.o.mono ?_;rintro y w2 ⟨u,os2,rfl,g7,g2,gi,g9⟩
    have gc:Hq ((∀ x,x∈os2↔x∈zs.take (i+1))/\os2.Pairwise (· < ·)):=Hd ⟨fun x=>by
     rw[g2.1 x,HT.o x,<- HZ.o,HP.o.1 x],g2.2⟩
    have gh:Hq (OwnI w2 w.heap.size u os2):=Hd (g7.lower g6);have HB2:=Hd (g5.o.trans (g9.mono g6));have gf:w.heap.size<=w2.heap.size:=VU g6 g9.size;clear g7 g2 g9;go_wp2_with fail;go_roundw
    case rel=>exact⟨i+1,os2,by omega,by go_num,gh.o,gf,HB2.o,by omega,gc⟩
    case measure=>simp[intOf];omega
  ·have he:i=zs.length:=by omega
   have gg:¬ (i:Int)<zs.length:=by omega
   have ga:=Hd g0;have g5:=Hd g1;have HM:Hq ((∀ x,x∈os↔x∈zs)/\os.Pairwise (· < ·)):=Hd ⟨fun x=>by have:=HP.o.1 x;rw[he,W9] at this;exact this,HP.o.2⟩;have ge:os.length<=zs.length:=by omega
   clear g0 g1 he;go_wp2_with fail;go_ret;exact⟨_,rfl,os,ga.o,HM.o,ge,g5.o⟩
theorem A4.agg {w:Wd}{e:ExT}{x:Value}(h:A4 w e x):∃ x0 x1 x2,x=.agg #[x0,x1,x2]/\x0.cells=#[x0]/\x1.cells=#[x1]/\x2.cells=#[x2]:=by
 cases e with
 | nil=>unfold A4 at h;exact h.elim
 | mk op v n kid =>
   unfold A4 at h;obtain⟨a,c,rfl,_⟩:=h;exact⟨_,_,_,rfl,rfl,rfl,rfl⟩
theorem QL (e:ExT)(x:Value)(w:Wd)(hs:e.size<=4096)(h:A4 w e x) :
 Cl 52 #[x] w fun y w'=>∃ u os,y=.returned u/\SliceIs w' u os/\os.length<=4096/\(okT e 1->(∀ v,v∈os↔v∈AK e)/\os.Pairwise (· < ·))/\Bw w w':=by
 have HC:Hq (∀ W,Bw w W->∀ u,u=x->Cl 51 #[u] W fun y w'=>∃ err:Int,y=.returned (Iv err)/\(err=0↔okT e 1)/\Bw W w'):=Hd fun W hb u hu=>by subst hu;exact IT e _ W hs (h.below hb)
 have HV:Hq (∀ W,Bw w W->∀ u,u=x->Cl 107 #[u] W fun y w'=>∃ u,y=.returned u/\OwnI w' W.heap.size u (AK e)/\Bw W w'):=Hd fun W hb u hu=>by subst hu;exact Lp e _ W hs (h.below hb)
 have ge:=E8 e;obtain⟨x0,x1,x2,hx,o0,o1,o2⟩:=h.agg;subst hx;obtain⟨w1,g2⟩:=Ex (w.alloc (.cells #[x0,x1,x2] 79));have HW1:Hq (_=w1):=Hd g2.symm;have g6:Hq (Bw w w1):=by rw[g2];exact Hd (Af _ _)
 have g0:w1.heap[w.heap.size]?=some (.cells #[x0,x1,x2] 79 (0,0)):=by rw[g2];exact VT _ _
 have d0:w1.cell? (Av w.heap.size)=some x0:=by rw[VR _ _ 0 _ _ _ g0];rfl
 have d1:w1.cell? (Aw w.heap.size 1)=some x1:=by rw[VR _ _ 1 _ _ _ g0];rfl
 have d2:w1.cell? (Aw w.heap.size 2)=some x2:=by rw[VR _ _ 2 _ _ _ g0];rfl
 clear h g2 g0
 go_enter func52,ntmps52
 go_upto_region 1 with fail;rw[HW1.o];go_wp2_with fail;refine(HC.o _ g6.o _ rfl).mono ?_;rintro y w2 ⟨err,rfl,g5,g1⟩;have HB2:=Hd (g6.o.trans (g1.mono g6.o.size));have gd:=Hd g5;have e0:=Cq g1 d0;have e1:=Cq g1 d1;have e2:=Cq g1 d2;clear g1 g5 d0 d1 d2
 by_cases he:err=0
 . subst he;go_wp2_with fail;refine(HV.o _ HB2.o _ rfl).mono ?_;rintro y w3 ⟨u,rfl,hu,g9⟩;obtain⟨au,cu,rfl,g7,gf⟩:=hu.sliceIs (by omega);have HO:=Hd (QK au cu (AK e) w3 (by omega) g7);have ga:=Hd (HB2.o.trans (g9.mono HB2.o.size));clear hu g7 g9 e0 e1 e2;go_wp2_with fail;refine HO.o.mono ?_;rintro y w4 ⟨u4,os,rfl,g3,g4,gc,g8⟩;have HF:Hq (∃ u os,Ending.returned u4=.returned u/\SliceIs w4 u os/\os.length<=4096/\(okT e 1->(∀ v,v∈os↔v∈AK e)/\os.Pairwise (· < ·))/\Bw w w4):=Hd ⟨u4,os,rfl,g3.sliceIs (by omega),by omega,fun _=>g4,ga.o.trans (g8.mono ga.o.size)⟩;clear g3 g4 gc g8;go_wp2_with fail;go_ret;exact HF.o
 ·have gg:(err != 0)=true:=by simpa using he
  have HF:Hq (∃ u os,Ending.returned (.slice none 0 0)=.returned u/\SliceIs w2 u os/\os.length<=4096/\(okT e 1->(∀ v,v∈os↔v∈AK e)/\os.Pairwise (· < ·))/\Bw w w2):=Hd ⟨_,[],rfl,FI w2,by simp,fun h=>(he (gd.o.2 h)).elim,HB2.o⟩;clear he e0 e1 e2;go_wp2_with fail;go_ret;exact HF.o
theorem QM (e:ExT)(x:Value)(w:Wd)(hs:e.size<=4096)(h:A4 w e x) :
 Cl 52 #[x] w fun y w'=>∃ u os,y=.returned u/\SliceIs w' u os/\os.length<=4096/\(okT e 1->∀ v∈AK e,v∈os)/\Bw w w' :=
 (QL e x w hs h).mono fun _ _ ⟨u,os,h1,h2,h3,h4,h5⟩=>⟨u,os,h1,h2,h3,fun hk v hv=>((h4 hk).1 v).2 hv,h5⟩
structure EvsAt (w:Wd)(a:Option Addr)(l:List Ev):Prop where
 len:l.length<=9223372036854775807
 cells:∀ k,∀ hk:k<l.length,∃ b off,a=some (Aw b off)/\w.cell? (Aw b (off+k*3))=some (Iv l[k].after)/\w.cell? (Aw b (off+k*3+1))=some (Iv l[k].kind)/\w.cell? (Aw b (off+k*3+2))=some (Iv l[k].level)
theorem EvsAt.below {l:List Ev}(h:EvsAt w a l)(hb:Bw w w'):EvsAt w' a l :=
 ⟨h.len,fun k hk=>by
  obtain⟨b,off,e,c0,c1,c2⟩:=h.cells k hk;exact⟨b,off,e,(Cq hb c0),(Cq hb c1),(Cq hb c2)⟩⟩
def Dg (vars:Int)(e:Ev):Int:=if e.kind<1\/e.kind>3 then 11 else if e.after<1\/(e.kind=2/\(e.level<0\/e.level>vars-2)) then 2 else 0
def Dh (vars:Int):List Ev->Int
 | []=>0
 | e::r=>if Dg vars e=0 then Dh vars r else Dg vars e
def Bt (vars waits:Int)(l:List Ev):Int:=if (l.length:Int)>256-waits then 18 else Dh vars l
theorem G1 {vars:Int}{l:List Ev}(hi:i<l.length):Dh vars (l.drop i)=if Dg vars l[i]=0 then Dh vars (l.drop (i+1)) else Dg vars l[i]:=by
 rw[WN hi];rfl
theorem QN (vars waits:Int)(hv:0<=vars/\vars<=1000)(hw:0<=waits/\waits<=1000)(a:Option Addr)(c:Nat)(l:List Ev)(w:Wd)(h:EvsAt w a l) :
 Cl 49 #[Iv vars,Iv waits,.slice a l.length c] w (Sm (Iv (Bt vars waits l)) w):=by
 have HI:=Hd h;have hl:=h.len;clear h
 by_cases g1:(l.length:Int)>256-waits
 ·have HR:Hq (Bt vars waits l=18):=Hd (by unfold Bt;rw[VW g1])
  go_enter func49,ntmps49
  go_wp2_with fail;go_ret;exact⟨by rw[HR.o];rfl,rfl⟩
 have HR:Hq (Bt vars waits l=Dh vars (l.drop 0)):=Hd (by unfold Bt;rw[VS g1];rfl);obtain⟨P,hP⟩:=Ex (Bt vars waits l);rw[<- hP] at HR ⊢;clear hP
 go_enter func49,ntmps49
 go_wp2_with fail
 go_loopw [7] (fun s7 wr=>∃ i:Nat,i<=l.length/\s7=Iv i/\w=wr/\Hq (P=Dh vars (l.drop i))) (fun s7 _=>l.length-(intOf s7).toNat)
 case atStart=>exact⟨0,Wb _,rfl,rfl,HR⟩
 case round =>
  clear HR;obtain⟨i,hi,rfl,rfl,HP⟩:=hrel
  by_cases g2:i<l.length
  ·obtain⟨b,off,rfl,c0,c1,c2⟩:=HI.o.cells i g2;have g8:(i:Int)<l.length:=by omega
   have HC:Hq (∀ z:Int,Dg vars l[i]=z->z≠0->P=z):=Hd fun z hz h0=>by rw[HP.o,G1 g2,hz,VS h0]
   have HN:Hq (Dg vars l[i]=0->P=Dh vars (l.drop (i+1))):=Hd fun hz=>by rw[HP.o,G1 g2,hz,VW rfl]
   have HE:Hq (Dg vars l[i]=if l[i].kind<1\/l[i].kind>3 then 11 else if l[i].after<1\/(l[i].kind=2/\(l[i].level<0\/l[i].level>vars-2)) then 2 else 0):=Hd rfl;obtain⟨ev,g3⟩:=Ex (l[i]);rw[<- g3] at c0 c1 c2 HC HN HE;obtain⟨af,ki,le⟩:=ev;dsimp only at c0 c1 c2 HE;clear g3 HP;have g6:ki<1\/ki>3\/(ki=2)\/(ki=1\/ki=3):=by omega
   rcases g6 with hk|hk|hk|hk
   . have g0:=Hd (HC.o 11 (by rw[HE.o,VW (.inl hk)]) (by decide));go_wp2_with fail;go_ret;exact⟨by rw[g0.o];rfl,rfl⟩
   ·have g0:=Hd (HC.o 11 (by rw[HE.o,VW (.inr hk)]) (by decide));have g7:¬ ki<1:=by omega
    go_wp2_with fail;go_ret;exact⟨by rw[g0.o];rfl,rfl⟩
   ·by_cases ha:af<1
    . have g0:=Hd (HC.o 2 (by rw[HE.o,VS (by omega),VW (.inl ha)]) (by decide));subst hk;go_wp2_with fail;go_ret;exact⟨by rw[g0.o];rfl,rfl⟩
    ·by_cases g5:le<0
     . have g0:=Hd (HC.o 2 (by rw[HE.o,VS (by omega),VW (.inr ⟨hk,.inl g5⟩)]) (by decide));subst hk;go_wp2_with fail;go_ret;exact⟨by rw[g0.o];rfl,rfl⟩
     ·by_cases g4:le>vars-2
      . have g0:=Hd (HC.o 2 (by rw[HE.o,VS (by omega),VW (.inr ⟨hk,.inr g4⟩)]) (by decide));subst hk;go_wp2_with fail;go_ret;exact⟨by rw[g0.o];rfl,rfl⟩
      ·have g0:=Hd (HN.o (by rw[HE.o,VS (by omega),VS (by omega)]));subst hk;go_wp2_with fail;go_roundw
       case rel=>exact⟨i+1,by omega,by go_num,by simp,g0⟩
       case measure=>simp[intOf];omega
   ·have g7:¬ ki<1:=by omega
    have ga:¬ ki>3:=by omega
    have g9:(ki == 2)=false:=by simp;omega
    by_cases ha:af<1
    . have g0:=Hd (HC.o 2 (by rw[HE.o,VS (by omega),VW (.inl ha)]) (by decide));clear hk;go_wp2_with fail;go_ret;exact⟨by rw[g0.o];rfl,rfl⟩
    ·have g0:=Hd (HN.o (by rw[HE.o,VS (by omega),VS (by omega)]));clear hk;go_wp2_with fail;go_roundw
     case rel=>exact⟨i+1,by omega,by go_num,by simp,g0⟩
     case measure=>simp[intOf];omega
  ·have he:i=l.length:=by omega
   have g8:¬ (i:Int)<l.length:=by omega
   have g0:Hq (P=0):=Hd (by rw[HP.o,he,List.drop_length];rfl);clear he;go_wp2_with fail;go_ret;exact⟨by rw[g0.o];rfl,rfl⟩
def cntP (zs:List Int)(v:Int)(i:Nat):Nat:=((zs.take i).filter (fun z=>decide (z=v))).length
theorem Eh {v:Int}(hi:i<zs.length)(h:at0 zs i=v):cntP zs v (i+1)=cntP zs v i+1:=by
 rw[Au hi] at h;unfold cntP;rw[VX hi,WB];simp[h]
theorem IU {v:Int}(hi:i<zs.length)(h:at0 zs i≠v):cntP zs v (i+1)=cntP zs v i:=by
 rw[Au hi] at h;unfold cntP;rw[VX hi,WB];simp[h]
theorem QQ (zs:List Int)(v:Int)(i:Nat):cntP zs v i<=i:=by
 unfold cntP;refine VU (WV _ _) ?_;rw[X9];omega
def BC (zs:List Int)(n:Int):Bool:=decide ((zs.length:Int)=n/\∀ v,v<zs.length->cntP zs (v:Nat) zs.length=1)
abbrev Yn:=@Bool.eq_iff_iff
theorem Lt (a:Option Addr)(c:Nat)(zs:List Int)(n:Int)(w:Wd)(hz:Am w a zs)(hl:zs.length<=1000000) :
 Cl 23 #[.slice a zs.length c,Iv n] w (Sm (.bool (BC zs n)) w):=by
 have HZ:=Hd hz;clear hz
 by_cases hn:(zs.length:Int)=n
 ·subst hn;have HR:Hq (∀ b:Bool,(b=true↔∀ v,v<zs.length->cntP zs (v:Nat) zs.length=1)->BC zs zs.length=b):=by
   refine Hd fun b hb=>?_
   unfold BC;rw[Yn,hb];simp
  go_enter func23,ntmps23
  go_wp2_with fail
  go_loopw [5] (fun s5 wr=>∃ k:Nat,k<=zs.length/\s5=Iv k/\w=wr/\∀ v,v<k->cntP zs (v:Nat) zs.length=1) (fun s5 _=>zs.length-(intOf s5).toNat)
  case atStart=>exact⟨0,Wb _,rfl,rfl,fun v hv=>by omega⟩
  case round =>
   obtain⟨k,hk,rfl,rfl,g2⟩:=hrel;have HA:=Hd g2;clear g2
   by_cases g3:k<zs.length
   ·have g4:(k:Int)<zs.length:=by omega
    go_wp2_with fail
    go_loopw [6,7] (fun s6 s7 wx=>∃ i:Nat,i<=zs.length/\s7=Iv i/\s6=Iv (cntP zs (k:Nat) i:Nat)/\w=wx) (fun _ s7 _=>zs.length-(intOf s7).toNat)
    case atStart=>exact⟨0,Wb _,rfl,rfl,rfl⟩
    case round =>
     obtain⟨i,hi,rfl,rfl,rfl⟩:=hrel;have g6:=QQ zs (k:Nat) i
     by_cases g1:i<zs.length
     ·obtain⟨b,off,ha,hc⟩:=HZ.o.cells i g1;subst ha;have g5:(i:Int)<zs.length:=by omega
      by_cases he:at0 zs i=(k:Nat)
      ·rw[he] at hc;have HY:=Hd (Eh g1 he);go_wp2_with fail;go_roundw
       case rel=>exact⟨i+1,by omega,by go_num,by rw[HY.o];go_num,trivial⟩
       case measure=>simp[intOf];omega
      ·have g0:((at0 zs i:Int) == (k:Nat))=false:=by simpa using he
       have HY:=Hd (IU g1 he)
       generalize at0 zs i=z at hc g0
       clear he;go_wp2_with fail;go_roundw
       case rel=>exact⟨i+1,by omega,by go_num,by rw[HY.o],trivial⟩
       case measure=>simp[intOf];omega
     ·obtain rfl:i=zs.length:=by omega
      generalize hq:cntP zs (k:Nat) zs.length=q at *
      by_cases h1:q=1
      ·subst h1;have HQ:=Hd hq;clear hq;go_wp2_with fail;go_roundw
       case rel =>
        refine⟨k+1,by omega,by go_num,trivial,fun v hv=>?_⟩
        by_cases e:v=k
        . subst e;exact HQ.o
        . exact HA.o v (by omega)
       case measure=>simp[intOf];omega
      ·have g0:((q:Int) == 1)=false:=by simp;omega
       have HQ:=Hd hq;clear hq;go_wp2_with fail;go_ret;refine⟨?_,rfl⟩
       rw[HR.o false (by
        simp only[XU,false_iff];intro hh;exact h1 ((HQ.o).symm.trans (hh k g3)))]
       rfl
   ·obtain rfl:k=zs.length:=by omega
    go_wp2_with fail;go_ret;refine⟨?_,rfl⟩;rw[HR.o true (by simp only[true_iff];exact HA.o)];rfl
 ·have g0:(((zs.length:Nat):Int) == n)=false:=by simpa using hn
  have HR:Hq (BC zs n=false):=by
   refine Hd ?_
   show BC zs n=false
   unfold BC;simp[hn]
  go_enter func23,ntmps23
  go_wp2_with fail;go_ret;exact⟨by rw[HR.o];rfl,rfl⟩
theorem QR (a:Option Addr)(c:Nat)(zs:List Int)(n:Int)(w:Wd)(hz:Am w a zs)(hn:(zs.length:Int)≠n) :
 Cl 23 #[.slice a zs.length c,Iv n] w (Sm (.bool false) w):=by
 have hl:=hz.len;have g0:(((zs.length:Nat):Int) == n)=false:=by simpa using hn
 clear hz
 go_enter func23,ntmps23
 go_wp2_with fail;go_ret;exact⟨rfl,rfl⟩
theorem QS (a:Option Addr)(c:Nat)(zs:List Int)(n:Int)(w:Wd)(hz:Am w a zs)(hn:n<=1000) :
 Cl 23 #[.slice a zs.length c,Iv n] w (Sm (.bool (BC zs n)) w):=by
 by_cases h:(zs.length:Int)=n
 . exact Lt a c zs n w hz (by omega)
 ·have:BC zs n=false:=by unfold BC;simp[h]
  rw[this];exact QR a c zs n w hz h
theorem A4.parts {e:ExT}{x0 x1 x2:Value}(h:A4 w e (.agg #[x0,x1,x2])):∃ op v a n c,x0=Iv op/\x1=Iv v/\x2=.slice a n c:=by
 cases e with
 | nil=>unfold A4 at h;exact h.elim
 | mk op v n kid =>
   unfold A4 at h;obtain⟨a,c,hx,_⟩:=h;cases hx;exact⟨_,_,_,_,_,rfl,rfl,rfl⟩
structure Fk (w:Wd)(a:Option Addr)(l:List ExT):Prop where
 len:l.length<=9223372036854775807
 cells:∀ k,∀ hk:k<l.length,∃ b off x0 x1 x2,a=some (Aw b off)/\w.cell? (Aw b (off+k*3))=some x0/\w.cell? (Aw b (off+k*3+1))=some x1/\w.cell? (Aw b (off+k*3+2))=some x2/\A4 w l[k] (.agg #[x0,x1,x2])
theorem Fk.below {w w':Wd}{a:Option Addr}{l:List ExT}(h:Fk w a l)(hb:Bw w w'):Fk w' a l :=
 ⟨h.len,fun k hk=>by
  obtain⟨b,off,x0,x1,x2,e,c0,c1,c2,hx⟩:=h.cells k hk;exact⟨b,off,x0,x1,x2,e,(Cq hb c0),(Cq hb c1),(Cq hb c2),hx.below hb⟩⟩
structure AskD where
 vars:Int
 order:List Int
 es:List ExT
 plan:List Ev
structure AskAt (w:Wd)(q:AskD)(ao ae ap:Option Addr):Prop where
 vars:okI q.vars
 order:Am w ao q.order
 es:Fk w ae q.es
 plan:EvsAt w ap q.plan
theorem AskAt.below {w w':Wd}{q:AskD}{ao ae ap:Option Addr}(h:AskAt w q ao ae ap)(hb:Bw w w'):AskAt w' q ao ae ap:=⟨h.vars,h.order.below hb,h.es.below hb,h.plan.below hb⟩
structure C6 (q:AskD):Prop where
 lo:1<=q.vars
 hi:q.vars<=6
 es:q.es.length<=5
 plan:q.plan.length<=6
 order:q.order.length>0->BC q.order q.vars=true
 planOk:Bt q.vars 0 q.plan=0
 after:∀ ev∈q.plan,ev.after<=300
 expr:∀ e∈q.es,e.size<=40/\okT e 1/\∀ v∈AK e,v<q.vars
def askV (q:AskD)(ao ae ap:Option Addr)(co ce cp:Nat):Value:=.agg #[Iv q.vars,.slice ao q.order.length co,.slice ae q.es.length ce,.slice ap q.plan.length cp]
theorem Fl (q:AskD)(ao ae ap:Option Addr)(co ce cp:Nat)(w:Wd)(h:AskAt w q ao ae ap) :
 Cl 14 #[askV q ao ae ap co ce cp] w fun y w'=>∃ b,y=.returned (.bool b)/\(b=true->C6 q)/\Bw w w':=by
 obtain⟨vars,order,es,plan⟩:=q;obtain⟨hv,ho,he,hp⟩:=h;dsimp only [askV] at hv ho he hp ⊢;unfold okI at hv;have hd:=ho.len;have hm:=he.len;have hc:=hp.len;have HO:=Hd ho;have HE:=Hd he;have HP:=Hd hp;obtain⟨w1,gh⟩:=Ex (w.alloc (.cells #[Iv vars,.slice ao order.length co,.slice ae es.length ce,.slice ap plan.length cp] 26));have HW1:Hq (_=w1):=Hd gh.symm;have g9:Hq (Bw w w1):=by rw[gh];exact Hd (Af _ _)
 have g0:w1.heap[w.heap.size]?=some (.cells #[Iv vars,.slice ao order.length co,.slice ae es.length ce,.slice ap plan.length cp] 26 (0,0)):=by rw[gh];exact VT _ _
 have d0:w1.cell? (Av w.heap.size)=some (Iv vars):=by rw[VR _ _ 0 _ _ _ g0];rfl
 have d1:w1.cell? (Aw w.heap.size 1)=some (.slice ao order.length co):=by rw[VR _ _ 1 _ _ _ g0];rfl
 have d2:w1.cell? (Aw w.heap.size 2)=some (.slice ae es.length ce):=by rw[VR _ _ 2 _ _ _ g0];rfl
 have d3:w1.cell? (Aw w.heap.size 3)=some (.slice ap plan.length cp):=by rw[VR _ _ 3 _ _ _ g0];rfl
 have hs1:w1.heap.size=w.heap.size+1:=by rw[gh];simp
 have ge:Hq (vars<=6->Cl 23 #[.slice ao order.length co,Iv vars] w1 (Sm (.bool (BC order vars)) w1)):=Hd fun hh=>QS ao co order vars w1 (HO.o.below g9.o) (by omega)
 have gf:Hq (0<=vars->vars<=6->Cl 49 #[Iv vars,Iv 0,.slice ap plan.length cp] w1 (Sm (Iv (Bt vars 0 plan)) w1)):=Hd fun h1 h2=>QN vars 0 ⟨h1,by omega⟩ ⟨by omega,by omega⟩ ap cp plan w1 (HP.o.below g9.o)
 obtain⟨P,hP⟩:=Ex (fun y w'=>∃ b,y=.returned (.bool b)/\(b=true->C6 ⟨vars,order,es,plan⟩)/\Bw w w':Ending->Wd->Prop)
 have gl:Hq (∀ W,Bw w1 W->P (.returned (.bool false)) W):=by rw[hP];exact Hd fun W hb=>⟨false,rfl,by simp,g9.o.trans (hb.mono g9.o.size)⟩
 have gM:Hq (C6 ⟨vars,order,es,plan⟩->∀ W,Bw w1 W->P (.returned (.bool true)) W):=by rw[hP];exact Hd fun hq W hb=>⟨true,rfl,fun _=>hq,g9.o.trans (hb.mono g9.o.size)⟩
 rw[<- hP];clear ho he hp gh g0 hP
 go_enter func14,ntmps14
 go_upto_region 1 with fail;rw[HW1.o]
 go_cut [50] (fun s50 wx=>∃ bad:Bool,s50=.bool bad/\wx=w1/\Hq (bad=false->1<=vars/\vars<=6/\es.length<=5/\plan.length<=6/\(order.length>0->BC order vars=true)/\Bt vars 0 plan=0))
 case first =>
  by_cases h1:vars<1
  ·go_wp2_with fail;go_meet
   case rel=>exact⟨true,rfl,rfl,Hd (by simp)⟩
  by_cases h2:vars>6
  ·go_wp2_with fail;go_meet
   case rel=>exact⟨true,rfl,rfl,Hd (by simp)⟩
  by_cases h3:(es.length:Int)>5
  ·go_wp2_with fail;go_meet
   case rel=>exact⟨true,rfl,rfl,Hd (by simp)⟩
  by_cases h4:(plan.length:Int)>6
  ·go_wp2_with fail;go_meet
   case rel=>exact⟨true,rfl,rfl,Hd (by simp)⟩
  have gf:=Hd (gf.o (by omega) (by omega));have ge:=Hd (ge.o (by omega));obtain⟨pr,gq⟩:=Ex (Bt vars 0 plan);rw[<- gq] at gf;have gI:=Hd gq;clear gq
  by_cases h5:(order.length:Int)>0
  ·obtain⟨rb,gp⟩:=Ex (BC order vars);rw[<- gp] at ge;have gU:=Hd gp;clear gp;cases rb with
   | false =>
     go_wp2_with fail;refine ge.o.mono ?_;rintro y w' ⟨rfl,rfl⟩;go_wp2_with fail;go_meet
     case rel=>exact⟨true,rfl,rfl,Hd (by simp)⟩
   | true =>
     go_wp2_with fail;refine ge.o.mono ?_;rintro y w' ⟨rfl,rfl⟩;go_wp2_with fail;refine gf.o.mono ?_;rintro y w' ⟨rfl,rfl⟩
     by_cases h6:pr=0
     ·have gg:Hq (1<=vars/\vars<=6/\es.length<=5/\plan.length<=6/\(order.length>0->BC order vars=true)/\Bt vars 0 plan=0):=Hd ⟨by omega,by omega,by omega,by omega,fun _=>gU.o.symm,by rw[<- gI.o,h6]⟩;subst h6;go_wp2_with fail;go_meet
      case rel=>exact⟨false,rfl,rfl,Hd fun _=>gg.o⟩
     ·have gS:(pr != 0)=true:=by simpa using h6
      clear h6;go_wp2_with fail;go_meet
      case rel=>exact⟨true,rfl,rfl,Hd (by simp)⟩
  ·go_wp2_with fail;refine gf.o.mono ?_;rintro y w' ⟨rfl,rfl⟩
   by_cases h6:pr=0
   ·have gg:Hq (1<=vars/\vars<=6/\es.length<=5/\plan.length<=6/\(order.length>0->BC order vars=true)/\Bt vars 0 plan=0):=Hd ⟨by omega,by omega,by omega,by omega,fun _=>by omega,by rw[<- gI.o,h6]⟩;subst h6;go_wp2_with fail;go_meet
    case rel=>exact⟨false,rfl,rfl,Hd fun _=>gg.o⟩
   ·have gS:(pr != 0)=true:=by simpa using h6
    clear h6;go_wp2_with fail;go_meet
    case rel=>exact⟨true,rfl,rfl,Hd (by simp)⟩
 case rest =>
  obtain⟨bad,rfl,rfl,gB⟩:=hcut;clear ge gf;cases bad with
  | true =>
    go_wp2_with fail;exact gl.o _ (VZ _ _)
  | false =>
    obtain⟨g1,g2,g3,g4,g5,g6⟩:=gB.o rfl;have gZ:=Hd g5;have gY:=Hd g6;clear g5 g6 gB;go_upto_region 3 with fail;go_wp2_with fail
    go_loopw [4,54] (fun s4 s54 wr=>∃ k:Nat,k<=plan.length/\s54=Iv k/\Bw wc wr/\Hq (∀ ev∈plan.take k,ev.after<=300)) (fun _ s54 _=>plan.length-(intOf s54).toNat)
    case atStart=>exact⟨0,Wb _,rfl,VZ _ _,Hd fun ev he=>by simp at he⟩
    case round =>
     obtain⟨k,hk,rfl,g7,HA⟩:=hrel
     by_cases gi:k<plan.length
     ·obtain⟨b,off,rfl,c0,c1,c2⟩:=((HP.o.below g9.o).below g7).cells k gi;have gP:(k:Int)<plan.length:=by omega
      have g8:=Hd g7;have gk:Hq (∀ ev∈plan.take (k+1),ev∈plan.take k\/ev=plan[k]):=Hd fun ev he=>by
       rw[VX gi,Wj,Wf] at he;exact he
      obtain⟨ev,ga⟩:=Ex (plan[k]);rw[<- ga] at c0 c1 c2 gk;obtain⟨af,ki,le⟩:=ev;dsimp only at c0 c1 c2;clear ga g7
      by_cases hn:af>300
      . have HF:=Hd (gl.o _ (g8.o.trans ((Af wr (.cells #[Iv af,Iv ki,Iv le] 77)).mono g8.o.size)));go_wp2_with fail;exact HF.o
      ·have HF:=Hd (g8.o.trans ((Af wr (.cells #[Iv af,Iv ki,Iv le] 77)).mono g8.o.size));have h7:Hq (∀ ev∈plan.take (k+1),ev.after<=300):=Hd fun ev he=>by
        rcases gk.o ev he with h|rfl
        . exact HA.o ev h
        . dsimp only;omega
       go_wp2_with fail;go_roundw
       case rel=>exact⟨k+1,by omega,by go_num,HF.o,h7⟩
       case measure=>simp[intOf];omega
     ·have h0:Hq (∀ ev∈plan,ev.after<=300):=Hd fun ev ga=>HA.o ev (by rw[WZ (by omega)];exact ga)
      have gP:¬ (k:Int)<plan.length:=by omega
      have d0':=Cq g7 d0;have d2':=Cq g7 d2;have g8:=Hd g7;obtain⟨wA,ha⟩:=Ex wr;clear g7;go_wp2_with fail
      go_loopw [6,8,65] (fun s6 s8 s65 wx=>∃ k:Nat,k<=es.length/\s65=Iv k/\Bw wc wx/\Hq (∀ e∈es.take k,e.size<=40/\okT e 1/\∀ v∈AK e,v<vars)) (fun _ _ s65 _=>es.length-(intOf s65).toNat)
      case atStart=>exact⟨0,Wb _,rfl,g8.o,Hd fun ev he=>by simp at he⟩
      case round =>
       rename Wd=>wy
       obtain⟨j,hj,rfl,gj,HB⟩:=hrel
       by_cases gi:j<es.length
       ·obtain⟨b,off,x0,x1,x2,rfl,c0,c1,c2,hx⟩:=((HE.o.below g9.o).below gj).cells j gi;have gQ:(j:Int)<es.length:=by omega
        have gK:=Hd gj;have gk:Hq (∀ e∈es.take (j+1),e∈es.take j\/e=es[j]):=Hd fun e he=>by
         rw[VX gi,Wj,Wf] at he;exact he
        have gv:=Cq gj d0;obtain⟨e,ga⟩:=Ex (es[j]);rw[<- ga] at hx gk;have HX:=Hd hx;obtain⟨zo,zv,za,zn,zc,rfl,rfl,rfl⟩:=hx.parts;clear ga gj hx;go_upto_region 12 with fail;obtain⟨wz,gm⟩:=Ex (wy.alloc (.cells #[Iv zo,Iv zv,.slice za zn zc] 79));have go:Bw wy wz:=by rw[gm];exact Af _ _
        have g0:wz.heap[wy.heap.size]?=some (.cells #[Iv zo,Iv zv,.slice za zn zc] 79 (0,0)):=by rw[gm];exact VT _ _
        have k0:wz.cell? (Av wy.heap.size)=some (Iv zo):=by rw[VR _ _ 0 _ _ _ g0];rfl
        have k1:wz.cell? (Aw wy.heap.size 1)=some (Iv zv):=by rw[VR _ _ 1 _ _ _ g0];rfl
        have k2:wz.cell? (Aw wy.heap.size 2)=some (.slice za zn zc):=by rw[VR _ _ 2 _ _ _ g0];rfl
        have kd:=Cq go gv;have gx:=Hd (HX.o.below go);have gJ:=Hd (gK.o.trans (go.mono gK.o.size));rw[<- gm];clear gm go g0 c0 c1 c2 gv;go_wp2_with fail;refine(Ln e _ 40 _ (by omega) gx.o).mono ?_;rintro y wp ⟨⟨r,rfl,_,_,gD⟩,gd⟩;have gA:=Hd (gJ.o.trans (gd.mono gJ.o.size));have gy:=Hd (gx.o.below gd);have m0:=Cq gd k0;have m1:=Cq gd k1;have m2:=Cq gd k2;have md:=Cq gd kd;clear gd k0 k1 k2 kd
        by_cases hr:(r:Int)>40
        . have HF:=Hd (gl.o _ gA.o);go_wp2_with fail;exact HF.o
        have gC:e.size<=40:=by have:=gD (by omega);omega
        clear gD;go_wp2_with fail;refine(IT e _ _ (by omega) gy.o).mono ?_;rintro y wq ⟨err,rfl,gu,gc⟩;have gz:=Hd (gA.o.trans (gc.mono gA.o.size));have gF:=Hd (gy.o.below gc);have n0:=Cq gc m0;have n1:=Cq gc m1;have n2:=Cq gc m2;have nd:=Cq gc md;have gX:=Hd gu;clear gc m0 m1 m2 md gu
        by_cases gn:err=0
        ·have gg:=Hd (gX.o.1 gn);subst gn;go_wp2_with fail;refine(QM e _ _ (by omega) gF.o).mono ?_;rintro y ws ⟨u,os,rfl,gO,h8,gr,gw⟩;obtain⟨au,cu,rfl,gE,hf⟩:=gO;have gL:=Hd (gz.o.trans (gw.mono gz.o.size));have pd:=Cq gw nd;have gV:=Hd gE;have gN:=Hd (gr gg.o);clear gw n0 n1 n2 nd gE gr HX gx gy gF;go_wp2_with fail
         go_loopw [8,80] (fun s8 s80 wt=>∃ i:Nat,i<=os.length/\s80=Iv i/\wt=ws/\Hq (∀ v∈os.take i,v<vars)) (fun _ s80 _=>os.length-(intOf s80).toNat)
         case atStart=>exact⟨0,Wb _,rfl,rfl,Hd fun v hv=>by simp at hv⟩
         case round =>
          obtain⟨i,hi,rfl,rfl,gG⟩:=hrel
          by_cases gt:i<os.length
          ·obtain⟨b2,of2,rfl,cc⟩:=gV.o.cells i gt;have gR:(i:Int)<os.length:=by omega
           have gH:=Hd (Ls gt);obtain⟨z,hz⟩:=Ex (at0 os i);rw[<- hz] at cc gH;clear hz
           by_cases h9:z>=vars
           . have HF:=Hd (gl.o _ gL.o);go_wp2_with fail;exact HF.o
           ·have gT:Hq (∀ v∈os.take (i+1),v<vars):=Hd fun v hv=>by
             rcases(gH.o v).1 hv with h|rfl
             . exact gG.o v h
             . omega
            go_wp2_with fail;go_roundw
            case rel=>exact⟨i+1,by omega,by go_num,by simp,gT⟩
            case measure=>simp[intOf];omega
          ·have gR:¬ (i:Int)<os.length:=by omega
           have HB2:Hq (∀ e∈es.take (j+1),e.size<=40/\okT e 1/\∀ v∈AK e,v<vars):=Hd fun e' he'=>by
            rcases gk.o e' he' with h|rfl
            . exact HB.o e' h
            . exact⟨gC,gg.o,fun v hv=>gG.o v (by rw[WZ (by omega)];exact gN.o v hv)⟩
           go_wp2_with fail;go_roundw
           case rel=>exact⟨j+1,by omega,by go_num,gL.o,HB2⟩
           case measure=>simp[intOf];omega
        ·have hg:(err != 0)=true:=by simpa using gn
         have HF:=Hd (gl.o _ gz.o);clear gn;go_wp2_with fail;exact HF.o
       ·have gQ:¬ (j:Int)<es.length:=by omega
        have HF:=Hd (gM.o ⟨g1,g2,g3,g4,gZ.o,gY.o,h0.o,fun e he=>HB.o e (by rw[WZ (by omega)];exact he)⟩ _ gj);go_wp2_with fail;exact HF.o
open Go.RowKit Go.Shelf
section
variable {F:Fence}{α:Type}
def Lu (F:Fence)(n d:Nat)(P:Program)(g:Nat)(lb:Array Value)(encs:α->Array Value)(n₀:Nat)(Bx:Nat->Prop)(Good:List α->Prop)(w:Wd):Prop :=
 ∀ (l:Nat) (J:List α->(Nat->Prop)->Wd->Prop) (M:Nat->Prop) (W:Wd),Gk n₀ J->Minds n₀ J->Wr (fun k=>n₀<=k/\¬ Bx k) w W->(∀ k,Bx k->¬ M k) ->
  (∀ pre x M W1,J pre M W1->(∃ suf,Good (pre++x::suf))->YieldAt F (n-1-d) P l (encs x) W1 fun e W' =>
   e=.returned (.bool true)/\∃ M',J (pre++[x]) M' W'/\Wr M W1 W'/\∀ k,M' k->M k\/W1.heap.size<=k) ->
  J [] M W ->
  CallsIn F n P g (#[.func (.yield l) #[] #[]]++lb) W fun e W'=>(∃ v,e=.returned v)/\∃ xs M',Good xs/\J xs M' W'/\Wr (fun k=>n₀<=k) W W'/\∀ k,M' k->M k\/W.heap.size<=k
theorem QT {g:Operand}{ps:Array Tmp}{assign body:Code}{a:Act}(hro:F.round=none)(h1:1<=n){lb:Array Value}(hg:a.eval g=.func (.func gf) #[] lb)
 (hFg:F.fn gf) (eg:∀ args w,(callFunc gf args).run P w=.ok (.enter gf args) w) {encs:α->Array Value} {n₀:Nat} {Bx:Nat->Prop} {Good:List α->Prop} {d:Nat} (hseq:Lu F (n-1) d P gf lb encs n₀ Bx Good w) (hn0:n₀<=w.heap.size)
 (hBx:∀ k,Bx k->k<w.heap.size) (hps:∀ x,(encs x).size=ps.size) (I:List α->(Nat->Prop)->Wd->Prop) (hOw:Gk n₀ I) (hMi:Minds n₀ I) (M0:Nat->Prop) (hM0:∀ k,Bx k->¬ M0 k) (h0:I [] M0 w)
 (Ax:α->Act->Wd->Wd->Prop) (hAx:∀ x a' W W1 W2 l,l<W.heap.size->Ax x a' W W1->Wr (· = l) W1 W2->Ax x a' W W2)
 (hassign:∀ (l:Nat) (pre:List α) (x:α) (M:Nat->Prop) (W:Wd) (K:Act->Wd->Prop),I pre M W->(∀ a' W',Wr (fun _=>False) W W'->Ax x a' W W'->K a' W') ->
  assign.wpIn (F.inRound l) (n-1-1-d) P (Exit.then K (fun _ _ _=>False)) { tmps:=(ps.zip (encs x)).foldl (fun t (p,v)=>t.setIfInBounds p v) a.tmps,defers:=[] } W)
 (hbody:∀ (l:Nat) (pre:List α) (x:α) (a':Act) (M:Nat->Prop) (W0 W:Wd),I pre M W->Ax x a' W0 W->W0.heap.size<=W.heap.size->w.heap.size<=W0.heap.size->(∃ suf,Good (pre++x::suf))->body.wpIn (F.inRound l) (n-1-1-d) P
  (fun e _ W'=>match e with|.normal=>∃ M',I (pre++[x]) M' W'/\Wr (fun k=>M k\/W0.heap.size<=k) W W'/\(∀ k,M' k->M k\/W0.heap.size<=k)|_=>False) a' W)
 (hdone:∀ (xs:List α) (D:Nat) (M:Nat->Prop) (W:Wd),Good xs->w.heap.size<=D->¬ M D->I xs M W->(∀ k,M k->M0 k\/w.heap.size<=k)->Wr (fun k=>n₀<=k) w W->W.heap[D]?=some (.deferred (some []))->Q .normal { a with defers:={ target:=.collected D,args:=#[] }::a.defers } W) :
 (Code.rangeFunc g ps assign body).wpIn F n P Q a w:=by
 refine wpIn_rangeFunc ?_;intro fn go;rw[hro]
 let rec0:LoopState->Loop:=fun st=>{ state:=st,pending:=none,fn,tmps:=a.tmps,params:=ps,assign,body,defers:=w.heap.size }
 obtain⟨W1,g1⟩:=Ex ((w.alloc (.deferred (some []))).alloc (.loop (rec0 .ready)));have gu:W1.heap[w.heap.size+1]?=some (.loop (rec0 .ready)):=by
  rw[g1];have:=World.alloc_heap_new (w.alloc (.deferred (some []))) (.loop (rec0 .ready))
  rwa [Wi] at this
 have gw:W1.heap[w.heap.size]?=some (.deferred (some [])):=by
  rw[g1];exact(Xd _ _ _ (by simp)).trans (World.alloc_heap_new w _)
 have g5:∀ N:Nat->Prop,Wr N w W1:=fun N=>by rw[g1];exact((Wr.refl N w).alloc _).alloc _
 have g2:=hOw [] M0 w h0;have gv:I [] M0 W1:=hMi _ _ _ _ h0 (g5 _)
 refine⟨w.heap.size+1,[{ target:=.collected w.heap.size,args:=#[] }],W1,{ target:=.fn (.func gf) lb,args:=#[.func (.yield (w.heap.size+1)) #[] #[]] },W1,gf,
  #[.func (.yield (w.heap.size+1)) #[] #[]]++lb,W1,?_,?_,?_,?_,fun _=>h1,?_⟩
 . rw[g1];exact run_enterLoop_outer _ _ _ _ _
 . simp only[resolve,hg];simp[go_sem]
 . intro f' gd;simp[Target.leads] at gd;subst gd;exact hFg
 . simp[invoke,go_sem,eg]
 refine(hseq (w.heap.size+1)
  (fun pre N W=>∃ M,I pre M W/\(∀ k,N k↔(M k\/k=w.heap.size+1\/k=w.heap.size))/\¬ M (w.heap.size+1)/\¬ M w.heap.size/\(∀ k,M k->M0 k\/w.heap.size<=k) /\
   W.heap[w.heap.size+1]?=some (.loop (rec0 .ready))/\W.heap[w.heap.size]?=some (.deferred (some [])))
  (fun k=>M0 k\/k=w.heap.size+1\/k=w.heap.size) W1 ?_ ?_ (g5 _) ?_ ?_ ?_).mono ?_
 ·rintro pre N W ⟨M,hi,hN,_,_,_,hl,hd⟩ k hk;rcases(hN k).1 hk with hk|hk|hk
  . exact hOw _ _ _ hi k hk
  . subst hk;exact⟨by omega,(VP.1 hl).1⟩
  . subst hk;exact⟨hn0,(VP.1 hd).1⟩
 ·rintro pre N W W' ⟨M,hi,hN,h2,h3,h4,hl,hd⟩ hw;refine⟨M,hMi _ _ _ _ hi ?_,hN,h2,h3,h4,?_,?_⟩
  . exact⟨hw.os,hw.tape,hw.output,hw.size,fun k hk hn=>hw.keep k hk (fun⟨a,b⟩=>hn ⟨a,fun e=>b ((hN k).2 (.inl e))⟩)⟩
  . exact(hw.keep _ (VP.1 hl).1 (fun⟨_,b⟩=>b ((hN _).2 (.inr (.inl rfl))))).trans hl
  . exact(hw.keep _ (VP.1 hd).1 (fun⟨_,b⟩=>b ((hN _).2 (.inr (.inr rfl))))).trans hd
 ·intro k hk hm;have:=hBx k hk;rcases hm with hm|hm|hm
  . exact hM0 k hk hm
  . omega
  . omega
 ·rintro pre x N W ⟨M,hi,hN,h2,h3,h4,hl,hd⟩ ge;have ga:w.heap.size+1<W.heap.size:=(VP.1 hl).1;have hy:=run_yield (P:=P) (args:=encs x) hl (hps x);refine⟨fn,_,assign,body,hy,roundIn_of_wpIn go (hassign _ pre x M W _ hi ?_)⟩;intro a' Wa g0 gt;have gk:=(g0.keep _ ga (fun h=>h)).trans hl;have gq:=(g0.keep _ (by omega) (fun h=>h)).trans hd;have g6:w.heap.size+1<Wa.heap.size:=by have:=g0.size;omega
  refine⟨_,run_beginRound gk rfl,?_⟩;have gm:I pre M Wa:=hMi _ _ _ _ hi (g0.mono (fun _ h=>h.elim));have g8:Wr (· = w.heap.size+1) Wa (Wa.putObj (w.heap.size+1) (.loop { rec0 .ready with state:=.busy })):=(Wr.refl (· = w.heap.size+1) Wa).putObj (l:=w.heap.size+1) (.inl rfl) _;have gl:I pre M (Wa.putObj (w.heap.size+1) (.loop { rec0 .ready with state:=.busy })):=hMi _ _ _ _ gm (g8.mono (fun k e=>by have e':k=w.heap.size+1:=e;subst e';exact⟨by omega,h2⟩));have gj:(Wa.putObj (w.heap.size+1) (.loop { rec0 .ready with state:=.busy })).heap[w.heap.size+1]?=some (.loop { rec0 .ready with state:=.busy }):=Y7 g6;have gp:(Wa.putObj (w.heap.size+1) (.loop { rec0 .ready with state:=.busy })).heap[w.heap.size]?=some (.deferred (some [])):=(WO (by omega)).trans gq;refine wpIn_mono (hbody _ pre x a' M W _ gl (hAx _ _ _ _ _ _ ga gt g8) (by simp;exact g0.size) (by omega) ge) ?_;intro e a3 W3 hp;cases e with
  | normal =>
    obtain⟨M',gn,g4,g3⟩:=hp;have gc:=(g4.keep _ (by simp;exact g6) (fun e=>by rcases e with e|e;exact h2 e;omega)).trans gj;have gr:=(g4.keep _ (by simp;omega) (fun e=>by rcases e with e|e;exact h3 e;omega)).trans gp;have gg:=(VP.1 gc).1;have g9:¬ M' (w.heap.size+1):=fun e=>by rcases g3 _ e with h|h;exact h2 h;omega
    have gi:¬ M' w.heap.size:=fun e=>by rcases g3 _ e with h|h;exact h3 h;omega
    refine⟨_,_,run_endRound (P:=P) none gc,rfl,fun k=>M' k\/k=w.heap.size+1\/k=w.heap.size,⟨M',?_,fun k=>Iff.rfl,g9,gi,?_,Y7 gg,(WO (by omega)).trans gr⟩,?_,?_⟩
    . exact hMi _ _ _ _ gn ((Wr.refl _ _).putObj (.inl ⟨by omega,g9⟩) _)
    ·intro k hk;rcases g3 k hk with h|h
     . exact h4 k h
     . right;omega
    ·refine((((g0.mono (N:=N) (fun _ h=>h.elim)).putObj (l:=w.heap.size+1) (.inl ((hN _).2 (.inr (.inl rfl)))) _).trans (N:=N) g4 (fun k _ h=>h) (fun k hk h=>?_)).putObj (l:=w.heap.size+1) (.inl ((hN _).2 (.inr (.inl rfl)))) _);rcases h with h|h
     . exact(hN k).2 (.inl h)
     . omega
    ·rintro k (hk|hk)
     ·rcases g3 k hk with h|h
      . exact .inl ((hN k).2 (.inl h))
      . exact .inr h
     . exact .inl ((hN k).2 (.inr hk))
  | ret=>exact hp.elim
  | exit id=>exact hp.elim
  | goto t=>exact hp.elim
  | panic ch=>exact hp.elim
  | outgrown=>exact hp.elim
 . exact⟨M0,gv,fun k=>Iff.rfl,fun e=>by have:=(g2 _ e).2;omega,fun e=>by have:=(g2 _ e).2;omega,fun k h=>.inl h,gu,gw⟩
 ·rintro e W2 ⟨⟨v,rfl⟩,xs,N,g7,⟨M,hi,hN,h2,h3,h4,hl,hd⟩,gh,_⟩;refine⟨none,_,run_endLoop (P:=P) hl (by simp[rec0]),hdone xs _ M _ g7 (VQ _) h3 ?_ h4 ?_ ((WO (by omega)).trans hd)⟩
  . exact hMi _ _ _ _ hi ((Wr.refl _ _).putObj (.inl ⟨by omega,h2⟩) _)
  . exact((g5 (fun k=>n₀<=k)).trans gh (fun _ _ h=>h) (fun _ _ h=>h)).putObj (.inl (by omega)) _
end
open Go.ChangeMaps (setBlock)
def AT (q:Nat×Nat):List Value:=[Iv q.1,Iv q.2]
abbrev XM:=@List.pairwise_map
theorem Lv {α β:Type}{f:α->β}{l:List α}(h:(l.map f).Nodup):l.Nodup:=(XM.1 h).imp fun hne e=>hne (WA f e)
def IV:Value->Nat
 | .int _ n=>n.toNat
 | _=>0
def unE:Value->Nat×Nat
 | .agg cs=>(IV (cs.getD 0 undef),IV (cs.getD 1 undef))
 | _=>(0,0)
theorem QU (q:Nat×Nat):unE (encE q)=q:=by simp[unE,encE,IV]
structure CV (es:Array MapEntry)(clock:Nat)(seen:Array Nat)(ks:List (Nat×Nat))(sl:List MapEntry):Prop where
 sub:∀ e∈sl,e∈es.toList
 born:sl.map (·.born)=seen.toList
 nodup:(sl.map (·.born)).Nodup
 keys:sl.map (·.key)=ks.map encE
abbrev Ye:=@List.nodup_nil
theorem CV.start (es:Array MapEntry)(clock:Nat):CV es clock #[] [] []:=⟨fun _ h=>(by cases h),rfl,Ye,rfl⟩
theorem CV.next {es:Array MapEntry}{ks:List (Nat×Nat)}{sl:List MapEntry}(h:CV es clock seen ks sl){e:MapEntry}(he:e∈(leftOf es seen).toList){q:Nat×Nat}(hq:e.key=encE q):CV es clock (seen.push e.born) (ks++[q]) (sl++[e]):=by
 obtain⟨h1,h2⟩:=mem_left he;refine⟨fun x hx=>?_,by simp[h.born],?_,by simp[h.keys,hq]⟩
 ·rcases Wj.1 hx with hx|hx
  . exact h.sub x hx
  . simp at hx;subst hx;exact h1
 ·rw[Wx,WJ];refine⟨h.nodup,by simp,fun a ha b hb=>?_⟩;simp at hb;subst hb;rintro rfl;rw[h.born] at ha;have:seen.contains e.born=true:=by simpa using ha
  rw[this] at h2;cases h2
theorem CV.all {es:Array MapEntry}{ks:List (Nat×Nat)}{sl:List MapEntry}(h:CV es clock seen ks sl)(hn:(es.toList.map (·.born)).Nodup)(h0:(leftOf es seen).size=0):sl.Perm es.toList:=by
 have g0:=all_seen es seen h0;refine(List.perm_ext_iff_of_nodup (Lv h.nodup) (Lv hn)).2 fun e=>⟨h.sub e,fun he=>?_⟩
 have h1:=g0 e he;have h2:e.born∈sl.map (·.born):=by rw[h.born];simpa using h1
 obtain⟨x,hx,e1⟩:=Wg.1 h2;have:x=e:=born_inj hn (h.sub x hx) he e1;rw[<- this];exact hx
abbrev XJ:=@List.map_map
theorem CV.keysOf {w:Wd}{b:Nat}{l:List ((Nat×Nat)×Value)}{es:Array MapEntry}{ks:List (Nat×Nat)}{sl:List MapEntry}(h:CV es clock seen ks sl)(hn:(es.toList.map (·.born)).Nodup)(h0:(leftOf es seen).size=0)
 (hl:es.toList.map (fun e=>(e.key,e.val))=l.map (fun p=>(encE p.1,p.2))):ks.Perm (l.map Prod.fst):=by
 have h1:(ks.map encE).Perm ((l.map Prod.fst).map encE):=by
  rw[<- h.keys];have h2:=(h.all hn h0).map (fun e:MapEntry=>e.key);refine h2.trans ?_;have h3:=WA (List.map Prod.fst) hl;simp only[XJ] at h3;have e1:(es.toList.map fun e:MapEntry=>e.key)=(l.map Prod.fst).map encE:=by
   rw[XJ];exact h3
  rw[e1]
 have h2:=h1.map unE;simpa [XJ,Function.comp_def,QU] using h2
theorem QV:(prog.info? 280).map (fun i=>(i.zero,i.size,i.bytes))=some (some (.agg #[Iv 0,Iv 0]),2,16):=by kernel_rfl
structure KeyS (W0:Wd)(mb r clock:Nat)(es:Array MapEntry)(seen:Array Nat)(ks:List (Nat×Nat))(sl:List MapEntry)(v:Value)(oG:Own)(wr:Wd):Prop where
 low:Bw W0 wr
 it:wr.heap[r]?=some (.mapIter (some mb) clock seen clock)
 came:CV es clock seen ks sl
 row:RowR oG wr .slots 280 2 v ks.length (ks.flatMap AT)
 lt:Ac oG wr
 ge:∀ k q,oG k=some q->q=.slots/\W0.heap.size<=k
 no:oG r=none
 cnt:ks.length+(leftOf es seen).size<=es.size
theorem KeyS.next {W0:Wd}{mb r clock:Nat}{es:Array MapEntry}{seen:Array Nat}{ks:List (Nat×Nat)}{sl:List MapEntry}{v v':Value}{oG o1:Own}{wr w1 w2 w3 w4:Wd}(h:KeyS W0 mb r clock es seen ks sl v oG wr)(hr0:W0.heap.size<=r){e:MapEntry}(he:e∈(leftOf es seen).toList){q:Nat×Nat}(hq:e.key=encE q)
 (hw1:w1=wr\/w1=wr.drew) (hw2:w2=setBlock w1 r (.mapIter (some mb) clock (seen.push e.born) clock)) (hb3:Bw w2 w3)
 (hr:RowR o1 w4 .slots 280 2 v' (ks.length+1) (ks.flatMap AT++AT q)) (hc:Chg (· = .slots) oG o1 w3 w4) (hl:Ac o1 w4) :
 KeyS W0 mb r clock es (seen.push e.born) (ks++[q]) (sl++[e]) v' o1 w4:=by
 have g0:r<wr.heap.size:=(VP.1 h.it).1;have z2:w2.heap.size=wr.heap.size:=by rw[hw2];rcases hw1 with rfl|rfl<;>simp[setBlock]
 have i2:w2.heap[r]?=some (.mapIter (some mb) clock (seen.push e.born) clock):=by rw[hw2];rcases hw1 with rfl|rfl<;>simp[setBlock,g0]
 have k2:∀ g,g≠r->w2.heap[g]?=wr.heap[g]?:=fun g hg=>by
  rw[hw2];rcases hw1 with rfl|rfl<;>simp[setBlock,XP,WP hg]<;>rfl
 have b2:Bw W0 w2:=h.low.trans ⟨by rw[hw2];rcases hw1 with rfl|rfl<;>rfl,by rw[hw2];rcases hw1 with rfl|rfl<;>rfl,by rw[hw2];rcases hw1 with rfl|rfl<;>rfl,by omega,fun g hg=>k2 g (by omega)⟩;have nn:∀ g,g<W0.heap.size->oG g=none:=fun g hg=>by
  cases eo:oG g with
  | none=>rfl
  | some r=>have:=(h.ge g r eo).2;omega
 have s0:=h.low.size;have b3:=b2.trans (hb3.mono (by omega));refine⟨b3.trans ⟨hc.os,hc.tape,hc.output,hc.size,fun g hg=>hc.alien (by have:=b3.size;omega) (nn g hg)⟩,?_,h.came.next he hq,by simpa using hr,hl,fun g q hg=>?_,hc.alien' (by have:=hb3.size;omega) h.no,by have h1:=left_shrinks es seen e he;have h2:=h.cnt;simp;omega⟩
 . rw[hc.alien (by have:=hb3.size;omega) h.no,hb3.block r (by omega)];exact i2
 ·by_cases eo:o1 g=oG g
  . rw[eo] at hg;exact h.ge g q hg
  ·obtain⟨a1,p,a2,a3⟩:=hc.new g eo;rw[hg] at a2;cases a2
   have:=hb3.size;exact⟨a3,by omega⟩
theorem KeyS.row3 {r:Nat}{es:Array MapEntry}{ks:List (Nat×Nat)}{sl:List MapEntry}{wr w3:Wd}(h:KeyS W0 mb r clock es seen ks sl v oG wr){x:Obj}(hw1:w1=wr\/w1=wr.drew)(hw2:w2=setBlock w1 r x)(hb3:Bw w2 w3) :
 RowR oG w3 .slots 280 2 v ks.length (ks.flatMap AT)/\Ac oG w3:=by
 have z2:w2.heap.size=wr.heap.size:=by rw[hw2];rcases hw1 with rfl|rfl<;>simp[setBlock]
 have k2:∀ g,g≠r->w2.heap[g]?=wr.heap[g]?:=fun g hg=>by
  rw[hw2];rcases hw1 with rfl|rfl<;>simp[setBlock,XP,WP hg]<;>rfl
 refine⟨h.row.keep (fun g hg=>?_) (fun _ h=>h),h.lt.mono (by have:=hb3.size;omega)⟩;have h1:=h.lt g _ hg;rw[hb3.block g (by omega)];exact k2 g (by rintro rfl;rw[h.no] at hg;cases hg)
end Go.Proofs.YtkidaindpahefaaGreat

namespace Go.Proofs
open Go.Proofs.Tryz
open Go.Shelf
def Tryz.sortKeys_ren:Go.Shelf.Ren:=⟨fun|6=>269|15=>137|14=>273|28=>193|29=>194|20=>275|21=>276|22=>277|23=>278|24=>279|25=>280|26=>281|27=>282|46=>283|47=>238|48=>239|49=>284|50=>285|57=>286|n=>n,fun|22=>297|24=>280|25=>307|3=>3|39=>170|0=>0|53=>223|55=>163|4=>4|46=>217|45=>216|50=>88|5=>5|9=>9|66=>264|70=>268|76=>298|77=>137|n=>n,fun|n=>n⟩
theorem Tryz.sortKeys:Go.Proofs.SlLaysF0.n6 prog Tryz.sortKeys_ren:={
 mixed:=by kernel_rfl
 f6:=⟨Tryz.f269.name,by decide,func269.trans (congrArg some (by kernel_rfl))⟩
 f14:=⟨Tryz.f273.name,by decide,func273.trans (congrArg some (by kernel_rfl))⟩
 f15:=func137.trans (congrArg some (by kernel_rfl))
 f20:=⟨Tryz.f275.name,by decide,func275.trans (congrArg some (by kernel_rfl))⟩
 f21:=⟨Tryz.f276.name,by decide,func276.trans (congrArg some (by kernel_rfl))⟩
 f22:=⟨Tryz.f277.name,by decide,func277.trans (congrArg some (by kernel_rfl))⟩
 f23:=⟨Tryz.f278.name,by decide,func278.trans (congrArg some (by kernel_rfl))⟩
 f24:=⟨Tryz.f279.name,by decide,func279.trans (congrArg some (by kernel_rfl))⟩
 f25:=⟨Tryz.f280.name,by decide,func280.trans (congrArg some (by kernel_rfl))⟩
 f26:=⟨Tryz.f281.name,by decide,func281.trans (congrArg some (by kernel_rfl))⟩
 f27:=⟨Tryz.f282.name,by decide,func282.trans (congrArg some (by kernel_rfl))⟩
 f28:=func193.trans (congrArg some (by kernel_rfl))
 f29:=func194.trans (congrArg some (by kernel_rfl))
 f46:=⟨Tryz.f283.name,by decide,func283.trans (congrArg some (by kernel_rfl))⟩
 f47:=func238.trans (congrArg some (by kernel_rfl))
 f48:=func239.trans (congrArg some (by kernel_rfl))
 f49:=⟨Tryz.f284.name,by decide,func284.trans (congrArg some (by kernel_rfl))⟩
 f50:=⟨Tryz.f285.name,by decide,func285.trans (congrArg some (by kernel_rfl))⟩
 f57:=⟨Tryz.f286.name,by decide,func286.trans (congrArg some (by kernel_rfl))⟩
 t0:=underlying0
 a0:=Tryz.isAgg0
 z0:=Tryz.sizeOf0
 v0:=zeroValue0
 t3:=underlying3
 a3:=Tryz.isAgg3
 z3:=Tryz.sizeOf3
 v3:=zeroValue3
 t4:=underlying4
 a4:=Tryz.isAgg4
 z4:=Tryz.sizeOf4
 v4:=zeroValue4
 t5:=underlying5
 a5:=Tryz.isAgg5
 z5:=Tryz.sizeOf5
 v5:=zeroValue5
 t9:=underlying9
 a9:=Tryz.isAgg9
 z9:=Tryz.sizeOf9
 v9:=zeroValue9
 t22:=underlying297
 a22:=Tryz.isAgg297
 z22:=Tryz.sizeOf297
 v22:=zeroValue297
 t25:=underlying307
 a25:=Tryz.isAgg307
 z25:=Tryz.sizeOf307
 v25:=zeroValue307
 t39:=underlying170
 a39:=Tryz.isAgg170
 z39:=Tryz.sizeOf170
 v39:=zeroValue170
 t45:=underlying216
 a45:=Tryz.isAgg216
 z45:=Tryz.sizeOf216
 v45:=zeroValue216
 t46:=underlying217
 a46:=Tryz.isAgg217
 z46:=Tryz.sizeOf217
 v46:=zeroValue217
 t50:=underlying88
 a50:=Tryz.isAgg88
 z50:=Tryz.sizeOf88
 v50:=zeroValue88
 t53:=underlying223
 a53:=Tryz.isAgg223
 z53:=Tryz.sizeOf223
 v53:=zeroValue223
 t55:=underlying163
 a55:=Tryz.isAgg163
 z55:=Tryz.sizeOf163
 v55:=zeroValue163
 t66:=underlying264
 a66:=Tryz.isAgg264
 z66:=Tryz.sizeOf264
 v66:=zeroValue264
 t70:=underlying268
 a70:=Tryz.isAgg268
 z70:=Tryz.sizeOf268
 v70:=zeroValue268
 t76:=underlying298
 a76:=Tryz.isAgg298
 z76:=Tryz.sizeOf298
 v76:=zeroValue298
 t77:=underlying137
 a77:=Tryz.isAgg137
 z77:=Tryz.sizeOf137
 v77:=zeroValue137 }
def Tryz.cmpInt_ren:Go.Shelf.Ren:=⟨fun|5=>90|7=>138|n=>n,fun|22=>3|3=>3|4=>4|n=>n,fun|n=>n⟩
theorem Tryz.cmpInt:Go.Proofs.SlLaysC2.n5 prog Tryz.cmpInt_ren:={
 mixed:=by kernel_rfl
 f5:=⟨Tryz.f90.name,by decide,func90.trans (congrArg some (by kernel_rfl))⟩
 f7:=⟨Tryz.f138.name,by decide,func138.trans (congrArg some (by kernel_rfl))⟩
 t3:=underlying3
 a3:=Tryz.isAgg3
 z3:=Tryz.sizeOf3
 v3:=zeroValue3
 t4:=underlying4
 a4:=Tryz.isAgg4
 z4:=Tryz.sizeOf4
 v4:=zeroValue4
 t22:=underlying3
 a22:=Tryz.isAgg3
 z22:=Tryz.sizeOf3
 v22:=zeroValue3 }
def Tryz.cmpEdge_ren:Go.Shelf.Ren:=⟨fun|5=>271|7=>274|n=>n,fun|22=>101|3=>3|4=>4|n=>n,fun|n=>n⟩
theorem Tryz.cmpEdge:Go.Proofs.SlLaysC2.n5 prog Tryz.cmpEdge_ren:={
 mixed:=by kernel_rfl
 f5:=⟨Tryz.f271.name,by decide,func271.trans (congrArg some (by kernel_rfl))⟩
 f7:=⟨Tryz.f274.name,by decide,func274.trans (congrArg some (by kernel_rfl))⟩
 t3:=underlying3
 a3:=Tryz.isAgg3
 z3:=Tryz.sizeOf3
 v3:=zeroValue3
 t4:=underlying4
 a4:=Tryz.isAgg4
 z4:=Tryz.sizeOf4
 v4:=zeroValue4
 t22:=underlying101
 a22:=Tryz.isAgg101
 z22:=Tryz.sizeOf101
 v22:=zeroValue101 }
end Go.Proofs

namespace Go.Proofs.YtkidaindpahefaaGreat
open Go.Proofs.Tryz
open Go.RowKit Go.Shelf Go.Lib Go.Sort
variable {N:Nat->Option BN}{V V0:Nat->BF}{cap e g hi i id k lo mb n sb t x y:Nat}{d:Ae}{lm:List ((Nat×Nat)×Value)}{s:BX}{w:Wd}{zs:List Int}
def orI:List Int->Int
 | []=>0
 | z::zs=>if z=0 then orI zs else z
theorem QW (hk:k<zs.length):orI (zs.drop k)=if at0 zs k=0 then orI (zs.drop (k+1)) else at0 zs k:=by
 rw[Au hk,WN hk];rfl
theorem Lw (a:Option Addr)(c:Nat)(zs:List Int)(w:Wd)(hz:Am w a zs)(hl:zs.length<=1000000) :
 Cl 89 #[.slice a zs.length c] w fun x w'=>x=.returned (Iv (orI zs))/\w'=w:=by
 have HZ:=Hd hz;clear hz
 go_enter func89,ntmps89
 go_wp2_with fail
 go_loopw [8] (fun s8 wr=>∃ k:Nat,k<=zs.length/\s8=Iv k/\w=wr/\orI zs=orI (zs.drop k)) (fun s8 _=>zs.length-(intOf s8).toNat)
 case atStart=>exact⟨0,Wb _,rfl,rfl,rfl⟩
 case round =>
  obtain⟨k,hk,rfl,rfl,ho⟩:=hrel
  by_cases g0:k<zs.length
  ·obtain⟨b,off,ha,hc⟩:=HZ.o.cells k g0;subst ha;have g2:(k:Int)<zs.length:=by omega
   have hs:=QW g0
   by_cases h0:at0 zs k=0
   ·rw[VW h0] at hs;rw[h0] at hc;have HO:=Hd (ho.trans hs);clear ho hs h0;go_wp2_with fail;go_roundw
    case rel=>exact⟨k+1,by omega,by go_num,trivial,HO.o⟩
    case measure=>simp[intOf];omega
   ·rw[VS h0] at hs;have HO:=Hd (ho.trans hs);have g1:(at0 zs k == (0:Int))=false:=by simpa using h0
    clear ho hs h0
    generalize at0 zs k=z at hc g1 HO
    go_wp2_with fail;go_ret;exact⟨by rw[HO.o];rfl,rfl⟩
  ·obtain rfl:k=zs.length:=by omega
   have HO:Hq (orI zs=0):=by
    refine Hd ?_
    show _=_
    rw[ho];simp[orI]
   clear ho;go_wp2_with fail;go_ret;exact⟨by rw[HO.o];rfl,rfl⟩
def cfK (f:Nat×Nat->Option Nat)(x y:Nat×Nat):Int:=orI [compareInt ((f x).getD 0:Nat) ((f y).getD 0:Nat),compareInt x.1 y.1,compareInt x.2 y.2]
theorem ltK (f:Nat×Nat->Option Nat)(x y:Nat×Nat):ltOf (cfK f) x y=decide ((f x).getD 0<(f y).getD 0\/(f x).getD 0=(f y).getD 0/\(x.1<y.1\/x.1=y.1/\x.2<y.2)):=by
 unfold ltOf cfK
 generalize (f x).getD 0=a
 generalize (f y).getD 0=b
 obtain⟨x1,x2⟩:=x;obtain⟨y1,y2⟩:=y;have hc:∀ p q:Nat,compareInt (p:Int) (q:Int)=if p<q then -1 else if p=q then 0 else 1:=fun p q=>by
  unfold compareInt
  by_cases h1:p<q
  . rw[VW (by omega),VW h1]
  ·by_cases h2:p=q
   . rw[VS (by omega),VS (by omega),VS h1,VW h2]
   . rw[VS (by omega),VW (by omega),VS h1,VS h2]
 simp only[hc,orI]
 by_cases h1:a<b
 . simp[h1]
 ·by_cases h2:a=b
  ·subst h2
   by_cases h3:x1<y1
   . simp[h3]
   ·by_cases h4:x1=y1
    ·subst h4
     by_cases h5:x2<y2
     . simp[h5]
     ·by_cases h6:x2=y2
      . subst h6;simp
      . simp[h5,h6]
    . simp[h3,h4]
  . simp[h1,h2]
theorem swoK (f:Nat×Nat->Option Nat):SWO (ltOf (cfK f)) where
 irrefl x:=by rw[ltK];simp
 trans x y z h1 h2:=by rw[ltK] at *;simp at *;omega
 ntrans x y z h1 h2:=by rw[ltK] at *;simp at *;omega
abbrev Yt:=@AnyG.cmp_Compare_int
theorem QX (f:Nat×Nat->Option Nat)(x y:Nat×Nat)(Bx t mb:Nat)(W:Wd)(cB:W.cell? (Av Bx)=some (Pt t))(cT:W.cell? (Av t)=some (.map (some mb)))
 (hlk:∀ W' k,Bw W W'->(Instr.lookup 228 (.map (some mb)) (.agg #[Iv (k:Nat×Nat).1,Iv k.2]) false).run prog W'=.ok (Iv ((f k).getD 0:Nat)) W') :
 Cl 270 #[.agg #[Iv x.1,Iv x.2],.agg #[Iv y.1,Iv y.2],Pt Bx] W fun e w'=>e=.returned (Iv (cfK f x y))/\∃ q os',w'=grow (W.drewN q) os':=by
 obtain⟨W1,g2⟩:=Ex ((W.alloc (.cells #[Iv x.1,Iv x.2] 280)).alloc (.cells #[Iv y.1,Iv y.2] 280));have g0:Bw W W1:=by rw[g2];exact(Af _ _).alloc (by simp) _
 have g5:W1.heap[W.heap.size]?=some (.cells #[Iv x.1,Iv x.2] 280 (0,0)):=by rw[g2];exact(Xd _ _ _ (by simp)).trans (VT W _)
 have g4:W1.heap[W.heap.size+1]?=some (.cells #[Iv y.1,Iv y.2] 280 (0,0)):=by
  rw[g2];have:=VT (W.alloc (.cells #[Iv x.1,Iv x.2] 280)) (.cells #[Iv y.1,Iv y.2] 280)
  rwa [Wi] at this
 obtain⟨x0,x1,_⟩:=cells2 g5;obtain⟨y0,y1,_⟩:=cells2 g4;have b1:=Cq g0 cB;have t1:=Cq g0 cT;obtain⟨i,hi⟩:=Ex (compareInt ((f x).getD 0:Nat) ((f y).getD 0:Nat):Int);obtain⟨j,hj⟩:=Ex (compareInt x.1 y.1:Int);obtain⟨k,hk⟩:=Ex (compareInt x.2 y.2:Int);have g6:cfK f x y=orI [i,j,k]:=by unfold cfK;rw[hi,hj,hk]
 obtain⟨W2,g3⟩:=Ex (W1.drew.alloc (.cells #[Iv i,Iv j,Iv k] 3));have g1:Bw W1 W2:=by rw[g3];exact(Aq W1 1).alloc (VQ _) _
 have lx0:=hlk W1.drew x (g0.trans ((Aq W1 1).mono g0.size));have ly0:=hlk W1.drew y (g0.trans ((Aq W1 1).mono g0.size));have lx2:=hlk W2 x (g0.trans (g1.mono g0.size));have ly2:=hlk W2 y (g0.trans (g1.mono g0.size));have x02:=Cq g1 x0;have x12:=Cq g1 x1;have y02:=Cq g1 y0;have y12:=Cq g1 y1;have b2:=Cq g1 b1;have t2:=Cq g1 t1;have HI:=Hd (fun w=>Yt Tryz.cmpInt ((f x).getD 0:Nat) ((f y).getD 0:Nat) w);have HJ:=Hd (fun w=>Yt Tryz.cmpEdge x.1 y.1 w);have HK:=Hd (fun w=>Yt Tryz.cmpEdge x.2 y.2 w)
 have g8:Hq (Cl 89 #[.slice (some (Av W1.drew.heap.size)) 3 3] W2 fun e w'=>e=.returned (Iv (orI [i,j,k]))/\w'=W2):=Hd (Lw _ 3 [i,j,k] W2 ⟨by simp,fun q hq=>⟨_,0,rfl,by
  rw[Wv,g3,VR _ _ _ _ _ _ (VT W1.drew _)];simp only[Wp,Xi] at hq
  match q,hq with
  | 0,_=>rfl
  | 1,_=>rfl
  | 2,_=>rfl⟩⟩ (by simp))
 have HW1:Hq (_=W1):=Hd g2.symm;have g7:Hq (_=W2):=Hd g3.symm;have g9:Hq (W2=grow (W.drewN 1) #[.cells #[Iv x.1,Iv x.2] 280,.cells #[Iv y.1,Iv y.2] 280,.cells #[Iv i,Iv j,Iv k] 3]):=Hd (by rw[g3,g2,Gu,Gu,alloc_eq_grow,alloc_eq_grow,alloc_eq_grow,grow_grow,grow_grow];rfl);rw[<- hi] at HI;rw[<- hj] at HJ;rw[<- hk] at HK;rw[g6];clear g2 g3 g0 g1 hlk cB cT hi hj hk g6 g5 g4
 go_enter func270,ntmps270
 go_upto_region 1 with fail;rw[HW1.o];refine AM (fun W:Wd=>W=W1.drew\/W=W2) false 26 [(0,false),(1,false),(2,false),(3,false),(4,false),(5,false),(6,false),(7,false),(8,false),(9,false),(10,false),(11,false),(13,false),(14,false),(15,false),(16,false),(18,false),(19,false),(20,false),(21,false),(12,true),(17,true),(22,true),(23,true),(24,true),(25,false)] (by kernel_rfl) (by kernel_rfl) (.inl rfl) ?_;simp only[planned,AL]
 iterate 20
  refine Ay rfl ?_;apply Exists.intro;refine⟨fun w' hw=>?_,?_⟩
  ·rcases hw with rfl|rfl
   . go_simp;rfl
   ·go_simp
    all_goals (try rfl)
  simp only[Ab]
 refine Ch (R:=fun v w'=>v=Iv i/\w'=W1.drew) rfl (by go_simp;rfl) ((HI.o _).mono (fun e w' h=>⟨_,h.1,.inl h.2,rfl,h.2⟩)) ?_;rintro _ w' _ ⟨rfl,rfl⟩;simp only[Ab];refine Ch (R:=fun v w'=>v=Iv j/\w'=W1.drew) rfl (by go_simp;rfl) ((HJ.o _).mono (fun e w' h=>⟨_,h.1,.inl h.2,rfl,h.2⟩)) ?_;rintro _ w' _ ⟨rfl,rfl⟩;simp only[Ab];refine Ch (R:=fun v w'=>v=Iv k/\w'=W1.drew) rfl (by go_simp;rfl) ((HK.o _).mono (fun e w' h=>⟨_,h.1,.inl h.2,rfl,h.2⟩)) ?_;rintro _ w' _ ⟨rfl,rfl⟩;simp only[Ab];refine FT rfl (fun K hK=>?_);unfold Oper.wp;go_simp;rw[Gu,g7.o];refine hK _ _ (.inr rfl) ?_;refine Ch (R:=fun v w'=>v=Iv (orI [i,j,k])/\w'=W2) rfl (by go_simp) (g8.o.mono (fun e w' h=>⟨_,h.1,.inr h.2,rfl,h.2⟩)) ?_;rintro _ w' _ ⟨rfl,rfl⟩;simp only[Ab];refine Ay rfl ?_;apply Exists.intro;refine⟨fun w' hw=>?_,?_⟩
 . go_simp;rfl
 simp only[Ab];refine Cg ?_;go_wp2_with fail;go_ret;exact⟨rfl,_,_,g9.o⟩
theorem IW (w:Wd)(blk m:Nat)(dk:Array (Nat×Nat))(os:Array Obj)(hg:g<w.heap.size)(hne:g≠blk):(sortWorldK AT 2 w blk 0 m dk os).heap[g]?=w.heap[g]?:=by
 unfold sortWorldK grow putRowK putRow mapBlock;simp[Array.getElem?_append,Yp,Array.getElem_modify,hg,WP hne]
theorem Lx (w:Wd)(blk m:Nat)(dk:Array (Nat×Nat))(os:Array Obj):w.heap.size<=(sortWorldK AT 2 w blk 0 m dk os).heap.size:=by
 have h:(sortWorldK AT 2 w blk 0 m dk os).heap.size=w.heap.size+os.size:=by
  unfold sortWorldK grow putRowK;simp
 omega
theorem Ly {f:Nat×Nat->Option Nat}(h:A1 w mb encE lm)(hf:∀ k,getL lm k=(f k).map (fun(id:Nat)=>Value.int .i64 id))(k:Nat×Nat) :
 (Instr.lookup 228 (.map (some mb)) (.agg #[Iv k.1,Iv k.2]) false).run prog w=.ok (Iv ((f k).getD 0:Nat)) w:=by
 have h1:=h.lookup D8 underlying228 zeroValue3 k false;rw[hf k] at h1;cases hk:f k with
 | none=>rw[hk] at h1;exact h1
 | some id=>rw[hk] at h1;exact h1
theorem QY {f:Nat×Nat->Option Nat}{ks:List (Nat×Nat)}{Bx blk:Nat}(hH:HoldsK AT 2 w blk 0 ks.toArray)(hblk:blk<w.heap.size)(hlen:ks.length<1000000000)
 (cB:w.cell? (Av Bx)=some (Pt t)) (cT:w.cell? (Av t)=some (.map (some mb))) (hm:A1 w mb encE lm) (hf:∀ k,getL lm k=(f k).map (fun(id:Nat)=>Value.int .i64 id)) (n1:Bx≠blk) (n2:t≠blk) (n3:mb≠blk) :
 Cl 269 #[.slice (some (Av blk)) ks.length cap,.func (.func 270) #[] #[Pt Bx]] w fun e w'=>e=.returned (.tuple #[])/\∃ ks':List (Nat×Nat),ks'.Perm ks/\HoldsK AT 2 w' blk 0 ks'.toArray/\w.heap.size<=w'.heap.size/\w'.os=w.os/\w'.tape=w.tape/\w'.output=w.output/\∀ g,g<w.heap.size->g≠blk->w'.heap[g]?=w.heap[g]?:=by
 have g1:CmpLays prog 270 #[Pt Bx] AT 2 (cfK f) blk 0 ks.toArray.size w:=by
  intro m os dk hs x y;have hk:∀ {p:Addr} {v:Value},w.cell? p=some v->p.block≠blk->(sortWorldK AT 2 w blk 0 m dk os).cell? p=some v:=fun hc hn=>(Xf (w:=w) (IW w blk m dk os (Ag hc) hn)).trans hc
  refine QX f x y Bx t mb _ (hk cB n1) (hk cT n2) (fun W' k hb=>?_);obtain⟨es,c,g3,rest⟩:=hm.ex;refine Ly (lm:=lm) ⟨⟨es,c,Eq.trans ?_ g3,rest⟩,hm.nodup⟩ hf k;exact(hb.block mb (Wm hm.lt (Lx w blk m dk os))).trans (IW w blk m dk os hm.lt n3)
 have g0:=AnyQ.slices_SortFunc Tryz.sortKeys 2 Tryz.isAgg280 Tryz.sizeOf280 AT (fun _=>rfl) (fun x v hv=>by simp[AT] at hv;rcases hv with rfl|rfl<;>rfl) (cfK f) (swoK f) 270 #[Pt Bx] blk 0 cap ks.toArray w (XH func270 (by kernel_rfl) rfl) g1 hH hblk (by simp;omega)
 change Cl 269 _ _ _ at g0
 have e:ks.toArray.size=ks.length:=by simp
 rw[e] at g0;refine g0.mono ?_;rintro x w' ⟨rfl,d',n,os,hp,_,rfl⟩;obtain⟨p1,_,p3⟩:=hp;have p1':d'.size=ks.length:=by simpa using p1
 refine⟨rfl,d'.toList,?_,?_,Lx _ _ _ _ _,rfl,rfl,rfl,fun g hg g2=>IW _ _ _ _ _ hg g2⟩
 ·have q1:d'.extract 0 ks.length=d':=by rw[<- p1'];simp
  rw[q1] at p3;simpa using p3
 . have h1:HoldsK AT 2 (Sort.ahead w n) blk 0 ks.toArray:=hH;have h2:=holdsK_putRowK AT 2 (Sort.ahead w n) blk 0 ks.toArray d' h1 (by simpa using p1');have h3:=holdsK_grow AT 2 (putRowK AT 2 (Sort.ahead w n) blk 0 d') os blk 0 d' (by simp[putRowK,putRow,mapBlock,hblk]) h2;simpa using(show HoldsK AT 2 (sortWorldK AT 2 w blk 0 n d' os) blk 0 d' from h3)
theorem QZ {f:Nat×Nat->Option Nat}{ks:List (Nat×Nat)}(hp:ks.Perm (lm.map Prod.fst))(hn:(lm.map Prod.fst).Nodup)(hf:∀ k,getL lm k=(f k).map (fun(id:Nat)=>Value.int .i64 id)){xs:List ((Nat×Nat)×Nat)}(hx:xs=ks.map (fun k=>(k,(f k).getD 0))) :
 (xs.map Prod.fst).Nodup/\∀ k id,(k,id)∈xs↔f k=some id:=by
 subst hx;have e:(ks.map (fun k=>(k,(f k).getD 0))).map Prod.fst=ks:=by simp[XJ,Function.comp_def]
 have hm:∀ k,k∈ks↔f k≠none:=fun k=>by
  rw[hp.mem_iff];have h1:=Dt (l:=lm) (k:=k);rw[hf k] at h1;constructor
  . intro hk e;rw[e] at h1;obtain⟨p,g0,rfl⟩:=Wg.1 hk;exact h1.1 rfl p g0 rfl
  ·intro hk
   by_cases hc:k∈lm.map Prod.fst
   . exact hc
   ·exfalso;have:=h1.2 (fun p g0 e=>hc (Wg.2 ⟨p,g0,e⟩));cases h2:f k with
    | none=>exact hk h2
    | some i=>rw[h2] at this;cases this
 refine⟨by rw[e];exact hp.nodup_iff.2 hn,fun k id=>?_⟩;simp only[Wg,X7];constructor
 ·rintro⟨k0,h0,rfl,rfl⟩;cases h2:f k0 with
  | none=>exact absurd h2 ((hm k0).1 h0)
  | some i=>rfl
 . intro h;exact⟨k,(hm k).2 (by rw[h];simp),rfl,by rw[h];rfl⟩
theorem Ra {α:Type}{G:List α->Prop}{xs:List α}(hg:G xs){x:α}(hx:xs[k]?=some x):∃ suf,G (xs.take k++x::suf)/\xs.take (k+1)=xs.take k++[x]:=by
 obtain⟨hk,e⟩:=WH.1 hx;refine⟨xs.drop (k+1),?_,by rw[VX hk,e]⟩;have:xs.take k++x::xs.drop (k+1)=xs:=by
  rw[<- e,<- WN hk];exact Xn k xs
 rw[this];exact hg
open Go.RowKit
theorem Lz {o:Own}(h:A2 o w sb d)(hlt:Ac o w)(hk:Aj d V)(f:Nat)(hf:okE (Aa d) f)(v:Int) :
 Cl 258 #[Pt sb,Iv f,Iv v] w (Bl (.tuple #[Iv (cofs d f v).1,Iv (cofs d f v).2]) w):=by
 have HA:=Hd (Gh h hlt hk f hf);clear h hk hlt hf;unfold atV at HA;unfold cofs;cases hb:Aa d (f/2) with
 | none =>
   rw[hb] at HA;clear hb
   go_enter func258,ntmps258
   go_wp2_with fail;refine HA.o.mono ?_;rintro x w' ⟨rfl,hb⟩;have HB:=Hd hb;clear hb;go_wp2_with fail
   go_ret2
   exact⟨rfl,HB.o⟩
 | some b =>
   rw[hb] at HA;clear hb
   by_cases e:(b.v:Int)=v
   ·subst e;have HE:Hq ((if (b.v:Int)=b.v then (eflip b.lo (eneg f),eflip b.hi (eneg f)) else (f,f))=(eflip b.lo (eneg f),eflip b.hi (eneg f))):=by show _=_;rw[VW rfl]
    go_enter func258,ntmps258
    go_wp2_with fail;refine HA.o.mono ?_;rintro x w' ⟨rfl,hb⟩;have HB:=Hd hb;clear hb;go_wp2_with fail
    go_ret2
    exact⟨by first|rfl|(rw[HE.o];rfl),HB.o⟩
   ·have HE:Hq ((if (b.v:Int)=v then (eflip b.lo (eneg f),eflip b.hi (eneg f)) else (f,f))=(f,f)):=by show _=_;rw[VS e]
    have H1:((b.v:Int) == v)=false:=by simpa using e
    go_enter func258,ntmps258
    go_wp2_with fail;refine HA.o.mono ?_;rintro x w' ⟨rfl,hb⟩;have HB:=Hd hb;clear hb;go_wp2_with fail
    go_ret2
    exact⟨by first|rfl|(rw[HE.o];rfl),HB.o⟩
def Bi (d:Ae)(k:Nat):Ae:={ d with vars:=(d.vars.set k (d.vars.getD (k+1) 0)).set (k+1) (d.vars.getD k 0),level:=(d.level.set (d.vars.getD k 0) (k+1)).set (d.vars.getD (k+1) 0) k }
theorem G2:(prog.info? 3).map (fun i=>i.size)=some 1:=by kernel_rfl
theorem E9 {l:List Nat}(hk:k<l.length):(l.map nat64)[k]?=some (Iv (l.getD k 0:Nat)):=by
 rw[Xv,We hk];simp[nat64,List.getD,hk]
abbrev XK:=@IntWalk.i64_in
theorem Rb {o:Own}(h:Ap o w sb d s)(k:Nat)(hk:k+1<d.vars.length)(hl:d.vars.length<=64)(ha:d.vars.getD k 0<d.level.length)(hb:d.vars.getD (k+1) 0<d.level.length) :
 Cl 220 #[Pt s.lb,Iv k] w fun x w'=>x=.returned (.tuple #[])/\Ap o w' sb (Bi d k) s/\Chg Al o o w w':=by
 obtain⟨d0,d1,_⟩:=cells2 h.lev;obtain⟨gv,cv,g5,g2,_⟩:=h.vars.shape (by omega);obtain⟨gl,cl,g6,g3,_⟩:=h.level.shape (by omega);have ge:=h.len;have r1:=h.vars;have r2:=h.level;rw[g5] at r1 d0;rw[g6] at r2 d1;have a0:=r1.cell k (by simp;omega);have a1:=r1.cell (k+1) (by simp;omega);rw[E9 (by omega)] at a0;rw[E9 hk] at a1;obtain⟨A,hA⟩:=Ex (d.vars.getD k 0);obtain⟨B,hB⟩:=Ex (d.vars.getD (k+1) 0);rw[<- hA] at a0 ha;rw[<- hB] at a1 hb;have b0:=r2.cell A (by simpa using ha);have b1:=r2.cell B (by simpa using hb);rw[E9 ha] at b0;rw[E9 hb] at b1;have fv:=r1.frozen;have fl:=r2.frozen;have go:(k:Int)<d.vars.length:=by omega
 have gn:(k:Int)+1<d.vars.length:=by omega
 have nvl:gv≠s.lb:=fun e=>by have:=h.ownl;rw[<- e,g2] at this;cases this
 have nll:gl≠s.lb:=fun e=>by have:=h.ownl;rw[<- e,g3] at this;cases this
 have nvg:gv≠gl:=fun e=>by rw[e,g3] at g2;cases g2
 have nvs:gv≠sb:=fun e=>by have:=h.own;rw[<- e,g2] at this;cases this
 have nls:gl≠sb:=fun e=>by have:=h.own;rw[<- e,g3] at this;cases this
 obtain⟨LA,ga⟩:∃ L,L=d.level.getD A 0:=⟨_,rfl⟩;obtain⟨LB,g9⟩:∃ L,L=d.level.getD B 0:=⟨_,rfl⟩;have gf:Hq (∀ w1 w2:Wd,w1.heap=w.heap->w1.os=w.os->w1.tape=w.tape->w1.output=w.output->w2=((((w1.setCell (Aw gv k) (Iv B)).setCell (Aw gv (k+1)) (Iv A)).setCell (Aw gl A) (Iv (k+1:Nat))).setCell (Aw gl B) (Iv k))->Ap o w2 sb (Bi d k) s/\Chg Al o o w w2):=by
  refine Hd ?_;rintro w1 w2 e1 e2 e3 e4 rfl;have gk:w1.heap.size=w.heap.size:=by rw[e1]
  have gg:Bw w w1:=⟨e2,e3,e4,by omega,fun k _=>by rw[e1]⟩;have gh:∀ g,g≠gv->g≠gl->((((w1.setCell (Aw gv k) (Iv B)).setCell (Aw gv (k+1)) (Iv A)).setCell (Aw gl A) (Iv (k+1:Nat))).setCell (Aw gl B) (Iv k)).heap[g]?=w.heap[g]?:=fun g n1 n2=>by
   rw[A0 n2,A0 n2,A0 n1,A0 n1,e1]
  have k1:∀ {g r},o g=some r->r ≠ .vars->r ≠ .level->((((w1.setCell (Aw gv k) (Iv B)).setCell (Aw gv (k+1)) (Iv A)).setCell (Aw gl A) (Iv (k+1:Nat))).setCell (Aw gl B) (Iv k)).heap[g]?=w.heap[g]?:=fun hg n1 n2=>gh _ (by rintro rfl;rw[g2] at hg;cases hg;exact n1 rfl) (by rintro rfl;rw[g3] at hg;cases hg;exact n2 rfl)
  have g7:=h.vars.keep (w':=w1) (fun g _=>by rw[e1]) (fun _ h=>h);rw[g5] at g7;have gc:=((((g7.stored k (Iv B)).stored (k+1) (Iv A)).setCell_other (p:=Aw gl A) (by rw[g3];simp) (Iv (k+1:Nat))).setCell_other (p:=Aw gl B) (by rw[g3];simp) (Iv k));have g8:=h.level.keep (w':=w1) (fun g _=>by rw[e1]) (fun _ h=>h);rw[g6] at g8;have gd:=(((g8.setCell_other (p:=Aw gv k) (by rw[g2];simp) (Iv B)).setCell_other (p:=(Aw gv (k+1))) (by rw[g2];simp) (Iv A)).stored A (Iv (k+1:Nat))).stored B (Iv k)
  refine⟨⟨h.own,h.ownl,(k1 h.own (by simp) (by simp)).trans h.blk,(k1 h.ownl (by simp) (by simp)).trans h.lev,?_,?_,h.pool.keep (fun g r hg hr=>k1 hg (by rintro rfl;simp at hr) (by rintro rfl;simp at hr)) (fun _ _ h=>h),h.tabs.keep (fun g hg=>k1 hg (by simp) (by simp)) (fun _ h=>h),
   fun v hv=>(h.tab v hv).keep (fun g r hg hr=>k1 hg (by rintro rfl;simp at hr) (by rintro rfl;simp at hr)) (fun _ _ h=>h),h.counts.keep (fun g hg=>k1 hg (by simp) (by simp)) (fun _ h=>h),by simp[Bi,h.len],by simp[Bi,h.tlen]⟩,?_⟩
  . rw[g5];simp only[Bi,Ws,XX,<- hA,<- hB];exact gc
  . rw[g6];simp only[Bi,Ws,XX,<- hA,<- hB];exact gd
  . exact((((Chg.of_below gg Al o).setCell (p:=Aw gv k) g2 (by simp[Al]) _).setCell (p:=(Aw gv (k+1))) g2 (by simp[Al]) _).setCell (p:=Aw gl A) g3 (by simp[Al]) _).setCell (p:=Aw gl B) g3 (by simp[Al]) _
 rw[<- ga] at b0;rw[<- g9] at b1;have gq:(A:Int)<d.level.length:=by omega
 have gp:(B:Int)<d.level.length:=by omega
 have gr:=Hd r1;have gt:=Hd r2;have gj:IntKind.i64.wrap ((k:Int)+1)=((k+1:Nat):Int):=by rw[XK _ (by omega)];rfl
 have gm:((k+1:Nat):Int)<d.vars.length:=by omega
 clear h g5 g6 g2 g3 hA hB ga g9 r1 r2 ge
 go_enter func220,ntmps220
 go_upto_region 0 with fail
 go_quiet (fail)
 go_upto_region 1 with fail;refine AM (fun W:Wd=>W.cell? (Av s.lb)=some (.slice (some (Av gv)) d.vars.length cv)/\True) true 16 [(0,false),(1,false),(2,false),(3,false),(4,false),(5,false),(6,false),(7,false),(8,false),(9,false),(10,false),(11,false),(12,false),(13,false),(14,true),(15,false),(16,true)] (by kernel_rfl) (by kernel_rfl) ⟨d0,trivial⟩ ?_;simp only[planned,AL]
 iterate 14
  refine Ay rfl ?_;apply Exists.intro;refine⟨fun w' hw=>?_,?_⟩
  . obtain⟨h1,_⟩:=hw;go_simp;rfl
  simp only[Ab]
 refine If (w':=(w.drewN nq).drew.setCell (Aw gv k) (Iv B)) rfl rfl (AR (w:=(w.drewN nq).drew) G2 a0 (fv _) rfl rfl) ⟨B9 (w:=(w.drewN nq).drew) d0 (.inl nvl),trivial⟩ ?_;simp only[Ab]
 iterate 1
  refine Ay rfl ?_;apply Exists.intro;refine⟨fun w' hw=>?_,?_⟩
  . obtain⟨h1,_⟩:=hw;go_simp;rfl
  simp only[Ab]
 refine EW (w':=((w.drewN nq).drew.setCell (Aw gv k) (Iv B)).setCell (Aw gv (k+1)) (Iv A)) rfl rfl (AR G2 (B9 (w:=(w.drewN nq).drew) a1 (.inr (by omega))) ((XB _ _ _ _).trans (fv _)) rfl rfl) ?_;simp only[Ab];obtain⟨w4,g4⟩:=Ex (((w.drewN nq).drew.setCell (Aw gv k) (Iv B)).setCell (Aw gv (k+1)) (Iv A));have e1:w4.cell? (Aw s.lb 1)=some (.slice (some (Av gl)) d.level.length cl):=by rw[g4];exact B9 (B9 (w:=(w.drewN nq).drew) d1 (.inl nvl)) (.inl nvl)
 have g0:w4.cell? (Aw gl A)=some (Iv LA):=by rw[g4];exact B9 (B9 (w:=(w.drewN nq).drew) b0 (.inl nvg)) (.inl nvg)
 have g1:w4.cell? (Aw gl B)=some (Iv LB):=by rw[g4];exact B9 (B9 (w:=(w.drewN nq).drew) b1 (.inl nvg)) (.inl nvg)
 have fl4:∀ j,w4.frozen? (Aw gl j)=false:=fun j=>by rw[g4];exact(XB _ _ _ _).trans ((XB _ _ _ _).trans (fl j))
 have gi:=Hd g4;rw[<- g4];clear g4 a0 a1 b0 b1 d0 d1 fv fl;go_upto_region 2 with fail;refine AM (fun W:Wd=>W.cell? (Aw s.lb 1)=some (.slice (some (Av gl)) d.level.length cl)/\True) true 16 [(0,false),(1,false),(2,false),(3,false),(4,false),(5,false),(6,false),(7,false),(8,false),(9,false),(10,false),(11,false),(12,false),(13,false),(14,true),(15,false),(16,true)] (by kernel_rfl) (by kernel_rfl) ⟨e1,trivial⟩ ?_;simp only[planned,AL]
 iterate 14
  refine Ay rfl ?_;apply Exists.intro;refine⟨fun w' hw=>?_,?_⟩
  . obtain⟨h1,_⟩:=hw;go_simp;rfl
  simp only[Ab]
 refine If (w':=w4.drew.setCell (Aw gl A) (Iv (k+1:Nat))) rfl rfl (AR (w:=w4.drew) G2 g0 (fl4 _) rfl rfl) ⟨B9 (w:=w4.drew) e1 (.inl nll),trivial⟩ ?_;simp only[Ab]
 iterate 1
  refine Ay rfl ?_;apply Exists.intro;refine⟨fun w' hw=>?_,?_⟩
  . obtain⟨h1,_⟩:=hw;go_simp;rfl
  simp only[Ab]
 have g1':∃ u,(w4.drew.setCell (Aw gl A) (Iv (k+1:Nat))).cell? (Aw gl B)=some u:=Ba (w:=w4.drew) g1;obtain⟨u,g1'⟩:=g1';refine EW (w':=(w4.drew.setCell (Aw gl A) (Iv (k+1:Nat))).setCell (Aw gl B) (Iv k)) rfl rfl (AR G2 g1' ((XB _ _ _ _).trans (fl4 _)) rfl rfl) ?_;simp only[Ab];go_wp2_with fail;go_end0;obtain⟨q1,q2⟩:=gf.o ((w.drewN nq).drew.drew) ((w4.drew.setCell (Aw gl A) (Iv (k+1:Nat))).setCell (Aw gl B) (Iv k)) rfl rfl rfl rfl (by rw[gi.o];rfl);exact⟨rfl,q1,q2⟩
section
variable {lev:Nat->Nat}{N0:Nat->Option BN}
def BD (lev:Nat->Nat)(x y:Nat):Nat->Nat:=fun v=>if v=x then lev y else if v=y then lev x else lev v
def isV (N:Nat->Option BN)(y e:Nat):Prop:=∃ c,N (e/2)=some c/\c.v=y
def Turns (N:Nat->Option BN)(x y:Nat)(i:Nat):Prop:=∃ b,N i=some b/\b.v=x/\(isV N y b.lo\/isV N y b.hi)
def lowE (n:Nat)(lev:Nat->Nat)(N:Nat->Option BN)(y e:Nat):Prop:=okE N e/\lev y<lvE n lev N e
def midE (n:Nat)(lev:Nat->Nat)(N0 N:Nat->Option BN)(x y e:Nat):Prop:=lowE n lev N0 y e\/∃ c,N (e/2)=some c/\c.v=x/\¬ Turns N0 x y (e/2)
structure BE (n:Nat)(lev:Nat->Nat)(N0:Nat->Option BN)(V0:Nat->BF)(x y:Nat)(done:Nat->Prop)(N:Nat->Option BN)(V:Nat->BF):Prop where
 n0:N 0=none
 ext:∀ i,(i=0\/∃ b,N0 i=some b)->V i=V0 i
 keep:∀ i b,N0 i=some b->¬ done i->N i=some b
 fresh:∀ i b,N i=some b->N0 i=none->b.v=x/\lowE n lev N0 y b.lo/\lowE n lev N0 y b.hi/\b.hi%2=0/\b.lo≠b.hi/\V i=iteF x (ef V0 b.hi) (ef V0 b.lo)
 dn:∀ i,done i->Turns N0 x y i/\∃ b,N i=some b/\b.v=y/\midE n lev N0 N x y b.lo/\midE n lev N0 N x y b.hi/\b.hi%2=0/\b.lo≠b.hi/\V0 i=iteF y (ef V b.hi) (ef V b.lo)
 xu:∀ i j b,N i=some b->N j=some b->b.v=x->¬ Turns N0 x y i->¬ Turns N0 x y j->i=j
theorem Ca (hext:∀ i,(i=0\/∃ b,N0 i=some b)->V i=V0 i)(h:okE N0 e):ef V e=ef V0 e:=by
 funext ρ;simp only[ef,hext _ h]
theorem BE.start (h:Dag n lev N0 V0)(x y:Nat):BE n lev N0 V0 x y (fun _=>False) N0 V0 :=
 ⟨h.none0,fun _ _=>rfl,fun _ _ h _=>h,fun i b hb hn=>by (rw[hn] at hb;cases hb),fun _ h=>h.elim,fun i j b hi hj _ _ _=>h.uniq i j b hi hj⟩
variable {done:Nat->Prop}
theorem BE.has (m:BE n lev N0 V0 x y done N V){b:BN}(hb:N0 i=some b):∃ b',N i=some b':=by
 by_cases hd:done i
 . obtain⟨_,b',g0,_⟩:=m.dn i hd;exact⟨b',g0⟩
 . exact⟨b,m.keep i b hb hd⟩
theorem BE.add (m:BE n lev N0 V0 x y done N V){b:BN}(hf:N id=none)(hid:id≠0)(hv:b.v=x)
 (hlo:lowE n lev N0 y b.lo) (hhi:lowE n lev N0 y b.hi) (hr:b.hi%2=0) (hne:b.lo≠b.hi) (hnew:∀ i,¬ Turns N0 x y i->N i≠some b) :
 BE n lev N0 V0 x y done (addN N id b) (addV V id b):=by
 have g8:N0 id=none:=by
  cases e:N0 id with
  | none=>rfl
  | some c=>obtain⟨b',g6⟩:=m.has e;rw[hf] at g6;cases g6
 have ne0:∀ i,(i=0\/∃ b,N0 i=some b)->i≠id:=by
  rintro i (rfl|⟨c,hc⟩)
  . exact WP hid
  . rintro rfl;rw[g8] at hc;cases hc
 have cs:∀ i c,addN N id b i=some c->(i=id/\c=b)\/(i≠id/\N i=some c):=by
  intro i c hx
  by_cases e:i=id
  . subst e;rw[Cs] at hx;exact .inl ⟨rfl,(XE hx).symm⟩
  . rw[Bq _ e] at hx;exact .inr ⟨e,hx⟩
 have g3:∀ i,(i=0\/∃ b,N0 i=some b)->addV V id b i=V0 i:=fun i hi=>by
  simp only[addV,VS (ne0 i hi)];exact m.ext i hi
 refine⟨by rw[Bq _ (WP hid)];exact m.n0,g3,?_,?_,?_,?_⟩
 . intro i c hc hd;rw[Bq _ (ne0 i (.inr ⟨c,hc⟩))];exact m.keep i c hc hd
 ·intro i c hc hn;rcases cs i c hc with ⟨e1,e2⟩|⟨g0,gd⟩
  ·subst e1;subst e2
   exact⟨hv,hlo,hhi,hr,hne,by simp only[addV,Xb,hv,Ca m.ext hlo.1,Ca m.ext hhi.1]⟩
  . obtain⟨h1,h2,h3,h4,h5,h6⟩:=m.fresh i c gd hn;exact⟨h1,h2,h3,h4,h5,by simp only[addV,VS g0];exact h6⟩
 ·intro i hd;obtain⟨hT,c,hc,h1,h2,h3,h4,h5,h6⟩:=m.dn i hd;have g1:∀ e,midE n lev N0 N x y e->midE n lev N0 (addN N id b) x y e/\ef (addV V id b) e=ef V e:=by
   rintro e (hl|⟨d,g4,ga,g9⟩)
   . exact⟨.inl hl,by rw[Ca g3 hl.1,Ca m.ext hl.1]⟩
   ·have g0:e/2≠id:=by rintro e';rw[e',hf] at g4;cases g4
    refine⟨.inr ⟨d,by rw[Bq _ g0];exact g4,ga,g9⟩,?_⟩;funext ρ;simp only[ef,addV,VS g0]
  have g7:i≠id:=ne0 i (.inr (by obtain⟨q,hq,_⟩:=hT;exact⟨q,hq⟩));exact⟨hT,c,by rw[Bq _ g7];exact hc,h1,(g1 _ h2).1,(g1 _ h3).1,h4,h5,by rw[(g1 _ h2).2,(g1 _ h3).2];exact h6⟩
 ·intro i j c hi hj gc ti tj;rcases cs i c hi with ⟨e1,e2⟩|⟨_,g5⟩
  ·rcases cs j c hj with ⟨e3,_⟩|⟨_,g2⟩
   . rw[e1,e3]
   . subst e2;exact absurd g2 (hnew j tj)
  ·rcases cs j c hj with ⟨_,e2⟩|⟨_,g2⟩
   . subst e2;exact absurd g5 (hnew i ti)
   . exact m.xu i j c g5 g2 gc ti tj
def setN (N:Nat->Option BN)(i:Nat)(b:BN):Nat->Option BN:=fun j=>if j=i then some b else N j
theorem BE.turn (m:BE n lev N0 V0 x y done N V)(hxy:x≠y)(hT:Turns N0 x y i)(hlo:midE n lev N0 N x y lo)(hhi:midE n lev N0 N x y hi)(hr:hi%2=0)(hne:lo≠hi)
 (hV:V0 i=iteF y (ef V hi) (ef V lo)):BE n lev N0 V0 x y (fun j=>done j\/j=i) (setN N i ⟨y,lo,hi⟩) V:=by
 obtain⟨b0,g3,gf,ge⟩:=hT;have hT:Turns N0 x y i:=⟨b0,g3,gf,ge⟩;have g9:i≠0:=by
  rintro rfl;obtain⟨b',g4⟩:=m.has g3;rw[m.n0] at g4;cases g4
 have cs:∀ j c,setN N i ⟨y,lo,hi⟩ j=some c->(j=i/\c=⟨y,lo,hi⟩)\/(j≠i/\N j=some c):=by
  intro j c hx
  by_cases e:j=i
  . subst e;simp only[setN,Xb,WI] at hx;exact .inl ⟨rfl,hx.symm⟩
  . simp only[setN,VS e] at hx;exact .inr ⟨e,hx⟩
 have g0:∀ e,midE n lev N0 N x y e->midE n lev N0 (setN N i ⟨y,lo,hi⟩) x y e:=by
  rintro e (hl|⟨d,gc,ga,g1⟩)
  . exact .inl hl
  ·have g5:e/2≠i:=by rintro e';rw[e'] at g1;exact g1 hT
   exact .inr ⟨d,by simp only[setN,VS g5];exact gc,ga,g1⟩
 refine⟨by simp only[setN,VS (WP g9)];exact m.n0,m.ext,?_,?_,?_,?_⟩
 ·intro j c hc hd;have g7:j≠i:=fun e=>hd (.inr e)
  simp only[setN,VS g7];exact m.keep j c hc (fun h=>hd (.inl h))
 ·intro j c hc hn;rcases cs j c hc with ⟨e1,_⟩|⟨_,gd⟩
  . subst e1;rw[g3] at hn;cases hn
  . exact m.fresh j c gd hn
 ·intro j hd
  by_cases e:j=i
  . subst e;exact⟨hT,⟨y,lo,hi⟩,by simp only[setN,Xb],rfl,g0 _ hlo,g0 _ hhi,hr,hne,hV⟩
  . obtain⟨gg,c,hc,h1,h2,h3,h4,h5,h6⟩:=m.dn j (hd.resolve_right e);exact⟨gg,c,by simp only[setN,VS e];exact hc,h1,g0 _ h2,g0 _ h3,h4,h5,h6⟩
 ·intro j k c hj hk g2 tj tk;rcases cs j c hj with ⟨e1,e2⟩|⟨_,g8⟩
  . subst e2;exact absurd g2.symm hxy
  ·rcases cs k c hk with ⟨e1,e2⟩|⟨_,g6⟩
   . subst e2;exact absurd g2.symm hxy
   . exact m.xu j k c g8 g6 g2 tj tk
theorem Ei (lev:Nat->Nat)(x y:Nat):BD lev x y x=lev y:=by simp[BD]
theorem Ej (lev:Nat->Nat)(h:x≠y):BD lev x y y=lev x:=by simp[BD,WP h]
theorem Fm (lev:Nat->Nat){v:Nat}(hx:v≠x)(hy:v≠y):BD lev x y v=lev v:=by simp[BD,hx,hy]
theorem Rc (hxl:lev x<lev y)(hl:lowE n lev N0 y e){c:BN}(hc:N0 (e/2)=some c):c.v≠x/\c.v≠y:=by
 have:=hl.2;simp only[lvE,hc] at this;exact⟨by rintro e;rw[e] at this;omega,by rintro e;rw[e] at this;omega⟩
theorem BE.final (h:Dag n lev N0 V0)(hx:x<n)(hy:y<n)(hl:lev y=lev x+1)(m:BE n lev N0 V0 x y done N V)(hall:∀ i,Turns N0 x y i->done i):Dag n (BD lev x y) N V:=by
 have g5:x≠y:=by rintro rfl;omega
 have gk:lev x<lev y:=by omega
 have kinds:∀ i b,N i=some b->(N0 i=none/\b.v=x/\lowE n lev N0 y b.lo/\lowE n lev N0 y b.hi/\b.hi%2=0/\b.lo≠b.hi/\V i=iteF x (ef V0 b.hi) (ef V0 b.lo)) \/
  (Turns N0 x y i/\b.v=y/\midE n lev N0 N x y b.lo/\midE n lev N0 N x y b.hi/\b.hi%2=0/\b.lo≠b.hi/\V0 i=iteF y (ef V b.hi) (ef V b.lo)) \/
  (N0 i=some b/\¬ Turns N0 x y i):=by
  intro i b hb;cases e:N0 i with
  | none=>exact .inl ⟨rfl,m.fresh i b hb e⟩
  | some c =>
    right
    by_cases hd:done i
    . obtain⟨hT,b',g4,rest⟩:=m.dn i hd;obtain rfl:b'=b:=XE (g4.symm.trans hb);exact .inl ⟨hT,rest⟩
    . have:=m.keep i c e hd;obtain rfl:c=b:=XE (this.symm.trans hb);exact .inr ⟨rfl,fun hT=>hd (hall i hT)⟩
 have low:∀ e,lowE n lev N0 y e->okE N e/\lvE n (BD lev x y) N e=lvE n lev N0 e/\ef V e=ef V0 e:=by
  intro e he;refine⟨?_,?_,Ca m.ext he.1⟩
  ·rcases he.1 with h0|⟨c,hc⟩
   . exact .inl h0
   . obtain⟨b',g4⟩:=m.has hc;exact .inr ⟨b',g4⟩
  ·rcases he.1 with h0|⟨c,hc⟩
   . simp only[lvE,h0,m.n0,h.none0]
   ·have gf:=Rc gk he hc;have gj:¬ done (e/2):=fun hd=>by
     obtain⟨⟨q,hq,gc,_⟩,_⟩:=m.dn _ hd;rw[hc] at hq;cases hq;exact gf.1 gc
    simp only[lvE,m.keep _ _ hc gj,hc,Fm lev gf.1 gf.2]
 have mid:∀ e,midE n lev N0 N x y e->okE N e/\lev x<lvE n (BD lev x y) N e:=by
  rintro e (he|⟨c,hc,g9,_⟩)
  . obtain⟨h1,h2,_⟩:=low e he;exact⟨h1,by rw[h2];have:=he.2;omega⟩
  . exact⟨.inr ⟨c,hc⟩,by simp only[lvE,hc,g9,Ei];omega⟩
 have old:∀ i b e,N0 i=some b->¬ Turns N0 x y i->(e=b.lo\/e=b.hi)->okE N e/\BD lev x y b.v<lvE n (BD lev x y) N e/\ef V e=ef V0 e:=by
  intro i b e hb g0 he;have ho:okE N0 e:=by rcases he with rfl|rfl;exact h.okLo _ _ hb;exact h.okHi _ _ hb
  have g1:lev b.v<lvE n lev N0 e:=by rcases he with rfl|rfl;exact h.lvLo _ _ hb;exact h.lvHi _ _ hb
  have gi:b.v=x->¬ isV N0 y e:=fun g8 gh=>g0 ⟨b,hb,g8,by rcases he with rfl|rfl;exact .inl gh;exact .inr gh⟩
  refine⟨?_,?_,Ca m.ext ho⟩
  ·rcases ho with h0|⟨c,hc⟩
   . exact .inl h0
   . obtain⟨b',g4⟩:=m.has hc;exact .inr ⟨b',g4⟩
  ·by_cases g8:b.v=x
   ·have g7:lowE n lev N0 y e:=by
     refine⟨ho,?_⟩;rw[g8] at g1;rcases ho with h0|⟨c,hc⟩
     . simp only[lvE,h0,h.none0] at g1 ⊢;exact h.lt y hy
     ·simp only[lvE,hc] at g1 ⊢;have:c.v≠y:=fun e'=>gi g8 ⟨c,hc,e'⟩
      have h2:lev c.v≠lev y:=fun e'=>this (h.inj _ _ (h.var _ _ hc) hy e')
      omega
    rw[(low e g7).2.1,g8,Ei];exact g7.2
   ·by_cases gg:b.v=y
    . have g7:lowE n lev N0 y e:=⟨ho,by rw[gg] at g1;exact g1⟩;rw[(low e g7).2.1,gg,Ej lev g5];have:=g7.2;omega
    ·rw[Fm lev g8 gg];rcases ho with h0|⟨c,hc⟩
     . simp only[lvE,h0,m.n0];exact h.lt _ (h.var _ _ hb)
     ·simp only[lvE,hc] at g1;have gl:=h.var _ _ hc
      by_cases hd:done (e/2)
      ·obtain⟨⟨q,hq,gc,_⟩,b',g4,hb'y,_⟩:=m.dn _ hd;rw[hc] at hq;cases hq
       simp only[lvE,g4,hb'y,Ej lev g5];rw[gc] at g1;exact g1
      ·simp only[lvE,m.keep _ _ hc hd]
       by_cases g9:c.v=x
       . rw[g9,Ei];rw[g9] at g1;omega
       ·by_cases ge:c.v=y
        ·rw[ge,Ej lev g5];rw[ge] at g1;have h2:lev b.v≠lev x:=fun e'=>g8 (h.inj _ _ (h.var _ _ hb) hx e')
         omega
        . rw[Fm lev g9 ge];exact g1
 refine⟨fun ρ=>by rw[m.ext 0 (.inl rfl)];exact h.one ρ,m.n0,?_,?_,?_,?_,?_,?_,?_,?_,?_,?_,?_⟩
 ·intro i b hb;rcases kinds i b hb with ⟨_,hv,_⟩|⟨_,hv,_⟩|⟨h0,_⟩
  . rw[hv];exact hx
  . rw[hv];exact hy
  . exact h.var _ _ h0
 ·intro u v hu hv he;have hs:∀ u,u<n->BD lev x y u=lev (if u=x then y else if u=y then x else u):=by
   intro u _;simp only[BD];(split;· rfl);split<;>rfl
  have hb:∀ u,u<n->(if u=x then y else if u=y then x else u)<n:=by
   intro u hu;(split;· exact hy);(split;· exact hx);exact hu
  rw[hs u hu,hs v hv] at he;have:=h.inj _ _ (hb u hu) (hb v hv) he
  by_cases a:u=x
  ·rw[VW a] at this
   by_cases b:v=x
   . rw[a,b]
   ·rw[VS b] at this
    by_cases c:v=y
    . rw[VW c] at this;exact absurd this.symm g5
    . rw[VS c] at this;exact absurd this.symm c
  ·rw[VS a] at this
   by_cases b:v=x
   ·rw[VW b] at this
    by_cases c:u=y
    . rw[VW c] at this;exact absurd this g5
    . rw[VS c] at this;exact absurd this c
   ·rw[VS b] at this
    by_cases c:u=y
    ·rw[VW c] at this
     by_cases d:v=y
     . rw[c,d]
     . rw[VS d] at this;exact absurd this.symm b
    ·rw[VS c] at this
     by_cases d:v=y
     . rw[VW d] at this;exact absurd this a
     . rw[VS d] at this;exact this
 ·intro v hv;simp only[BD];split
  . exact h.lt y hy
  ·split
   . exact h.lt x hx
   . exact h.lt v hv
 ·intro i b hb;rcases kinds i b hb with ⟨_,_,g2,_⟩|⟨_,_,g2,_⟩|⟨h0,g0⟩
  . exact(low _ g2).1
  . exact(mid _ g2).1
  . exact(old i b b.lo h0 g0 (.inl rfl)).1
 ·intro i b hb;rcases kinds i b hb with ⟨_,_,_,g3,_⟩|⟨_,_,_,g3,_⟩|⟨h0,g0⟩
  . exact(low _ g3).1
  . exact(mid _ g3).1
  . exact(old i b b.hi h0 g0 (.inr rfl)).1
 ·intro i b hb;rcases kinds i b hb with ⟨_,hv,g2,_⟩|⟨_,hv,g2,_⟩|⟨h0,g0⟩
  . rw[hv,Ei,(low _ g2).2.1];exact g2.2
  . rw[hv,Ej lev g5];exact(mid _ g2).2
  . exact(old i b b.lo h0 g0 (.inl rfl)).2.1
 ·intro i b hb;rcases kinds i b hb with ⟨_,hv,_,g3,_⟩|⟨_,hv,_,g3,_⟩|⟨h0,g0⟩
  . rw[hv,Ei,(low _ g3).2.1];exact g3.2
  . rw[hv,Ej lev g5];exact(mid _ g3).2
  . exact(old i b b.hi h0 g0 (.inr rfl)).2.1
 ·intro i b hb;rcases kinds i b hb with ⟨_,_,_,_,hr,_⟩|⟨_,_,_,_,hr,_⟩|⟨h0,_⟩
  . exact hr
  . exact hr
  . exact h.reg _ _ h0
 ·intro i b hb;rcases kinds i b hb with ⟨_,_,_,_,_,gd,_⟩|⟨_,_,_,_,_,gd,_⟩|⟨h0,_⟩
  . exact gd
  . exact gd
  . exact h.ne _ _ h0
 ·intro i j b hi hj;have yFn:∀ i,N i=some b->b.v=y->(∃ c,N0 i=some c)/\V0 i=iteF y (ef V b.hi) (ef V b.lo):=by
   intro i hi hv;rcases kinds i b hi with ⟨_,g6,_⟩|⟨⟨q,hq,_⟩,_,_,_,_,_,hV⟩|⟨h0,g0⟩
   . rw[hv] at g6;exact absurd g6.symm g5
   . exact⟨⟨q,hq⟩,hV⟩
   . refine⟨⟨b,h0⟩,?_⟩;rw[(old i b b.lo h0 g0 (.inl rfl)).2.2,(old i b b.hi h0 g0 (.inr rfl)).2.2,<- hv];exact h.eqn _ _ h0
  have xT:b.v=x->∀ i,N i=some b->¬ Turns N0 x y i:=by
   intro hv i hi hT;obtain⟨_,b',g4,hb'y,_⟩:=m.dn i (hall i hT);rw[hi] at g4;cases g4
   rw[hv] at hb'y;exact g5 hb'y
  by_cases g6:b.v=x
  . exact m.xu i j b hi hj g6 (xT g6 i hi) (xT g6 j hj)
  ·by_cases ga:b.v=y
   ·obtain⟨⟨c,hc⟩,e1⟩:=yFn i hi ga;obtain⟨⟨d,hd⟩,e2⟩:=yFn j hj ga;have:2*i=2*j:=by
     refine h.canon (D2 hc) (D2 hd) ?_;funext ρ;have h1:2*i/2=i:=by omega
     have h2:2*j/2=j:=by omega
     have h3:2*i%2=0:=by omega
     have h4:2*j%2=0:=by omega
     simp only[ef,h1,h2,h3,h4,e1,e2]
    omega
   ·have o:∀ i,N i=some b->N0 i=some b:=by
     intro i hi;rcases kinds i b hi with ⟨_,hv,_⟩|⟨_,hv,_⟩|⟨h0,_⟩
     . exact absurd hv g6
     . exact absurd hv ga
     . exact h0
    exact h.uniq i j b (o i hi) (o j hj)
 ·intro i b hb;rcases kinds i b hb with ⟨_,hv,g2,g3,_,_,hV⟩|⟨hT,hv,_,_,_,_,hV⟩|⟨h0,g0⟩
  . rw[hV,hv,(low _ g2).2.2,(low _ g3).2.2]
  . obtain⟨q,hq,_⟩:=hT;rw[m.ext i (.inr ⟨q,hq⟩),hV,hv]
  . rw[m.ext i (.inr ⟨b,h0⟩),(old i b b.lo h0 g0 (.inl rfl)).2.2,(old i b b.hi h0 g0 (.inr rfl)).2.2];exact h.eqn _ _ h0
end
open Go.RowKit Go.Shelf
structure TN where
 n:RN
 ll:Nat
 lh:Nat
 hl:Nat
 hh:Nat
def tnV (t:TN):List Value:=rnV t.n++[Iv t.ll,Iv t.lh,Iv t.hl,Iv t.hh]
def tnOf (d:Ae)(y:Nat)(i:Nat):TN:=⟨d.pool.nd i,(cofs d (d.pool.nd i).lo y).1,(cofs d (d.pool.nd i).lo y).2,(cofs d (d.pool.nd i).hi y).1,(cofs d (d.pool.nd i).hi y).2⟩
def C7 (d:Ae)(y:Nat)(i:Nat):Bool:=decide ((tnOf d y i).ll≠(tnOf d y i).lh\/(tnOf d y i).hl≠(tnOf d y i).hh)
theorem L0 (hk:Aj d V)(e y:Nat):(cofs d e y).1≠(cofs d e y).2↔isV (Aa d) y e:=by
 unfold cofs isV;cases hb:Aa d (e/2) with
 | none=>simp
 | some b =>
   by_cases h:b.v=y
   ·have h1:(b.v:Int)=(y:Int):=by omega
    simp only[h1,Xb];constructor
    . intro _;exact⟨b,rfl,h⟩
    . intro _;exact Gg (hk.dag.ne _ _ hb)
   ·have h1:¬ (b.v:Int)=(y:Int):=by omega
    simp only[h1,if_false];constructor
    . intro hh;exact(hh rfl).elim
    . rintro⟨c,hc,hv⟩;cases hc;exact(h hv).elim
theorem IX (hk:Aj d V){b:BN}(hb:Aa d i=some b)(hx:b.v=x):C7 d y i=true↔Turns (Aa d) x y i:=by
 obtain⟨_,_,he⟩:=BY hb;have g0:bnOf (d.pool.nd i)=b:=by rw[<- (BY hb).2.1];exact he
 have e1:(d.pool.nd i).lo=b.lo:=by rw[<- g0];rfl
 have e2:(d.pool.nd i).hi=b.hi:=by rw[<- g0];rfl
 unfold C7 tnOf;rw[Xh,e1,e2,L0 hk,L0 hk];constructor
 . intro h;exact⟨b,hb,hx,h⟩
 . rintro⟨c,hc,_,h⟩;rw[hb] at hc;cases hc;exact h
noncomputable def rkSw (n:Nat)(lev:Nat->Nat)(N0:Nat->Option BN)(x y:Nat)(N:Nat->Option BN)(i:Nat):Nat :=
 open Classical in if Turns N0 x y i then 2 * (n - lev x) else match N i with
  | none=>0
  | some b=>if b.v=x then 2*(n-lev x)-1 else 2*(n-lev b.v)
section
variable {lev:Nat->Nat}{N0:Nat->Option BN}{done:Nat->Prop}
theorem G3 (h:Turns N0 x y i):rkSw n lev N0 x y N i=2*(n-lev x):=by unfold rkSw;rw[VW h]
theorem Fo {b:BN}(h:¬ Turns N0 x y i)(hb:N i=some b)(hx:b.v=x):rkSw n lev N0 x y N i=2*(n-lev x)-1:=by unfold rkSw;rw[VS h,hb];simp[hx]
theorem L1 {b:BN}(h:¬ Turns N0 x y i)(hb:N i=some b)(hx:b.v≠x):rkSw n lev N0 x y N i=2*(n-lev b.v):=by unfold rkSw;rw[VS h,hb];simp[hx]
theorem IY {b:BN}(hb:N0 i=some b)(h:Turns N0 x y i):b.v=x:=by
 obtain⟨c,hc,hx,_⟩:=h;rw[hb] at hc;cases hc;exact hx
theorem IZ (m:BE n lev N0 V0 x y done N V){c0 c:BN}(h0:N0 (e/2)=some c0)(hc:N (e/2)=some c) :
 (Turns N0 x y (e/2)/\c0.v=x/\rkSw n lev N0 x y N (e/2)=2*(n-lev x))\/(¬ Turns N0 x y (e/2)/\c=c0/\rkSw n lev N0 x y N (e/2)<=2*(n-lev c0.v)/\(c0.v=x->rkSw n lev N0 x y N (e/2)=2*(n-lev x)-1)):=by
 by_cases hT:Turns N0 x y (e/2)
 . exact .inl ⟨hT,IY h0 hT,G3 hT⟩
 ·have hk:=m.keep _ _ h0 (fun hd=>hT (m.dn _ hd).1);rw[hc] at hk;cases hk;refine .inr ⟨hT,rfl,?_,fun hx=>Fo hT hc hx⟩
  by_cases hx:c0.v=x
  . rw[Fo hT hc hx,hx];omega
  . rw[L1 hT hc hx];exact VQ _
theorem EA (m:BE n lev N0 V0 x y done N V)(h:okE N0 e):okE N e:=by
 rcases h with h|⟨c,hc⟩
 . exact .inl h
 . obtain⟨b,hb⟩:=m.has hc;exact .inr ⟨b,hb⟩
theorem L2 (m:BE n lev N0 V0 x y done N V)(h:midE n lev N0 N x y e):okE N e:=by
 rcases h with h|⟨c,hc,_⟩
 . exact EA m h.1
 . exact .inr ⟨c,hc⟩
theorem Fp {c:BN}(h:N0 (e/2)=some c):lvE n lev N0 e=lev c.v:=by unfold lvE;rw[h]
theorem L3 (h:Dag n lev N0 V0)(hx:x<n)(hl:lev y=lev x+1)(m:BE n lev N0 V0 x y done N V){c:BN}(he:lowE n lev N0 y e)(hc:N (e/2)=some c):rkSw n lev N0 x y N (e/2)+3<=2*(n-lev x):=by
 have g1:=h.lt x hx;rcases he.1 with h0|⟨c0,g0⟩
 . rw[h0,m.n0] at hc;cases hc
 ·have h1:=he.2;rw[Fp g0] at h1;have h2:=h.lt _ (h.var _ _ g0);rcases IZ m g0 hc with ⟨_,hv,_⟩|⟨_,_,h3,_⟩
  . rw[hv] at h1;omega
  . omega
theorem L4 (h:Dag n lev N0 V0)(hx:x<n)(hl:lev y=lev x+1)(m:BE n lev N0 V0 x y done N V){c:BN}(he:midE n lev N0 N x y e)(hc:N (e/2)=some c):rkSw n lev N0 x y N (e/2)+1<=2*(n-lev x):=by
 have g1:=h.lt x hx;rcases he with he|⟨c',g0,hv,hT⟩
 . have:=L3 h hx hl m he hc;omega
 . rw[Fo hT g0 hv];omega
theorem Re (h:Dag n lev N0 V0)(hx:x<n)(hl:lev y=lev x+1)(m:BE n lev N0 V0 x y done N V):Acy N (rkSw n lev N0 x y N):=by
 have g6:=h.lt x hx;have edge:∀ i b e,N i=some b->(e=b.lo\/e=b.hi)->okE N e/\∀ c,N (e/2)=some c->rkSw n lev N0 x y N (e/2)<rkSw n lev N0 x y N i:=by
  intro i b e hb he;cases h0:N0 i with
  | none =>
    obtain⟨hv,h1,h2,_⟩:=m.fresh i b hb h0;have g2:lowE n lev N0 y e:=by rcases he with rfl|rfl;exact h1;exact h2
    have hT:¬ Turns N0 x y i:=fun⟨q,hq,_⟩=>by rw[h0] at hq;cases hq
    refine⟨EA m g2.1,fun c hc=>?_⟩;have:=L3 h hx hl m g2 hc;rw[Fo hT hb hv];omega
  | some b0 =>
    by_cases hd:done i
    ·obtain⟨hT,b',g4,_,h1,h2,_⟩:=m.dn i hd;rw[hb] at g4;cases g4
     have hm:midE n lev N0 N x y e:=by rcases he with rfl|rfl;exact h1;exact h2
     refine⟨L2 m hm,fun c hc=>?_⟩;have:=L4 h hx hl m hm hc;rw[G3 hT];omega
    ·have hk:=m.keep i b0 h0 hd;rw[hb] at hk;cases hk
     have ho:okE N0 e:=by rcases he with rfl|rfl;exact h.okLo _ _ h0;exact h.okHi _ _ h0
     have g0:lev b.v<lvE n lev N0 e:=by rcases he with rfl|rfl;exact h.lvLo _ _ h0;exact h.lvHi _ _ h0
     refine⟨EA m ho,fun c hc=>?_⟩;have g9:=h.lt _ (h.var _ _ h0);rcases ho with hz|⟨c0,g3⟩
     . rw[hz,m.n0] at hc;cases hc
     ·rw[Fp g3] at g0;have g8:=h.lt _ (h.var _ _ g3);have hi:(Turns N0 x y i/\rkSw n lev N0 x y N i=2*(n-lev x)/\b.v=x)\/(¬ Turns N0 x y i/\b.v=x/\rkSw n lev N0 x y N i=2*(n-lev x)-1)\/(¬ Turns N0 x y i/\b.v≠x/\rkSw n lev N0 x y N i=2*(n-lev b.v)):=by
       by_cases hT:Turns N0 x y i
       . exact .inl ⟨hT,G3 hT,IY h0 hT⟩
       ·by_cases g1:b.v=x
        . exact .inr (.inl ⟨hT,g1,Fo hT hb g1⟩)
        . exact .inr (.inr ⟨hT,g1,L1 hT hb g1⟩)
      rcases IZ m g3 hc with ⟨_,g5,hr⟩|⟨_,_,hr,g7⟩
      ·rw[hr];rw[g5] at g0;rcases hi with ⟨_,_,hv⟩|⟨_,hv,_⟩|⟨_,_,h2⟩
       . rw[hv] at g0;omega
       . rw[hv] at g0;omega
       . rw[h2];omega
      ·rcases hi with ⟨_,h2,hv⟩|⟨_,hv,h2⟩|⟨_,hv,h2⟩
       . rw[h2];rw[hv] at g0;omega
       . rw[h2];rw[hv] at g0;omega
       . rw[h2];omega
 exact⟨m.n0,fun i b hb=>(edge i b _ hb (.inl rfl)).1,fun i b hb=>(edge i b _ hb (.inr rfl)).1,fun i b c hb hc=>(edge i b _ hb (.inl rfl)).2 c hc,fun i b c hb hc=>(edge i b _ hb (.inr rfl)).2 c hc⟩
end
end Go.Proofs.YtkidaindpahefaaGreat
