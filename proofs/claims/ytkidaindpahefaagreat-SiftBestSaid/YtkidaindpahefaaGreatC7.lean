/- Several texts in one file: contracts of the program's functions and what follows from them. -/
import Derived.Test.YtkidaindpahefaaGreatC6
import Derived.Defers
set_option linter.unusedSimpArgs false
set_option linter.unusedVariables false
set_option linter.unusedSectionVars false
set_option linter.unnecessarySimpa false
set_option maxRecDepth 100000
set_option maxHeartbeats 8000000
namespace Go.Proofs.YtkidaindpahefaaGreat
open Go.Proofs.Tryz
open Go.RowKit
variable {B B':Wd->Own->Prop}{C:Nat->Prop}{F G:BF}{Fs:List BF}{K:Law}{L:Array Bool}{Od P':List Nat->Prop}{P:Program}{Q:Exit->Act->Wd->Prop}{S:Wd->Prop}{V:Nat->BF}{W W' w w' w'' w0 wb:Wd}{a:Option Addr}{b c f g gop i id j k mb n room t x:Nat}{cur ks ys zs:List Int}{d:Ae}{fs fs' hs r:List (Int×BF)}{gs:List (List Int)}{l:List Oper}{least nx nx':Int}{lop:Array Value}{m:ManD}{met os pl:List Nat}{o0:Own}{u v vl vx:Value}{ws0:List Ev}{xs:List Value}
theorem Tj (w:Wd)(g:Fn)(fs cs:Array Value):(binOp .eql 200 (.func g fs cs) .nilFunc).run prog w=.ok (.bool false) w:=by
 have hd:Op.maxDepth=9999+1:=rfl;have h:(Op.equal 200 (.func g fs cs) .nilFunc).run prog w=.ok false w:=by
  unfold Op.equal;rw[hd];unfold Op.equalIn;simp only[Xl,WE underlying200,WD];simp
 simp only[binOp];simp[h]
section
variable {B:Wd->Prop}{St:ManD->Prop}{QO:Nat->Own->Wd->ManD->(Nat->BF)->Prop}{QP:Own->Wd->ManD->(Nat->BF)->Prop}{Q:Wd->ManD->(Nat->BF)->Prop}{E:Int->ManD->ManD->Prop}
def OpLN (K:Law)(n:Nat)(Od:List Nat->Prop)(room:Nat)(w0:Wd)(mb:Nat)(fs:List (Int×BF))(nx:Int)(C:Nat->Prop)(B:Wd->Prop)(St:ManD->Prop)(gop:Nat)(lop:Array Value)(Q:Nat->Own->Wd->ManD->(Nat->BF)->Prop)(E:Int->ManD->ManD->Prop):Prop :=
 ∀ (o:Own) (W:Wd) (m:ManD) (V:Nat->BF) (xb:Nat),SatE K n Od room w0 mb fs nx W o m V->B W->(∀ k,C k->k<W.heap.size/\o k=none)->St m->Bs o W xb mb->¬ C xb ->
  Calls prog gop (#[Pt xb]++lop) W fun e w'=>∃ (o':Own) (m':ManD) (V':Nat->BF),CU C K o W mb m V o' w' m' V'/\B w' /\
   ((e=.returned (.tuple #[])/\Q W.heap.size o' w' m' V') \/
    (∃ er:Int,e=AQ er false ev0/\er≠0/\m'.waits=m.waits/\St m'/\E er m m') \/
    (∃ ev,e=AQ 0 true ev/\m.waits=ev::m'.waits/\StE K n Od room w0 mb fs nx St m'/\HapG K n Od room w0 mb fs nx ev))
def Dk (W:Wd)(b:Nat):Prop:=∀ k d,W.cell? (Aw b k)≠some (.int .u32 d)
structure EH (K:Law)(n:Nat)(Od:List Nat->Prop)(room:Nat)(w0:Wd)(mb:Nat)(fs:List (Int×BF))(nx:Int)(C:Nat->Prop)(B:Wd->Prop)(St:ManD->Prop)(o0:Own)(w:Wd)(k:Nat)(full:Bool)(W:Wd)(o:Own)(m:ManD)(V:Nat->BF):Prop where
 sat:SatE K n Od room w0 mb fs nx W o m V
 bok:B W
 st:St m
 len:m.waits.length=k
 cok:∀ c,C c->c<w.heap.size/\o c=none
 chg:ChgX C o0 o w W
 clean:full=true->m.d.dead=0
def MO (K:Law)(n:Nat)(Od:List Nat->Prop)(room:Nat)(w0:Wd)(mb:Nat)(fs:List (Int×BF))(nx:Int)(C:Nat->Prop)(B:Wd->Prop)(Q:Own->Wd->ManD->(Nat->BF)->Prop)(E:Int->ManD->ManD->Prop)(o0:Own)(w:Wd)(er:Int)(W:Wd):Prop :=
 ∃ o m V,SatE K n Od room w0 mb fs nx W o m V/\B W/\ChgX C o0 o w W/\((er=0/\Q o W m V)\/(er≠0/\∃ m0:ManD,E er m0 m/\(er=7->m0.d.dead=0)))
theorem Tk (hB:∀ W W',B W->(∀ c,C c->W'.heap[c]?=W.heap[c]?)->B W')(hQ:∀ s o W W' m V,(∀ c,C c->c<s)->s+3<=W.heap.size->Dk W s/\Dk W (s+1)->QO (s+3) o W m V->Ali s W W'->QP o W' m V)(hSt:∀ (m:ManD) (d:Ae),St m->AJ m.d d->St { m with d:=d })(hC0:∀ c,C c->w0.heap.size<=c)(eg:∀ args w,(callFunc gop args).run prog w=.ok (.enter gop args) w)
 (hop:OpLN K n Od room w0 mb fs nx C B St gop lop QO E) {o:Own} {w:Wd} {m:ManD} {V:Nat->BF} (h:SatE K n Od room w0 mb fs nx w o m V) (hb:B w) (hC:∀ c,C c->c<w.heap.size/\o c=none) (hst:St m) :
 Cl 196 #[Pt mb,.func (.func gop) #[] lop] w fun x w'=>∃ er,x=.returned (Iv er)/\MO K n Od room w0 mb fs nx C B QP E o w er w':=by
 have hw0:=h.chg.size;have g7:∀ {k full W W' o1 m1 V1},EH K n Od room w0 mb fs nx C B St o w k full W o1 m1 V1->∀ {s:Nat},w.heap.size<=s->o1 s=none->o1 (s+1)=none->Ali s W W'->EH K n Od room w0 mb fs nx C B St o w k full W' o1 m1 V1:=by
  intro k full W W' o1 m1 V1 hi s hs n0 n1 a;have hk:∀ k,k<w.heap.size->W'.heap[k]?=W.heap[k]?:=fun k hk=>a.keep k (by have:=hi.chg.size;omega) (by omega)
  refine⟨hi.sat.other a (fun k _ e=>?_),hB _ _ hi.bok (fun c hc=>hk c (hi.cok c hc).1),hi.st,hi.len,hi.cok,hi.chg.trans (ChgX.of_wr (C:=fun k=>w.heap.size<=k) a o1 (fun k _ e=>by omega)) (fun k hk e=>by omega),hi.clean⟩;rcases e with rfl|rfl
  . exact⟨by omega,n0⟩
  . exact⟨by omega,n1⟩
 have gd:∀ {k full full' W W' o1 m1 V1 o2 m2 V2},EH K n Od room w0 mb fs nx C B St o w k full W o1 m1 V1->SatE K n Od room w0 mb fs nx W' o2 m2 V2->ChgX NoB o1 o2 W W'->m2.waits=m1.waits->St m2->(full'=true->m2.d.dead=0)->EH K n Od room w0 mb fs nx C B St o w k full' W' o2 m2 V2:=by
  intro k full full' W W' o1 m1 V1 o2 m2 V2 hi gn hc e1 e2 e3;have gp:=hi.chg.size;exact⟨gn,hB _ _ hi.bok (fun c g8=>hc.block c (by have:=(hi.cok c g8).1;omega) (hi.cok c g8).2 (fun e=>e)),e2,by rw[e1];exact hi.len,fun c g8=>⟨(hi.cok c g8).1,hc.none' (by have:=(hi.cok c g8).1;omega) (hi.cok c g8).2⟩,hi.chg.trans hc (fun _ _ e=>e.elim),e3⟩
 refine KS mb _ _ _ eg (fun k full W=>∃ o1 m1 V1,EH K n Od room w0 mb fs nx C B St o w k full W o1 m1 V1) _ ?_ m.waits.length ⟨o,m,V,h,hb,hst,rfl,hC,ChgX.of_below (VZ _ _) o C,by simp⟩;rintro k full W ⟨o1,m1,V1,hi⟩;have gp:=hi.chg.size;obtain⟨s,hs⟩:=Ex W.heap.size
 refine⟨fun st W1=>match st with
  | none=>∃ (o':Own) (m':ManD) (V':Nat->BF),SatE K n Od room w0 mb fs nx W1 o' m' V'/\B W1/\ChgX C o o' w W1/\s+3<=W1.heap.size/\(∀ q,w.heap.size<=q->q<s+3->o1 q=none->o' q=none)/\(Dk W1 s/\Dk W1 (s+1))/\QO (s+3) o' W1 m' V'
  | some (er,evt,ev)=>∃ (o':Own) (m':ManD) (V':Nat->BF),EH K n Od room w0 mb fs nx C B St o w m'.waits.length false W1 o' m' V'/\s+3<=W1.heap.size/\(∀ q,w.heap.size<=q->q<s+3->o1 q=none->o' q=none) /\
   ((evt=false/\er≠0/\m'.waits=m1.waits/\E er m1 m')\/(evt=true/\m1.waits=ev::m'.waits/\StE K n Od room w0 mb fs nx St m'/\HapG K n Od room w0 mb fs nx ev)),?_,?_,?_,?_,?_⟩
 ·unfold Ff;have ge:Bw W (tryW mb W):=((Af _ _).alloc (by simp) _).alloc (by simp;omega) _;have gi:(tryW mb W).heap.size=W.heap.size+3:=by unfold tryW;simp
  obtain⟨T,hT⟩:=Ex (tryW mb W);have h1:(tryW mb W).heap[W.heap.size+2]?=some (.cells #[Pt mb] 233 (0,0)):=by
   have:=VT ((W.alloc (.cells #[Iv 0,.bool false,Iv 0,Iv 0,Iv 0] 235)).alloc (.cells #[.bool false] 4)) (.cells #[Pt mb] 233);rw[Wi,Wi] at this;exact this
  have gk:Dk (tryW mb W) W.heap.size:=fun k d hd=>by
   have e:(tryW mb W).heap[W.heap.size]?=some (.cells #[Iv 0,.bool false,Iv 0,Iv 0,Iv 0] 235 (0,0)) :=
    (Wk _ _ (by simp;omega)).trans ((Wk _ _ (by simp)).trans (VT _ _))
   rw[VR _ _ _ _ _ _ e] at hd;rcases(show k=0\/k=1\/k=2\/k=3\/k=4\/5<=k by omega) with rfl|rfl|rfl|rfl|rfl|hk
   . simp at hd
   . simp at hd
   . simp at hd
   . simp at hd
   . simp at hd
   . rw[Y6 (by simpa using hk)] at hd;cases hd
  have gj:Dk (tryW mb W) (W.heap.size+1):=fun k d hd=>by
   have e0:=VT (W.alloc (.cells #[Iv 0,.bool false,Iv 0,Iv 0,Iv 0] 235)) (.cells #[.bool false] 4);rw[Wi] at e0;have e:(tryW mb W).heap[W.heap.size+1]?=some (.cells #[.bool false] 4 (0,0)) :=
    (Wk _ _ (by simp)).trans e0
   rw[VR _ _ _ _ _ _ e] at hd;rcases(show k=0\/1<=k by omega) with rfl|hk
   . simp at hd
   . rw[Y6 (by simpa using hk)] at hd;cases hd
  rw[<- hT] at ge gi h1 gk gj ⊢;clear hT;have g6:=hi.sat.below ge;have gt:Bs o1 T (W.heap.size+2) mb:=⟨cell1 h1,hi.sat.lt.none (by omega)⟩;have gm:∀ q,w.heap.size<=q->¬ C q:=fun q hq e=>by have:=(hi.cok q e).1;omega
  have ga:∀ {o':Own} {w1:Wd},ChgX C o1 o' T w1->∀ q,w.heap.size<=q->q<s+3->o1 q=none->w1.heap[q]?=T.heap[q]?:=fun hc q h1 h2 h3=>hc.block q (by omega) h3 (gm q h1)
  have n0:o1 W.heap.size=none:=hi.sat.lt.none (VQ _);have n1:o1 (W.heap.size+1)=none:=hi.sat.lt.none (by omega);refine(hop o1 T m1 V1 (W.heap.size+2) g6 (hB _ _ hi.bok (fun c hc=>ge.block c (by have:=(hi.cok c hc).1;omega))) (fun c hc=>⟨by have:=(hi.cok c hc).1;omega,(hi.cok c hc).2⟩) hi.st gt (gm _ (by omega))).mono ?_;rintro e w1 ⟨o',m',V',st,b1,gh⟩;have gw:=st.chg.size;have gg:=(hi.chg.trans (ChgX.of_below ge o1 C) (fun _ _ e=>e)).trans st.chg (fun _ _ e=>e);refine⟨by omega,ga st.chg _ (by omega) (by omega) n0,ga st.chg _ (by omega) (by omega) n1,?_⟩;have g9:∀ q,w.heap.size<=q->q<s+3->o1 q=none->o' q=none:=fun q _ h2 h3=>st.chg.none' (by omega) h3
  have gf:∀ c,C c->c<w.heap.size/\o' c=none:=fun c hc=>⟨(hi.cok c hc).1,st.chg.none' (by have:=(hi.cok c hc).1;omega) (hi.cok c hc).2⟩
  rcases gh with ⟨rfl,q1⟩|⟨er,rfl,q1,q2,q3,q4⟩|⟨ev,rfl,q1,q2,q3⟩
  ·have hu:∀ {q:Nat},q<s+3->w.heap.size<=q->o1 q=none->Dk T q->Dk w1 q:=fun h2 h1 h3 hn k d hd=>hn k d (by
    have e:=ga st.chg _ h1 h2 h3;exact(Xf (w:=T) (a:=Aw _ k) e).symm.trans hd)
   exact .inl ⟨rfl,o',m',V',g6.step st hC0,b1,gg,by omega,g9,⟨by rw[hs];exact hu (by omega) (by omega) n0 gk,by rw[hs];exact hu (by omega) (by omega) n1 gj⟩,by rw[hs,<- gi];exact q1⟩
  . exact .inr ⟨er,false,ev0,rfl,o',m',V',⟨g6.step st hC0,b1,q3,rfl,gf,gg,by simp⟩,by omega,g9,.inl ⟨rfl,q1,q2,q4⟩⟩
  . exact .inr ⟨0,true,ev,rfl,o',m',V',⟨g6.step st hC0,b1,q2 _ _ _ _ (g6.step st hC0) rfl rfl (.inl (VQ _)),rfl,gf,gg,by simp⟩,by omega,g9,.inr ⟨rfl,q1,q2,q3⟩⟩
 ·rintro W1 W2 ⟨o',m',V',a1,a2,a3,a4,a5,au,a8⟩ al;rw[<- hs] at al;have n0:o' s=none:=a5 s (by omega) (by omega) (by rw[hs];exact hi.sat.lt.none (VQ _));have n1:o' (s+1)=none:=a5 (s+1) (by omega) (by omega) (by rw[hs];exact hi.sat.lt.none (by omega));have hk:∀ c,C c->W2.heap[c]?=W1.heap[c]?:=fun c hc=>al.keep c (by have:=(hi.cok c hc).1;omega) (by have:=(hi.cok c hc).1;omega)
  refine⟨o',m',V',a1.other al (fun k _ e=>?_),hB _ _ a2 hk,a3.trans (ChgX.of_wr (C:=fun k=>w.heap.size<=k) al o' (fun k _ e=>by omega)) (fun k hk e=>by omega),.inl ⟨rfl,hQ s _ _ _ _ _ (fun c hc=>by have:=(hi.cok c hc).1;omega) a4 au a8 al⟩⟩;rcases e with rfl|rfl
  . exact⟨by omega,n0⟩
  . exact⟨by omega,n1⟩
 ·rintro er ev W1 W2 ⟨o',m',V',gc,a4,a5,(⟨h1,_⟩|⟨_,gr,go,gu⟩)⟩ al
  . cases h1
  rw[<- hs] at al;have n0:o' s=none:=a5 s (by omega) (by omega) (by rw[hs];exact hi.sat.lt.none (VQ _));have n1:o' (s+1)=none:=a5 (s+1) (by omega) (by omega) (by rw[hs];exact hi.sat.lt.none (by omega));have g0:=g7 gc (by omega) n0 n1 al;refine(gu o' W2 m' V' g0.sat).mono ?_;rintro x w' ⟨rfl,o2,m2,V2,g1,g2,g3,g5,g4⟩;exact⟨rfl,m'.waits.length,by rw[<- hi.len,gr];simp,o2,m2,V2,gd g0 g1 g4 g2 (go _ _ _ _ g1 g2 g3 g5) (by simp)⟩
 ·rintro ev W1 W2 ⟨o',m',V',gc,a4,a5,(⟨_,_,hw,_⟩|⟨h1,_⟩)⟩ al gv
  . rw[<- hs] at al;have n0:o' s=none:=a5 s (by omega) (by omega) (by rw[hs];exact hi.sat.lt.none (VQ _));have n1:o' (s+1)=none:=a5 (s+1) (by omega) (by omega) (by rw[hs];exact hi.sat.lt.none (by omega));have g0:=g7 gc (by omega) n0 n1 al;refine(Lj g0.sat).mono ?_;rintro x w' ⟨rfl,o2,d2,g1,g2,g3⟩;have gl:=gd (full':=true) g0 g1 (ChgX.of_chg g3 NoB) rfl (hSt _ _ g0.st g2) (fun _=>g2.dead);rw[hw,hi.len] at gl;exact⟨⟨_,rfl⟩,o2,_,V',gl⟩
  . cases h1
 ·rintro er ev W1 W2 ⟨o',m',V',gc,a4,a5,(⟨_,h0,hw,hE⟩|⟨h1,_⟩)⟩ al gq
  ·rw[<- hs] at al;have n0:o' s=none:=a5 s (by omega) (by omega) (by rw[hs];exact hi.sat.lt.none (VQ _));have n1:o' (s+1)=none:=a5 (s+1) (by omega) (by omega) (by rw[hs];exact hi.sat.lt.none (by omega));have g0:=g7 gc (by omega) n0 n1 al;refine⟨o',m',V',g0.sat,g0.bok,g0.chg,.inr ⟨h0,m1,hE,fun e7=>hi.clean ?_⟩⟩;cases full with
   | true=>rfl
   | false=>exact(gq ⟨e7,rfl⟩).elim
  . cases h1
theorem Tl (hB:∀ W W',B W->(∀ c,C c->W'.heap[c]?=W.heap[c]?)->B W')(hQ:∀ s o W W' m V,(∀ c,C c->c<s)->s+3<=W.heap.size->Dk W s/\Dk W (s+1)->QO (s+3) o W m V->Ali s W W'->QP o W' m V)(hSt:∀ (m:ManD) (d:Ae),St m->AJ m.d d->St { m with d:=d })(hC0:∀ c,C c->w0.heap.size<=c)(eg:∀ args w,(callFunc gop args).run prog w=.ok (.enter gop args) w)
 (hop:OpLN K n Od room w0 mb fs nx C B St gop lop QO E) {o:Own} {w:Wd} {m:ManD} {V:Nat->BF} (h:SatE K n Od room w0 mb fs nx w o m V) (hb:B w) (hC:∀ c,C c->c<w.heap.size/\o c=none) (hst:St m) :
 Cl 164 #[Pt mb,.func (.func gop) #[] lop] w fun x w'=>∃ er,x=.returned (Iv er)/\MO K n Od room w0 mb fs nx C B QP E o w er w':=by
 have g0:=Hd (Tk hB hQ hSt hC0 eg hop h hb hC hst);have g1:=Tj w (.func gop) #[] lop;clear h hb hB hQ hSt hC0 hop hC hst
 go_enter func164,ntmps164
 go_wp2_with fail;refine g0.o.mono ?_;rintro x w1 ⟨er,rfl,hf⟩;have HF:=Hd hf;clear hf g0;go_wp2_with fail;go_ret;exact⟨er,rfl,HF.o⟩
end
structure ArgL (fs:List (Int×BF))(w0 w:Wd)(o:Own)(a:Option Addr)(ks:List Int)(Fs:List BF):Prop where
 z:Am w a ks
 own:∀ x,a=some x->x.block<w.heap.size/\w0.heap.size<=x.block/\o x.block=none
 len:Fs.length=ks.length
 mem:∀ i (h:i<ks.length),(ks[i],Fs[i]'(by omega))∈fs
section
variable {o:Own}
theorem Tm (hK:AE K)(h:SatE K n (fun _=>True) room w0 mb fs nx w o m V)(hl:ArgL fs w0 w o a ks Fs)(hst:m.waits <:+ ws0)(hn:nx<=549755813888)(hr:fs.length*2^n+ks.length*(2^n-1)<=room) :
 Cl 128 #[Pt mb,.slice a ks.length c] w (NewF K n room w0 mb fs nx ws0 (Cx orF (Dj 1) Fs) o w):=by
 have HC:=Hd (MN (c:=c) hK (Td hK) Ti h (e0:=1) rfl hl.z hl.own hl.len hl.mem hst hn hr);clear h hK hl hst hn hr;obtain⟨P,hP⟩:=Ex (NewF K n room w0 mb fs nx ws0 (Cx orF (Dj 1) Fs) o w);rw[<- hP] at HC ⊢;have HT:Hq (∀ x w',P x w'->∃ a b,x=.returned (.tuple #[Iv a,Iv b])):=Hd (by subst hP;rintro x w' ⟨rfl,_⟩;exact⟨_,_,rfl⟩);clear hP
 go_enter func128,ntmps128
 go_wp2_with fail;refine HC.o.mono ?_;intro x w' hd;obtain⟨a,b,rfl⟩:=HT.o x w' hd;have HD:=Hd hd;clear hd;go_wp2_with fail;exact HD.o
end
theorem DepF.const (b:Bool):DepF n fun _=>b:=fun _ _ _=>rfl
theorem DepF.not (h:DepF n F):DepF n (notF F):=fun ρ ρ' hr=>by
 show (!F ρ)=(!F ρ')
 rw[h ρ ρ' hr]
section
variable {x y:Value}
structure Dy (n:Nat)(w:Wd)(a:Option Addr)(Fs:List BF):Prop where
 len:Fs.length<=1000
 cells:∀ i (h:i<Fs.length),∃ b off v,a=some (Aw b off)/\w.cell? (Aw b (off+i))=some v/\TabA n w v Fs[i]
theorem Dy.below {a:Option Addr}{Fs:List BF}{w':Wd}(h:Dy n w a Fs)(hb:Bw w w'):Dy n w' a Fs :=
 ⟨h.len,fun i hi=>by
  obtain⟨b,off,v,rfl,h1,h2⟩:=h.cells i hi;exact⟨b,off,v,rfl,(Cq hb h1),h2.below hb⟩⟩
end
section
variable {o:Own}
theorem Tn (hK:AE K)(h:SatE K n (fun _=>True) room w0 mb fs nx w o m V)(hw:m.waits <:+ ws0)(hn:nx<=549755813888)(hr:(fs.length+1)*2^n<=room){v:Nat}(hv:v<n) :
 Cl 93 #[Pt mb,Iv v] w fun x w''=>x=.returned (.tuple #[Iv nx,Iv 0])/\Goes K n (fun _=>True) room w0 mb (fs++[(nx,varF v)]) (nx+1) (W2 (SufW ws0)) o w w'':=by
 refine(Ll hK h ws0 hw none (fun _ e=>by cases e) (fun _ e=>by cases e) (fun ev _=>LY hn ev) (by omega) v hv).mono ?_;rintro x w'' hp;obtain⟨o2,m2,V2,q1,q2,q3,q4⟩:=Sr hp Nat.one_le_two_pow hr;exact⟨q3,o2,m2,V2,q1,q2,q4⟩
end
theorem LawR.tabs {P:Nat->Prop}(h:LawR P n fs w vl vx hs):∃ a c,vx=.slice a hs.length c/\Dy n w a (hs.map Prod.snd):=by
 obtain⟨a,c,e,h1⟩:=h.x;refine⟨a,c,e,by simpa using h.small,fun i hi=>?_⟩;have g0:i<hs.length:=by simpa using hi
 obtain⟨b,off,v,h2,h3,h4,_⟩:=h1.cells i (by simpa using hi);refine⟨b,off,v,h2,h3,?_⟩;rw[show (hs.map fun p=>tabB n p.2).getD i []=tabB n hs[i].2 by simp[List.getD,g0]] at h4;have:=TabA.is h4;simpa using this
section
variable {o:Own}{rs:List (Value×BF)}{args:Array Value}
theorem MP (h:SatE K n (fun _=>True) room w0 mb fs nx w o m V)(hl:ks.length<=1000000)(hlen:Fs.length=ks.length)(hm:∀ i (h:i<ks.length),(ks[i],Fs[i]'(by omega))∈fs):ArgL fs w0 (w.alloc (.cells (Ao ks).toArray 3)) o (some (Av w.heap.size)) ks Fs :=
 ⟨F3 w ks hl,fun x hx=>by cases hx;exact⟨by simp,h.chg.size,h.lt.none (VQ _)⟩,hlen,hm⟩
end
theorem SliceIs.same (h:SliceIs w v zs)(hk:∀ k,v.ownBlock=some k->w'.heap[k]?=w.heap[k]?):SliceIs w' v zs:=by
 obtain⟨a,c,rfl,⟨h1,h2⟩,h3⟩:=h;refine⟨a,c,rfl,⟨h1,fun k g0=>?_⟩,h3⟩;obtain⟨b,off,rfl,hc⟩:=h2 k g0;exact⟨b,off,rfl,Co hc (hk b rfl)⟩
theorem To:DG 22 27 (.slice none 0 0) 24:=⟨underlying27,by kernel_rfl,rfl,by omega⟩
structure BG (W:Wd)(xs:List Value)(gs:List (List Int)):Prop where
 len:xs.length=gs.length
 at_:∀ i (h:i<xs.length) (h2:i<gs.length),SliceIs W xs[i] gs[i]
section
theorem BG.same (h:BG W xs gs)(hk:∀ x∈xs,∀ k,x.ownBlock=some k->W'.heap[k]?=W.heap[k]?):BG W' xs gs:=⟨h.len,fun i h1 h2=>(h.at_ i h1 h2).same fun k e=>hk _ (Wh h1) k e⟩
theorem BG.below (h:BG W xs gs)(hb:Bw W W'):BG W' xs gs:=⟨h.len,fun i h1 h2=>(h.at_ i h1 h2).below hb⟩
theorem BG.nil (W:Wd):BG W [] []:=⟨rfl,fun i h=>by simp at h⟩
theorem BG.snoc (h:BG W xs gs){x:Value}{g:List Int}(hx:SliceIs W x g):BG W (xs++[x]) (gs++[g]):=by
 have hl:=h.len;refine⟨by simp[hl],fun i h1 h2=>?_⟩;rcases Wo i xs.length with h3|h3
 . rw[Xa h3,Xa (by omega)];exact h.at_ i h3 (by omega)
 ·have e:i=xs.length:=by simp at h1;omega
  subst e;rw[WU (VQ _),WU (by omega)];simpa using hx
end
def ofFn (n:Nat)(F:Nat->Int):List Int:=(List.range n).map F
theorem MQ (n:Nat)(F:Nat->Int):(ofFn n F).length=n:=by simp[ofFn]
theorem Tp {F:Nat->Int}(h:j<n):at0 (ofFn n F) j=F j:=by
 rw[Au (by rw[MQ];exact h)];simp[ofFn]
theorem F6 {xs:List Int}(h:j<xs.length):at0 (xs++ys) j=at0 xs j:=by simp[at0,List.getD,Ww h]
theorem GF {xs:List Int}(h:xs.length<=j):at0 (xs++ys) j=at0 ys (j-xs.length):=by simp[at0,List.getD,WL h]
theorem GG {xs:List Int}(h:j<i):at0 (xs.take i) j=at0 xs j:=by simp[at0,List.getD,h]
theorem Jv {xs:List Int}:at0 (xs.drop i) j=at0 xs (i+j):=by simp[at0,List.getD,Y2]
theorem MR {xs:List Int}{y:Int}(h:i<xs.length):at0 (xs.set i y) j=if i=j then y else at0 xs j:=by
 simp only[at0,List.getD,Wz]
 by_cases e:i=j
 . subst e;simp[h]
 . simp[e]
theorem CO (h:k+1<zs.length):at0 (A6 zs (k:Int)) j=if j=k then at0 zs (k+1) else if j=k+1 then at0 zs k else at0 zs j:=by
 rw[FJ h,MR (by simp;omega),MR (by omega)]
 by_cases e1:j=k
 . subst e1;simp
 ·by_cases e2:j=k+1
  . subst e2;simp
  ·have e3:¬ k=j:=fun e=>e1 e.symm
   have e4:¬ k+1=j:=fun e=>e2 e.symm
   simp[e1,e2,e3,e4]
def CX (F:Nat->Int)(f t j:Nat):Int :=
 if j=t then F f else if f<=j/\j<t then F (j+1) else if t<j/\j<=f then F (j-1) else F j
def A3 (zs:List Int)(f t:Int):List Int :=
 if (0<=f/\f<zs.length)/\(0<=t/\t<zs.length) then ofFn zs.length (CX (at0 zs) f.toNat t.toNat) else zs
theorem C8 (zs:List Int)(f t:Int):(A3 zs f t).length=zs.length:=by unfold A3;split<;>simp[MQ]
theorem Tq (hf:f<zs.length)(ht:t<zs.length):A3 zs (f:Int) (t:Int)=ofFn zs.length (CX (at0 zs) f t):=by
 unfold A3;rw[VW (by omega)];simp
theorem Tr {f t:Int}(h:¬ ((0<=f/\f<zs.length)/\(0<=t/\t<zs.length))):A3 zs f t=zs:=by unfold A3;rw[VS h]
theorem CP (hf:f<zs.length)(ht:t<zs.length)(hj:j<zs.length):at0 (A3 zs (f:Int) (t:Int)) j=CX (at0 zs) f t j:=by
 rw[Tq hf ht,Tp hj]
theorem Ts (hf:f<zs.length):A3 zs (f:Int) (f:Int)=zs:=by
 refine CZ (C8 _ _ _) fun j hj=>?_
 rw[C8] at hj;rw[CP hf hf hj];unfold CX
 by_cases e:j=f
 . subst e;simp
 . rw[VS e,VS (by omega),VS (by omega)]
theorem Tt (hft:f<=t)(ht:t+1<zs.length):A6 (A3 zs (f:Int) (t:Int)) (t:Int)=A3 zs (f:Int) ((t+1:Nat):Int):=by
 have hl:t+1<(A3 zs (f:Int) (t:Int)).length:=by rw[C8];exact ht
 refine CZ (by rw[C0,C8,C8]) fun j hj=>?_
 rw[C0,C8] at hj;rw[CO hl,CP (by omega) (by omega) (by omega),CP (by omega) (by omega) (by omega),CP (by omega) (by omega) hj,CP (by omega) (by omega) hj];clear hl;unfold CX
 repeat' split
 all_goals first|rfl|omega|(congr 1;omega)
theorem Tu (hft:t+1<=f)(hf:f<zs.length):A6 (A3 zs (f:Int) ((t+1:Nat):Int)) (t:Int)=A3 zs (f:Int) (t:Int):=by
 have hl:t+1<(A3 zs (f:Int) ((t+1:Nat):Int)).length:=by rw[C8];omega
 refine CZ (by rw[C0,C8,C8]) fun j hj=>?_
 rw[C0,C8] at hj;rw[CO hl,CP (by omega) (by omega) (by omega),CP (by omega) (by omega) (by omega),CP (by omega) (by omega) hj,CP (by omega) (by omega) hj];clear hl;unfold CX
 repeat' split
 all_goals first|rfl|omega|(congr 1;omega)
theorem MS (hf:f<zs.length)(ht:t<zs.length) :
 (zs.take f++zs.drop (f+1)).take t++[at0 zs f]++(zs.take f++zs.drop (f+1)).drop t=A3 zs (f:Int) (t:Int):=by
 have hm:(zs.take f++zs.drop (f+1)).length=zs.length-1:=by simp;omega
 have g0:∀ j,at0 (zs.take f++zs.drop (f+1)) j=if j<f then at0 zs j else at0 zs (j+1):=by
  intro j
  by_cases h:j<f
  . rw[VW h,F6 (by simp;omega),GG h]
  . rw[VS h,GF (by simp;omega),Jv];congr 1;simp;omega
 generalize zs.take f++zs.drop (f+1)=m at hm g0 ⊢
 refine CZ (by rw[C8];simp;omega) fun j hj=>?_
 have g3:j<zs.length:=by simp at hj;omega
 rw[CP hf ht g3];have g1:(m.take t).length=t:=by simp;omega
 have g2:(m.take t++[at0 zs f]).length=t+1:=by simp;omega
 by_cases e1:j<t
 ·rw[F6 (by omega),F6 (by omega),GG e1,g0];unfold CX
  repeat' split
  all_goals first|rfl|omega|(congr 1;omega)
 ·by_cases e2:j=t
  . subst e2;rw[F6 (by omega),GF (by omega),g1,Nat.sub_self];unfold CX;rw[VW rfl];rfl
  ·rw[GF (by omega),Jv,g0,g2];unfold CX
   repeat' split
   all_goals first|rfl|omega|(congr 1;omega)
theorem Tv (n:Nat):∀ l:List Nat,l.Nodup->(∀ x∈l,x<n)->l.length<=n:=by
 induction n with
 | zero =>
   intro l _ h;cases l with
   | nil=>simp
   | cons x l=>have:=h x (by simp);omega
 | succ n ih =>
   intro l hn h
   by_cases hm:n∈l
   ·have h1:=ih (l.erase n) (hn.erase n) (fun x hx=>by
     have h2:=(hn.mem_erase_iff).1 hx;have:=h x h2.2;have:=h2.1;omega)
    rw[List.length_erase_of_mem hm] at h1;omega
   ·have h1:=ih l hn (fun x hx=>by
     have:=h x hx;have:x≠n:=fun e=>hm (e ▸ hx)
     omega)
    omega
theorem Tw {l:List Nat}(hn:l.Nodup)(h:∀ x∈l,x<n)(hl:l.length=n)(hx:x<n):x∈l:=by
 rcases Classical.em (x∈l) with h1|h1
 . exact h1
 ·have:=Tv n (x::l) (XQ.2 ⟨h1,hn⟩) (fun y hy=>by
   rcases WT.1 hy with rfl|hy
   . exact hx
   . exact h y hy)
  simp at this;omega
theorem F7 (h:Az zs=true)(hx:x<zs.length):∃ k,k<zs.length/\at0 zs k=(x:Int):=by
 obtain⟨h1,h2⟩:=(Ce zs).1 h;have g0:(zs.map Int.toNat).Nodup:=by
  rw[XW,XF];intro i j hi hj g1;simp only[Wn] at hi hj;simp only[List.getElem_map];have a:=h2 j hj i g1;have b:=(h1 i hi).1;have c:=(h1 j hj).1;rw[Au hi] at a b;rw[Au hj] at a c;omega
 have hb:∀ y∈zs.map Int.toNat,y<zs.length:=by
  intro y hy;obtain⟨z,hz,rfl⟩:=Wg.1 hy;obtain⟨k,hk,rfl⟩:=X4.1 hz;have:=h1 k hk;rw[Au hk] at this;omega
 have hm:=Tw g0 hb (by simp) hx;obtain⟨z,hz,g2⟩:=Wg.1 hm;obtain⟨k,hk,rfl⟩:=X4.1 hz;refine⟨k,hk,?_⟩;have:=(h1 k hk).1;rw[Au hk] at this ⊢;omega
theorem Em (h:Az zs=true)(hk:k<zs.length):AZ zs (at0 zs k)=k :=
 JS hk rfl fun j hj=>((Ce zs).1 h).2 k hk j hj
theorem EI (h:Az zs=true)(hi:i<zs.length)(hj:j<zs.length)(he:at0 zs i=at0 zs j):i=j:=by
 have h2:=((Ce zs).1 h).2;rcases XY i j with g0|e|g0
 . exact(h2 j hj i g0 he).elim
 . exact e
 . exact(h2 i hi j g0 he.symm).elim
theorem MT (h:Az zs=true)(hl:ys.length=zs.length)(p:Nat->Nat)(hp:∀ j,j<zs.length->p j<zs.length)
 (hinj:∀ i j,i<zs.length->j<zs.length->p i=p j->i=j) (hy:∀ j,j<zs.length->at0 ys j=at0 zs (p j)):Az ys=true:=by
 rw[Ce,hl];have h1:=((Ce zs).1 h).1;refine⟨fun k hk=>by rw[hy k hk];exact h1 _ (hp k hk),fun i hi k hk he=>?_⟩;rw[hy i hi,hy k (by omega)] at he;have:=hinj k i (by omega) hi (EI h (hp k (by omega)) (hp i hi) he);omega
theorem Tx (h:Az zs=true)(i:Int):Az (A6 zs i)=true:=by
 by_cases g0:0<=i/\i+1<zs.length
 ·obtain⟨k,rfl⟩:=XL g0.1;have hk:k+1<zs.length:=by omega
  refine MT h (C0 _ _) (fun j=>if j=k then k+1 else if j=k+1 then k else j) ?_ ?_ ?_
  ·intro j hj;repeat' split
   all_goals omega
  ·intro i j hi hj;repeat' split
   all_goals omega
  ·intro j hj;rw[CO hk];repeat' split
   all_goals rfl
 . rw[GQ g0];exact h
theorem MU (i:Int):A6 (A6 zs i) i=zs:=by
 by_cases g0:0<=i/\i+1<zs.length
 ·obtain⟨k,rfl⟩:=XL g0.1;have hk:k+1<zs.length:=by omega
  have g1:k+1<(A6 zs (k:Int)).length:=by rw[C0];exact hk
  refine CZ (by rw[C0,C0]) fun j hj=>?_
  rw[CO g1,CO hk,CO hk,CO hk]
  repeat' split
  all_goals first|rfl|omega|(congr 1;omega)
 . rw[GQ g0,GQ g0]
theorem MV (h:Az zs=true)(f t:Int):Az (A3 zs f t)=true:=by
 by_cases g0:(0<=f/\f<zs.length)/\(0<=t/\t<zs.length)
 ·obtain⟨f,rfl⟩:=XL g0.1.1;obtain⟨t,rfl⟩:=XL g0.2.1;have hf:f<zs.length:=by omega
  have ht:t<zs.length:=by omega
  clear g0;refine MT h (C8 _ _ _) (fun j=>if j=t then f else if f<=j/\j<t then j+1 else if t<j/\j<=f then j-1 else j) ?_ ?_ ?_
  ·intro j hj;repeat' split
   all_goals omega
  ·intro i j hi hj;repeat' split
   all_goals omega
  ·intro j hj;rw[CP hf ht hj];unfold CX;repeat' split
   all_goals rfl
 . rw[Tr g0];exact h
def invs (f:Int->Int):List Int->Nat
 | []=>0
 | x::xs=>xs.countP (fun y=>decide (f x>f y))+invs f xs
theorem Ty (f:Int->Int)(l:List Int)(x y:Int)(r:List Int)(h:f x>f y):invs f (l++x::y::r)=invs f (l++y::x::r)+1:=by
 induction l with
 | nil =>
   simp only[WQ,invs,List.countP_cons];have h2:¬ f y>f x:=by omega
   simp only[h,h2,decide_true,decide_false,Xb,XU,if_false];omega
 | cons a l ih =>
   simp only[Xy,invs,ih,List.countP_append,List.countP_cons];omega
theorem Tz (h:k+1<zs.length):zs=zs.take k++at0 zs k::at0 zs (k+1)::zs.drop (k+2):=by
 have h1:=Xn k zs;rw[D1 (by omega),D1 h] at h1;exact h1.symm
theorem T0 (h:k+1<zs.length):A6 zs (k:Int)=zs.take k++at0 zs (k+1)::at0 zs k::zs.drop (k+2):=by
 refine CZ (by rw[C0];simp;omega) fun j hj=>?_
 rw[CO h];have hk:(zs.take k).length=k:=by simp;omega
 by_cases e1:j<k
 . rw[F6 (by omega),GG e1,VS (by omega),VS (by omega)]
 ·rw[GF (by omega),hk]
  by_cases e2:j=k
  . subst e2;rw[VW rfl,Nat.sub_self];rfl
  ·by_cases e3:j=k+1
   . subst e3;rw[VS e2,VW rfl,show k+1-k=1 by omega];rfl
   ·rw[VS e2,VS e3,show j-k=(j-k-2)+2 by omega]
    show _=at0 (zs.drop (k+2)) (j-k-2)
    rw[Jv];congr 1;omega
theorem T2 {f:Int->Int}(h:k+1<zs.length)(hf:f (at0 zs k)>f (at0 zs (k+1))):invs f zs=invs f (A6 zs (k:Int))+1:=by
 rw[T0 h]
 conv=>lhs;rw[Tz h]
 exact Ty f _ _ _ _ hf
structure Upto (bs cur:List Int)(i:Nat):Prop where
 len:cur.length=bs.length
 right:Az cur=true
 pre:∀ j,j<i->at0 cur j=at0 bs j
theorem T3 {bs:List Int}(hb:Az bs=true)(hi:i<bs.length)(d:Nat):∀ cur:List Int,Upto bs cur i->i+d<bs.length->at0 cur (i+d)=at0 bs i ->
 Upto bs (bub cur i d).1 (i+1)/\invs (AZ bs) cur=invs (AZ bs) (bub cur i d).1+d/\(∀ s∈(bub cur i d).2,0<=s/\s+1<bs.length)/\(bub cur i d).2.foldl A6 cur=(bub cur i d).1:=by
 induction d with
 | zero =>
   intro cur hu hd hx;refine⟨⟨hu.len,hu.right,fun j hj=>?_⟩,rfl,by simp[bub],rfl⟩
   by_cases e:j=i
   . subst e;exact hx
   . exact hu.pre j (by omega)
 | succ d ih =>
   intro cur hu hd hx;have hk:(i+d)+1<cur.length:=by rw[hu.len];omega
   have g1:Upto bs (A6 cur ((i+d:Nat):Int)) i:=by
    refine⟨by rw[C0,hu.len],Tx hu.right _,fun j hj=>?_⟩;rw[CO hk,VS (by omega),VS (by omega)];exact hu.pre j hj
   have g0:at0 (A6 cur ((i+d:Nat):Int)) (i+d)=at0 bs i:=by
    rw[CO hk,VW rfl];exact hx
   obtain⟨h1,h2,h3,h4⟩:=ih _ g1 (by omega) g0;refine⟨h1,?_,?_,?_⟩
   ·have g2:AZ bs (at0 cur (i+d))>AZ bs (at0 cur (i+d+1)):=by
     have e1:at0 cur (i+d+1)=at0 bs i:=hx;rw[e1,Em hb hi];have hr:=((Ce cur).1 hu.right).1 (i+d) (by omega);obtain⟨q,hq,g3⟩:=F7 hb (x:=(at0 cur (i+d)).toNat) (by rw[<- hu.len];omega);have e2:at0 bs q=at0 cur (i+d):=by omega
     rw[<- e2,Em hb hq];rcases Wo i q with g4|g5
     . omega
     ·exfalso
      by_cases e3:q=i
      . subst e3;have:=EI hu.right (i:=q+d) (j:=q+d+1) (by omega) (by omega) (by rw[<- e2,e1]);omega
      . have h5:=hu.pre q (by omega);rw[e2] at h5;have:=EI hu.right (i:=q) (j:=i+d) (by omega) (by omega) h5;omega
    rw[T2 hk g2,h2]
    show _=invs _ (bub (A6 cur ((i+d:Nat):Int)) i d).1+(d+1)
    omega
   ·intro s hs;rw[bub] at hs;rcases WT.1 hs with rfl|hs
    . omega
    . exact h3 s hs
   . exact h4
theorem T4 {bs:List Int}(h:Upto bs cur bs.length):cur=bs:=CZ h.len fun k hk=>h.pre k (by rw[<- h.len];exact hk)
theorem T5 {bs:List Int}(hb:Az bs=true):invs (AZ bs) bs=0:=by
 have key:∀ n k,n+k=bs.length->invs (AZ bs) (bs.drop k)=0:=by
  intro n
  induction n with
  | zero=>intro k hk;rw[WY (by omega)];rfl
  | succ n ih =>
    intro k hk;rw[D1 (by omega)];simp only[invs];rw[ih (k+1) (by omega),XR,List.countP_eq_zero];intro y hy;obtain⟨j,hj,rfl⟩:=X4.1 hy;simp only[List.length_drop] at hj;have e:(bs.drop (k+1))[j]'(by simpa using hj)=at0 bs (k+1+j):=by rw[Au (by omega),List.getElem_drop]
    rw[e,Em hb (by omega),Em hb (by omega)];simp;omega
 have:=key bs.length 0 (by omega);simpa using this
theorem T6 {bs:List Int}(hb:Az bs=true)(n:Nat):∀ (k:Nat) (cur:List Int),n+k=bs.length->Upto bs cur k ->
 (CA cur (bs.drop k) k).length=invs (AZ bs) cur/\(∀ s∈CA cur (bs.drop k) k,0<=s/\s+1<bs.length)/\(CA cur (bs.drop k) k).foldl A6 cur=bs:=by
 induction n with
 | zero =>
   intro k cur hk hu;obtain rfl:k=bs.length:=by omega
   obtain rfl:=T4 hu;rw[WY (VQ _)];exact⟨(T5 hb).symm,by simp[CA],rfl⟩
 | succ n ih =>
   intro k cur hk hu;have g0:k<bs.length:=by omega
   rw[JU cur bs k g0];obtain⟨q,hq,g5⟩:=F7 hu.right (x:=(at0 bs k).toNat) (by rw[hu.len];have:=((Ce bs).1 hb).1 k g0;omega);have g4:=((Ce bs).1 hb).1 k g0;have e1:at0 cur q=at0 bs k:=by omega
   have hp:AZ cur (at0 bs k)=q:=by rw[<- e1];exact Em hu.right hq
   have g6:k<=q:=by
    rcases Wo q k with g1|g2
    . have:=hu.pre q g1;rw[e1] at this;have:=EI hb (i:=k) (j:=q) g0 (by omega) this;omega
    . exact g2
   have hd:∃ d,q=k+d:=⟨q-k,by omega⟩;obtain⟨d,rfl⟩:=hd;have g3:DT cur (at0 bs k) k=bub cur k d:=by unfold DT;rw[hp];congr 1;omega
   rw[g3];obtain⟨h1,h2,h3,h4⟩:=T3 hb g0 d cur hu (by rw[<- hu.len];exact hq) e1;obtain⟨i1,i2,i3⟩:=ih (k+1) _ (by omega) h1;refine⟨?_,?_,?_⟩
   . rw[VY,i1,Oa,h2];omega
   ·intro s hs;rcases Wj.1 hs with hs|hs
    . exact h3 s hs
    . exact i2 s hs
   . rw[XA,h4];exact i3
theorem T7 {as_ bs:List Int}(ha:Az as_=true)(hb:Az bs=true)(hl:as_.length=bs.length) :
 (Cf as_ bs).length=invs (AZ bs) as_/\(∀ s∈Cf as_ bs,0<=s/\s+1<bs.length)/\(Cf as_ bs).foldl A6 as_=bs:=by
 have:=T6 hb bs.length 0 as_ (by omega) ⟨hl,ha,by omega⟩;unfold Cf;rw[VW ⟨ha,hb,hl⟩];simpa using this
section
variable {lev:Int->Nat}
theorem GH (h:Az zs=true)(hl:zs.length=n){x:Int}(hx:0<=x/\x<(n:Int)):x∈zs:=by
 obtain⟨k,hk,e⟩:=F7 h (x:=x.toNat) (by omega);rw[Au hk] at e;have:zs[k]=x:=by rw[e];omega
 rw[<- this];exact Wh _
end
theorem T8 (hf:f<zs.length)(ht:t<zs.length):(A3 zs (f:Int) (t:Int)).Perm zs:=by
 rw[<- MS hf ht];have h1:zs.take f++at0 zs f::zs.drop (f+1)=zs:=by
  rw[Au hf,<- WN hf,Xn]
 obtain⟨m,hm⟩:=Ex (zs.take f++zs.drop (f+1));obtain⟨x,hx⟩:=Ex (at0 zs f);rw[<- hm,<- hx];rw[<- hx] at h1;have h2:(m.take t++[x]++m.drop t).Perm (x::m):=by
  have e:m.take t++[x]++m.drop t=m.take t++x::m.drop t:=by rw[Wl];rfl
  rw[e];refine List.perm_middle.trans ?_;rw[Xn]
 refine h2.trans ?_;rw[hm];refine(List.perm_middle (l₁:=zs.take f) (l₂:=zs.drop (f+1)) (a:=x)).symm.trans ?_;rw[h1]
theorem MW (hf:f<zs.length)(ht:t+1<zs.length):A6 (A3 zs (f:Int) (t:Int)) (t:Int)=A3 zs (f:Int) ((t+1:Nat):Int):=by
 by_cases h:f<=t
 . exact Tt h ht
 . rw[<- Tu (zs:=zs) (f:=f) (t:=t) (by omega) hf,MU]
theorem T9 (hf:f<zs.length)(ht:t+1<zs.length):A6 (A3 zs (f:Int) ((t+1:Nat):Int)) (t:Int)=A3 zs (f:Int) (t:Int):=by
 rw[<- MW hf ht,MU]
theorem TA (hf:f<zs.length)(ht:t<zs.length):at0 (A3 zs (f:Int) (t:Int)) t=at0 zs f:=by
 rw[CP hf ht ht];unfold CX;rw[VW rfl]
theorem TB (hr:Az zs=true)(hf:f<zs.length)(ht:t<zs.length):AZ (A3 zs (f:Int) (t:Int)) (at0 zs f)=(t:Int):=by
 rw[<- TA hf ht];exact Em (MV hr _ _) (by rw[C8];exact ht)
def FxS (K:Law)(n room:Nat)(w0:Wd)(mb:Nat)(ws0:List Ev)(C:Nat->Prop)(o0:Own)(wb:Wd)(B:Wd->Own->Prop)(fs:List (Int×BF))(nx:Int)(W:Wd):Prop :=
 ∃ o m V,ChgX C o0 o wb W/\m.waits <:+ ws0/\SatE K n (fun _=>True) room w0 mb fs nx W o m V/\B W o
def As (B:Wd->Own->Prop):Prop:=∀ W o W' o',B W o->ChgX NoB o o' W W'->B W' o'
theorem NoB.sub {s:Nat}:∀ k,k<s->NoB k->C k:=fun _ _ e=>e.elim
section
variable {k l:Int}
theorem FxS.new {args:Array Value}(hB:As B)(h:FxS K n room w0 mb ws0 C o0 wb B fs nx W)(hc:∀ o m V,m.waits <:+ ws0->SatE K n (fun _=>True) room w0 mb fs nx W o m V->Calls prog f args W (NewF K n room w0 mb fs nx ws0 F o W)) :
 Calls prog f args W fun x w'=>x=.returned (.tuple #[Iv nx,Iv 0])/\FxS K n room w0 mb ws0 C o0 wb B (fs++[(nx,F)]) (nx+1) w':=by
 obtain⟨o,m,V,h1,h2,h3,h4⟩:=h;refine(hc o m V h2 h3).mono ?_;rintro x w' ⟨q1,o',m',V',q2,q3,q4⟩;exact⟨q1,o',m',V',h1.trans q2 NoB.sub,q3,q4,hB _ _ _ _ h4 q2⟩
end
section
theorem TC (hK:AE K):GE K n 178 andF:=by
 intro o w xb mb m V a b h g0 hx hk hn ha hb;have hI:=ML hK h g0 hx hk hn a b 1 ha hb (.inl rfl);have e:AX (ef V a) (ef V b) (ef V 1)=andF (ef V a) (ef V b):=by
  rw[hk.dag.ef1];rfl
 rw[e] at hI;have HI:=Hd hI;clear hI e h g0 hx hk hn ha hb hK
 go_enter func178,ntmps178
 go_wp2_with fail;refine HI.o.mono ?_;rintro e w' (⟨r,o',m',V',rfl,h⟩|⟨er,evt,ev,rfl,h⟩)
 . have HR:=Hd h;clear h HI;go_wp2_with fail;go_ret;exact .inl ⟨r,o',m',V',rfl,HR.o⟩
 . have HR:=Hd h;clear h HI;unfold AQ;go_wp2_with fail;exact⟨rfl,.inr ⟨er,evt,ev,rfl,HR.o⟩⟩
end
section
theorem TD (args:Array Value)(w:Wd):(callFunc 178 args).run prog w=.ok (.enter 178 args) w:=XH func178 (by kernel_rfl) rfl args w
end
section
variable {o:Own}
theorem TE (hK:AE K)(h:SatE K n (fun _=>True) room w0 mb fs nx w o m V)(hl:ArgL fs w0 w o a ks Fs)(hst:m.waits <:+ ws0)(hn:nx<=549755813888)(hr:fs.length*2^n+ks.length*(2^n-1)<=room) :
 Cl 127 #[Pt mb,.slice a ks.length c] w (NewF K n room w0 mb fs nx ws0 (Cx andF (Dj 0) Fs) o w):=by
 have HC:=Hd (MN (c:=c) hK (TC hK) TD h (e0:=0) rfl hl.z hl.own hl.len hl.mem hst hn hr);clear h hK hl hst hn hr;obtain⟨P,hP⟩:=Ex (NewF K n room w0 mb fs nx ws0 (Cx andF (Dj 0) Fs) o w);rw[<- hP] at HC ⊢;have HT:Hq (∀ x w',P x w'->∃ a b,x=.returned (.tuple #[Iv a,Iv b])):=Hd (by subst hP;rintro x w' ⟨rfl,_⟩;exact⟨_,_,rfl⟩);clear hP
 go_enter func127,ntmps127
 go_wp2_with fail;refine HC.o.mono ?_;intro x w' hd;obtain⟨a,b,rfl⟩:=HT.o x w' hd;have HD:=Hd hd;clear hd;go_wp2_with fail;exact HD.o
end
section
variable {L:Nat}{bs:List (Int×BF)}{o:Own}{B:Nat->Wd->Own->Prop}{Φ:BF->BF}{er:Nat->Int}{c:Int}
theorem FxS.withB {B:Wd->Own->Prop}(h:FxS K n room w0 mb ws0 C o0 wb B fs nx W)(hB:∀ o m V,SatE K n (fun _=>True) room w0 mb fs nx W o m V->B W o->B' W o):FxS K n room w0 mb ws0 C o0 wb B' fs nx W:=by
 obtain⟨o,m,V,h1,h2,h3,h4⟩:=h;exact⟨o,m,V,h1,h2,h3,hB _ _ _ h3 h4⟩
theorem As.and {A B:Wd->Own->Prop}(hA:As A)(hB:As B):As fun W o=>A W o/\B W o:=fun _ _ _ _ h hc=>⟨hA _ _ _ _ h.1 hc,hB _ _ _ _ h.2 hc⟩
theorem TF (F G:BF):Cx orF (Dj 1) [F,G]=orF F G:=by
 funext ρ
 show iteB (iteB false true (F ρ)) true (G ρ)=iteB (F ρ) true (G ρ)
 cases F ρ<;>cases G ρ<;>rfl
theorem TG (F G:BF):Cx andF (Dj 0) [F,G]=andF F G:=by
 funext ρ
 show iteB (iteB true (F ρ) false) (G ρ) false=iteB (F ρ) (G ρ) false
 cases F ρ<;>cases G ρ<;>rfl
theorem FxS.or2 (hK:AE K){B:Wd->Own->Prop}(hB:As B)(h:FxS K n room w0 mb ws0 C o0 wb B fs nx W){k1 k2:Int}{F1 F2:BF}(h1:(k1,F1)∈fs)(h2:(k2,F2)∈fs)(hn:nx<=549755813888)(hr:(fs.length+2)*2^n<=room){T:Wd}(hT:T=W.alloc (.cells #[Iv k1,Iv k2] 3)) :
 Cl 128 #[Pt mb,.slice (some (Av W.heap.size)) 2 2] T fun x w'=>x=.returned (.tuple #[Iv nx,Iv 0])/\FxS K n room w0 mb ws0 C o0 wb B (fs++[(nx,orF F1 F2)]) (nx+1) w':=by
 subst hT;have hb:=Af W (.cells #[Iv k1,Iv k2] 3);obtain⟨o,m,V,q1,q2,q3,q4⟩:=h;have hc:=ChgX.of_below hb o NoB
 have ha:=MP q3 (ks:=[k1,k2]) (Fs:=[F1,F2]) (by simp) rfl (fun i hi=>by
  rcases(show i=0\/i=1 by simp at hi;omega) with rfl|rfl
  . exact h1
  . exact h2)
 refine(Tm (c:=2) hK (q3.below hb) ha q2 hn (by rw[Xz] at hr;simp;omega)).mono ?_;rintro x w' ⟨r1,o',m',V',r2,r3,r4⟩;rw[TF] at r4;exact⟨r1,o',m',V',(q1.trans hc NoB.sub).trans r2 NoB.sub,r3,r4,hB _ _ _ _ q4 (hc.trans r2 NoB.sub)⟩
theorem FxS.and2 (hK:AE K){B:Wd->Own->Prop}(hB:As B)(h:FxS K n room w0 mb ws0 C o0 wb B fs nx W){k1 k2:Int}{F1 F2:BF}(h1:(k1,F1)∈fs)(h2:(k2,F2)∈fs)(hn:nx<=549755813888)(hr:(fs.length+2)*2^n<=room){T:Wd}(hT:T=W.alloc (.cells #[Iv k1,Iv k2] 3)) :
 Cl 127 #[Pt mb,.slice (some (Av W.heap.size)) 2 2] T fun x w'=>x=.returned (.tuple #[Iv nx,Iv 0])/\FxS K n room w0 mb ws0 C o0 wb B (fs++[(nx,andF F1 F2)]) (nx+1) w':=by
 subst hT;have hb:=Af W (.cells #[Iv k1,Iv k2] 3);obtain⟨o,m,V,q1,q2,q3,q4⟩:=h;have hc:=ChgX.of_below hb o NoB
 have ha:=MP q3 (ks:=[k1,k2]) (Fs:=[F1,F2]) (by simp) rfl (fun i hi=>by
  rcases(show i=0\/i=1 by simp at hi;omega) with rfl|rfl
  . exact h1
  . exact h2)
 refine(TE (c:=2) hK (q3.below hb) ha q2 hn (by rw[Xz] at hr;simp;omega)).mono ?_;rintro x w' ⟨r1,o',m',V',r2,r3,r4⟩;rw[TG] at r4;exact⟨r1,o',m',V',(q1.trans hc NoB.sub).trans r2 NoB.sub,r3,r4,hB _ _ _ _ q4 (hc.trans r2 NoB.sub)⟩
end
def FxO (K:Law)(n room:Nat)(w0:Wd)(mb:Nat)(ws0:List Ev)(C:Nat->Prop)(o0:Own)(wb:Wd)(B:Wd->Own->Prop)(P:List Nat->Prop)(fs:List (Int×BF))(nx:Int)(W:Wd):Prop :=
 ∃ o m V,ChgX C o0 o wb W/\m.waits <:+ ws0/\SatE K n P room w0 mb fs nx W o m V/\B W o
def AA (v:Value)(zs:List Int):Wd->Own->Prop:=fun W o=>SliceIs W v zs/\(∀ k,v.ownBlock=some k->k<W.heap.size/\o k=none)
theorem AA.keep :As (AA v zs):=fun W o W' o' h hc =>
 ⟨h.1.same fun k hk=>hc.block k (h.2 k hk).1 (h.2 k hk).2 (fun e=>e),fun k hk=>⟨Wm (h.2 k hk).1 hc.size,hc.none' (h.2 k hk).1 (h.2 k hk).2⟩⟩
theorem AA.slice {o:Own}(h:AA v zs W o):SliceIs W v zs:=h.1
theorem MX (f:Int->Int):∀ zs:List Int,invs f zs<=zs.length*zs.length
 | []=>by simp[invs]
 | x::xs=>by
   have h1:=MX f xs;have h2:=List.countP_le_length (p:=fun y=>decide (f x>f y)) (l:=xs);simp only[invs,Wp];have:(xs.length+1)*(xs.length+1)=xs.length*xs.length+2*xs.length+1:=by rw[Xz,Nat.mul_add];omega
   omega
theorem Jw {l:List Nat}(h:k+1<l.length):(exL l k).map Int.ofNat=A6 (l.map Int.ofNat) (k:Int):=by
 have hl:((exL l k).map Int.ofNat).length=(A6 (l.map Int.ofNat) (k:Int)).length:=by rw[C0,Wn,Wn,Mt]
 refine CZ hl fun j hj=>?_
 have g0:j<(exL l k).length:=by simpa using hj
 have g1:j<l.length:=by rw[Mt] at g0;exact g0
 rw[Di g0,CO (by rw[Wn];exact h)];split
 ·rename_i e
  subst e;rw[Mu h,Di h]
 ·split
  ·rename_i e
   subst e;rw[S1 h,Di (by omega)]
  ·rename_i h1 h2
   rw[Mv h1 h2,Di g1]
theorem GI (h:Fy zs n):Az zs=true:=by
 have hl:=h.len;rw[Ce];refine⟨fun k hk=>?_,fun i hi k hk e=>?_⟩
 . obtain⟨v,hv,e⟩:=h.lt k (by omega);rw[e];omega
 . have:=h.inj k i (by omega) (by omega) e;omega
theorem VO (h:Az zs=true)(hl:zs.length=n):Fy zs n:=by
 have h1:=(Ce zs).1 h;refine⟨hl,fun i hi=>?_,fun i j hi hj e=>EI h (by omega) (by omega) e⟩;obtain⟨q1,q2⟩:=h1.1 i (by omega);exact⟨(at0 zs i).toNat,by omega,by omega⟩
theorem TH :BC zs n=decide (zs.length=n/\Az zs=true):=by
 rw[Yn,Yl];constructor
 . intro h;have:=Fz h;exact⟨this.len,GI this⟩
 ·rintro⟨h1,h2⟩;refine Ms h1 (fun v hv=>?_) fun i j hi hj e=>EI h2 (by omega) (by omega) e
  obtain⟨k,hk,e⟩:=F7 h2 (x:=v) (by omega);exact⟨k,by omega,e⟩
section
variable {P:List Nat->Prop}
theorem FxO.below (hB:As B)(h:FxO K n room w0 mb ws0 C o0 wb B P fs nx W)(hb:Bw W w'):FxO K n room w0 mb ws0 C o0 wb B P fs nx w':=by
 obtain⟨o,m,V,h1,h2,h3,h4⟩:=h;exact⟨o,m,V,h1.trans (ChgX.of_below hb o NoB) NoB.sub,h2,h3.below hb,hB _ _ _ _ h4 (ChgX.of_below hb o NoB)⟩
theorem FxO.withB (h:FxO K n room w0 mb ws0 C o0 wb B P fs nx W)(hB:∀ o m V,SatE K n P room w0 mb fs nx W o m V->B W o->B' W o):FxO K n room w0 mb ws0 C o0 wb B' P fs nx W:=by
 obtain⟨o,m,V,h1,h2,h3,h4⟩:=h;exact⟨o,m,V,h1,h2,h3,hB _ _ _ h3 h4⟩
theorem FxO.imp (h:FxO K n room w0 mb ws0 C o0 wb B P fs nx W)(hP:∀ l,l.length=n->P l->P' l):FxO K n room w0 mb ws0 C o0 wb B P' fs nx W:=by
 obtain⟨o,m,V,h1,h2,h3,h4⟩:=h;exact⟨o,m,V,h1,h2,h3.withOd (hP _ h3.vars h3.od),h4⟩
theorem FxO.ask {args:Array Value}{R:Ending->Wd->Prop}(h:FxO K n room w0 mb ws0 C o0 wb B P fs nx W)(hc:∀ o m V,SatE K n P room w0 mb fs nx W o m V->B W o->Calls prog f args W R):Calls prog f args W R:=by
 obtain⟨o,m,V,_,_,h3,h4⟩:=h;exact hc o m V h3 h4
theorem FxO.below0 (h:FxO K n room w0 mb ws0 C o0 wb B P fs nx W):Bw w0 W:=by
 obtain⟨o,m,V,_,_,h3,_⟩:=h;exact h3.chg.below0
theorem FxO.know (h:FxO K n room w0 mb ws0 C o0 wb B P fs nx W){Q:Wd->Prop}(hq:∀ W o,B W o->Q W):Q W:=by
 obtain⟨o,m,V,_,_,h3,h4⟩:=h;exact hq _ _ h4
theorem FxO.mine (hB:As B)(h:FxO K n room w0 mb ws0 C o0 wb B P fs nx W)(hb:Bw W w')(hv:SliceIs w' v zs)(hk:∀ k,v.ownBlock=some k->W.heap.size<=k/\k<w'.heap.size):FxO K n room w0 mb ws0 C o0 wb (fun W o=>B W o/\AA v zs W o) P fs nx w':=by
 obtain⟨o,m,V,h1,h2,h3,h4⟩:=h;exact⟨o,m,V,h1.trans (ChgX.of_below hb o NoB) NoB.sub,h2,h3.below hb,hB _ _ _ _ h4 (ChgX.of_below hb o NoB),hv,fun k g0=>⟨(hk k g0).2,h3.lt.none (hk k g0).1⟩⟩
theorem FxO.order (hB:As B)(h:FxO K n room w0 mb ws0 C o0 wb B P fs nx W) :
 Cl 19 #[Pt mb] W fun x w'=>∃ (v:Value) (l:List Nat),x=.returned v/\l.length=n/\P l/\Az (l.map Int.ofNat)=true/\OwnI w' W.heap.size v (l.map Int.ofNat)/\FxO K n room w0 mb ws0 C o0 wb (fun W o=>B W o/\AA v (l.map Int.ofNat) W o) (fun l'=>l'=l) fs nx w'/\Bw W w':=by
 obtain⟨o,m,V,h1,h2,h3,h4⟩:=h;have hn64:n<=64:=by have:=h3.ok.store.small;rw[h3.vars] at this;exact this
 refine(IE h3.is h3.lt (by rw[h3.vars];exact hn64)).mono ?_;rintro x w' ⟨v,rfl,hv,hb⟩;have hp:=h3.ok.store.permB;have hc:=ChgX.of_below hb o NoB;refine⟨v,m.d.vars,rfl,h3.vars,h3.od,GI (Fz hp),hv,⟨o,m,V,h1.trans hc NoB.sub,h2,(h3.below hb).withOd rfl,hB _ _ _ _ h4 hc,hv.sliceIs (by rw[Wn,h3.vars];omega),fun k hk=>?_⟩,hb⟩;have:=hv.lt k hk;exact⟨this.2,h3.lt.none this.1⟩
theorem FxO.vars (h:FxO K n room w0 mb ws0 C o0 wb B P fs nx W):Cl 62 #[Pt mb] W (Sm (Iv n) W) :=
 h.ask fun _ _ _ hs _=>hs.vars_any
theorem FxO.swap (hB:As B)(h:FxO K n room w0 mb ws0 C o0 wb B P fs nx W)(hk1:k+1<n)(hn:nx<=549755813888)(hr:3*(fs.length*2^n)<=room)(hP:∀ l,l.length=n->P l->P' (exL l k)) :
 Cl 113 #[Pt mb,Iv k] W fun e w'=>e=.returned (Iv 0)/\FxO K n room w0 mb ws0 C o0 wb B P' fs nx w':=by
 obtain⟨o,m,V,h1,h2,h3,h4⟩:=h;refine(Mg h3 hk1 hn hr).mono ?_;rintro e w' ⟨rfl,o2,m2,V2,s⟩;have hc:=ChgX.of_chg s.chg NoB;refine⟨rfl,o2,m2,V2,h1.trans hc NoB.sub,by rw[s.waits];exact h2,s.sat.withOd ?_,hB _ _ _ _ h4 hc⟩;rw[s.sat.od,Mw];exact hP _ h3.vars h3.od
end
theorem TI (h:DepF n F):(∀ q,q<(tabB n F).length->(tabB n F).getD q false=(tabB n F).getD 0 false)↔∃ c,F=fun _=>c:=by
 constructor
 . intro hq;obtain⟨c,hc⟩:=Ex ((tabB n F).getD 0 false);refine⟨c,G8 h (DepF.const c) ?_⟩;rw[<- QD];refine(IC (by simp) fun i hi=>?_).symm;have:=hq i (by rw[B6];exact hi);rw[<- hc,DI hi] at this;rw[this];simp[List.getD,hi]
 . rintro⟨c,rfl⟩ q hq;rw[B6] at hq;rw[DI hq,DI (Xo (by omega))]
theorem MY {x y:Value}{b:Bool}(h1:TabA n w x F)(h2:TabA n w y G)(d1:DepF n F)(d2:DepF n G)(hb:b=true↔F=G):Cl 181 #[x,y] w (Bl (.bool b) w):=by
 obtain⟨a,c,rfl,k1⟩:=h1;obtain⟨a2,c2,rfl,k2⟩:=h2;have:=MC (tabB n F) (tabB n G) (by simp[B6]) a a2 c c2 w k1 k2;rw[B6] at this;refine this.mono ?_;rintro e w' ⟨rfl,g0⟩;refine⟨?_,g0⟩;rw[show decide (tabB n F=tabB n G)=b from ?_];rw[Yn,Yl,hb];exact⟨fun e=>G8 d1 d2 e,fun e=>by rw[e]⟩
def Dl (l:List BF)(F:BF):Prop:=∃ i,∃ h:i<l.length,l[i]=F\/l[i]=notF F
theorem TJ (n:Nat)(F:BF)(v:Nat)(b:Bool)(hn:n<=16)(hv:v<n)(au:Option Addr)(cu:Nat)(w:Wd)(h1:B0 w au (tabB n F)) :
 Cl 132 #[.slice au (2^n) cu,Iv v,.bool b] w fun x w'=>∃ g,x=.returned (.slice (some (Av g)) (2^n) (2^n))/\OwnB w' w.heap.size (.slice (some (Av g)) (2^n) (2^n)) (tabB n (cofF F v b))/\Bw w w':=by
 have H1:=Hd h1;have gn:2^n<=1000000:=Ek hn;have gi:2^v<=1000000:=Ek (by omega);have go:Hq (∀ i,i<=1048576->∀ W,Cl 183 #[Iv (i:Nat),Iv (v:Nat)] W (Sm (.bool (bitB i v)) W)):=Hd fun i hi W=>KY i v hi (by omega) W
 obtain⟨G,hG⟩:=Ex (fun i=>cofF F v b (AF (AO i n)):Nat->Bool)
 have HT:Hq (tabB n (cofF F v b)=(List.range (2^n)).map G):=Hd (by rw[hG];rfl);have gg:Hq (∀ j,j<2^n->cofI j v b<2^n/\(tabB n F).getD (cofI j v b) false=G j):=Hd fun j hj=>⟨Js hj hv,by rw[hG];exact MH hj hv⟩
 have gf:Hq ((tabB n F).length=2^n):=Hd (B6 n F);rw[HT.o];obtain⟨L,hL⟩:=Ex (2^n);obtain⟨p,hp⟩:=Ex (2^v);have gh:Hq (∀ W,Cl 158 #[Iv (v:Nat)] W (Sm (Iv (p:Nat)) W)):=Hd fun W=>by rw[hp];exact Gq v (by omega) W
 have HCI:Hq (∀ j,cofI j v b=if bitB j v && !b then j-p else if !bitB j v&&b then j+p else j):=Hd fun j=>by rw[hp];rfl
 have gq:Hq (∀ j,bitB j v=true->p<=j):=Hd fun j hj=>by
  rcases Wo j p with h|h
  . unfold bitB at hj;rw[<- hp,Yh h] at hj;simp at hj
  . exact h
 rw[<- hL] at gn gg gf ⊢;rw[<- hp] at gi;clear hL hp h1 hG HT
 go_enter func132,ntmps132
 go_wp2_with (at_make;refine Fi DH rfl _ _ rfl w.heap.size w _ L rfl rfl rfl (by omega) (VQ _) (VZ _ _) ?_;intro g w1 g6 ge hs1 g1 gm gl;clear gl)
 go_loopw [8,9] (fun s8 s9 wr=>∃ j:Nat,j<=L/\s8=Iv j/\Hq (OwnB wr w.heap.size (.slice (some (Av g)) L L) (((List.range L).map G).take j++(List.replicate L false).drop j))/\Hq (Bw w wr)) (fun s8 _ _=>L-(intOf s8).toNat)
 case atStart=>exact⟨0,by omega,rfl,Hd (by unfold OwnB;simpa [AN] using g6),Hd ge⟩
 case round =>
  clear g6 ge;obtain⟨j,hj,rfl,g3,g5⟩:=hrel
  by_cases ga:j<L
  ·have gk:j<((List.range L).map G).length:=by simp;exact ga
   obtain⟨gc,g9⟩:=gg.o j ga;have g0:=HCI.o j;have g4:=gq.o j;obtain⟨kk,gd⟩:=Ex (cofI j v b);rw[<- gd] at gc g9 g0;obtain⟨b1,of1,e1,c1⟩:=(H1.o.below g5.o).cells kk (by rw[gf.o];exact gc);rw[g9] at c1;have q0:=g3.o.cellB j (by simp;omega);have p0:=g3.o.frozen j;subst e1;obtain⟨y,hy⟩:=Ex (G j);rw[<- hy] at c1;have gp:Hq (((List.range L).map G)[j]=y):=Hd (by rw[hy];simp);obtain⟨t,ht⟩:=Ex (bitB j v);rw[<- ht] at g0 g4;have g2:Hq (∀ W,Cl 183 #[Iv (j:Nat),Iv (v:Nat)] W (Sm (.bool t) W)):=Hd fun W=>by rw[ht];exact go.o j (by omega) W
   have gt:(kk:Int)<(L:Int):=by omega
   have g7:Hq (OwnB (wr.setCell (Aw g j) (.bool y)) w.heap.size (.slice (some (Av g)) L L) (((List.range L).map G).take (j+1)++(List.replicate L false).drop (j+1))):=Hd (by
    rw[<- ID (by simp;omega) gk gp.o];exact g3.o.setB j y)
   have g8:Hq (Bw w (wr.setCell (Aw g j) (.bool y))):=Hd (g5.o.setCell gm _);clear g9 hy ht gd g3 H1;cases t<;>cases b
   ·have g1:kk=j:=by simpa using g0
    subst g1;clear g0 g4;go_wp2_with fail;refine(g2.o _).mono ?_;rintro x w2 ⟨rfl,rfl⟩;go_wp2_with fail;refine(g2.o _).mono ?_;rintro x w2 ⟨rfl,rfl⟩;go_wp2_with fail;go_roundw
    case rel=>exact⟨kk+1,by omega,by go_num,g7,g8⟩
    case measure=>simp[intOf];omega
   ·have g1:kk=j+p:=by simpa using g0
    have gj:(j:Int)+(p:Int)=(kk:Nat):=by omega
    clear g0 g4 g1;go_wp2_with fail;refine(g2.o _).mono ?_;rintro x w2 ⟨rfl,rfl⟩;go_wp2_with fail;refine(g2.o _).mono ?_;rintro x w2 ⟨rfl,rfl⟩;go_wp2_with fail;refine(gh.o _).mono ?_;rintro x w2 ⟨rfl,rfl⟩;go_wp2_with fail;go_roundw
    case rel=>exact⟨j+1,by omega,by go_num,g7,g8⟩
    case measure=>simp[intOf];omega
   ·have g1:kk=j-p:=by simpa using g0
    have:=g4 rfl;have gj:(j:Int)-(p:Int)=(kk:Nat):=by omega
    clear g0 g4 g1;go_wp2_with fail;refine(g2.o _).mono ?_;rintro x w2 ⟨rfl,rfl⟩;go_wp2_with fail;refine(gh.o _).mono ?_;rintro x w2 ⟨rfl,rfl⟩;go_wp2_with fail;refine(g2.o _).mono ?_;rintro x w2 ⟨rfl,rfl⟩;go_wp2_with fail;go_roundw
    case rel=>exact⟨j+1,by omega,by go_num,g7,g8⟩
    case measure=>simp[intOf];omega
   ·have g1:kk=j:=by simpa using g0
    subst g1;clear g0 g4;go_wp2_with fail;refine(g2.o _).mono ?_;rintro x w2 ⟨rfl,rfl⟩;go_wp2_with fail;refine(g2.o _).mono ?_;rintro x w2 ⟨rfl,rfl⟩;go_wp2_with fail;go_roundw
    case rel=>exact⟨kk+1,by omega,by go_num,g7,g8⟩
    case measure=>simp[intOf];omega
  ·obtain rfl:j=L:=by omega
   have gr:((List.range j).map G).length=j:=by simp
   have HF:Hq (OwnB wr w.heap.size (.slice (some (Av g)) j j) ((List.range j).map G)):=Hd (by
    have h:=g3.o;rw[WZ (by omega),WY (by simp),WX] at h;exact h)
   go_wp2_with fail;go_ret;exact⟨g,rfl,HF.o,g5.o⟩
section
theorem TK {top:Int}(h:TopS d [f] top least):(top = -1/\Aa d (f/2)=none)\/∃ b,Aa d (f/2)=some b/\top=(b.v:Nat):=by
 rcases h with ⟨h1,_,h3⟩|⟨v,h1,_,_,⟨e,he,b,hb,hv⟩,_⟩
 . exact .inl ⟨h1,h3 f (by simp)⟩
 . simp only[Wf] at he;subst he;exact .inr ⟨b,hb,by rw[h1,hv]⟩
end
def Ind (F:BF)(v:Nat):Prop:=∀ b,cofF F v b=F
open Classical in
theorem MZ (F:BF)(v:Nat)(b c:Bool):cofF (cofF F v b) v c=cofF F v b:=by
 funext ρ;unfold cofF;congr 1;funext u
 by_cases h:u=v<;>simp[h]
theorem TL (F:BF){u v:Nat}(h:u≠v)(a b:Bool):cofF (cofF F u a) v b=cofF (cofF F v b) u a:=by
 funext ρ;unfold cofF;congr 1;funext x;dsimp only
 by_cases h1:x=u
 ·have h2:¬ x=v:=fun e=>h (h1.symm.trans e)
  simp only[VW h1,VS h2]
 ·by_cases h2:x=v
  . simp only[VS h1,VW h2]
  . simp only[VS h1,VS h2]
theorem Ind.cof {u:Nat}(h:Ind F u)(v:Nat)(b:Bool):Ind (cofF F v b) u:=fun c=>by
 by_cases e:u=v
 . subst e;exact MZ F u b c
 . rw[TL F (fun h=>e h.symm),h c]
theorem Ind.at {F:BF}{v:Nat}(h:Ind F v)(ρ:Nat->Bool)(b:Bool):F (upd ρ v b)=F ρ:=by
 have:=congrFun (h b) ρ
 rwa [F5] at this
theorem Jx (h:Aj d V){v:Nat}(hf:okE (Aa d) f)(hv:v<d.vars.length)(hl:levN d v<=lvE d.vars.length (levN d) (Aa d) f) :
 ef V (cofs d f v).1=cofF (ef V f) v false/\ef V (cofs d f v).2=cofF (ef V f) v true:=by
 obtain⟨q1,q2,q3,q4,q5⟩:=Cu h hf hv hl;constructor
 . funext ρ;rw[F5,q5,ES,h.dag.indep_var q1 q3];rfl
 . funext ρ;rw[F5,q5,ES,h.dag.indep_var q2 q4];rfl
structure BL (u u':Value)(w w':Wd):Prop where
 os:w'.os=w.os
 tape:w'.tape=w.tape
 output:w'.output=w.output
 size:w.heap.size<=w'.heap.size
 app:BQ u u' w w'
section
variable {u' u'' x:Value}{B:Nat}
theorem BL.of_below (hb:Bw w w'):BL u u w w':=⟨hb.os,hb.tape,hb.output,hb.size,⟨fun k hk _=>hb.block k hk,.inl rfl⟩⟩
theorem BL.trans (h:BL u u' w w')(h':BL u' u'' w' w''):BL u u'' w w'' :=
 ⟨h'.os.trans h.os,h'.tape.trans h.tape,h'.output.trans h.output,VU h.size h'.size,⟨fun k hk hne =>
  (h'.app.keep k (Wm hk h.size) (fun e=>h.app.ne (fun e2=>hne e2.symm) hk e.symm)).trans (h.app.keep k hk hne),by
  rcases h'.app.loc with e|⟨k,e,hk⟩
  ·rcases h.app.loc with e2|⟨k,e2,hk⟩
   . exact .inl (e.trans e2)
   . exact .inr ⟨k,e.trans e2,hk⟩
  . exact .inr ⟨k,e,VU h.size hk⟩⟩⟩
theorem BL.below (h:BL u u' w w')(hB:B<=w.heap.size)(hu:∀ k,u.ownBlock=some k->B<=k):Below B w w' :=
 ⟨h.os,h.tape,h.output,h.size,fun k hk=>h.app.keep k (by omega) (fun e=>by have:=hu k e.symm;omega)⟩
structure TabS (n:Nat)(W:Wd)(u x:Value)(F:BF):Prop where
 is:Bb W x (tabB n F)
 sep:∀ k,x.ownBlock=some k->k<W.heap.size/\u.ownBlock≠some k
theorem TabS.grow (h:TabS n W u x F)(hg:BL u u' W W'):TabS n W' u' x F :=
 ⟨h.is.same (fun k hk=>hg.app.keep k (h.sep k hk).1 (fun e=>(h.sep k hk).2 e.symm)),fun k hk=>⟨Wm (h.sep k hk).1 hg.size,hg.app.ne (h.sep k hk).2 (h.sep k hk).1⟩⟩
structure NodR (n:Nat)(W:Wd)(B:Nat)(u:Value)(Fs:List BF):Prop where
 ex:∃ rs:List Value,rs.length=Fs.length/\OwnC 90 W B u rs/\∀ i (h:i<rs.length) (h2:i<Fs.length),TabS n W u rs[i] Fs[i]
theorem NodR.below (h:NodR n W B u Fs)(hb:Bw W W'):NodR n W' B u Fs:=by
 obtain⟨rs,h1,h2,h3⟩:=h.ex;exact⟨rs,h1,h2.same fun k hk=>hb.block k (h2.lt k hk).2,fun i q1 q2=>(h3 i q1 q2).grow (.of_below hb)⟩
theorem NodR.blk (h:NodR n W B u Fs):∀ k,u.ownBlock=some k->B<=k/\k<W.heap.size:=by
 obtain⟨rs,h1,h2,h3⟩:=h.ex;exact h2.lt
theorem Na (h:DepF n F){v:Nat}(hh:AV n F v=false):Ind F v:=by
 have e:cofF F v false=cofF F v true:=by
  by_cases c:cofF F v false=cofF F v true
  . exact c
  . have:=(El h v).2 c;rw[hh] at this;cases this
 have e2:∀ b,cofF F v b=cofF F v true:=fun b=>by cases b;exact e;rfl
 intro b;rw[e2 b];funext ρ;have h1:=congrFun (e2 (ρ v)) ρ;rw[<- h1]
 show F (fun u=>if u=v then ρ v else ρ u)=F ρ
 congr 1;funext u
 by_cases c:u=v
 . rw[VW c,c]
 . rw[VS c]
theorem TM (h:DepF n F){v:Nat}(hi:Ind F v):AV n F v=false:=by
 cases hh:AV n F v with
 | false=>rfl
 | true=>exact absurd ((hi false).trans (hi true).symm) ((El h v).1 hh)
theorem Nb (h:DepF n F)(hi:∀ v,v<n->Ind F v):∃ c,F=fun _=>c:=by
 have key:∀ k,k<=n->∀ ρ,F ρ=F (fun v=>if v<k then false else ρ v):=by
  intro k
  induction k with
  | zero=>intro _ ρ;simp
  | succ k ih =>
    intro hk ρ;rw[ih (by omega) ρ,<- (hi k (by omega)).at _ false];congr 1;funext v;unfold upd
    by_cases c:v=k
    . subst c;simp
    ·by_cases c2:v<k
     . simp[c,c2,show v<k+1 by omega]
     . simp[c,c2,show ¬ v<k+1 by omega]
 refine⟨F fun _=>false,funext fun ρ=>?_⟩;rw[key n (VQ _) ρ];exact h _ _ fun v hv=>by simp[hv]
theorem Nc (p:Nat->Bool):∀ m,(∃ i,i<m/\p i=true)->∃ q,q<m/\p q=true/\∀ j,j<q->p j=false
 | 0,h=>by obtain⟨i,hi,_⟩:=h;omega
 | m+1,h=>by
   by_cases c:∃ i,i<m/\p i=true
   . obtain⟨q,h1,h2,h3⟩:=Nc p m c;exact⟨q,by omega,h2,h3⟩
   ·have hn:∀ j,j<m->p j=false:=fun j hj=>by
     cases e:p j with
     | false=>rfl
     | true=>exact absurd ⟨j,hj,e⟩ c
    obtain⟨i,hi,e⟩:=h;obtain rfl:i=m:=by
     rcases Wo i m with h1|h1
     . rw[hn i h1] at e;cases e
     . omega
    exact⟨i,hi,e,hn⟩
theorem Nd {l:List Nat}(h:∃ v∈l,AV n F v=true):∃ q,q<l.length/\topR n F l=(l.getD q 0:Nat)/\AV n F (l.getD q 0)=true/\∀ j,j<q->AV n F (l.getD j 0)=false:=by
 obtain⟨v,hv,hh⟩:=h;obtain⟨i,hi,rfl⟩:=Xp hv;obtain⟨q,h1,h2,h3⟩:=Nc (fun q=>AV n F (l.getD q 0)) l.length ⟨i,hi,by simpa [List.getD,hi] using hh⟩;exact⟨q,h1,Jt l q h1 h2 h3,h2,h3⟩
end
open Classical in
noncomputable def belF (n:Nat)(os:List Nat):Nat->List BF->BF->List BF
 | 0,l,_=>l
 | k+1,l,F=>if (∃ c,F=fun _=>c)\/Dl l F then l else belF n os k (belF n os k (l++[F]) (cofF F (topR n F os).toNat false)) (cofF F (topR n F os).toNat true)
theorem GJ (n:Nat)(os:List Nat):∀ (k:Nat) (l:List BF) (F:BF),(belF n os k l F).length+1<=l.length+2^k
 | 0,l,F=>by simp[belF]
 | k+1,l,F=>by
   unfold belF;have hp:0<2^k:=Xo (by omega);rw[X2];split
   . omega
   . have h1:=GJ n os k (l++[F]) (cofF F (topR n F os).toNat false);have h2:=GJ n os k (belF n os k (l++[F]) (cofF F (topR n F os).toNat false)) (cofF F (topR n F os).toNat true);rw[VY,Xm] at h1;omega
def PosF (os:List Nat)(p:Nat)(F:BF):Prop:=∀ j,j<p->Ind F (os.getD j 0)
section
variable {p:Nat}{l:List BF}
theorem TO (h:DepF n F)(hp:PosF os n F)(hl:os.length=n)(hmem:∀ v,v<n->v∈os):∃ c,F=fun _=>c :=
 Nb h fun v hv=>by
  obtain⟨i,hi,e⟩:=Xp (hmem v hv);have:=hp i (by omega)
  rwa [show os.getD i 0=v by simp[List.getD,hi,e]] at this
theorem TP (h:DepF n F)(hp:PosF os p F)(hlt:∀ v∈os,v<n)(hmem:∀ v,v<n->v∈os)(hnc:¬ ∃ c,F=fun _=>c) :
 ∃ v:Nat,topR n F os=(v:Nat)/\v<n/\∀ b,PosF os (p+1) (cofF F v b)/\DepF n (cofF F v b):=by
 have g1:∃ v∈os,AV n F v=true:=by
  by_cases c:∃ v∈os,AV n F v=true
  . exact c
  ·exact absurd (Nb h fun v hv=>Na h (by
    cases e:AV n F v with
    | false=>rfl
    | true=>exact absurd ⟨v,hmem v hv,e⟩ c)) hnc
 obtain⟨q,hq,h1,h2,h3⟩:=Nd g1;have g0:os.getD q 0∈os:=by simp[List.getD,hq]
 refine⟨os.getD q 0,h1,hlt _ g0,fun b=>⟨fun j hj=>?_,DN h _ b⟩⟩;have g2:p<=q:=by
  rcases Wo q p with c|c
  . have:=TM h (hp q c);rw[h2] at this;cases this
  . exact c
 rcases Wo j q with c|c
 . exact(Na h (h3 j c)).cof _ b
 ·obtain rfl:j=q:=by omega
  exact fun c=>MZ F _ b c
theorem GK (h:(∃ c,F=fun _=>c)\/Dl l F):belF n os k l F=l:=by
 cases k with
 | zero=>rfl
 | succ k=>unfold belF;rw[VW h]
theorem Nf {v:Nat}(h:¬ ((∃ c,F=fun _=>c)\/Dl l F))(hv:topR n F os=(v:Nat)):belF n os (k+1) l F=belF n os k (belF n os k (l++[F]) (cofF F v false)) (cofF F v true):=by
 rw[belF,VS h,hv];rfl
theorem F8 (n:Nat)(os:List Nat):∀ (k:Nat) (l:List BF) (F:BF),(∀ G∈l,DepF n G)->DepF n F->∀ G∈belF n os k l F,DepF n G
 | 0,l,F,hl,_=>hl
 | k+1,l,F,hl,h=>by
   unfold belF;split
   . exact hl
   ·exact F8 n os k _ _ (F8 n os k _ _ (fun G hG=>by
     rcases Wj.1 hG with h1|h1
     . exact hl G h1
     . simp at h1;subst h1;exact h) (DN h _ _)) (DN h _ _)
theorem NodR.tabs {B:Nat}(h:NodR n W B u Fs)(hl:Fs.length<=1000):∃ a c,u=.slice a Fs.length c/\Dy n W a Fs:=by
 obtain⟨rs,h1,h2,h3⟩:=h.ex;rcases Yz rs.length with h0|h0
 . obtain⟨a,c,e,_⟩:=h2.slice;exact⟨a,c,by rw[e,h1],⟨hl,fun i hi=>by omega⟩⟩
 . obtain⟨g,c,rfl,_,_⟩:=h2.shape h0;refine⟨_,c,by rw[h1],⟨hl,fun i hi=>⟨g,0,rs[i]'(by omega),rfl,?_,TabA.is (h3 i (by omega) hi).is⟩⟩⟩;have:=h2.cell i (by omega);rw[Wv,this];simp
theorem NodR.app {B:Nat}{u' x:Value}{rs:List Value}(h1:rs.length=Fs.length)(h3:∀ i (h:i<rs.length) (h2:i<Fs.length),TabS n W u rs[i] Fs[i])(hx:TabS n W u x F)(ho:OwnC 90 W' B u' (rs++[x]))(hg:BL u u' W W'):NodR n W' B u' (Fs++[F]) :=
 ⟨rs++[x],by simp[h1],ho,fun i q1 q2=>by
  rcases Wo i rs.length with c|c
  . rw[Xa c,Xa (by omega)];exact(h3 i c (by omega)).grow hg
  ·have e:i=rs.length:=by simp at q1;omega
   subst e;rw[WU (by omega),WU (by omega)];simpa using hx.grow hg⟩
end
noncomputable def nodesF (n:Nat)(os:List Nat)(Gs:List BF):List BF:=Gs.foldl (fun l G=>belF n os n l G) []
def AC (d:Ae):Nat->List Nat->Nat->List Nat
 | 0,met,_=>met
 | k+1,met,f=>match Aa d (f/2) with
   | none=>met
   | some b=>if f/2∈met then met else AC d k (AC d k (met++[f/2]) (cofs d f b.v).1) (cofs d f b.v).2
structure RelN (d:Ae)(V:Nat->BF)(met:List Nat)(l:List BF):Prop where
 len:met.length=l.length
 node:∀ i∈met,∃ b,Aa d i=some b
 fn:∀ i (h:i<met.length) (h2:i<l.length),l[i]=V met[i]\/l[i]=notF (V met[i])
section
theorem Ng (F:BF):notF (notF F)=F:=funext fun ρ=>by show (!(!F ρ))=F ρ;simp
theorem Jy (f:Nat):ef V f=V (f/2)\/ef V f=notF (V (f/2)):=by
 rcases(show f%2=0\/f%2=1 by omega) with h|h
 . exact .inl (funext fun ρ=>by simp[ef,h])
 . exact .inr (funext fun ρ=>by simp[ef,h,notF])
theorem Jz (h:Aj d V)(h0:Aa d 0=none)(hf:okE (Aa d) f):(∃ c,ef V f=fun _=>c)↔Aa d (f/2)=none:=by
 constructor
 ·rintro⟨c,hc⟩;have:f=0\/f=1:=by
   cases c with
   | true=>exact .inl ((h.dag.canon_iff hf (.inl rfl)).1 (by rw[hc,h.dag.ef0]))
   | false=>exact .inr ((h.dag.canon_iff hf (.inl rfl)).1 (by rw[hc,h.dag.ef1]))
  rcases this with rfl|rfl<;>exact h0
 ·intro hn;rcases hf with h1|⟨b,hb⟩
  . rw[MM h h1];exact⟨_,rfl⟩
  . rw[hn] at hb;cases hb
theorem Nh (h:Aj d V)(hf:okE (Aa d) f){l:List BF}(hr:RelN d V met l):Dl l (ef V f)↔f/2∈met:=by
 constructor
 ·rintro⟨i,hi,he⟩;have hm:i<met.length:=by rw[hr.len];exact hi
  obtain⟨b,hb⟩:=hr.node _ (Wh hm);have hE:∀ c,c<2->okE (Aa d) (2*met[i]+c):=fun c hc=>.inr ⟨b,by rw[show (2*met[i]+c)/2=met[i] by omega];exact hb⟩
  have g1:ef V (2*met[i]+0)=V met[i]:=funext fun ρ=>by unfold ef;rw[show (2*met[i]+0)/2=met[i] by omega,show (2*met[i]+0)%2=0 by omega];simp
  have g0:ef V (2*met[i]+1)=notF (V met[i]):=funext fun ρ=>by unfold ef notF;rw[show (2*met[i]+1)/2=met[i] by omega,show (2*met[i]+1)%2=1 by omega];simp
  have hn:=Tc V f;have key:∀ e,okE (Aa d) e->e/2=met[i]->(ef V e=ef V f\/ef V e=ef V (enot f))->f/2=met[i]:=fun e he h2 h3=>by
   rcases h3 with h3|h3
   . rw[<- (h.dag.canon_iff he hf).1 h3];exact h2
   . have:=(h.dag.canon_iff he (JY hf)).1 h3;rw[this,DV] at h2;exact h2
  have:f/2=met[i]:=by
   rcases hr.fn i hm hi with e|e
   . exact key _ (hE 0 (by omega)) (by omega) (by rw[g1,<- e,hn];exact he)
   . exact key _ (hE 1 (by omega)) (by omega) (by rw[g0,<- e,hn];exact he)
  rw[this];exact Wh hm
 ·intro hm;obtain⟨i,hi,he⟩:=Xp hm;refine⟨i,by rw[<- hr.len];exact hi,?_⟩;have h1:=hr.fn i hi (by rw[<- hr.len];exact hi);rw[he] at h1;rcases Jy (V:=V) f with e|e<;>rcases h1 with e2|e2<;>rw[e,e2]
  . exact .inl rfl
  . exact .inr rfl
  . exact .inr (Ng _).symm
  . exact .inl rfl
theorem J0 (h:Aj d V)(h0:Aa d 0=none):∀ (k:Nat) (met:List Nat) (l:List BF) (f:Nat),okE (Aa d) f->RelN d V met l->RelN d V (AC d k met f) (belF d.vars.length d.vars k l (ef V f))
 | 0,met,l,f,_,hr=>hr
 | k+1,met,l,f,hf,hr=>by
   cases hb:Aa d (f/2) with
   | none =>
     rw[GK (.inl ((Jz h h0 hf).2 hb))];unfold AC;rw[hb];exact hr
   | some b =>
     unfold AC;rw[hb]
     show RelN d V (if f/2∈met then met else _) _
     by_cases hm:f/2∈met
     . rw[VW hm,GK (.inr ((Nh h hf hr).2 hm))];exact hr
     ·have hnc:¬ ∃ c,ef V f=fun _=>c:=fun e=>by rw[(Jz h h0 hf).1 e] at hb;cases hb
      obtain⟨htop,hbv⟩:=MK h hb;rw[VS hm,Nf (fun e=>e.elim hnc fun e=>hm ((Nh h hf hr).1 e)) htop];have hl:levN d b.v<=lvE d.vars.length (levN d) (Aa d) f:=by unfold lvE;rw[hb];exact VQ _
      obtain⟨q1,q2,_⟩:=Cu h hf hbv hl;obtain⟨e1,e2⟩:=Jx h hf hbv hl;rw[<- e1,<- e2];refine J0 h h0 k _ _ _ q2 (J0 h h0 k _ _ _ q1 ⟨by simp[hr.len],fun i hi=>?_,fun i h1 h2=>?_⟩)
      ·rcases Wj.1 hi with c|c
       . exact hr.node i c
       . simp at c;subst c;exact⟨b,hb⟩
      ·rcases Wo i met.length with c|c
       . rw[Xa c,Xa (by rw[<- hr.len];exact c)];exact hr.fn i c _
       ·have e:i=met.length:=by simp at h1;omega
        subst e;rw[WU (VQ _),WU (by rw[hr.len];exact VQ _)];simpa using Jy (V:=V) f
end
def BM (v:Nat):List (Nat×Nat)->List (Nat×Nat)
 | []=>[(v,1)]
 | p::r=>if p.1=v then (v,p.2+1)::r else p::BM v r
def getC (v:Nat):List (Nat×Nat)->Nat
 | []=>0
 | p::r=>if p.1=v then p.2 else getC v r
def sumC (l:List (Nat×Nat)):Nat:=(l.map (·.2)).sum
theorem Ni (v:Nat):∀ l,sumC (BM v l)=sumC l+1
 | []=>rfl
 | p::r=>by
   unfold BM;split
   . simp only[sumC,Xg,List.sum_cons];omega
   . have:=Ni v r;simp only[sumC,Xg,List.sum_cons] at this ⊢;omega
theorem Nj (v u:Nat):∀ l,getC u (BM v l)=getC u l+(if u=v then 1 else 0)
 | []=>by
   show (if v=u then 1 else 0)=0+_
   by_cases h:u=v
   . subst h;simp
   . rw[VS h,VS (fun e=>h e.symm)]
 | p::r=>by
   unfold BM
   by_cases h:p.1=v
   ·rw[VW h]
    show (if v=u then p.2+1 else getC u r)=(if p.1=u then p.2 else getC u r)+_
    rw[h]
    by_cases e:v=u
    . rw[VW e,VW e,VW e.symm]
    . rw[VS e,VS e,VS (fun c=>e c.symm),XR]
   ·rw[VS h]
    show (if p.1=u then p.2 else getC u (BM v r))=(if p.1=u then p.2 else getC u r)+_
    by_cases e:p.1=u
    . rw[VW e,VW e,VS (fun c=>h (e.trans c)),XR]
    . rw[VS e,VS e,Nj v u r]
theorem Nk (v:Nat):∀ l,getC v l<=sumC l
 | []=>VQ _
 | p::r=>by
   have:=Nk v r;simp only[getC,sumC,Xg,List.sum_cons] at this ⊢;split<;>omega
def vrD (d:Ae)(i:Nat):Nat:=match Aa d i with|some b=>b.v|none=>0
def tally (d:Ae)(met:List Nat):List (Nat×Nat):=met.foldl (fun c i=>BM (vrD d i) c) []
section
theorem TQ (met:List Nat)(i:Nat):tally d (met++[i])=BM (vrD d i) (tally d met):=by
 unfold tally;rw[XA];rfl
theorem TR (met:List Nat){b:BN}(hb:Aa d i=some b):tally d (met++[i])=BM b.v (tally d met):=by
 rw[TQ,show vrD d i=b.v by unfold vrD;rw[hb]]
abbrev Yy:=@List.foldl_cons
theorem Nl (c:List (Nat×Nat))(v:Nat):∀ met:List Nat,sumC (met.foldl (fun c i=>BM (vrD d i) c) c)=sumC c+met.length/\getC v (met.foldl (fun c i=>BM (vrD d i) c) c)=getC v c+met.countP fun i=>vrD d i=v:=by
 intro met
 induction met generalizing c with
 | nil=>exact⟨rfl,rfl⟩
 | cons i r ih =>
   obtain⟨h1,h2⟩:=ih (BM (vrD d i) c);refine⟨?_,?_⟩
   . rw[Yy,h1,Ni,Wp];omega
   ·rw[Yy,h2,Nj,List.countP_cons]
    by_cases e:v=vrD d i
    . rw[VW e,VW (by simp[e])];omega
    . rw[VS e,VS (by simpa using fun c=>e c.symm)];omega
theorem J1 (met:List Nat):sumC (tally d met)=met.length:=by
 have:=(Nl (d:=d) [] 0 met).1;unfold tally;rw[this];simp[sumC]
theorem TS (met:List Nat)(v:Nat):getC v (tally d met)=met.countP fun i=>vrD d i=v:=by
 have:=(Nl (d:=d) [] v met).2;unfold tally;rw[this];simp[getC]
structure CE (d:Ae)(met:List Nat):Prop where
 nd:met.Nodup
 node:∀ i∈met,∃ b,Aa d i=some b
theorem CE.snoc (h:CE d met){b:BN}(hb:Aa d i=some b)(hn:i∉met):CE d (met++[i]):=by
 refine⟨WJ.2 ⟨h.nd,by simp,fun a ha c hc e=>?_⟩,fun j hj=>?_⟩
 . simp at hc;subst hc;subst e;exact hn ha
 ·rcases Wj.1 hj with c|c
  . exact h.node j c
  . simp at c;subst c;exact⟨b,hb⟩
theorem CE.len (h:CE d met)(hlt:∀ e,okE (Aa d) e->e<eMax):met.length<=2305843009213693952:=by
 refine EB _ _ h.nd fun i hi=>?_
 obtain⟨b,hb⟩:=h.node i hi;have:=hlt (2*i) (.inr ⟨b,by rw[show 2*i/2=i by omega];exact hb⟩);unfold eMax at this;omega
theorem J2 (h:Aj d V):∀ (k:Nat) (met:List Nat) (f:Nat),CE d met->CE d (AC d k met f)
 | 0,met,f,hm=>hm
 | k+1,met,f,hm=>by
   unfold AC;cases hb:Aa d (f/2) with
   | none=>exact hm
   | some b =>
     show CE d (if f/2∈met then met else _)
     by_cases c:f/2∈met
     . rw[VW c];exact hm
     . rw[VS c];exact J2 h k _ _ (J2 h k _ _ (hm.snoc hb c))
def Dm (d:Ae)(l:List Nat):List Nat:=l.foldl (fun met f=>AC d d.vars.length met f) []
theorem TT (l:List Nat)(hi:i<l.length):Dm d (l.take (i+1))=AC d d.vars.length (Dm d (l.take i)) l[i]:=by
 unfold Dm;rw[List.take_add_one,We hi,XA];rfl
theorem Nm (h:Aj d V)(l:List Nat):CE d (Dm d l):=by
 unfold Dm;have:∀ (l met:List Nat),CE d met->CE d (l.foldl (fun met f=>AC d d.vars.length met f) met):=by
  intro l
  induction l with
  | nil=>intro met hm;exact hm
  | cons f r ih=>intro met hm;exact ih _ (J2 h _ _ _ hm)
 exact this l [] ⟨Ye,by simp⟩
theorem TU (h:Aj d V)(l:List Nat)(hl:∀ f∈l,okE (Aa d) f):(Dm d l).length=(nodesF d.vars.length d.vars (l.map (ef V))).length:=by
 have:∀ (l:List Nat) (met:List Nat) (gs:List BF),(∀ f∈l,okE (Aa d) f)->RelN d V met gs->RelN d V (l.foldl (fun met f=>AC d d.vars.length met f) met) ((l.map (ef V)).foldl (fun l G=>belF d.vars.length d.vars d.vars.length l G) gs):=by
  intro l
  induction l with
  | nil=>intro met gs _ hr;exact hr
  | cons f r ih =>
    intro met gs hl hr;exact ih _ _ (fun g hg=>hl g (Xx _ hg)) (J0 h h.dag.none0 _ _ _ f (hl f (WM ..)) hr)
 exact(this l [] [] hl ⟨rfl,fun i hi=>by simp at hi,fun i h1=>by simp at h1⟩).len
end
theorem GL:Dr prog 3 (Value.int .i64):=Km underlying3
def mtL (met:List Nat):List (Int×Value):=met.map fun i:Nat=>((i:Int),(.bool true:Value))
theorem Nn (met:List Nat)(f:Nat):getL (mtL met) (f:Int)=if f∈met then some (.bool true) else none:=by
 by_cases h:f∈met
 ·rw[VW h];unfold getL;have:∀ (l:List Nat) (i:Nat),f∈l->(AG (f:Int) (mtL l) i).map (·.2)=some (.bool true):=by
   intro l
   induction l with
   | nil=>intro i h;simp at h
   | cons x r ih =>
     intro i h
     show (if (x:Int)=(f:Int) then some (i,(.bool true:Value)) else AG (f:Int) (mtL r) (i+1)).map (·.2)=_
     by_cases e:(x:Int)=(f:Int)
     . rw[VW e];rfl
     ·rw[VS e];refine ih _ ?_;rcases WT.1 h with h|h
      . exact absurd (by rw[h]) e
      . exact h
  exact this met 0 h
 ·rw[VS h];refine Dt.2 fun p hp=>?_
  obtain⟨i,hi,rfl⟩:=Wg.1 hp;intro e;have e2:i=f:=Int.ofNat.inj e;rw[e2] at hi;exact h hi
theorem No (h:A1 w b (Value.int .i64) (mtL met))(f:Nat) :
 (Instr.lookup 195 (.map (some b)) (Iv (f:Nat)) false).run prog w=.ok (.bool (decide (f∈met))) w:=by
 have:=h.lookup GL underlying195 zeroValue4 (f:Int) false;rw[Nn] at this
 by_cases c:f∈met
 . rw[VW c] at this;simpa [c] using this
 . rw[VS c] at this;simpa [c] using this
theorem TW (h:A1 w b (Value.int .i64) (mtL met))(hf:f∉met) :
 ∃ w',(Instr.mapUpdate 195 (.map (some b)) (Iv (f:Nat)) (.bool true)).run prog w=.ok () w'/\A1 w' b (Value.int .i64) (mtL (met++[f]))/\w.grownBy w' (some b):=by
 obtain⟨w',h1,h2,h3⟩:=h.update GL underlying195 (f:Int) (.bool true);refine⟨w',h1,?_,h3⟩;have e:putL (f:Int) (.bool true) (mtL met)=mtL (met++[f]):=by
  have hg:=Nn met f;rw[VS hf] at hg;unfold getL at hg;unfold putL;cases hc:AG (f:Int) (mtL met) 0 with
  | none=>simp[mtL]
  | some q=>rw[hc] at hg;simp at hg
 rw[<- e];exact h2
def ctL (cs:List (Nat×Nat)):List (Int×Value):=cs.map fun p=>((p.1:Int),(Iv (p.2:Nat):Value))
theorem J3 (v:Nat):∀ (cs:List (Nat×Nat)) (i:Nat),(AG (v:Int) (ctL cs) i=none/\getC v cs=0/\BM v cs=cs++[(v,1)])\/∃ j,AG (v:Int) (ctL cs) i=some (i+j,Iv (getC v cs:Nat))/\BM v cs=cs.set j (v,getC v cs+1)
 | [],i=>.inl ⟨rfl,rfl,rfl⟩
 | p::r,i=>by
   by_cases h:p.1=v
   ·refine .inr ⟨0,?_,?_⟩
    ·show (if (p.1:Int)=(v:Int) then _ else _)=_
     rw[VW (by rw[h])];simp[getC,h]
    . simp[BM,getC,h]
   ·have hne:¬ (p.1:Int)=(v:Int):=fun e=>h (Int.ofNat.inj e)
    have e1:∀ i,AG (v:Int) (ctL (p::r)) i=AG (v:Int) (ctL r) (i+1):=fun i=>by
     show (if (p.1:Int)=(v:Int) then _ else _)=_
     rw[VS hne];rfl
    rcases J3 v r (i+1) with ⟨a,b,c⟩|⟨j,a,b⟩
    . exact .inl ⟨by rw[e1,a],by simp[getC,h,b],by simp[BM,h,c]⟩
    ·refine .inr ⟨j+1,?_,?_⟩
     . rw[e1,a];simp[getC,h];omega
     . simp[BM,h,b,getC]
theorem Np {cs:List (Nat×Nat)}(h:A1 w b (Value.int .i64) (ctL cs))(v:Nat) :
 (Instr.lookup 153 (.map (some b)) (Iv (v:Nat)) false).run prog w=.ok (Iv (getC v cs:Nat)) w:=by
 have:=h.lookup GL underlying153 zeroValue3 (v:Int) false;rw[this];unfold getL;rcases J3 v cs 0 with ⟨a,b,_⟩|⟨j,a,_⟩
 . rw[a,b];simp
 . rw[a];simp
theorem TX {cs:List (Nat×Nat)}(h:A1 w b (Value.int .i64) (ctL cs))(v:Nat){c:Int}(hc:c=(getC v cs+1:Nat)) :
 ∃ w',(Instr.mapUpdate 153 (.map (some b)) (Iv (v:Nat)) (Iv c)).run prog w=.ok () w'/\A1 w' b (Value.int .i64) (ctL (BM v cs))/\w.grownBy w' (some b):=by
 obtain⟨w',h1,h2,h3⟩:=h.update GL underlying153 (v:Int) (Iv c);refine⟨w',h1,?_,h3⟩;have e:putL (v:Int) (Iv c) (ctL cs)=ctL (BM v cs):=by
  unfold putL;subst hc;rcases J3 v cs 0 with ⟨a,b,q⟩|⟨j,a,q⟩
  . rw[a,q];simp[ctL,b]
  . rw[a,q];simp[ctL,XX]
 rw[<- e];exact h2
section
variable {R:List PanicEntry->Wd->Prop}
def Nx (_:List Nat)(P:Program)(l:List Oper)(Q:Exit->Act->Wd->Prop)(R:List PanicEntry->Wd->Prop)(S:Wd->Prop)(f:Nat)(L:Array Bool)(a:Act)(w:Wd):Prop:=Dx P l Q R S l.length f L a w
theorem EJ (pl:List Nat){a:Act}(S:Wd->Prop)(R:List PanicEntry->Wd->Prop)(hR:∀ c (a:Act) w,a.defers=[]->R c w->Q (.panic c) a w)(hm:P.follows .mixedOrders=true)(hS:S w.drew)
 (h:Nx pl P l Q R S l.length (Array.replicate l.toArray.size false) a w.drew):(Code.region id l.toArray true).wp P Q a w:=IN S R l.length hR hm hS h
theorem DO {a:Act}{o:Oper}(hi:l[i]?=some o)(hg:o.guard=none)
 (hB:(Region.noSelect l.toArray&&(Region.ready .any l.toArray L).contains i&&Region.free .any l.toArray L i)=true)
 (h:∃ v,(∀ w,S w->(execOp a.eval o).run P w=.ok (.value v) w)/\Nx pl P l Q R S f (L.setIfInBounds i true) (a.put o.dst v) w):Nx (i::pl) P l Q R S (f+1) L a w :=
 Cv _ hi hg (by rw[hB];simp) h
theorem TY {a:Act}{o:Oper}{g:FuncId}{args:Array Value}{R1:Value->Wd->Prop}(hi:l[i]?=some o)(hr:decide (Region.ready .any l.toArray L=[i])=true)
 (hg:Region.wanted o (yielded l.toArray a.tmps)=true) (hd:a.defers=[]) (he:(execOp a.eval o).run P w=.ok (.enter g args) w)
 (hc:Calls P g args w fun e w'=>(∃ v,e=.returned v/\S w'/\R1 v w')\/(∃ ch,e=.panicked ch/\R ch w'))
 (h:∀ v w',S w'->R1 v w'->Nx pl P l Q R S f (L.setIfInBounds i true) (a.put o.dst v) w'):Nx (i::pl) P l Q R S (f+1) L a w:=by
 refine De [i] (by rw[WW];exact⟨hr,rfl⟩) fun j g1 hS o2 g0=>?_
 rw[Wf] at g1;subst g1;rw[hi] at g0;cases g0;refine⟨hg,?_⟩;refine Gw (R:=fun v w'=>S w'/\R1 v w') (R2:=R) he (hc.mono ?_) (fun v w' hh=>⟨hh.1,h v w' hh.1 hh.2⟩) (fun ch w' hh=>⟨hd,hh⟩);rintro e w' (⟨v,h1,h2⟩|hh)
 . exact .inl ⟨v,h1,h2⟩
 . exact .inr hh
theorem F9 {a:Act}{o:Oper}{g:FuncId}{args:Array Value}{R1:Value->Wd->Prop}(hi:l[i]?=some o)(hr:decide (Region.ready .any l.toArray L=[i])=true)
 (hg:Region.wanted o (yielded l.toArray a.tmps)=true) (hd:a.defers=[]) (he:(execOp a.eval o).run P w=.ok (.enter g args) w)
 (hc:Calls P g args w fun e w'=>∃ v,e=.returned v/\R1 v w') (hS:∀ v w',R1 v w'->S w')
 (h:∀ v w',S w'->R1 v w'->Nx pl P l Q R S f (L.setIfInBounds i true) (a.put o.dst v) w'):Nx (i::pl) P l Q R S (f+1) L a w :=
 TY hi hr hg hd he (hc.mono fun e w' ⟨v,h1,h2⟩=>.inl ⟨v,h1,hS v w' h2,h2⟩) h
theorem Be {a:Act}{o:Oper}{t:TypeId}{s x:Operand}(hi:l[i]?=some o)(hr:decide (Region.ready .any l.toArray L=[i])=true)
 (hg:Region.wanted o (yielded l.toArray a.tmps)=true) (ho:o.op=.store t s x) (hs:(Instr.storeAt t (a.eval s) (a.eval x)).run P w=.ok () w') (hS:S w')
 (h:Nx pl P l Q R S f (L.setIfInBounds i true) (a.put o.dst undef) w'):Nx (i::pl) P l Q R S (f+1) L a w:=by
 refine De [i] (by rw[WW];exact⟨hr,rfl⟩) fun j g1 _ o2 g0=>?_
 rw[Wf] at g1;subst g1;rw[hi] at g0;cases g0;exact⟨hg,K0 ho hs ⟨hS,h⟩⟩
theorem Cc {a:Act}(hr:(Region.ready .any l.toArray L).isEmpty=true)(h:Q .normal a w):Nx [] P l Q R S 0 L a w:=IP hr h
end
theorem TZ {R:List PanicEntry->Wd->Prop}{a:Act}{o:Oper}{t:TypeId}{m x y:Operand}(hi:l[i]?=some o)(hr:decide (Region.ready .any l.toArray L=[i])=true)
 (hg:Region.wanted o (yielded l.toArray a.tmps)=true) (ho:o.op=.mapUpdate t m x y) (hs:(Instr.mapUpdate t (a.eval m) (a.eval x) (a.eval y)).run P w=.ok () w') (hS:S w')
 (h:Nx pl P l Q R S f (L.setIfInBounds i true) (a.put o.dst undef) w'):Nx (i::pl) P l Q R S (f+1) L a w:=by
 refine De [i] (by rw[WW];exact⟨hr,rfl⟩) fun j g1 _ o2 g0=>?_
 rw[Wf] at g1;subst g1;rw[hi] at g0;cases g0;refine⟨hg,?_⟩;unfold Oper.wp;simp only[execOp,ho,Xl,hs,WD];exact⟨hS,h⟩
section
variable {F:Phi}{o:Own}
theorem AW.other (h:AW F o W mb m)(hl:Ac o W)(hx:Wr C W W')(hC:∀ k,k<W.heap.size->C k->o k=none):AW F o W' mb m:=by
 obtain⟨s,hm⟩:=h;exact⟨s,hm.keep (fun g r hg=>hx.keep g (hl g r hg) (fun e=>by have:=hC g (hl g r hg) e;rw[hg] at this;cases this)) (fun _ _ h=>h)⟩
end
theorem Ua (args:Array Value)(w:Wd):(callFunc 166 args).run prog w=.ok (.enter 166 args) w:=XH func166 (by kernel_rfl) rfl args w
structure SnC where
 bm:Nat
 bx:Nat
 bn:Nat
 bd:Nat
 mt:Nat
 nt:Nat
 xb:Nat
def SnC.caps (c:SnC):Array Value:=#[Pt c.bm,Pt c.bx,Pt c.bn,Pt c.bd]
def SnC.two (c:SnC)(k:Nat):Prop:=k=c.mt\/k=c.nt
structure SnS (F:Phi)(c:SnC)(mb:Nat)(o:Own)(m:ManD)(V:Nat->BF)(met:List Nat)(cs:List (Nat×Nat))(W:Wd):Prop where
 is:AW F o W mb m
 lt:Ac o W
 ok:Aj m.d V
 x:Bs o W c.xb mb
 bm:W.cell? (Av c.bm)=some (.map (some c.mt))
 bx:W.cell? (Av c.bx)=some (Pt c.xb)
 bn:W.cell? (Av c.bn)=some (.map (some c.nt))
 bd:W.cell? (Av c.bd)=some (.func (.func 166) #[] c.caps)
 map:A1 W c.mt (Value.int .i64) (mtL met)
 cnt:A1 W c.nt (Value.int .i64) (ctL cs)
 own:∀ q,(q=c.bm\/q=c.bx\/q=c.bn\/q=c.bd\/q=c.mt\/q=c.nt)->o q=none
 ne:c.mt≠c.bm/\c.mt≠c.bx/\c.mt≠c.bn/\c.mt≠c.bd/\c.mt≠c.xb/\c.mt≠c.nt
 ne2:c.nt≠c.bm/\c.nt≠c.bx/\c.nt≠c.bn/\c.nt≠c.bd/\c.nt≠c.xb
 mok:CE m.d met
section
variable {F:Phi}{c:SnC}{o:Own}{met':List Nat}{cs cs':List (Nat×Nat)}
theorem SnS.go (h:SnS F c mb o m V met cs W)(hx:Wr c.two W W')(hm:A1 W' c.mt (Value.int .i64) (mtL met'))(hn:A1 W' c.nt (Value.int .i64) (ctL cs'))(hk:CE m.d met'):SnS F c mb o m V met' cs' W':=by
 have hc:∀ {b k:Nat} {v:Value},W.cell? (Aw b k)=some v->c.mt≠b->c.nt≠b->W'.cell? (Aw b k)=some v:=fun h h1 h2=>(Xf (w:=W) (hx.keep _ (Ag h) (fun e=>e.elim (fun e=>h1 e.symm) (fun e=>h2 e.symm)))).trans h
 obtain⟨n1,n2,n3,n4,n5,n6⟩:=h.ne;obtain⟨k1,k2,k3,k4,k5⟩:=h.ne2;exact⟨h.is.other h.lt hx (fun k _ e=>h.own k (.inr (.inr (.inr (.inr e))))),h.lt.mono hx.size,h.ok,⟨hc h.x.cell n5 k5,h.x.own⟩,hc h.bm n1 k1,hc h.bx n2 k2,hc h.bn n3 k3,hc h.bd n4 k4,hm,hn,h.own,h.ne,h.ne2,hk⟩
theorem SnS.below (h:SnS F c mb o m V met cs W)(hb:Bw W W'):SnS F c mb o m V met cs W':=h.go (Wr.of_below hb _) (h.map.below hb) (h.cnt.below hb) h.mok
def SnR (F:Phi)(c:SnC)(mb:Nat)(o:Own)(m:ManD)(V:Nat->BF)(met:List Nat)(W:Wd)(x:Ending)(w':Wd):Prop:=x=.returned (.tuple #[])/\Wr c.two W w'/\SnS F c mb o m V met (tally m.d met) w'
theorem J4 (h:SnS F c mb o m V met (tally m.d met) W)(hf:okE (Aa m.d) f)(hst:f/2=0\/f/2∈met):Cl 166 (#[Iv f]++c.caps) W (SnR F c mb o m V met W):=by
 obtain⟨bm,bx,bn,bd,mt,nt,xb⟩:=c;have g2:=Ju (K:=fun _ _=>F) (V:=V) h.is hf;have g0:Hq (∀ q,Cl 167 #[Iv f] (W.drewN q) fun x w'=>x=.returned (.bool (decide (enode f=0)))/\W.drewN q=w'):=Hd fun q=>GU f _ g2
 have g1:Hq (∀ q,Cl 168 #[Iv f] (W.drewN q) fun x w'=>x=.returned (Iv (enode f:Nat))/\W.drewN q=w'):=Hd fun q=>BV f _ g2
 have g3:∀ q,(Instr.lookup 195 (.map (some mt)) (Iv (enode f:Nat)) false).run prog (W.drewN q)=.ok (.bool (decide (enode f∈met))) (W.drewN q):=fun q=>No (h.below (Aq W q)).map (enode f)
 have cbm:=h.bm;have HF:Hq (∀ q,SnR F ⟨bm,bx,bn,bd,mt,nt,xb⟩ mb o m V met W (.returned (.tuple #[])) (W.drewN q)):=Hd fun q=>⟨rfl,Wr.of_below (Aq W q) _,h.below (Aq W q)⟩
 obtain⟨P,hP⟩:=Ex (SnR F ⟨bm,bx,bn,bd,mt,nt,xb⟩ mb o m V met W);rw[<- hP] at HF ⊢;unfold SnC.caps;clear hP h
 show Calls _ _ #[_,_,_,_,_] _ _
 rcases hst with h0|h0
 ·rw[WG (show enode f=0 from h0)] at g0
  go_enter func166,ntmps166
  go_wp2_with fail
  go_quiet ((first|(with_reducible exact CK (g0.o _))|(with_reducible exact CK (g1.o _))))
  go_wp2_with fail;refine Wu (Wy rfl _ _ _) rfl ?_;exact HF.o _
 ·simp only[WG (show enode f∈met from h0)] at g3
  by_cases h1:enode f=0
  ·rw[WG h1] at g0
   go_enter func166,ntmps166
   go_wp2_with fail
   go_quiet ((first|(with_reducible exact CK (g0.o _))|(with_reducible exact CK (g1.o _))))
   go_wp2_with fail;refine Wu (Wy rfl _ _ _) rfl ?_;exact HF.o _
  ·rw[Xe h1] at g0
   go_enter func166,ntmps166
   go_wp2_with fail
   go_quiet ((first|(with_reducible exact CK (g0.o _))|(with_reducible exact CK (g1.o _))))
   go_wp2_with fail;refine Wu (Wy rfl _ _ _) rfl ?_;exact HF.o _
theorem Ub (IH:∀ met f W,SnS F c mb o m V met (tally m.d met) W->okE (Aa m.d) f->m.d.vars.length<=lvE m.d.vars.length (levN m.d) (Aa m.d) f+k->Cl 166 (#[Iv (f:Nat)]++c.caps) W (SnR F c mb o m V (AC m.d k met f) W))
 (h:SnS F c mb o m V met (tally m.d met) W) {f:Nat} {b:BN} (hb:Aa m.d (f/2)=some b) (hnm:f/2∉met) (hlev:m.d.vars.length<=lvE m.d.vars.length (levN m.d) (Aa m.d) f+(k+1)) :
 Cl 166 (#[Iv f]++c.caps) W (SnR F c mb o m V (AC m.d k (AC m.d k (met++[f/2]) (cofs m.d f b.v).1) (cofs m.d f b.v).2) W):=by
 obtain⟨bm,bx,bn,bd,mt,nt,xb⟩:=c;have hf:okE (Aa m.d) f:=.inr ⟨b,hb⟩;have g7:∀ e,okE (Aa m.d) e->e<eMax:=fun e he=>Ju (K:=fun _ _=>F) (V:=V) h.is he
 have ga:=g7 f hf;have gD:=h.ok.dag.var _ _ hb;have hl:levN m.d b.v<=lvE m.d.vars.length (levN m.d) (Aa m.d) f:=by unfold lvE;rw[hb];exact VQ _
 have h7:lvE m.d.vars.length (levN m.d) (Aa m.d) f=levN m.d b.v:=by unfold lvE;rw[hb]
 obtain⟨q1,q2,q3,q4,_⟩:=Cu h.ok hf gD hl;have h0:enode f≠0:=fun e=>by
  have:f/2=0:=e;rw[this,h.ok.dag.none0] at hb;cases hb
 have g6:=h.mok;have g3:=g6.snoc hb hnm;have gC:getC b.v (tally m.d met)<=2305843009213693952:=by
  have h1:=Nk b.v (tally m.d met);rw[J1] at h1;have h2:=g6.len g7;omega
 obtain⟨lo,gc⟩:∃ z,z=(cofs m.d f b.v).1:=⟨_,rfl⟩;obtain⟨hi,gd⟩:∃ z,z=(cofs m.d f b.v).2:=⟨_,rfl⟩;rw[<- gc,<- gd];rw[<- gc] at q1 q3;rw[<- gd] at q2 q4;obtain⟨bv,g2⟩:∃ z,z=b.v:=⟨_,rfl⟩;have gw:Hq (∀ q,Cl 167 #[Iv f] (W.drewN q) fun x w'=>x=.returned (.bool false)/\W.drewN q=w'):=Hd fun q=>by
  have:=GU f (W.drewN q) ga
  rwa [Xe h0] at this
 have gS:Hq (∀ W',Cl 168 #[Iv f] W' (Sm (Iv (enode f:Nat)) W')):=Hd fun W'=>BV f W' ga
 have gR:Hq (∀ q,Cl 168 #[Iv f] (W.drewN q) fun x w'=>x=.returned (Iv (enode f:Nat))/\W.drewN q=w'):=Hd fun q=>BV f _ ga
 have h6:∀ q,(Instr.lookup 195 (.map (some mt)) (Iv (enode f:Nat)) false).run prog (W.drewN q)=.ok (.bool false) (W.drewN q):=fun q=>by
  have:=No (h.below (Aq W q)).map (enode f)
  rwa [Xe (show ¬ enode f∈met from hnm)] at this
 have g5:mt≠nt:=h.ne.2.2.2.2.2;have gM:Hq (∀ W',SnS F ⟨bm,bx,bn,bd,mt,nt,xb⟩ mb o m V met (tally m.d met) W'->∃ w',(Instr.mapUpdate 195 (.map (some mt)) (Iv (enode f:Nat)) (.bool true)).run prog W'=.ok () w'/\Wr (SnC.two ⟨bm,bx,bn,bd,mt,nt,xb⟩) W' w'/\SnS F ⟨bm,bx,bn,bd,mt,nt,xb⟩ mb o m V (met++[f/2]) (tally m.d met) w'):=Hd fun W' g=>by
  obtain⟨w',r1,r2,r3⟩:=TW g.map (f:=enode f) hnm;have hw:Wr (· = mt) W' w':=Wr.of_grown r3 _ (fun k e=>by cases e;rfl);have g1:Wr (SnC.two ⟨bm,bx,bn,bd,mt,nt,xb⟩) W' w':=hw.mono (fun _ e=>.inl e);exact⟨w',r1,g1,g.go g1 r2 (g.cnt.keepB (hw.keep _ g.cnt.lt (fun e=>g5 e.symm))) g3⟩
 have gv:Hq (∀ W',SnS F ⟨bm,bx,bn,bd,mt,nt,xb⟩ mb o m V (met++[f/2]) (tally m.d met) W'->(Instr.lookup 153 (.map (some nt)) (Iv (bv:Nat)) false).run prog W'=.ok (Iv (getC b.v (tally m.d met):Nat)) W'):=Hd fun W' g=>by
  rw[g2];exact Np g.cnt b.v
 have gu:Hq (∀ W',SnS F ⟨bm,bx,bn,bd,mt,nt,xb⟩ mb o m V (met++[f/2]) (tally m.d met) W'->∃ w',(Instr.mapUpdate 153 (.map (some nt)) (Iv (bv:Nat)) (Iv ((getC b.v (tally m.d met):Nat)+1))).run prog W'=.ok () w'/\Wr (SnC.two ⟨bm,bx,bn,bd,mt,nt,xb⟩) W' w'/\SnS F ⟨bm,bx,bn,bd,mt,nt,xb⟩ mb o m V (met++[f/2]) (tally m.d (met++[f/2])) w'):=Hd fun W' g=>by
  rw[g2];obtain⟨w',r1,r2,r3⟩:=TX g.cnt b.v (c:=((getC b.v (tally m.d met):Nat):Int)+1) (by omega);have hw:Wr (· = nt) W' w':=Wr.of_grown r3 _ (fun k e=>by cases e;rfl);have g1:Wr (SnC.two ⟨bm,bx,bn,bd,mt,nt,xb⟩) W' w':=hw.mono (fun _ e=>.inr e);rw[<- TR met hb] at r2;exact⟨w',r1,g1,g.go g1 (g.map.keepB (hw.keep _ g.map.lt (fun e=>g5 e))) r2 g3⟩
 have gn:Hq (∀ W' s,SnS F ⟨bm,bx,bn,bd,mt,nt,xb⟩ mb o m V (met++[f/2]) (tally m.d met) W'->W'.heap[s]?=some (.cells #[Iv f] 101 (0,0))->Cl 169 #[Pt xb,.slice (some (Av s)) 1 1] W' (Bl (Iv (bv:Nat)) W')):=Hd fun W' s g hs=>by
  refine(KM g.is g.lt g.x g.ok [f] (by simpa using hf) (some (Av s)) 1 ⟨by simp,fun i h8=>?_⟩).mono ?_
  ·obtain rfl:i=0:=by simpa using h8
   exact⟨s,0,rfl,by rw[VR _ _ 0 _ _ _ hs];rfl⟩
  ·rintro x w' ⟨top,least,rfl,ht,h4⟩;rcases TK ht with ⟨_,hn⟩|⟨b',gE,rfl⟩
   . rw[hb] at hn;cases hn
   . rw[hb] at gE;cases gE;exact⟨by rw[g2],h4⟩
 have gP:Hq (∀ W' cs,SnS F ⟨bm,bx,bn,bd,mt,nt,xb⟩ mb o m V (met++[f/2]) cs W'->Cl 170 #[Pt xb,Iv f,Iv (bv:Nat)] W' (Bl (.tuple #[Iv lo,Iv hi]) W')):=Hd fun W' cs g=>by
  have:=KK g.is g.lt g.x g.ok f hf (b.v:Nat);rw[<- gc,<- gd,<- g2] at this;exact this
 have gU:Hq (∀ W',SnS F ⟨bm,bx,bn,bd,mt,nt,xb⟩ mb o m V (met++[f/2]) (tally m.d (met++[f/2])) W'->Cl 166 #[Iv lo,Pt bm,Pt bx,Pt bn,Pt bd] W' (SnR F ⟨bm,bx,bn,bd,mt,nt,xb⟩ mb o m V (AC m.d k (met++[f/2]) lo) W')):=Hd fun W' g=>IH _ lo W' g q1 (by omega)
 have gT:Hq (∀ W',SnS F ⟨bm,bx,bn,bd,mt,nt,xb⟩ mb o m V (AC m.d k (met++[f/2]) lo) (tally m.d (AC m.d k (met++[f/2]) lo)) W'->Cl 166 #[Iv hi,Pt bm,Pt bx,Pt bn,Pt bd] W' (SnR F ⟨bm,bx,bn,bd,mt,nt,xb⟩ mb o m V (AC m.d k (AC m.d k (met++[f/2]) lo) hi) W')):=Hd fun W' g=>IH _ hi W' g q2 (by omega)
 have cbm:=h.bm;have HS:=Hd h;obtain⟨P,hP⟩:=Ex (SnR F ⟨bm,bx,bn,bd,mt,nt,xb⟩ mb o m V (AC m.d k (AC m.d k (met++[f/2]) lo) hi) W);have HP:Hq (∀ x w',SnR F ⟨bm,bx,bn,bd,mt,nt,xb⟩ mb o m V (AC m.d k (AC m.d k (met++[f/2]) lo) hi) W x w'->P x w'):=Hd (by rw[hP];exact fun _ _ e=>e);have eg1:=Ua;obtain⟨g0,gj⟩:∃ g,g=getC b.v (tally m.d met):=⟨_,rfl⟩;rw[<- gj] at gC;have ha:IntKind.i64.wrap ((g0:Nat)+1)=(g0:Nat)+1:=XK _ ⟨by omega,by omega⟩;rw[<- gj] at gv gu;rw[<- hP];unfold SnC.caps;clear hP h IH hb hnm hlev hf ga g7 gD hl h7 q1 q2 q3 q4 h0 gc gd g2 g6 g3 gC gj g5
 show Calls _ _ #[_,_,_,_,_] _ _
 go_enter func166,ntmps166
 go_wp2_with fail
 go_quiet ((first|(with_reducible exact CK (gw.o _))|(with_reducible exact CK (gR.o _))))
 go_upto_region 1 with fail;obtain⟨w1,gh⟩:=Ex ((W.drewN nq).drew);have gm:Bw W w1:=by rw[gh];exact Aq W (nq+1)
 have gt:=Hd (HS.o.below gm);have HW1:=Hd (Wr.of_below gm (SnC.two ⟨bm,bx,bn,bd,mt,nt,xb⟩));have gF:=Hd gh;have cbm1:=gt.o.bm;clear gh gm;refine EJ [0,1,2,3] (fun W'=>W'.cell? (Av bm)=some (.map (some mt))) (fun ch w'=>False) (fun c a w hd h=>h.elim) (by kernel_rfl) (by rw[<- gF.o];exact cbm1) ?_;rw[<- gF.o]
 iterate 2
  refine DO rfl rfl (by kernel_rfl) ?_;apply Exists.intro;refine⟨fun w' hw=>?_,?_⟩
  . have q1:w'.cell? (Av bm)=some (.map (some mt)):=hw;go_simp;rfl
  simp only[Ab]
 refine F9 (R1:=fun u w'=>u=Iv (enode f:Nat)/\w1=w') rfl (by kernel_rfl) rfl rfl (by go_simp) ((gS.o w1).mono fun x w' h=>⟨_,h.1,rfl,h.2⟩) (by rintro u w' ⟨_,rfl⟩;exact cbm1) ?_;rintro u w'-⟨rfl,rfl⟩;simp only[Ab];obtain⟨w2,gZ,g1,gB⟩:=gM.o w1 gt.o;have gg:=Hd gB;have gL:=Hd (HW1.o.trans g1 (fun _ _ e=>e) (fun _ _ e=>e));refine TZ (w':=w2) rfl (by kernel_rfl) rfl rfl (by go_simp) gg.o.bm ?_;simp only[Ab];refine Cc (by kernel_rfl) ?_;clear gZ g1 gB cbm1 cbm;have cbx:=gg.o.bx;have ge:=Af w2 (.cells #[Iv f] 101);obtain⟨w4,g4⟩:=Ex (w2.alloc (.cells #[Iv f] 101));rw[<- g4] at ge;have h5:=Hd g4;have gi:w4.heap[w2.heap.size]?=some (.cells #[Iv f] 101 (0,0)):=by rw[g4];exact VT _ _
 have gr:=Hd (gg.o.below ge);have gK:=Hd (gL.o.trans (Wr.of_below ge _) (fun _ _ e=>e) (fun _ _ e=>e));have gO:=Hd (gn.o w4 _ gr.o gi);have gN:Hq (Cl 169 #[Pt xb,.slice (some (Av w2.heap.size)) 1 1] (w2.alloc (.cells #[Iv f] 101)) (Bl (Iv (bv:Nat)) w4)):=Hd (by have:=gO.o;rw[g4] at this ⊢;exact this);clear ge g4 gi gO;go_wp2_with fail;refine gN.o.mono ?_;rintro x w5 ⟨rfl,gl⟩;have gf:=Hd (gr.o.below gl);have gJ:=Hd (gK.o.trans (Wr.of_below gl _) (fun _ _ e=>e) (fun _ _ e=>e));have cbn5:=gf.o.bn;have h3:=gv.o w5 gf.o;obtain⟨w6,gY,gz,g9⟩:=gu.o w5 gf.o;have gQ:=Hd g9;have gI:=Hd (gJ.o.trans gz (fun _ _ e=>e) (fun _ _ e=>e));have cbx6:=g9.bx;have gp:=Hd (gP.o w6 _ g9);clear gl gz g9 gN cbx gr gK gg gL gt HW1 h5 h6;go_wp2_with fail;refine gp.o.mono ?_;rintro x w7 ⟨rfl,gk⟩;have gq:=Hd (gQ.o.below gk);have gH:=Hd (gI.o.trans (Wr.of_below gk _) (fun _ _ e=>e) (fun _ _ e=>e));have cbd:=gq.o.bd;unfold SnC.caps at cbd;have gX:=Hd (gU.o w7 gq.o);clear gk gf gJ gU gn gP gM gS gR gw gv gu gQ gI h3 gY cbx6 cbn5 gp;go_wp2_with fail;refine gX.o.mono ?_;rintro x w8 ⟨rfl,gy,g8⟩;have h9:=Hd g8;have gG:=Hd (gH.o.trans gy (fun _ _ e=>e) (fun _ _ e=>e));have gV:=Hd (gT.o w8 g8);have cbd8:=g8.bd;unfold SnC.caps at cbd8;clear gy g8 cbd gX gT gq gH;go_wp2_with fail;refine gV.o.mono ?_;rintro x w9 ⟨rfl,gx,gA⟩;have HF:=Hd (HP.o (.returned (.tuple #[])) w9 ⟨rfl,gG.o.trans gx (fun _ _ e=>e) (fun _ _ e=>e),gA⟩);clear gx gA cbd8 gV h9 gG HP;go_wp2_with fail;refine WR (Wy rfl _ _ _) rfl ?_;exact HF.o
theorem Nq:∀ (k:Nat) (met:List Nat) (f:Nat) (W:Wd),SnS F c mb o m V met (tally m.d met) W->okE (Aa m.d) f->m.d.vars.length<=lvE m.d.vars.length (levN m.d) (Aa m.d) f+k->Cl 166 (#[Iv (f:Nat)]++c.caps) W (SnR F c mb o m V (AC m.d k met f) W)
 | 0,met,f,W,h,hf,hl=>by
   refine J4 h hf (.inl ?_);rcases hf with h1|⟨b,hb⟩
   . exact h1
   . exfalso;have h1:=h.ok.dag.lt b.v (h.ok.dag.var _ _ hb);unfold lvE at hl;rw[hb] at hl;simp at hl;omega
 | k+1,met,f,W,h,hf,hl=>by
   unfold AC;cases hb:Aa m.d (f/2) with
   | none =>
     refine J4 h hf (.inl ?_);rcases hf with h1|⟨b,hb'⟩
     . exact h1
     . rw[hb] at hb';cases hb'
   | some b =>
     show Calls _ _ _ _ (SnR F c mb o m V (if f/2∈met then met else _) W)
     by_cases hm:f/2∈met
     . rw[VW hm];exact J4 h hf (.inr hm)
     . rw[VS hm];exact Ub (fun met f W=>Nq k met f W) h hb hm hl
end
def Indep (F:BF)(v:Nat):Prop:=∀ ρ b,F (upd ρ v b)=F ρ
theorem Nr {v:Nat}(h:Indep F v)(u:Nat)(c:Bool):Indep (cofF F u c) v:=fun ρ b=>by
 show F (upd (upd ρ v b) u c)=F (upd ρ u c)
 by_cases e:v=u
 . subst e;exact WA F (funext fun x=>by unfold upd;split<;>rfl)
 ·rw[show upd (upd ρ v b) u c=upd (upd ρ u c) v b from funext fun x=>by
   unfold upd
   by_cases h1:x=u<;>by_cases h2:x=v<;>simp_all]
  exact h _ b
theorem Uc {u v:Nat}(hne:v≠u)(h0:Indep (cofF F u false) v)(h1:Indep (cofF F u true) v):Indep F v:=fun ρ b=>by
 have key:∀ σ:Nat->Bool,F σ=cofF F u (σ u) σ:=fun σ=>WA F (funext fun x=>by
  by_cases e:x=u
  . subst e;simp
  . simp[e])
 rw[key (upd ρ v b),key ρ,show upd ρ v b u=ρ u by unfold upd;rw[VS (fun e=>hne e.symm)]];cases ρ u
 . exact h0 ρ b
 . exact h1 ρ b
theorem Ns {v:Nat}(h:Indep F v):Indep (notF F) v:=fun ρ b=>by
 show (!F (upd ρ v b)) = !F ρ
 rw[h]
theorem J5 {v:Nat}:Indep F v↔cofF F v false=cofF F v true:=by
 constructor
 ·intro h;funext ρ
  exact(h ρ false).trans (h ρ true).symm
 ·intro h ρ b
  have key:∀ σ:Nat->Bool,F σ=cofF F v (σ v) σ:=fun σ=>WA F (funext fun x=>by
   by_cases e:x=v
   . subst e;simp
   . simp[e])
  have e2:cofF F v b ρ=cofF F v (ρ v) ρ:=by
   cases b<;>cases ρ v<;>first|rfl|rw[h]
  exact e2.trans (key ρ).symm
section
theorem Nt {v:Nat}:Indep (ef V f) v↔Indep (V (f/2)) v:=by
 rcases Jy (V:=V) f with e|e
 . rw[e]
 . rw[e];exact⟨fun h=>by have:=Ns h;rwa [Ng] at this,Ns⟩
def InM (d:Ae)(met:List Nat)(f:Nat):Prop:=Aa d (f/2)=none\/f/2∈met
def ClM (d:Ae)(met met':List Nat):Prop:=∀ i∈met',i∉met->∀ b,Aa d i=some b->InM d met' b.lo/\InM d met' b.hi
theorem Nu {b:BN}(hb:Aa d (f/2)=some b):(cofs d f b.v).1/2=b.lo/2/\(cofs d f b.v).2/2=b.hi/2:=by
 unfold cofs;simp only[hb,Xb];constructor<;>(unfold eflip;split<;>first|exact DV _|rfl)
theorem EK:∀ (k:Nat) (met:List Nat) (f:Nat),∀ i∈met,i∈AC d k met f
 | 0,met,f,i,hi=>hi
 | k+1,met,f,i,hi=>by
   unfold AC;cases hb:Aa d (f/2) with
   | none=>exact hi
   | some b =>
     show i∈(if f/2∈met then met else _)
     by_cases c:f/2∈met
     . rw[VW c];exact hi
     . rw[VS c];exact EK k _ _ _ (EK k _ _ _ (X5 _ hi))
theorem InM.mono {met':List Nat}(h:InM d met f)(hs:∀ i∈met,i∈met'):InM d met' f:=h.imp id (hs _)
theorem J6 (h:Aj d V):∀ (k:Nat) (met:List Nat) (f:Nat),okE (Aa d) f->d.vars.length<=lvE d.vars.length (levN d) (Aa d) f+k->InM d (AC d k met f) f/\ClM d met (AC d k met f)
 | 0,met,f,hf,hl=>by
   refine⟨.inl ?_,fun i hi hn=>absurd hi hn⟩;cases hb:Aa d (f/2) with
   | none=>rfl
   | some b =>
     exfalso;have h1:=h.dag.lt b.v (h.dag.var _ _ hb);unfold lvE at hl;rw[hb] at hl;simp at hl;omega
 | k+1,met,f,hf,hl=>by
   unfold AC;cases hb:Aa d (f/2) with
   | none=>exact⟨.inl hb,fun i hi hn=>absurd hi hn⟩
   | some b =>
     show InM d (if f/2∈met then met else _) f/\ClM d met (if f/2∈met then met else _)
     by_cases c:f/2∈met
     . rw[VW c];exact⟨.inr c,fun i hi hn=>absurd hi hn⟩
     ·rw[VS c];have hbv:=h.dag.var _ _ hb;have hlv:levN d b.v<=lvE d.vars.length (levN d) (Aa d) f:=by unfold lvE;rw[hb];exact VQ _
      have g2:lvE d.vars.length (levN d) (Aa d) f=levN d b.v:=by unfold lvE;rw[hb]
      obtain⟨q1,q2,q3,q4,_⟩:=Cu h hf hbv hlv;obtain⟨e1,e2⟩:=Nu hb;obtain⟨a1,a2⟩:=J6 h k (met++[f/2]) _ q1 (by omega);obtain⟨b1,b2⟩:=J6 h k (AC d k (met++[f/2]) (cofs d f b.v).1) _ q2 (by omega);have hs1:=EK (d:=d) k (AC d k (met++[f/2]) (cofs d f b.v).1) (cofs d f b.v).2;have g1:=EK (d:=d) k (met++[f/2]) (cofs d f b.v).1;refine⟨.inr (hs1 _ (g1 _ (by simp))),fun i hi hn b' g0=>?_⟩
      by_cases m2:i∈AC d k (met++[f/2]) (cofs d f b.v).1
      ·by_cases m1:i∈met++[f/2]
       ·have:i=f/2:=by
         rcases Wj.1 m1 with m|m
         . exact absurd m hn
         . simpa using m
        subst this;rw[hb] at g0;cases g0
        have w1:=a1.mono hs1;unfold InM at w1 b1;rw[e1] at w1;rw[e2] at b1;exact⟨w1,b1⟩
       . obtain⟨w1,w2⟩:=a2 i m2 m1 b' g0;exact⟨w1.mono hs1,w2.mono hs1⟩
      . exact b2 i hi m2 b' g0
theorem J7 (h:Aj d V):∀ (k:Nat) (met:List Nat) (f:Nat),okE (Aa d) f->∀ i∈AC d k met f,i∈met\/∀ v,Indep (ef V f) v->Indep (V i) v
 | 0,met,f,hf,i,hi=>.inl hi
 | k+1,met,f,hf,i,hi=>by
   unfold AC at hi;cases hb:Aa d (f/2) with
   | none=>rw[hb] at hi;exact .inl hi
   | some b =>
     rw[hb] at hi
     replace hi:i∈(if f/2∈met then met else AC d k (AC d k (met++[f/2]) (cofs d f b.v).1) (cofs d f b.v).2):=hi
     by_cases c:f/2∈met
     . rw[VW c] at hi;exact .inl hi
     ·rw[VS c] at hi;have hbv:=h.dag.var _ _ hb;have hlv:levN d b.v<=lvE d.vars.length (levN d) (Aa d) f:=by unfold lvE;rw[hb];exact VQ _
      obtain⟨q1,q2,_⟩:=Cu h hf hbv hlv;obtain⟨e1,e2⟩:=Jx h hf hbv hlv;rcases J7 h k _ _ q2 i hi with m|m
      ·rcases J7 h k _ _ q1 i m with m|m
       ·rcases Wj.1 m with m|m
        . exact .inl m
        ·simp at m;subst m
         exact .inr fun v hv=>Nt.1 hv
       . exact .inr fun v hv=>m v (by rw[e1];exact Nr hv _ _)
      . exact .inr fun v hv=>m v (by rw[e2];exact Nr hv _ _)
theorem Ud (h:Aj d V)(hcl:ClM d [] met){v:Nat}(hv:∀ i∈met,∀ b,Aa d i=some b->b.v≠v):∀ (k:Nat) (f:Nat),okE (Aa d) f->d.vars.length<=lvE d.vars.length (levN d) (Aa d) f+k->InM d met f->Indep (ef V f) v:=by
 have hc:∀ f,okE (Aa d) f->Aa d (f/2)=none->Indep (ef V f) v:=fun f hf hn=>by
  obtain⟨c,e⟩:=(Jz h h.dag.none0 hf).2 hn;rw[e];exact fun _ _=>rfl
 intro k
 induction k with
 | zero =>
   intro f hf hl hi;cases hb:Aa d (f/2) with
   | none=>exact hc f hf hb
   | some b =>
     exfalso;have h1:=h.dag.lt b.v (h.dag.var _ _ hb);unfold lvE at hl;rw[hb] at hl;simp at hl;omega
 | succ k ih =>
   intro f hf hl hi;cases hb:Aa d (f/2) with
   | none=>exact hc f hf hb
   | some b =>
     have hm:f/2∈met:=by
      rcases hi with e|e
      . rw[hb] at e;cases e
      . exact e
     have g1:=h.dag.var _ _ hb;have g0:levN d b.v<=lvE d.vars.length (levN d) (Aa d) f:=by unfold lvE;rw[hb];exact VQ _
     have g2:lvE d.vars.length (levN d) (Aa d) f=levN d b.v:=by unfold lvE;rw[hb]
     obtain⟨q1,q2,q3,q4,_⟩:=Cu h hf g1 g0;obtain⟨e1,e2⟩:=Jx h hf g1 g0;obtain⟨k1,k2⟩:=Nu hb;obtain⟨w1,w2⟩:=hcl _ hm (by simp) b hb;have i1:=ih _ q1 (by omega) (by unfold InM;rw[k1];exact w1);have i2:=ih _ q2 (by omega) (by unfold InM;rw[k2];exact w2);rw[e1] at i1;rw[e2] at i2;exact Uc (fun e=>hv _ hm b hb e.symm) i1 i2
theorem Ue {a b c:List Nat}(h1:ClM d a b)(h2:ClM d b c)(hs:∀ i∈b,i∈c):ClM d a c:=fun i hi hn b' hb'=>by
 by_cases m:i∈b
 . obtain⟨w1,w2⟩:=h1 i m hn b' hb';exact⟨w1.mono hs,w2.mono hs⟩
 . exact h2 i hi m b' hb'
theorem Nv (h:Aj d V):∀ (l met:List Nat),(∀ f∈l,okE (Aa d) f)->ClM d [] met->ClM d [] (l.foldl (fun met f=>AC d d.vars.length met f) met)/\(∀ i∈met,i∈l.foldl (fun met f=>AC d d.vars.length met f) met)/\(∀ f∈l,InM d (l.foldl (fun met f=>AC d d.vars.length met f) met) f)/\∀ i∈l.foldl (fun met f=>AC d d.vars.length met f) met,i∈met\/∃ f∈l,∀ v,Indep (ef V f) v->Indep (V i) v
 | [],met,_,hc=>⟨hc,fun i hi=>hi,fun f hf=>by simp at hf,fun i hi=>.inl hi⟩
 | f::r,met,hl,hc=>by
   have hf:=hl f (WM ..);obtain⟨c1,c2⟩:=J6 h d.vars.length met f hf (by omega);obtain⟨r1,r2,r3,r4⟩:=Nv h r (AC d d.vars.length met f) (fun g hg=>hl g (Xx _ hg)) (Ue hc c2 (EK _ _ _));refine⟨r1,fun i hi=>r2 i (EK _ _ _ i hi),fun g hg=>?_,fun i hi=>?_⟩
   ·rcases WT.1 hg with rfl|hg
    . exact c1.mono r2
    . exact r3 g hg
   ·rcases r4 i hi with m|⟨g,hg,m⟩
    ·rcases J7 h _ _ f hf i m with m|m
     . exact .inl m
     . exact .inr ⟨f,WM ..,m⟩
    . exact .inr ⟨g,Xx _ hg,m⟩
structure J8 (n:Nat)(os:List Nat)(Fs:List BF)(cs:List (Nat×Nat)):Prop where
 sum:sumC cs=(nodesF n os Fs).length
 le:sumC cs<=2305843009213693952
 dep:∀ v,0<getC v cs↔∃ F∈Fs,AV n F v=true
theorem Uf (h:Aj d V)(l:List Nat)(hl:∀ f∈l,okE (Aa d) f)(hlt:∀ e,okE (Aa d) e->e<eMax):J8 d.vars.length d.vars (l.map (ef V)) (tally d (Dm d l)):=by
 refine⟨?_,?_,fun v=>?_⟩
 . rw[J1,TU h l hl]
 . rw[J1];exact(Nm h l).len hlt
 ·obtain⟨r1,r2,r3,r4⟩:=Nv h l [] hl (fun i hi=>by simp at hi);rw[TS,List.countP_pos_iff];constructor
  ·rintro⟨i,hi,hv⟩;rcases r4 i hi with m|⟨f,hf,m⟩
   . simp at m
   ·refine⟨ef V f,Wg.2 ⟨f,hf,rfl⟩,(El (h.dep (hl f hf)) v).2 fun e=>?_⟩;have h1:=m v (J5.2 e);obtain⟨b,hb⟩:=(Nm h l).node i hi;have g4:b.v=v:=by
     have:vrD d i=v:=by simpa using hv
     unfold vrD at this;rw[hb] at this;exact this
    have g0:Aa d (2*i/2)=some b:=by rw[show 2*i/2=i by omega];exact hb
    have h2:=(Nt (V:=V) (f:=2*i) (v:=v)).2 (by rw[show 2*i/2=i by omega];exact h1);have ht:=(MK h g0).1;have g1:=h.dep (f:=2*i) (.inr ⟨b,g0⟩)
    by_cases hx:∃ u∈d.vars,AV d.vars.length (ef V (2*i)) u=true
    . obtain⟨q,_,g2,g3,_⟩:=Nd hx;rw[ht] at g2;rw[<- Int.ofNat.inj g2,g4,El g1] at g3;exact g3 (J5.1 h2)
    ·have:=MI (n:=d.vars.length) (F:=ef V (2*i)) (l:=d.vars) (fun u hu=>by
      cases e:AV d.vars.length (ef V (2*i)) u with
      | false=>rfl
      | true=>exact absurd ⟨u,hu,e⟩ hx)
     rw[ht] at this;omega
  ·rintro⟨F,hF,hh⟩;obtain⟨f,hf,rfl⟩:=Wg.1 hF;refine Classical.byContradiction fun g5=>?_
   refine(El (h.dep (hl f hf)) v).1 hh (J5.1 (Ud h r1 (v:=v) (fun i hi b hb e=>g5 ⟨i,hi,by unfold vrD;rw[hb];simp[e]⟩) d.vars.length f (hl f hf) (by omega) (r3 f hf)))
end
end Go.Proofs.YtkidaindpahefaaGreat
