/- Several texts in one file: contracts of the program's functions and what follows from them. -/
import Derived.Test.YtkidaindpahefaaGreatX6
import Derived.Maps.RangeRun
set_option linter.unusedSimpArgs false
set_option linter.unusedVariables false
set_option linter.unusedSectionVars false
set_option linter.unnecessarySimpa false
set_option maxRecDepth 100000
set_option maxHeartbeats 8000000
namespace Go.Proofs.YtkidaindpahefaaGreat
open Go.Proofs.Tryz
open Go.RowKit
variable {B B':Wd->Own->Prop}{C:Nat->Prop}{F G H:BF}{Fs:List BF}{K:Law}{L:Array Bool}{Od P':List Nat->Prop}{P:Program}{Q:Exit->Act->Wd->Prop}{S:Wd->Prop}{V:Nat->BF}{W W' w w' w'' w0 wb:Wd}{a:Act}{args lop:Array Value}{b base c f g i j k mb n room xb:Nat}{cur ks ys zs:List Int}{d:Ae}{fs r:List (Int×BF)}{gs:List (List Int)}{l:List Oper}{least nx:Int}{m:ManD}{met os pl:List Nat}{o0:Own}{t:TypeId}{u v z:Value}{ws0:List Ev}
theorem Tw (w:Wd)(g:Fn)(fs cs:Array Value):(binOp .eql 200 (.func g fs cs) .nilFunc).run prog w=.ok (.bool false) w:=by
 have hd:Op.maxDepth=9999+1:=rfl;have h:(Op.equal 200 (.func g fs cs) .nilFunc).run prog w=.ok false w:=by
  unfold Op.equal;rw[hd];unfold Op.equalIn;simp only[WB,We underlying200,VZ];simp
 simp only[binOp];simp[h]
section
variable {B:Wd->Prop}{St:ManD->Prop}{gop:Nat}{QO:Nat->Own->Wd->ManD->(Nat->BF)->Prop}{QP:Own->Wd->ManD->(Nat->BF)->Prop}{Q:Wd->ManD->(Nat->BF)->Prop}{E:Int->ManD->ManD->Prop}
def OpLN (K:Law)(n:Nat)(Od:List Nat->Prop)(room:Nat)(w0:Wd)(mb:Nat)(fs:List (Int×BF))(nx:Int)(C:Nat->Prop)(B:Wd->Prop)(St:ManD->Prop)(gop:Nat)(lop:Array Value)(Q:Nat->Own->Wd->ManD->(Nat->BF)->Prop)(E:Int->ManD->ManD->Prop):Prop :=
 ∀ (o:Own) (W:Wd) (m:ManD) (V:Nat->BF) (xb:Nat),SatE K n Od room w0 mb fs nx W o m V->B W->(∀ k,C k->k<W.heap.size/\o k=none)->St m->BK o W xb mb->¬ C xb ->
  Calls prog gop (#[Pt xb]++lop) W fun e w'=>∃ (o':Own) (m':ManD) (V':Nat->BF),C8 C K o W mb m V o' w' m' V'/\B w' /\
   ((e=.returned (.tuple #[])/\Q W.heap.size o' w' m' V') \/
    (∃ er:Int,e=AV er false ev0/\er≠0/\m'.waits=m.waits/\St m'/\E er m m') \/
    (∃ ev,e=AV 0 true ev/\m.waits=ev::m'.waits/\StE K n Od room w0 mb fs nx St m'/\HapG K n Od room w0 mb fs nx ev))
def CM (W:Wd)(b:Nat):Prop:=∀ k d,W.cell? (Aw b k)≠some (.int .u32 d)
structure En (K:Law)(n:Nat)(Od:List Nat->Prop)(room:Nat)(w0:Wd)(mb:Nat)(fs:List (Int×BF))(nx:Int)(C:Nat->Prop)(B:Wd->Prop)(St:ManD->Prop)(o0:Own)(w:Wd)(k:Nat)(full:Bool)(W:Wd)(o:Own)(m:ManD)(V:Nat->BF):Prop where
 sat:SatE K n Od room w0 mb fs nx W o m V
 bok:B W
 st:St m
 len:m.waits.length=k
 cok:∀ c,C c->c<w.heap.size/\o c=none
 chg:ChgX C o0 o w W
 clean:full=true->m.d.dead=0
def MM (K:Law)(n:Nat)(Od:List Nat->Prop)(room:Nat)(w0:Wd)(mb:Nat)(fs:List (Int×BF))(nx:Int)(C:Nat->Prop)(B:Wd->Prop)(Q:Own->Wd->ManD->(Nat->BF)->Prop)(E:Int->ManD->ManD->Prop)(o0:Own)(w:Wd)(er:Int)(W:Wd):Prop :=
 ∃ o m V,SatE K n Od room w0 mb fs nx W o m V/\B W/\ChgX C o0 o w W/\((er=0/\Q o W m V)\/(er≠0/\∃ m0:ManD,E er m0 m/\(er=7->m0.d.dead=0)))
theorem Tx (hB:∀ W W',B W->(∀ c,C c->W'.heap[c]?=W.heap[c]?)->B W')(hQ:∀ s o W W' m V,(∀ c,C c->c<s)->s+3<=W.heap.size->CM W s/\CM W (s+1)->QO (s+3) o W m V->Ali s W W'->QP o W' m V)(hSt:∀ (m:ManD) (d:Ae),St m->AK m.d d->St { m with d:=d })(hC0:∀ c,C c->w0.heap.size<=c)(eg:∀ args w,(callFunc gop args).run prog w=.ok (.enter gop args) w)
 (hop:OpLN K n Od room w0 mb fs nx C B St gop lop QO E) {o:Own} {w:Wd} {m:ManD} {V:Nat->BF} (h:SatE K n Od room w0 mb fs nx w o m V) (hb:B w) (hC:∀ c,C c->c<w.heap.size/\o c=none) (hst:St m) :
 Cl 196 #[Pt mb,.func (.func gop) #[] lop] w fun x w'=>∃ er,x=.returned (Iv er)/\MM K n Od room w0 mb fs nx C B QP E o w er w':=by
 have hw0:=h.chg.size;have g7:∀ {k full W W' o1 m1 V1},En K n Od room w0 mb fs nx C B St o w k full W o1 m1 V1->∀ {s:Nat},w.heap.size<=s->o1 s=none->o1 (s+1)=none->Ali s W W'->En K n Od room w0 mb fs nx C B St o w k full W' o1 m1 V1:=by
  intro k full W W' o1 m1 V1 hi s hs n0 n1 a;have hk:∀ k,k<w.heap.size->W'.heap[k]?=W.heap[k]?:=fun k hk=>a.keep k (by have:=hi.chg.size;omega) (by omega)
  refine⟨hi.sat.other a (fun k _ e=>?_),hB _ _ hi.bok (fun c hc=>hk c (hi.cok c hc).1),hi.st,hi.len,hi.cok,hi.chg.trans (ChgX.of_wr (C:=fun k=>w.heap.size<=k) a o1 (fun k _ e=>by omega)) (fun k hk e=>by omega),hi.clean⟩;rcases e with rfl|rfl
  . exact⟨by omega,n0⟩
  . exact⟨by omega,n1⟩
 have gd:∀ {k full full' W W' o1 m1 V1 o2 m2 V2},En K n Od room w0 mb fs nx C B St o w k full W o1 m1 V1->SatE K n Od room w0 mb fs nx W' o2 m2 V2->ChgX NoB o1 o2 W W'->m2.waits=m1.waits->St m2->(full'=true->m2.d.dead=0)->En K n Od room w0 mb fs nx C B St o w k full' W' o2 m2 V2:=by
  intro k full full' W W' o1 m1 V1 o2 m2 V2 hi gn hc e1 e2 e3;have gp:=hi.chg.size;exact⟨gn,hB _ _ hi.bok (fun c g8=>hc.block c (by have:=(hi.cok c g8).1;omega) (hi.cok c g8).2 (fun e=>e)),e2,by rw[e1];exact hi.len,fun c g8=>⟨(hi.cok c g8).1,hc.none' (by have:=(hi.cok c g8).1;omega) (hi.cok c g8).2⟩,hi.chg.trans hc (fun _ _ e=>e.elim),e3⟩
 refine KI mb _ _ _ eg (fun k full W=>∃ o1 m1 V1,En K n Od room w0 mb fs nx C B St o w k full W o1 m1 V1) _ ?_ m.waits.length ⟨o,m,V,h,hb,hst,rfl,hC,ChgX.of_below (VI _ _) o C,by simp⟩;rintro k full W ⟨o1,m1,V1,hi⟩;have gp:=hi.chg.size;obtain⟨s,hs⟩:=Ex W.heap.size
 refine⟨fun st W1=>match st with
  | none=>∃ (o':Own) (m':ManD) (V':Nat->BF),SatE K n Od room w0 mb fs nx W1 o' m' V'/\B W1/\ChgX C o o' w W1/\s+3<=W1.heap.size/\(∀ q,w.heap.size<=q->q<s+3->o1 q=none->o' q=none)/\(CM W1 s/\CM W1 (s+1))/\QO (s+3) o' W1 m' V'
  | some (er,evt,ev)=>∃ (o':Own) (m':ManD) (V':Nat->BF),En K n Od room w0 mb fs nx C B St o w m'.waits.length false W1 o' m' V'/\s+3<=W1.heap.size/\(∀ q,w.heap.size<=q->q<s+3->o1 q=none->o' q=none) /\
   ((evt=false/\er≠0/\m'.waits=m1.waits/\E er m1 m')\/(evt=true/\m1.waits=ev::m'.waits/\StE K n Od room w0 mb fs nx St m'/\HapG K n Od room w0 mb fs nx ev)),?_,?_,?_,?_,?_⟩
 ·unfold EJ;have ge:Bw W (tryW mb W):=((Ah _ _).alloc (by simp) _).alloc (by simp;omega) _;have gi:(tryW mb W).heap.size=W.heap.size+3:=by unfold tryW;simp
  obtain⟨T,hT⟩:=Ex (tryW mb W);have h1:(tryW mb W).heap[W.heap.size+2]?=some (.cells #[Pt mb] 233 (0,0)):=by
   have:=Vv ((W.alloc (.cells #[Iv 0,.bool false,Iv 0,Iv 0,Iv 0] 235)).alloc (.cells #[.bool false] 4)) (.cells #[Pt mb] 233);rw[VK,VK] at this;exact this
  have gk:CM (tryW mb W) W.heap.size:=fun k d hd=>by
   have e:(tryW mb W).heap[W.heap.size]?=some (.cells #[Iv 0,.bool false,Iv 0,Iv 0,Iv 0] 235 (0,0)) :=
    (VL _ _ (by simp;omega)).trans ((VL _ _ (by simp)).trans (Vv _ _))
   rw[Vt _ _ _ _ _ _ e] at hd;rcases(show k=0\/k=1\/k=2\/k=3\/k=4\/5<=k by omega) with rfl|rfl|rfl|rfl|rfl|hk
   . simp at hd
   . simp at hd
   . simp at hd
   . simp at hd
   . simp at hd
   . rw[X2 (by simpa using hk)] at hd;cases hd
  have gj:CM (tryW mb W) (W.heap.size+1):=fun k d hd=>by
   have e0:=Vv (W.alloc (.cells #[Iv 0,.bool false,Iv 0,Iv 0,Iv 0] 235)) (.cells #[.bool false] 4);rw[VK] at e0;have e:(tryW mb W).heap[W.heap.size+1]?=some (.cells #[.bool false] 4 (0,0)) :=
    (VL _ _ (by simp)).trans e0
   rw[Vt _ _ _ _ _ _ e] at hd;rcases(show k=0\/1<=k by omega) with rfl|hk
   . simp at hd
   . rw[X2 (by simpa using hk)] at hd;cases hd
  rw[<- hT] at ge gi h1 gk gj ⊢;clear hT;have g6:=hi.sat.below ge;have gt:BK o1 T (W.heap.size+2) mb:=⟨cell1 h1,hi.sat.lt.none (by omega)⟩;have gm:∀ q,w.heap.size<=q->¬ C q:=fun q hq e=>by have:=(hi.cok q e).1;omega
  have ga:∀ {o':Own} {w1:Wd},ChgX C o1 o' T w1->∀ q,w.heap.size<=q->q<s+3->o1 q=none->w1.heap[q]?=T.heap[q]?:=fun hc q h1 h2 h3=>hc.block q (by omega) h3 (gm q h1)
  have n0:o1 W.heap.size=none:=hi.sat.lt.none (Vu _);have n1:o1 (W.heap.size+1)=none:=hi.sat.lt.none (by omega);refine(hop o1 T m1 V1 (W.heap.size+2) g6 (hB _ _ hi.bok (fun c hc=>ge.block c (by have:=(hi.cok c hc).1;omega))) (fun c hc=>⟨by have:=(hi.cok c hc).1;omega,(hi.cok c hc).2⟩) hi.st gt (gm _ (by omega))).mono ?_;rintro e w1 ⟨o',m',V',st,b1,gh⟩;have gw:=st.chg.size;have gg:=(hi.chg.trans (ChgX.of_below ge o1 C) (fun _ _ e=>e)).trans st.chg (fun _ _ e=>e);refine⟨by omega,ga st.chg _ (by omega) (by omega) n0,ga st.chg _ (by omega) (by omega) n1,?_⟩;have g9:∀ q,w.heap.size<=q->q<s+3->o1 q=none->o' q=none:=fun q _ h2 h3=>st.chg.none' (by omega) h3
  have gf:∀ c,C c->c<w.heap.size/\o' c=none:=fun c hc=>⟨(hi.cok c hc).1,st.chg.none' (by have:=(hi.cok c hc).1;omega) (hi.cok c hc).2⟩
  rcases gh with ⟨rfl,q1⟩|⟨er,rfl,q1,q2,q3,q4⟩|⟨ev,rfl,q1,q2,q3⟩
  ·have hu:∀ {q:Nat},q<s+3->w.heap.size<=q->o1 q=none->CM T q->CM w1 q:=fun h2 h1 h3 hn k d hd=>hn k d (by
    have e:=ga st.chg _ h1 h2 h3;exact(Wl (w:=T) (a:=Aw _ k) e).symm.trans hd)
   exact .inl ⟨rfl,o',m',V',g6.step st hC0,b1,gg,by omega,g9,⟨by rw[hs];exact hu (by omega) (by omega) n0 gk,by rw[hs];exact hu (by omega) (by omega) n1 gj⟩,by rw[hs,<- gi];exact q1⟩
  . exact .inr ⟨er,false,ev0,rfl,o',m',V',⟨g6.step st hC0,b1,q3,rfl,gf,gg,by simp⟩,by omega,g9,.inl ⟨rfl,q1,q2,q4⟩⟩
  . exact .inr ⟨0,true,ev,rfl,o',m',V',⟨g6.step st hC0,b1,q2 _ _ _ _ (g6.step st hC0) rfl rfl (.inl (Vu _)),rfl,gf,gg,by simp⟩,by omega,g9,.inr ⟨rfl,q1,q2,q3⟩⟩
 ·rintro W1 W2 ⟨o',m',V',a1,a2,a3,a4,a5,au,a8⟩ al;rw[<- hs] at al;have n0:o' s=none:=a5 s (by omega) (by omega) (by rw[hs];exact hi.sat.lt.none (Vu _));have n1:o' (s+1)=none:=a5 (s+1) (by omega) (by omega) (by rw[hs];exact hi.sat.lt.none (by omega));have hk:∀ c,C c->W2.heap[c]?=W1.heap[c]?:=fun c hc=>al.keep c (by have:=(hi.cok c hc).1;omega) (by have:=(hi.cok c hc).1;omega)
  refine⟨o',m',V',a1.other al (fun k _ e=>?_),hB _ _ a2 hk,a3.trans (ChgX.of_wr (C:=fun k=>w.heap.size<=k) al o' (fun k _ e=>by omega)) (fun k hk e=>by omega),.inl ⟨rfl,hQ s _ _ _ _ _ (fun c hc=>by have:=(hi.cok c hc).1;omega) a4 au a8 al⟩⟩;rcases e with rfl|rfl
  . exact⟨by omega,n0⟩
  . exact⟨by omega,n1⟩
 ·rintro er ev W1 W2 ⟨o',m',V',gc,a4,a5,(⟨h1,_⟩|⟨_,gr,go,gu⟩)⟩ al
  . cases h1
  rw[<- hs] at al;have n0:o' s=none:=a5 s (by omega) (by omega) (by rw[hs];exact hi.sat.lt.none (Vu _));have n1:o' (s+1)=none:=a5 (s+1) (by omega) (by omega) (by rw[hs];exact hi.sat.lt.none (by omega));have g0:=g7 gc (by omega) n0 n1 al;refine(gu o' W2 m' V' g0.sat).mono ?_;rintro x w' ⟨rfl,o2,m2,V2,g1,g2,g3,g5,g4⟩;exact⟨rfl,m'.waits.length,by rw[<- hi.len,gr];simp,o2,m2,V2,gd g0 g1 g4 g2 (go _ _ _ _ g1 g2 g3 g5) (by simp)⟩
 ·rintro ev W1 W2 ⟨o',m',V',gc,a4,a5,(⟨_,_,hw,_⟩|⟨h1,_⟩)⟩ al gv
  . rw[<- hs] at al;have n0:o' s=none:=a5 s (by omega) (by omega) (by rw[hs];exact hi.sat.lt.none (Vu _));have n1:o' (s+1)=none:=a5 (s+1) (by omega) (by omega) (by rw[hs];exact hi.sat.lt.none (by omega));have g0:=g7 gc (by omega) n0 n1 al;refine(KW g0.sat).mono ?_;rintro x w' ⟨rfl,o2,d2,g1,g2,g3⟩;have gl:=gd (full':=true) g0 g1 (ChgX.of_chg g3 NoB) rfl (hSt _ _ g0.st g2) (fun _=>g2.dead);rw[hw,hi.len] at gl;exact⟨⟨_,rfl⟩,o2,_,V',gl⟩
  . cases h1
 ·rintro er ev W1 W2 ⟨o',m',V',gc,a4,a5,(⟨_,h0,hw,hE⟩|⟨h1,_⟩)⟩ al gq
  ·rw[<- hs] at al;have n0:o' s=none:=a5 s (by omega) (by omega) (by rw[hs];exact hi.sat.lt.none (Vu _));have n1:o' (s+1)=none:=a5 (s+1) (by omega) (by omega) (by rw[hs];exact hi.sat.lt.none (by omega));have g0:=g7 gc (by omega) n0 n1 al;refine⟨o',m',V',g0.sat,g0.bok,g0.chg,.inr ⟨h0,m1,hE,fun e7=>hi.clean ?_⟩⟩;cases full with
   | true=>rfl
   | false=>exact(gq ⟨e7,rfl⟩).elim
  . cases h1
theorem Ty (hB:∀ W W',B W->(∀ c,C c->W'.heap[c]?=W.heap[c]?)->B W')(hQ:∀ s o W W' m V,(∀ c,C c->c<s)->s+3<=W.heap.size->CM W s/\CM W (s+1)->QO (s+3) o W m V->Ali s W W'->QP o W' m V)(hSt:∀ (m:ManD) (d:Ae),St m->AK m.d d->St { m with d:=d })(hC0:∀ c,C c->w0.heap.size<=c)(eg:∀ args w,(callFunc gop args).run prog w=.ok (.enter gop args) w)
 (hop:OpLN K n Od room w0 mb fs nx C B St gop lop QO E) {o:Own} {w:Wd} {m:ManD} {V:Nat->BF} (h:SatE K n Od room w0 mb fs nx w o m V) (hb:B w) (hC:∀ c,C c->c<w.heap.size/\o c=none) (hst:St m) :
 Cl 164 #[Pt mb,.func (.func gop) #[] lop] w fun x w'=>∃ er,x=.returned (Iv er)/\MM K n Od room w0 mb fs nx C B QP E o w er w':=by
 have g0:=Hd (Tx hB hQ hSt hC0 eg hop h hb hC hst);have g1:=Tw w (.func gop) #[] lop;clear h hb hB hQ hSt hC0 hop hC hst
 go_enter func164,ntmps164
 go_wp2_with fail;refine g0.o.mono ?_;rintro x w1 ⟨er,rfl,hf⟩;have HF:=Hd hf;clear hf g0;go_wp2_with fail;go_ret;exact⟨er,rfl,HF.o⟩
end
theorem DepF.not (h:DepF n F):DepF n (notF F):=fun ρ ρ' hr=>by
 show (!F ρ)=(!F ρ')
 rw[h ρ ρ' hr]
section
variable {x y:Value}
structure Eo (n:Nat)(w:Wd)(a:Option Addr)(Fs:List BF):Prop where
 len:Fs.length<=1000
 cells:∀ i (h:i<Fs.length),∃ b off v,a=some (Aw b off)/\w.cell? (Aw b (off+i))=some v/\TabA n w v Fs[i]
theorem Eo.below {a:Option Addr}{Fs:List BF}{w':Wd}(h:Eo n w a Fs)(hb:Bw w w'):Eo n w' a Fs :=
 ⟨h.len,fun i hi=>by
  obtain⟨b,off,v,rfl,h1,h2⟩:=h.cells i hi;exact⟨b,off,v,rfl,(Cq hb h1),h2.below hb⟩⟩
end
section
variable {o:Own}
theorem Tz (hK:AO K)(h:SatE K n (fun _=>True) room w0 mb fs nx w o m V)(hw:m.waits <:+ ws0)(hn:nx<=549755813888)(hr:(fs.length+1)*2^n<=room){v:Nat}(hv:v<n) :
 Cl 93 #[Pt mb,Iv v] w fun x w''=>x=.returned (.tuple #[Iv nx,Iv 0])/\Goes K n (fun _=>True) room w0 mb (fs++[(nx,varF v)]) (nx+1) (W2 (SufW ws0)) o w w'':=by
 refine(Lf hK h ws0 hw none (fun _ e=>by cases e) (fun _ e=>by cases e) (fun ev _=>LX hn ev) (by omega) v hv).mono ?_;rintro x w'' hp;obtain⟨o2,m2,V2,q1,q2,q3,q4⟩:=Mh hp Nat.one_le_two_pow hr;exact⟨q3,o2,m2,V2,q1,q2,q4⟩
end
section
variable {L:Nat}{bs:List (Int×BF)}{o:Own}{B:Nat->Wd->Own->Prop}{Φ:BF->BF}{er:Nat->Int}{c:Int}
theorem AA.and {A B:Wd->Own->Prop}(hA:AA A)(hB:AA B):AA fun W o=>A W o/\B W o:=fun _ _ _ _ h hc=>⟨hA _ _ _ _ h.1 hc,hB _ _ _ _ h.2 hc⟩
end
theorem Gl (h:A7 zs=true)(hi:i<zs.length)(hj:j<zs.length)(he:at0 zs i=at0 zs j):i=j:=by
 have h2:=((Ch zs).1 h).2;rcases Xz i j with g0|e|g0
 . exact(h2 j hj i g0 he).elim
 . exact e
 . exact(h2 i hi j g0 he.symm).elim
theorem T0 (h:A7 zs=true)(hl:ys.length=zs.length)(p:Nat->Nat)(hp:∀ j,j<zs.length->p j<zs.length)
 (hinj:∀ i j,i<zs.length->j<zs.length->p i=p j->i=j) (hy:∀ j,j<zs.length->at0 ys j=at0 zs (p j)):A7 ys=true:=by
 rw[Ch,hl];have h1:=((Ch zs).1 h).1;refine⟨fun k hk=>by rw[hy k hk];exact h1 _ (hp k hk),fun i hi k hk he=>?_⟩;rw[hy i hi,hy k (by omega)] at he;have:=hinj k i (by omega) hi (Gl h (hp k (by omega)) (hp i hi) he);omega
theorem T1 (h:A7 zs=true)(i:Int):A7 (AC zs i)=true:=by
 by_cases g0:0<=i/\i+1<zs.length
 ·obtain⟨k,rfl⟩:=Int.eq_ofNat_of_zero_le g0.1;have hk:k+1<zs.length:=by omega
  refine T0 h (Dy _ _) (fun j=>if j=k then k+1 else if j=k+1 then k else j) ?_ ?_ ?_
  ·intro j hj;repeat' split
   all_goals omega
  ·intro i j hi hj;repeat' split
   all_goals omega
  ·intro j hj;rw[DL hk];repeat' split
   all_goals rfl
 . rw[NV g0];exact h
def invs (f:Int->Int):List Int->Nat
 | []=>0
 | x::xs=>xs.countP (fun y=>decide (f x>f y))+invs f xs
theorem T2 (f:Int->Int)(l:List Int)(x y:Int)(r:List Int)(h:f x>f y):invs f (l++x::y::r)=invs f (l++y::x::r)+1:=by
 induction l with
 | nil =>
   simp only[Ws,invs,List.countP_cons];have h2:¬ f y>f x:=by omega
   simp only[h,h2,decide_true,decide_false,Wy,X7,if_false];omega
 | cons a l ih =>
   simp only[Xr,invs,ih,List.countP_append,List.countP_cons];omega
theorem T3 (h:k+1<zs.length):zs=zs.take k++at0 zs k::at0 zs (k+1)::zs.drop (k+2):=by
 have h1:=Xo k zs;rw[Fl (by omega),Fl h] at h1;exact h1.symm
theorem T4 (h:k+1<zs.length):AC zs (k:Int)=zs.take k++at0 zs (k+1)::at0 zs k::zs.drop (k+2):=by
 refine Ez (by rw[Dy];simp;omega) fun j hj=>?_
 rw[DL h];have hk:(zs.take k).length=k:=by simp;omega
 by_cases e1:j<k
 . rw[G0 (by omega),E1 e1,Vs (by omega),Vs (by omega)]
 ·rw[G1 (by omega),hk]
  by_cases e2:j=k
  . subst e2;rw[Vw rfl,Nat.sub_self];rfl
  ·by_cases e3:j=k+1
   . subst e3;rw[Vs e2,Vw rfl,show k+1-k=1 by omega];rfl
   ·rw[Vs e2,Vs e3,show j-k=(j-k-2)+2 by omega]
    show _=at0 (zs.drop (k+2)) (j-k-2)
    rw[Fm];congr 1;omega
theorem T5 {f:Int->Int}(h:k+1<zs.length)(hf:f (at0 zs k)>f (at0 zs (k+1))):invs f zs=invs f (AC zs (k:Int))+1:=by
 rw[T4 h]
 conv=>lhs;rw[T3 h]
 exact T2 f _ _ _ _ hf
structure Upto (bs cur:List Int)(i:Nat):Prop where
 len:cur.length=bs.length
 right:A7 cur=true
 pre:∀ j,j<i->at0 cur j=at0 bs j
theorem T6 {bs:List Int}(hb:A7 bs=true)(hi:i<bs.length)(d:Nat):∀ cur:List Int,Upto bs cur i->i+d<bs.length->at0 cur (i+d)=at0 bs i ->
 Upto bs (bub cur i d).1 (i+1)/\invs (AZ bs) cur=invs (AZ bs) (bub cur i d).1+d/\(∀ s∈(bub cur i d).2,0<=s/\s+1<bs.length)/\(bub cur i d).2.foldl AC cur=(bub cur i d).1:=by
 induction d with
 | zero =>
   intro cur hu hd hx;refine⟨⟨hu.len,hu.right,fun j hj=>?_⟩,rfl,by simp[bub],rfl⟩
   by_cases e:j=i
   . subst e;exact hx
   . exact hu.pre j (by omega)
 | succ d ih =>
   intro cur hu hd hx;have hk:(i+d)+1<cur.length:=by rw[hu.len];omega
   have g1:Upto bs (AC cur ((i+d:Nat):Int)) i:=by
    refine⟨by rw[Dy,hu.len],T1 hu.right _,fun j hj=>?_⟩;rw[DL hk,Vs (by omega),Vs (by omega)];exact hu.pre j hj
   have g0:at0 (AC cur ((i+d:Nat):Int)) (i+d)=at0 bs i:=by
    rw[DL hk,Vw rfl];exact hx
   obtain⟨h1,h2,h3,h4⟩:=ih _ g1 (by omega) g0;refine⟨h1,?_,?_,?_⟩
   ·have g2:AZ bs (at0 cur (i+d))>AZ bs (at0 cur (i+d+1)):=by
     have e1:at0 cur (i+d+1)=at0 bs i:=hx;rw[e1,E2 hb hi];have hr:=((Ch cur).1 hu.right).1 (i+d) (by omega);obtain⟨q,hq,g3⟩:=G2 hb (x:=(at0 cur (i+d)).toNat) (by rw[<- hu.len];omega);have e2:at0 bs q=at0 cur (i+d):=by omega
     rw[<- e2,E2 hb hq];rcases VE i q with g4|g5
     . omega
     ·exfalso
      by_cases e3:q=i
      . subst e3;have:=Gl hu.right (i:=q+d) (j:=q+d+1) (by omega) (by omega) (by rw[<- e2,e1]);omega
      . have h5:=hu.pre q (by omega);rw[e2] at h5;have:=Gl hu.right (i:=q) (j:=i+d) (by omega) (by omega) h5;omega
    rw[T5 hk g2,h2]
    show _=invs _ (bub (AC cur ((i+d:Nat):Int)) i d).1+(d+1)
    omega
   ·intro s hs;rw[bub] at hs;rcases Wj.1 hs with rfl|hs
    . omega
    . exact h3 s hs
   . exact h4
theorem T7 {bs:List Int}(h:Upto bs cur bs.length):cur=bs:=Ez h.len fun k hk=>h.pre k (by rw[<- h.len];exact hk)
theorem T8 {bs:List Int}(hb:A7 bs=true):invs (AZ bs) bs=0:=by
 have key:∀ n k,n+k=bs.length->invs (AZ bs) (bs.drop k)=0:=by
  intro n
  induction n with
  | zero=>intro k hk;rw[Wu (by omega)];rfl
  | succ n ih =>
    intro k hk;rw[Fl (by omega)];simp only[invs];rw[ih (k+1) (by omega),XA,List.countP_eq_zero];intro y hy;obtain⟨j,hj,rfl⟩:=Xb.1 hy;simp only[XH] at hj;have e:(bs.drop (k+1))[j]'(by simpa using hj)=at0 bs (k+1+j):=by rw[As (by omega),List.getElem_drop]
    rw[e,E2 hb (by omega),E2 hb (by omega)];simp;omega
 have:=key bs.length 0 (by omega);simpa using this
theorem T9 {bs:List Int}(hb:A7 bs=true)(n:Nat):∀ (k:Nat) (cur:List Int),n+k=bs.length->Upto bs cur k ->
 (Ci cur (bs.drop k) k).length=invs (AZ bs) cur/\(∀ s∈Ci cur (bs.drop k) k,0<=s/\s+1<bs.length)/\(Ci cur (bs.drop k) k).foldl AC cur=bs:=by
 induction n with
 | zero =>
   intro k cur hk hu;obtain rfl:k=bs.length:=by omega
   obtain rfl:=T7 hu;rw[Wu (Vu _)];exact⟨(T8 hb).symm,by simp[Ci],rfl⟩
 | succ n ih =>
   intro k cur hk hu;have g0:k<bs.length:=by omega
   rw[JF cur bs k g0];obtain⟨q,hq,g5⟩:=G2 hu.right (x:=(at0 bs k).toNat) (by rw[hu.len];have:=((Ch bs).1 hb).1 k g0;omega);have g4:=((Ch bs).1 hb).1 k g0;have e1:at0 cur q=at0 bs k:=by omega
   have hp:AZ cur (at0 bs k)=q:=by rw[<- e1];exact E2 hu.right hq
   have g6:k<=q:=by
    rcases VE q k with g1|g2
    . have:=hu.pre q g1;rw[e1] at this;have:=Gl hb (i:=k) (j:=q) g0 (by omega) this;omega
    . exact g2
   have hd:∃ d,q=k+d:=⟨q-k,by omega⟩;obtain⟨d,rfl⟩:=hd;have g3:Dz cur (at0 bs k) k=bub cur k d:=by unfold Dz;rw[hp];congr 1;omega
   rw[g3];obtain⟨h1,h2,h3,h4⟩:=T6 hb g0 d cur hu (by rw[<- hu.len];exact hq) e1;obtain⟨i1,i2,i3⟩:=ih (k+1) _ (by omega) h1;refine⟨?_,?_,?_⟩
   . rw[Vx,i1,NZ,h2];omega
   ·intro s hs;rcases VF.1 hs with hs|hs
    . exact h3 s hs
    . exact i2 s hs
   . rw[Xt,h4];exact i3
theorem TA {as_ bs:List Int}(ha:A7 as_=true)(hb:A7 bs=true)(hl:as_.length=bs.length) :
 (BQ as_ bs).length=invs (AZ bs) as_/\(∀ s∈BQ as_ bs,0<=s/\s+1<bs.length)/\(BQ as_ bs).foldl AC as_=bs:=by
 have:=T9 hb bs.length 0 as_ (by omega) ⟨hl,ha,by omega⟩;unfold BQ;rw[Vw ⟨ha,hb,hl⟩];simpa using this
theorem SliceIs.same (h:SliceIs w v zs)(hk:∀ k,v.ownBlock=some k->w'.heap[k]?=w.heap[k]?):SliceIs w' v zs:=by
 obtain⟨a,c,rfl,⟨h1,h2⟩,h3⟩:=h;refine⟨a,c,rfl,⟨h1,fun k g0=>?_⟩,h3⟩;obtain⟨b,off,rfl,hc⟩:=h2 k g0;exact⟨b,off,rfl,Co hc (hk b rfl)⟩
theorem TB:DE 22 27 (.slice none 0 0) 24:=⟨underlying27,by kernel_rfl,rfl,by omega⟩
structure Cr (W:Wd)(xs:List Value)(gs:List (List Int)):Prop where
 len:xs.length=gs.length
 at_:∀ i (h:i<xs.length) (h2:i<gs.length),SliceIs W xs[i] gs[i]
def Dx (W:Wd)(v:Value)(gs:List (List Int)):Prop:=∃ a c xs,v=.slice a gs.length c/\(a=none->c=0)/\gs.length<=9223372036854775807/\Cr W xs gs/\∀ i (h:i<xs.length),∃ b off,a=some (Aw b off)/\W.cell? (Aw b (off+i))=some xs[i]
section
variable {xs:List Value}
theorem Dx.elem (h:Dx W v gs)(hi:i<gs.length):∃ b off c a2 c2,v=.slice (some (Aw b off)) gs.length c/\W.cell? (Aw b (off+i))=some (.slice a2 (gs.getD i []).length c2)/\Ar W a2 (gs.getD i [])/\(a2=none->c2=0):=by
 obtain⟨a,c,xs,e,hn,hl,hs,hc⟩:=h;have hx:i<xs.length:=by rw[hs.len];exact hi
 obtain⟨b,off,ea,h1⟩:=hc i hx;obtain⟨a2,c2,e2,h2,h3⟩:=hs.at_ i hx hi;subst ea;rw[e2] at h1;have eg:gs.getD i []=gs[i]:=by simp[List.getD,hi]
 rw[eg];exact⟨b,off,c,a2,c2,e,h1,h2,h3⟩
theorem Dx.slice (h:Dx W v gs):∃ a c,v=.slice a gs.length c/\(a=none->c=0):=by
 obtain⟨a,c,xs,e,hn,_⟩:=h;exact⟨a,c,e,hn⟩
theorem Cr.nil (W:Wd):Cr W [] []:=⟨rfl,fun i h=>by simp at h⟩
theorem Cr.snoc (h:Cr W xs gs){x:Value}{g:List Int}(hx:SliceIs W x g):Cr W (xs++[x]) (gs++[g]):=by
 have hl:=h.len;refine⟨by simp[hl],fun i h1 h2=>?_⟩;rcases VE i xs.length with h3|h3
 . rw[Ww h3,Ww (by omega)];exact h.at_ i h3 (by omega)
 ·have e:i=xs.length:=by simp at h1;omega
  subst e;rw[Wp (Vu _),Wp (by omega)];simpa using hx
theorem Dx.of_own (h:OwnC 22 W base v xs)(hs:Cr W xs gs)(hl:gs.length<=9223372036854775807):Dx W v gs:=by
 obtain⟨a,c,e,hn⟩:=h.slice;refine⟨a,c,xs,by rw[e,hs.len],hn,hl,hs,fun i hi=>?_⟩;obtain⟨g,cap,e2,_,_⟩:=h.shape (by omega);rw[e] at e2;injection e2 with e2 _ _
 subst e2;rw[e] at h;refine⟨g,0,rfl,?_⟩;rw[VW,h.cell i hi];simp[hi]
end
def FxO (K:Law)(n room:Nat)(w0:Wd)(mb:Nat)(ws0:List Ev)(C:Nat->Prop)(o0:Own)(wb:Wd)(B:Wd->Own->Prop)(P:List Nat->Prop)(fs:List (Int×BF))(nx:Int)(W:Wd):Prop :=
 ∃ o m V,ChgX C o0 o wb W/\m.waits <:+ ws0/\SatE K n P room w0 mb fs nx W o m V/\B W o
def AW (v:Value)(zs:List Int):Wd->Own->Prop:=fun W o=>SliceIs W v zs/\(∀ k,v.ownBlock=some k->k<W.heap.size/\o k=none)
theorem AW.keep :AA (AW v zs):=fun W o W' o' h hc =>
 ⟨h.1.same fun k hk=>hc.block k (h.2 k hk).1 (h.2 k hk).2 (fun e=>e),fun k hk=>⟨VJ (h.2 k hk).1 hc.size,hc.none' (h.2 k hk).1 (h.2 k hk).2⟩⟩
theorem AW.slice {o:Own}(h:AW v zs W o):SliceIs W v zs:=h.1
theorem MN (f:Int->Int):∀ zs:List Int,invs f zs<=zs.length*zs.length
 | []=>by simp[invs]
 | x::xs=>by
   have h1:=MN f xs;have h2:=List.countP_le_length (p:=fun y=>decide (f x>f y)) (l:=xs);simp only[invs,VO];have:(xs.length+1)*(xs.length+1)=xs.length*xs.length+2*xs.length+1:=by rw[Xm,Nat.mul_add];omega
   omega
theorem TC {l:List Nat}(h:k+1<l.length):(exL l k).map Int.ofNat=AC (l.map Int.ofNat) (k:Int):=by
 have hl:((exL l k).map Int.ofNat).length=(AC (l.map Int.ofNat) (k:Int)).length:=by rw[Dy,VP,VP,Mr]
 refine Ez hl fun j hj=>?_
 have g0:j<(exL l k).length:=by simpa using hj
 have g1:j<l.length:=by rw[Mr] at g0;exact g0
 rw[Dc g0,DL (by rw[VP];exact h)];split
 ·rename_i e
  subst e;rw[Ms h,Dc h]
 ·split
  ·rename_i e
   subst e;rw[SG h,Dc (by omega)]
  ·rename_i h1 h2
   rw[Mt h1 h2,Dc g1]
theorem IS (h:Gf zs n):A7 zs=true:=by
 have hl:=h.len;rw[Ch];refine⟨fun k hk=>?_,fun i hi k hk e=>?_⟩
 . obtain⟨v,hv,e⟩:=h.lt k (by omega);rw[e];omega
 . have:=h.inj k i (by omega) (by omega) e;omega
section
variable {P:List Nat->Prop}
theorem FxO.below (hB:AA B)(h:FxO K n room w0 mb ws0 C o0 wb B P fs nx W)(hb:Bw W w'):FxO K n room w0 mb ws0 C o0 wb B P fs nx w':=by
 obtain⟨o,m,V,h1,h2,h3,h4⟩:=h;exact⟨o,m,V,h1.trans (ChgX.of_below hb o NoB) NoB.sub,h2,h3.below hb,hB _ _ _ _ h4 (ChgX.of_below hb o NoB)⟩
theorem FxO.withB (h:FxO K n room w0 mb ws0 C o0 wb B P fs nx W)(hB:∀ o m V,SatE K n P room w0 mb fs nx W o m V->B W o->B' W o):FxO K n room w0 mb ws0 C o0 wb B' P fs nx W:=by
 obtain⟨o,m,V,h1,h2,h3,h4⟩:=h;exact⟨o,m,V,h1,h2,h3,hB _ _ _ h3 h4⟩
theorem FxO.imp (h:FxO K n room w0 mb ws0 C o0 wb B P fs nx W)(hP:∀ l,l.length=n->P l->P' l):FxO K n room w0 mb ws0 C o0 wb B P' fs nx W:=by
 obtain⟨o,m,V,h1,h2,h3,h4⟩:=h;exact⟨o,m,V,h1,h2,h3.withOd (hP _ h3.vars h3.od),h4⟩
theorem FxO.ask {R:Ending->Wd->Prop}(h:FxO K n room w0 mb ws0 C o0 wb B P fs nx W)(hc:∀ o m V,SatE K n P room w0 mb fs nx W o m V->B W o->Calls prog f args W R):Calls prog f args W R:=by
 obtain⟨o,m,V,_,_,h3,h4⟩:=h;exact hc o m V h3 h4
theorem FxO.below0 (h:FxO K n room w0 mb ws0 C o0 wb B P fs nx W):Bw w0 W:=by
 obtain⟨o,m,V,_,_,h3,_⟩:=h;exact h3.chg.below0
theorem FxO.know (h:FxO K n room w0 mb ws0 C o0 wb B P fs nx W){Q:Wd->Prop}(hq:∀ W o,B W o->Q W):Q W:=by
 obtain⟨o,m,V,_,_,h3,h4⟩:=h;exact hq _ _ h4
theorem FxO.mine (hB:AA B)(h:FxO K n room w0 mb ws0 C o0 wb B P fs nx W)(hb:Bw W w')(hv:SliceIs w' v zs)(hk:∀ k,v.ownBlock=some k->W.heap.size<=k/\k<w'.heap.size):FxO K n room w0 mb ws0 C o0 wb (fun W o=>B W o/\AW v zs W o) P fs nx w':=by
 obtain⟨o,m,V,h1,h2,h3,h4⟩:=h;exact⟨o,m,V,h1.trans (ChgX.of_below hb o NoB) NoB.sub,h2,h3.below hb,hB _ _ _ _ h4 (ChgX.of_below hb o NoB),hv,fun k g0=>⟨(hk k g0).2,h3.lt.none (hk k g0).1⟩⟩
theorem FxO.order (hB:AA B)(h:FxO K n room w0 mb ws0 C o0 wb B P fs nx W) :
 Cl 19 #[Pt mb] W fun x w'=>∃ (v:Value) (l:List Nat),x=.returned v/\l.length=n/\P l/\A7 (l.map Int.ofNat)=true/\OwnI w' W.heap.size v (l.map Int.ofNat)/\FxO K n room w0 mb ws0 C o0 wb (fun W o=>B W o/\AW v (l.map Int.ofNat) W o) (fun l'=>l'=l) fs nx w'/\Bw W w':=by
 obtain⟨o,m,V,h1,h2,h3,h4⟩:=h;have hn64:n<=64:=by have:=h3.ok.store.small;rw[h3.vars] at this;exact this
 refine(KN h3.is h3.lt (by rw[h3.vars];exact hn64)).mono ?_;rintro x w' ⟨v,rfl,hv,hb⟩;have hp:=h3.ok.store.permB;have hc:=ChgX.of_below hb o NoB;refine⟨v,m.d.vars,rfl,h3.vars,h3.od,IS (Gg hp),hv,⟨o,m,V,h1.trans hc NoB.sub,h2,(h3.below hb).withOd rfl,hB _ _ _ _ h4 hc,hv.sliceIs (by rw[VP,h3.vars];omega),fun k hk=>?_⟩,hb⟩;have:=hv.lt k hk;exact⟨this.2,h3.lt.none this.1⟩
theorem FxO.vars (h:FxO K n room w0 mb ws0 C o0 wb B P fs nx W):Cl 62 #[Pt mb] W (Sm (Iv n) W) :=
 h.ask fun _ _ _ hs _=>hs.vars_any
theorem FxO.swap (hB:AA B)(h:FxO K n room w0 mb ws0 C o0 wb B P fs nx W)(hk1:k+1<n)(hn:nx<=549755813888)(hr:3*(fs.length*2^n)<=room)(hP:∀ l,l.length=n->P l->P' (exL l k)) :
 Cl 113 #[Pt mb,Iv k] W fun e w'=>e=.returned (Iv 0)/\FxO K n room w0 mb ws0 C o0 wb B P' fs nx w':=by
 obtain⟨o,m,V,h1,h2,h3,h4⟩:=h;refine(Me h3 hk1 hn hr).mono ?_;rintro e w' ⟨rfl,o2,m2,V2,s⟩;have hc:=ChgX.of_chg s.chg NoB;refine⟨rfl,o2,m2,V2,h1.trans hc NoB.sub,by rw[s.waits];exact h2,s.sat.withOd ?_,hB _ _ _ _ h4 hc⟩;rw[s.sat.od,Mu];exact hP _ h3.vars h3.od
end
theorem MO {x y:Value}{b:Bool}(h1:TabA n w x F)(h2:TabA n w y G)(d1:DepF n F)(d2:DepF n G)(hb:b=true↔F=G):Cl 181 #[x,y] w (Bl (.bool b) w):=by
 obtain⟨a,c,rfl,k1⟩:=h1;obtain⟨a2,c2,rfl,k2⟩:=h2;have:=To (tabB n F) (tabB n G) (by simp[CA]) a a2 c c2 w k1 k2;rw[CA] at this;refine this.mono ?_;rintro e w' ⟨rfl,g0⟩;refine⟨?_,g0⟩;rw[show decide (tabB n F=tabB n G)=b from ?_];rw[Bool.eq_iff_iff,decide_eq_true_iff,hb];exact⟨fun e=>IK d1 d2 e,fun e=>by rw[e]⟩
def Bj (l:List BF)(F:BF):Prop:=∃ i,∃ h:i<l.length,l[i]=F\/l[i]=notF F
theorem MP (n:Nat)(F:BF)(v:Nat)(b:Bool)(hn:n<=16)(hv:v<n)(au:Option Addr)(cu:Nat)(w:Wd)(h1:Cd w au (tabB n F)) :
 Cl 132 #[.slice au (2^n) cu,Iv v,.bool b] w fun x w'=>∃ g,x=.returned (.slice (some (Av g)) (2^n) (2^n))/\OwnB w' w.heap.size (.slice (some (Av g)) (2^n) (2^n)) (tabB n (cofF F v b))/\Bw w w':=by
 have H1:=Hd h1;have gn:2^n<=1000000:=IQ hn;have gi:2^v<=1000000:=IQ (by omega);have go:Hq (∀ i,i<=1048576->∀ W,Cl 183 #[Iv (i:Nat),Iv (v:Nat)] W (Sm (.bool (bitB i v)) W)):=Hd fun i hi W=>QR i v hi (by omega) W
 obtain⟨G,hG⟩:=Ex (fun i=>cofF F v b (AF (AP i n)):Nat->Bool)
 have HT:Hq (tabB n (cofF F v b)=(List.range (2^n)).map G):=Hd (by rw[hG];rfl);have gg:Hq (∀ j,j<2^n->cofI j v b<2^n/\(tabB n F).getD (cofI j v b) false=G j):=Hd fun j hj=>⟨MG hj hv,by rw[hG];exact Tr hj hv⟩
 have gf:Hq ((tabB n F).length=2^n):=Hd (CA n F);rw[HT.o];obtain⟨L,hL⟩:=Ex (2^n);obtain⟨p,hp⟩:=Ex (2^v);have gh:Hq (∀ W,Cl 158 #[Iv (v:Nat)] W (Sm (Iv (p:Nat)) W)):=Hd fun W=>by rw[hp];exact I0 v (by omega) W
 have HCI:Hq (∀ j,cofI j v b=if bitB j v && !b then j-p else if !bitB j v&&b then j+p else j):=Hd fun j=>by rw[hp];rfl
 have gq:Hq (∀ j,bitB j v=true->p<=j):=Hd fun j hj=>by
  rcases VE j p with h|h
  . unfold bitB at hj;rw[<- hp,XT h] at hj;simp at hj
  . exact h
 rw[<- hL] at gn gg gf ⊢;rw[<- hp] at gi;clear hL hp h1 hG HT
 go_enter func132,ntmps132
 go_wp2_with (at_make;refine FQ Du rfl _ _ rfl w.heap.size w _ L rfl rfl rfl (by omega) (Vu _) (VI _ _) ?_;intro g w1 g6 ge hs1 g1 gm gl;clear gl)
 go_loopw [8,9] (fun s8 s9 wr=>∃ j:Nat,j<=L/\s8=Iv j/\Hq (OwnB wr w.heap.size (.slice (some (Av g)) L L) (((List.range L).map G).take j++(List.replicate L false).drop j))/\Hq (Bw w wr)) (fun s8 _ _=>L-(intOf s8).toNat)
 case atStart=>exact⟨0,by omega,rfl,Hd (by unfold OwnB;simpa [AL] using g6),Hd ge⟩
 case round =>
  clear g6 ge;obtain⟨j,hj,rfl,g3,g5⟩:=hrel
  by_cases ga:j<L
  ·have gk:j<((List.range L).map G).length:=by simp;exact ga
   obtain⟨gc,g9⟩:=gg.o j ga;have g0:=HCI.o j;have g4:=gq.o j;obtain⟨kk,gd⟩:=Ex (cofI j v b);rw[<- gd] at gc g9 g0;obtain⟨b1,of1,e1,c1⟩:=(H1.o.below g5.o).cells kk (by rw[gf.o];exact gc);rw[g9] at c1;have q0:=g3.o.cellB j (by simp;omega);have p0:=g3.o.frozen j;subst e1;obtain⟨y,hy⟩:=Ex (G j);rw[<- hy] at c1;have gp:Hq (((List.range L).map G)[j]=y):=Hd (by rw[hy];simp);obtain⟨t,ht⟩:=Ex (bitB j v);rw[<- ht] at g0 g4;have g2:Hq (∀ W,Cl 183 #[Iv (j:Nat),Iv (v:Nat)] W (Sm (.bool t) W)):=Hd fun W=>by rw[ht];exact go.o j (by omega) W
   have gt:(kk:Int)<(L:Int):=by omega
   have g7:Hq (OwnB (wr.setCell (Aw g j) (.bool y)) w.heap.size (.slice (some (Av g)) L L) (((List.range L).map G).take (j+1)++(List.replicate L false).drop (j+1))):=Hd (by
    rw[<- Lm (by simp;omega) gk gp.o];exact g3.o.setB j y)
   have g8:Hq (Bw w (wr.setCell (Aw g j) (.bool y))):=Hd (g5.o.setCell gm _);clear g9 hy ht gd g3 H1;cases t<;>cases b
   ·have g1:kk=j:=by simpa using g0
    subst g1;clear g0 g4;go_wp2_with fail;refine(g2.o _).mono ?_;rintro x w2 ⟨rfl,rfl⟩;go_wp2_with fail;refine(g2.o _).mono ?_;rintro x w2 ⟨rfl,rfl⟩;go_wp2_with fail;go_roundw
    case rel=>exact⟨kk+1,by omega,by go_num,g7,g8⟩
    case measure=>simp[intOf];omega
   ·have g1:kk=j+p:=by simpa using g0
    have gj:(j:Int)+(p:Int)=(kk:Nat):=by omega
    clear g0 g4 g1;go_wp2_with fail;refine(g2.o _).mono ?_;rintro x w2 ⟨rfl,rfl⟩;go_wp2_with fail;refine(g2.o _).mono ?_;rintro x w2 ⟨rfl,rfl⟩;go_wp2_with fail;refine(gh.o _).mono ?_;rintro x w2 ⟨rfl,rfl⟩;go_wp2_with fail;go_roundw
    case rel=>exact⟨j+1,by omega,by go_num,g7,g8⟩
    case measure=>simp[intOf];omega
   ·have g1:kk=j-p:=by simpa using g0
    have:=g4 rfl;have gj:(j:Int)-(p:Int)=(kk:Nat):=by omega
    clear g0 g4 g1;go_wp2_with fail;refine(g2.o _).mono ?_;rintro x w2 ⟨rfl,rfl⟩;go_wp2_with fail;refine(gh.o _).mono ?_;rintro x w2 ⟨rfl,rfl⟩;go_wp2_with fail;refine(g2.o _).mono ?_;rintro x w2 ⟨rfl,rfl⟩;go_wp2_with fail;go_roundw
    case rel=>exact⟨j+1,by omega,by go_num,g7,g8⟩
    case measure=>simp[intOf];omega
   ·have g1:kk=j:=by simpa using g0
    subst g1;clear g0 g4;go_wp2_with fail;refine(g2.o _).mono ?_;rintro x w2 ⟨rfl,rfl⟩;go_wp2_with fail;refine(g2.o _).mono ?_;rintro x w2 ⟨rfl,rfl⟩;go_wp2_with fail;go_roundw
    case rel=>exact⟨kk+1,by omega,by go_num,g7,g8⟩
    case measure=>simp[intOf];omega
  ·obtain rfl:j=L:=by omega
   have gr:((List.range j).map G).length=j:=by simp
   have HF:Hq (OwnB wr w.heap.size (.slice (some (Av g)) j j) ((List.range j).map G)):=Hd (by
    have h:=g3.o;rw[Wv (by omega),Wu (by simp),WU] at h;exact h)
   go_wp2_with fail;go_ret;exact⟨g,rfl,HF.o,g5.o⟩
section
theorem TD {top:Int}(h:TopS d [f] top least):(top = -1/\Aa d (f/2)=none)\/∃ b,Aa d (f/2)=some b/\top=(b.v:Nat):=by
 rcases h with ⟨h1,_,h3⟩|⟨v,h1,_,_,⟨e,he,b,hb,hv⟩,_⟩
 . exact .inl ⟨h1,h3 f (by simp)⟩
 . simp only[VB] at he;subst he;exact .inr ⟨b,hb,by rw[h1,hv]⟩
end
def Ind (F:BF)(v:Nat):Prop:=∀ b,cofF F v b=F
open Classical in
theorem IT (F:BF)(v:Nat)(b c:Bool):cofF (cofF F v b) v c=cofF F v b:=by
 funext ρ;unfold cofF;congr 1;funext u
 by_cases h:u=v<;>simp[h]
theorem TE (F:BF){u v:Nat}(h:u≠v)(a b:Bool):cofF (cofF F u a) v b=cofF (cofF F v b) u a:=by
 funext ρ;unfold cofF;congr 1;funext x;dsimp only
 by_cases h1:x=u
 ·have h2:¬ x=v:=fun e=>h (h1.symm.trans e)
  simp only[Vw h1,Vs h2]
 ·by_cases h2:x=v
  . simp only[Vs h1,Vw h2]
  . simp only[Vs h1,Vs h2]
theorem Ind.cof {u:Nat}(h:Ind F u)(v:Nat)(b:Bool):Ind (cofF F v b) u:=fun c=>by
 by_cases e:u=v
 . subst e;exact IT F u b c
 . rw[TE F (fun h=>e h.symm),h c]
theorem Ind.at {F:BF}{v:Nat}(h:Ind F v)(ρ:Nat->Bool)(b:Bool):F (upd ρ v b)=F ρ:=by
 have:=congrFun (h b) ρ
 rwa [Fa] at this
theorem IU (h:Ak d V){v:Nat}(hf:okE (Aa d) f)(hv:v<d.vars.length)(hl:levN d v<=lvE d.vars.length (levN d) (Aa d) f) :
 ef V (cofs d f v).1=cofF (ef V f) v false/\ef V (cofs d f v).2=cofF (ef V f) v true:=by
 obtain⟨q1,q2,q3,q4,q5⟩:=BY h hf hv hl;constructor
 . funext ρ;rw[Fa,q5,E4,h.dag.indep_var q1 q3];rfl
 . funext ρ;rw[Fa,q5,E4,h.dag.indep_var q2 q4];rfl
structure C4 (u u':Value)(w w':Wd):Prop where
 os:w'.os=w.os
 tape:w'.tape=w.tape
 output:w'.output=w.output
 size:w.heap.size<=w'.heap.size
 app:BA u u' w w'
section
variable {u' u'' x:Value}{B:Nat}
theorem C4.below (h:C4 u u' w w')(hB:B<=w.heap.size)(hu:∀ k,u.ownBlock=some k->B<=k):Below B w w' :=
 ⟨h.os,h.tape,h.output,h.size,fun k hk=>h.app.keep k (by omega) (fun e=>by have:=hu k e.symm;omega)⟩
theorem Gm (h:DepF n F){v:Nat}(hh:AS n F v=false):Ind F v:=by
 have e:cofF F v false=cofF F v true:=by
  by_cases c:cofF F v false=cofF F v true
  . exact c
  . have:=(Dd h v).2 c;rw[hh] at this;cases this
 have e2:∀ b,cofF F v b=cofF F v true:=fun b=>by cases b;exact e;rfl
 intro b;rw[e2 b];funext ρ;have h1:=congrFun (e2 (ρ v)) ρ;rw[<- h1]
 show F (fun u=>if u=v then ρ v else ρ u)=F ρ
 congr 1;funext u
 by_cases c:u=v
 . rw[Vw c,c]
 . rw[Vs c]
theorem MQ (h:DepF n F){v:Nat}(hi:Ind F v):AS n F v=false:=by
 cases hh:AS n F v with
 | false=>rfl
 | true=>exact absurd ((hi false).trans (hi true).symm) ((Dd h v).1 hh)
theorem MR (h:DepF n F)(hi:∀ v,v<n->Ind F v):∃ c,F=fun _=>c:=by
 have key:∀ k,k<=n->∀ ρ,F ρ=F (fun v=>if v<k then false else ρ v):=by
  intro k
  induction k with
  | zero=>intro _ ρ;simp
  | succ k ih =>
    intro hk ρ;rw[ih (by omega) ρ,<- (hi k (by omega)).at _ false];congr 1;funext v;unfold upd
    by_cases c:v=k
    . subst c;simp
    ·by_cases c2:v<k
     . simp[c,c2,show v<k+1 by omega]
     . simp[c,c2,show ¬ v<k+1 by omega]
 refine⟨F fun _=>false,funext fun ρ=>?_⟩;rw[key n (Vu _) ρ];exact h _ _ fun v hv=>by simp[hv]
theorem MS (p:Nat->Bool):∀ m,(∃ i,i<m/\p i=true)->∃ q,q<m/\p q=true/\∀ j,j<q->p j=false
 | 0,h=>by obtain⟨i,hi,_⟩:=h;omega
 | m+1,h=>by
   by_cases c:∃ i,i<m/\p i=true
   . obtain⟨q,h1,h2,h3⟩:=MS p m c;exact⟨q,by omega,h2,h3⟩
   ·have hn:∀ j,j<m->p j=false:=fun j hj=>by
     cases e:p j with
     | false=>rfl
     | true=>exact absurd ⟨j,hj,e⟩ c
    obtain⟨i,hi,e⟩:=h;obtain rfl:i=m:=by
     rcases VE i m with h1|h1
     . rw[hn i h1] at e;cases e
     . omega
    exact⟨i,hi,e,hn⟩
theorem MT {l:List Nat}(h:∃ v∈l,AS n F v=true):∃ q,q<l.length/\topR n F l=(l.getD q 0:Nat)/\AS n F (l.getD q 0)=true/\∀ j,j<q->AS n F (l.getD j 0)=false:=by
 obtain⟨v,hv,hh⟩:=h;obtain⟨i,hi,rfl⟩:=WW hv;obtain⟨q,h1,h2,h3⟩:=MS (fun q=>AS n F (l.getD q 0)) l.length ⟨i,hi,by simpa [List.getD,hi] using hh⟩;exact⟨q,h1,Gk l q h1 h2 h3,h2,h3⟩
end
open Classical in
noncomputable def belF (n:Nat)(os:List Nat):Nat->List BF->BF->List BF
 | 0,l,_=>l
 | k+1,l,F=>if (∃ c,F=fun _=>c)\/Bj l F then l else belF n os k (belF n os k (l++[F]) (cofF F (topR n F os).toNat false)) (cofF F (topR n F os).toNat true)
theorem IV (n:Nat)(os:List Nat):∀ (k:Nat) (l:List BF) (F:BF),(belF n os k l F).length+1<=l.length+2^k
 | 0,l,F=>by simp[belF]
 | k+1,l,F=>by
   unfold belF;have hp:0<2^k:=Xe (by omega);rw[WZ];split
   . omega
   . have h1:=IV n os k (l++[F]) (cofF F (topR n F os).toNat false);have h2:=IV n os k (belF n os k (l++[F]) (cofF F (topR n F os).toNat false)) (cofF F (topR n F os).toNat true);rw[Vx,WX] at h1;omega
def PosF (os:List Nat)(p:Nat)(F:BF):Prop:=∀ j,j<p->Ind F (os.getD j 0)
section
variable {p:Nat}{l:List BF}
theorem MU (h:DepF n F)(hp:PosF os n F)(hl:os.length=n)(hmem:∀ v,v<n->v∈os):∃ c,F=fun _=>c :=
 MR h fun v hv=>by
  obtain⟨i,hi,e⟩:=WW (hmem v hv);have:=hp i (by omega)
  rwa [show os.getD i 0=v by simp[List.getD,hi,e]] at this
theorem TF (h:DepF n F)(hp:PosF os p F)(hlt:∀ v∈os,v<n)(hmem:∀ v,v<n->v∈os)(hnc:¬ ∃ c,F=fun _=>c) :
 ∃ v:Nat,topR n F os=(v:Nat)/\v<n/\∀ b,PosF os (p+1) (cofF F v b)/\DepF n (cofF F v b):=by
 have g1:∃ v∈os,AS n F v=true:=by
  by_cases c:∃ v∈os,AS n F v=true
  . exact c
  ·exact absurd (MR h fun v hv=>Gm h (by
    cases e:AS n F v with
    | false=>rfl
    | true=>exact absurd ⟨v,hmem v hv,e⟩ c)) hnc
 obtain⟨q,hq,h1,h2,h3⟩:=MT g1;have g0:os.getD q 0∈os:=by simp[List.getD,hq]
 refine⟨os.getD q 0,h1,hlt _ g0,fun b=>⟨fun j hj=>?_,Ca h _ b⟩⟩;have g2:p<=q:=by
  rcases VE q p with c|c
  . have:=MQ h (hp q c);rw[h2] at this;cases this
  . exact c
 rcases VE j q with c|c
 . exact(Gm h (h3 j c)).cof _ b
 ·obtain rfl:j=q:=by omega
  exact fun c=>IT F _ b c
theorem IW (h:(∃ c,F=fun _=>c)\/Bj l F):belF n os k l F=l:=by
 cases k with
 | zero=>rfl
 | succ k=>unfold belF;rw[Vw h]
theorem MV {v:Nat}(h:¬ ((∃ c,F=fun _=>c)\/Bj l F))(hv:topR n F os=(v:Nat)):belF n os (k+1) l F=belF n os k (belF n os k (l++[F]) (cofF F v false)) (cofF F v true):=by
 rw[belF,Vs h,hv];rfl
theorem Gn (n:Nat)(os:List Nat):∀ (k:Nat) (l:List BF) (F:BF),(∀ G∈l,DepF n G)->DepF n F->∀ G∈belF n os k l F,DepF n G
 | 0,l,F,hl,_=>hl
 | k+1,l,F,hl,h=>by
   unfold belF;split
   . exact hl
   ·exact Gn n os k _ _ (Gn n os k _ _ (fun G hG=>by
     rcases VF.1 hG with h1|h1
     . exact hl G h1
     . simp at h1;subst h1;exact h) (Ca h _ _)) (Ca h _ _)
end
noncomputable def nodesF (n:Nat)(os:List Nat)(Gs:List BF):List BF:=Gs.foldl (fun l G=>belF n os n l G) []
def AB (d:Ae):Nat->List Nat->Nat->List Nat
 | 0,met,_=>met
 | k+1,met,f=>match Aa d (f/2) with
   | none=>met
   | some b=>if f/2∈met then met else AB d k (AB d k (met++[f/2]) (cofs d f b.v).1) (cofs d f b.v).2
structure RelN (d:Ae)(V:Nat->BF)(met:List Nat)(l:List BF):Prop where
 len:met.length=l.length
 node:∀ i∈met,∃ b,Aa d i=some b
 fn:∀ i (h:i<met.length) (h2:i<l.length),l[i]=V met[i]\/l[i]=notF (V met[i])
section
theorem MW (F:BF):notF (notF F)=F:=funext fun ρ=>by show (!(!F ρ))=F ρ;simp
theorem IX (f:Nat):ef V f=V (f/2)\/ef V f=notF (V (f/2)):=by
 rcases(show f%2=0\/f%2=1 by omega) with h|h
 . exact .inl (funext fun ρ=>by simp[ef,h])
 . exact .inr (funext fun ρ=>by simp[ef,h,notF])
theorem IY (h:Ak d V)(h0:Aa d 0=none)(hf:okE (Aa d) f):(∃ c,ef V f=fun _=>c)↔Aa d (f/2)=none:=by
 constructor
 ·rintro⟨c,hc⟩;have:f=0\/f=1:=by
   cases c with
   | true=>exact .inl ((h.dag.canon_iff hf (.inl rfl)).1 (by rw[hc,h.dag.ef0]))
   | false=>exact .inr ((h.dag.canon_iff hf (.inl rfl)).1 (by rw[hc,h.dag.ef1]))
  rcases this with rfl|rfl<;>exact h0
 ·intro hn;rcases hf with h1|⟨b,hb⟩
  . rw[Tv h h1];exact⟨_,rfl⟩
  . rw[hn] at hb;cases hb
theorem MX (h:Ak d V)(hf:okE (Aa d) f){l:List BF}(hr:RelN d V met l):Bj l (ef V f)↔f/2∈met:=by
 constructor
 ·rintro⟨i,hi,he⟩;have hm:i<met.length:=by rw[hr.len];exact hi
  obtain⟨b,hb⟩:=hr.node _ (VG hm);have hE:∀ c,c<2->okE (Aa d) (2*met[i]+c):=fun c hc=>.inr ⟨b,by rw[show (2*met[i]+c)/2=met[i] by omega];exact hb⟩
  have g1:ef V (2*met[i]+0)=V met[i]:=funext fun ρ=>by unfold ef;rw[show (2*met[i]+0)/2=met[i] by omega,show (2*met[i]+0)%2=0 by omega];simp
  have g0:ef V (2*met[i]+1)=notF (V met[i]):=funext fun ρ=>by unfold ef notF;rw[show (2*met[i]+1)/2=met[i] by omega,show (2*met[i]+1)%2=1 by omega];simp
  have hn:=Tt V f;have key:∀ e,okE (Aa d) e->e/2=met[i]->(ef V e=ef V f\/ef V e=ef V (enot f))->f/2=met[i]:=fun e he h2 h3=>by
   rcases h3 with h3|h3
   . rw[<- (h.dag.canon_iff he hf).1 h3];exact h2
   . have:=(h.dag.canon_iff he (JP hf)).1 h3;rw[this,D2] at h2;exact h2
  have:f/2=met[i]:=by
   rcases hr.fn i hm hi with e|e
   . exact key _ (hE 0 (by omega)) (by omega) (by rw[g1,<- e,hn];exact he)
   . exact key _ (hE 1 (by omega)) (by omega) (by rw[g0,<- e,hn];exact he)
  rw[this];exact VG hm
 ·intro hm;obtain⟨i,hi,he⟩:=WW hm;refine⟨i,by rw[<- hr.len];exact hi,?_⟩;have h1:=hr.fn i hi (by rw[<- hr.len];exact hi);rw[he] at h1;rcases IX (V:=V) f with e|e<;>rcases h1 with e2|e2<;>rw[e,e2]
  . exact .inl rfl
  . exact .inr rfl
  . exact .inr (MW _).symm
  . exact .inl rfl
theorem IZ (h:Ak d V)(h0:Aa d 0=none):∀ (k:Nat) (met:List Nat) (l:List BF) (f:Nat),okE (Aa d) f->RelN d V met l->RelN d V (AB d k met f) (belF d.vars.length d.vars k l (ef V f))
 | 0,met,l,f,_,hr=>hr
 | k+1,met,l,f,hf,hr=>by
   cases hb:Aa d (f/2) with
   | none =>
     rw[IW (.inl ((IY h h0 hf).2 hb))];unfold AB;rw[hb];exact hr
   | some b =>
     unfold AB;rw[hb]
     show RelN d V (if f/2∈met then met else _) _
     by_cases hm:f/2∈met
     . rw[Vw hm,IW (.inr ((MX h hf hr).2 hm))];exact hr
     ·have hnc:¬ ∃ c,ef V f=fun _=>c:=fun e=>by rw[(IY h h0 hf).1 e] at hb;cases hb
      obtain⟨htop,hbv⟩:=MJ h hb;rw[Vs hm,MV (fun e=>e.elim hnc fun e=>hm ((MX h hf hr).1 e)) htop];have hl:levN d b.v<=lvE d.vars.length (levN d) (Aa d) f:=by unfold lvE;rw[hb];exact Vu _
      obtain⟨q1,q2,_⟩:=BY h hf hbv hl;obtain⟨e1,e2⟩:=IU h hf hbv hl;rw[<- e1,<- e2];refine IZ h h0 k _ _ _ q2 (IZ h h0 k _ _ _ q1 ⟨by simp[hr.len],fun i hi=>?_,fun i h1 h2=>?_⟩)
      ·rcases VF.1 hi with c|c
       . exact hr.node i c
       . simp at c;subst c;exact⟨b,hb⟩
      ·rcases VE i met.length with c|c
       . rw[Ww c,Ww (by rw[<- hr.len];exact c)];exact hr.fn i c _
       ·have e:i=met.length:=by simp at h1;omega
        subst e;rw[Wp (Vu _),Wp (by rw[hr.len];exact Vu _)];simpa using IX (V:=V) f
end
def B9 (v:Nat):List (Nat×Nat)->List (Nat×Nat)
 | []=>[(v,1)]
 | p::r=>if p.1=v then (v,p.2+1)::r else p::B9 v r
def getC (v:Nat):List (Nat×Nat)->Nat
 | []=>0
 | p::r=>if p.1=v then p.2 else getC v r
def sumC (l:List (Nat×Nat)):Nat:=(l.map (·.2)).sum
theorem MY (v:Nat):∀ l,sumC (B9 v l)=sumC l+1
 | []=>rfl
 | p::r=>by
   unfold B9;split
   . simp only[sumC,WG,List.sum_cons];omega
   . have:=MY v r;simp only[sumC,WG,List.sum_cons] at this ⊢;omega
theorem MZ (v u:Nat):∀ l,getC u (B9 v l)=getC u l+(if u=v then 1 else 0)
 | []=>by
   show (if v=u then 1 else 0)=0+_
   by_cases h:u=v
   . subst h;simp
   . rw[Vs h,Vs (fun e=>h e.symm)]
 | p::r=>by
   unfold B9
   by_cases h:p.1=v
   ·rw[Vw h]
    show (if v=u then p.2+1 else getC u r)=(if p.1=u then p.2 else getC u r)+_
    rw[h]
    by_cases e:v=u
    . rw[Vw e,Vw e,Vw e.symm]
    . rw[Vs e,Vs e,Vs (fun c=>e c.symm),XA]
   ·rw[Vs h]
    show (if p.1=u then p.2 else getC u (B9 v r))=(if p.1=u then p.2 else getC u r)+_
    by_cases e:p.1=u
    . rw[Vw e,Vw e,Vs (fun c=>h (e.trans c)),XA]
    . rw[Vs e,Vs e,MZ v u r]
theorem Na (v:Nat):∀ l,getC v l<=sumC l
 | []=>Vu _
 | p::r=>by
   have:=Na v r;simp only[getC,sumC,WG,List.sum_cons] at this ⊢;split<;>omega
def vrD (d:Ae)(i:Nat):Nat:=match Aa d i with|some b=>b.v|none=>0
def tally (d:Ae)(met:List Nat):List (Nat×Nat):=met.foldl (fun c i=>B9 (vrD d i) c) []
section
theorem TG (met:List Nat)(i:Nat):tally d (met++[i])=B9 (vrD d i) (tally d met):=by
 unfold tally;rw[Xt];rfl
theorem TH (met:List Nat){b:BN}(hb:Aa d i=some b):tally d (met++[i])=B9 b.v (tally d met):=by
 rw[TG,show vrD d i=b.v by unfold vrD;rw[hb]]
theorem Nb (c:List (Nat×Nat))(v:Nat):∀ met:List Nat,sumC (met.foldl (fun c i=>B9 (vrD d i) c) c)=sumC c+met.length/\getC v (met.foldl (fun c i=>B9 (vrD d i) c) c)=getC v c+met.countP fun i=>vrD d i=v:=by
 intro met
 induction met generalizing c with
 | nil=>exact⟨rfl,rfl⟩
 | cons i r ih =>
   obtain⟨h1,h2⟩:=ih (B9 (vrD d i) c);refine⟨?_,?_⟩
   . rw[List.foldl_cons,h1,MY,VO];omega
   ·rw[List.foldl_cons,h2,MZ,List.countP_cons]
    by_cases e:v=vrD d i
    . rw[Vw e,Vw (by simp[e])];omega
    . rw[Vs e,Vs (by simpa using fun c=>e c.symm)];omega
theorem Ja (met:List Nat):sumC (tally d met)=met.length:=by
 have:=(Nb (d:=d) [] 0 met).1;unfold tally;rw[this];simp[sumC]
theorem TI (met:List Nat)(v:Nat):getC v (tally d met)=met.countP fun i=>vrD d i=v:=by
 have:=(Nb (d:=d) [] v met).2;unfold tally;rw[this];simp[getC]
structure Cs (d:Ae)(met:List Nat):Prop where
 nd:met.Nodup
 node:∀ i∈met,∃ b,Aa d i=some b
theorem Cs.snoc (h:Cs d met){b:BN}(hb:Aa d i=some b)(hn:i∉met):Cs d (met++[i]):=by
 refine⟨Wh.2 ⟨h.nd,by simp,fun a ha c hc e=>?_⟩,fun j hj=>?_⟩
 . simp at hc;subst hc;subst e;exact hn ha
 ·rcases VF.1 hj with c|c
  . exact h.node j c
  . simp at c;subst c;exact⟨b,hb⟩
theorem Cs.len (h:Cs d met)(hlt:∀ e,okE (Aa d) e->e<eMax):met.length<=2305843009213693952:=by
 refine Ek _ _ h.nd fun i hi=>?_
 obtain⟨b,hb⟩:=h.node i hi;have:=hlt (2*i) (.inr ⟨b,by rw[show 2*i/2=i by omega];exact hb⟩);unfold eMax at this;omega
theorem Jb (h:Ak d V):∀ (k:Nat) (met:List Nat) (f:Nat),Cs d met->Cs d (AB d k met f)
 | 0,met,f,hm=>hm
 | k+1,met,f,hm=>by
   unfold AB;cases hb:Aa d (f/2) with
   | none=>exact hm
   | some b =>
     show Cs d (if f/2∈met then met else _)
     by_cases c:f/2∈met
     . rw[Vw c];exact hm
     . rw[Vs c];exact Jb h k _ _ (Jb h k _ _ (hm.snoc hb c))
def CN (d:Ae)(l:List Nat):List Nat:=l.foldl (fun met f=>AB d d.vars.length met f) []
theorem TJ (l:List Nat)(hi:i<l.length):CN d (l.take (i+1))=AB d d.vars.length (CN d (l.take i)) l[i]:=by
 unfold CN;rw[List.take_add_one,VA hi,Xt];rfl
theorem Nc (h:Ak d V)(l:List Nat):Cs d (CN d l):=by
 unfold CN;have:∀ (l met:List Nat),Cs d met->Cs d (l.foldl (fun met f=>AB d d.vars.length met f) met):=by
  intro l
  induction l with
  | nil=>intro met hm;exact hm
  | cons f r ih=>intro met hm;exact ih _ (Jb h _ _ _ hm)
 exact this l [] ⟨List.nodup_nil,by simp⟩
theorem TK (h:Ak d V)(l:List Nat)(hl:∀ f∈l,okE (Aa d) f):(CN d l).length=(nodesF d.vars.length d.vars (l.map (ef V))).length:=by
 have:∀ (l:List Nat) (met:List Nat) (gs:List BF),(∀ f∈l,okE (Aa d) f)->RelN d V met gs->RelN d V (l.foldl (fun met f=>AB d d.vars.length met f) met) ((l.map (ef V)).foldl (fun l G=>belF d.vars.length d.vars d.vars.length l G) gs):=by
  intro l
  induction l with
  | nil=>intro met gs _ hr;exact hr
  | cons f r ih =>
    intro met gs hl hr;exact ih _ _ (fun g hg=>hl g (Wi _ hg)) (IZ h h.dag.none0 _ _ _ f (hl f (VM ..)) hr)
 exact(this l [] [] hl ⟨rfl,fun i hi=>by simp at hi,fun i h1=>by simp at h1⟩).len
end
theorem Gp:CT prog 3 (Value.int .i64):=Ke underlying3
def mtL (met:List Nat):List (Int×Value):=met.map fun i:Nat=>((i:Int),(.bool true:Value))
theorem Nd (met:List Nat)(f:Nat):getL (mtL met) (f:Int)=if f∈met then some (.bool true) else none:=by
 by_cases h:f∈met
 ·rw[Vw h];unfold getL;have:∀ (l:List Nat) (i:Nat),f∈l->(AE (f:Int) (mtL l) i).map (·.2)=some (.bool true):=by
   intro l
   induction l with
   | nil=>intro i h;simp at h
   | cons x r ih =>
     intro i h
     show (if (x:Int)=(f:Int) then some (i,(.bool true:Value)) else AE (f:Int) (mtL r) (i+1)).map (·.2)=_
     by_cases e:(x:Int)=(f:Int)
     . rw[Vw e];rfl
     ·rw[Vs e];refine ih _ ?_;rcases Wj.1 h with h|h
      . exact absurd (by rw[h]) e
      . exact h
  exact this met 0 h
 ·rw[Vs h];refine CV.2 fun p hp=>?_
  obtain⟨i,hi,rfl⟩:=VD.1 hp;intro e;have e2:i=f:=Int.ofNat.inj e;rw[e2] at hi;exact h hi
theorem Nf (h:A3 w b (Value.int .i64) (mtL met))(f:Nat) :
 (Instr.lookup 195 (.map (some b)) (Iv (f:Nat)) false).run prog w=.ok (.bool (decide (f∈met))) w:=by
 have:=h.lookup Gp underlying195 zeroValue4 (f:Int) false;rw[Nd] at this
 by_cases c:f∈met
 . rw[Vw c] at this;simpa [c] using this
 . rw[Vs c] at this;simpa [c] using this
theorem TL (h:A3 w b (Value.int .i64) (mtL met))(hf:f∉met) :
 ∃ w',(Instr.mapUpdate 195 (.map (some b)) (Iv (f:Nat)) (.bool true)).run prog w=.ok () w'/\A3 w' b (Value.int .i64) (mtL (met++[f]))/\w.grownBy w' (some b):=by
 obtain⟨w',h1,h2,h3⟩:=h.update Gp underlying195 (f:Int) (.bool true);refine⟨w',h1,?_,h3⟩;have e:putL (f:Int) (.bool true) (mtL met)=mtL (met++[f]):=by
  have hg:=Nd met f;rw[Vs hf] at hg;unfold getL at hg;unfold putL;cases hc:AE (f:Int) (mtL met) 0 with
  | none=>simp[mtL]
  | some q=>rw[hc] at hg;simp at hg
 rw[<- e];exact h2
def ctL (cs:List (Nat×Nat)):List (Int×Value):=cs.map fun p=>((p.1:Int),(Iv (p.2:Nat):Value))
theorem Jc (v:Nat):∀ (cs:List (Nat×Nat)) (i:Nat),(AE (v:Int) (ctL cs) i=none/\getC v cs=0/\B9 v cs=cs++[(v,1)])\/∃ j,AE (v:Int) (ctL cs) i=some (i+j,Iv (getC v cs:Nat))/\B9 v cs=cs.set j (v,getC v cs+1)
 | [],i=>.inl ⟨rfl,rfl,rfl⟩
 | p::r,i=>by
   by_cases h:p.1=v
   ·refine .inr ⟨0,?_,?_⟩
    ·show (if (p.1:Int)=(v:Int) then _ else _)=_
     rw[Vw (by rw[h])];simp[getC,h]
    . simp[B9,getC,h]
   ·have hne:¬ (p.1:Int)=(v:Int):=fun e=>h (Int.ofNat.inj e)
    have e1:∀ i,AE (v:Int) (ctL (p::r)) i=AE (v:Int) (ctL r) (i+1):=fun i=>by
     show (if (p.1:Int)=(v:Int) then _ else _)=_
     rw[Vs hne];rfl
    rcases Jc v r (i+1) with ⟨a,b,c⟩|⟨j,a,b⟩
    . exact .inl ⟨by rw[e1,a],by simp[getC,h,b],by simp[B9,h,c]⟩
    ·refine .inr ⟨j+1,?_,?_⟩
     . rw[e1,a];simp[getC,h];omega
     . simp[B9,h,b,getC]
theorem TM {cs:List (Nat×Nat)}(h:A3 w b (Value.int .i64) (ctL cs))(v:Nat) :
 (Instr.lookup 153 (.map (some b)) (Iv (v:Nat)) false).run prog w=.ok (Iv (getC v cs:Nat)) w:=by
 have:=h.lookup Gp underlying153 zeroValue3 (v:Int) false;rw[this];unfold getL;rcases Jc v cs 0 with ⟨a,b,_⟩|⟨j,a,_⟩
 . rw[a,b];simp
 . rw[a];simp
theorem TO {cs:List (Nat×Nat)}(h:A3 w b (Value.int .i64) (ctL cs))(v:Nat){c:Int}(hc:c=(getC v cs+1:Nat)) :
 ∃ w',(Instr.mapUpdate 153 (.map (some b)) (Iv (v:Nat)) (Iv c)).run prog w=.ok () w'/\A3 w' b (Value.int .i64) (ctL (B9 v cs))/\w.grownBy w' (some b):=by
 obtain⟨w',h1,h2,h3⟩:=h.update Gp underlying153 (v:Int) (Iv c);refine⟨w',h1,?_,h3⟩;have e:putL (v:Int) (Iv c) (ctL cs)=ctL (B9 v cs):=by
  unfold putL;subst hc;rcases Jc v cs 0 with ⟨a,b,q⟩|⟨j,a,q⟩
  . rw[a,q];simp[ctL,b]
  . rw[a,q];simp[ctL,X9]
 rw[<- e];exact h2
theorem TP {R:List PanicEntry->Wd->Prop}{o:Oper}{m x y:Operand}(hi:l[i]?=some o)(hr:decide (Region.ready .any l.toArray L=[i])=true)
 (hg:Region.wanted o (yielded l.toArray a.tmps)=true) (ho:o.op=.mapUpdate t m x y) (hs:(Instr.mapUpdate t (a.eval m) (a.eval x) (a.eval y)).run P w=.ok () w') (hS:S w')
 (h:Nx pl P l Q R S f (L.setIfInBounds i true) (a.put o.dst undef) w'):Nx (i::pl) P l Q R S (f+1) L a w:=by
 refine DB [i] (by rw[Wq];exact⟨hr,rfl⟩) fun j g1 _ o2 g0=>?_
 rw[VB] at g1;subst g1;rw[hi] at g0;cases g0;refine⟨hg,?_⟩;unfold Oper.wp;simp only[execOp,ho,WB,hs,VZ];exact⟨hS,h⟩
section
variable {F:Phi}{o:Own}
theorem AY.other (h:AY F o W mb m)(hl:Ac o W)(hx:Wr C W W')(hC:∀ k,k<W.heap.size->C k->o k=none):AY F o W' mb m:=by
 obtain⟨s,hm⟩:=h;exact⟨s,hm.keep (fun g r hg=>hx.keep g (hl g r hg) (fun e=>by have:=hC g (hl g r hg) e;rw[hg] at this;cases this)) (fun _ _ h=>h)⟩
end
theorem TQ (args:Array Value)(w:Wd):(callFunc 166 args).run prog w=.ok (.enter 166 args) w:=XS func166 (by kernel_rfl) rfl args w
structure SnC where
 bm:Nat
 bx:Nat
 bn:Nat
 bd:Nat
 mt:Nat
 nt:Nat
 xb:Nat
def SnC.caps (c:SnC):Array Value:=#[Pt c.bm,Pt c.bx,Pt c.bn,Pt c.bd]
def SnC.two (c:SnC)(k:Nat):Prop:=k=c.mt\/k=c.nt
structure SnS (F:Phi)(c:SnC)(mb:Nat)(o:Own)(m:ManD)(V:Nat->BF)(met:List Nat)(cs:List (Nat×Nat))(W:Wd):Prop where
 is:AY F o W mb m
 lt:Ac o W
 ok:Ak m.d V
 x:BK o W c.xb mb
 bm:W.cell? (Av c.bm)=some (.map (some c.mt))
 bx:W.cell? (Av c.bx)=some (Pt c.xb)
 bn:W.cell? (Av c.bn)=some (.map (some c.nt))
 bd:W.cell? (Av c.bd)=some (.func (.func 166) #[] c.caps)
 map:A3 W c.mt (Value.int .i64) (mtL met)
 cnt:A3 W c.nt (Value.int .i64) (ctL cs)
 own:∀ q,(q=c.bm\/q=c.bx\/q=c.bn\/q=c.bd\/q=c.mt\/q=c.nt)->o q=none
 ne:c.mt≠c.bm/\c.mt≠c.bx/\c.mt≠c.bn/\c.mt≠c.bd/\c.mt≠c.xb/\c.mt≠c.nt
 ne2:c.nt≠c.bm/\c.nt≠c.bx/\c.nt≠c.bn/\c.nt≠c.bd/\c.nt≠c.xb
 mok:Cs m.d met
section
variable {F:Phi}{c:SnC}{o:Own}{met':List Nat}{cs cs':List (Nat×Nat)}
theorem SnS.go (h:SnS F c mb o m V met cs W)(hx:Wr c.two W W')(hm:A3 W' c.mt (Value.int .i64) (mtL met'))(hn:A3 W' c.nt (Value.int .i64) (ctL cs'))(hk:Cs m.d met'):SnS F c mb o m V met' cs' W':=by
 have hc:∀ {b k:Nat} {v:Value},W.cell? (Aw b k)=some v->c.mt≠b->c.nt≠b->W'.cell? (Aw b k)=some v:=fun h h1 h2=>(Wl (w:=W) (hx.keep _ (Af h) (fun e=>e.elim (fun e=>h1 e.symm) (fun e=>h2 e.symm)))).trans h
 obtain⟨n1,n2,n3,n4,n5,n6⟩:=h.ne;obtain⟨k1,k2,k3,k4,k5⟩:=h.ne2;exact⟨h.is.other h.lt hx (fun k _ e=>h.own k (.inr (.inr (.inr (.inr e))))),h.lt.mono hx.size,h.ok,⟨hc h.x.cell n5 k5,h.x.own⟩,hc h.bm n1 k1,hc h.bx n2 k2,hc h.bn n3 k3,hc h.bd n4 k4,hm,hn,h.own,h.ne,h.ne2,hk⟩
theorem SnS.below (h:SnS F c mb o m V met cs W)(hb:Bw W W'):SnS F c mb o m V met cs W':=h.go (Wr.of_below hb _) (h.map.below hb) (h.cnt.below hb) h.mok
def SnR (F:Phi)(c:SnC)(mb:Nat)(o:Own)(m:ManD)(V:Nat->BF)(met:List Nat)(W:Wd)(x:Ending)(w':Wd):Prop:=x=.returned (.tuple #[])/\Wr c.two W w'/\SnS F c mb o m V met (tally m.d met) w'
theorem Jd (h:SnS F c mb o m V met (tally m.d met) W)(hf:okE (Aa m.d) f)(hst:f/2=0\/f/2∈met):Cl 166 (#[Iv f]++c.caps) W (SnR F c mb o m V met W):=by
 obtain⟨bm,bx,bn,bd,mt,nt,xb⟩:=c;have g2:=IR (K:=fun _ _=>F) (V:=V) h.is hf;have g0:Hq (∀ q,Cl 167 #[Iv f] (W.drewN q) fun x w'=>x=.returned (.bool (decide (enode f=0)))/\W.drewN q=w'):=Hd fun q=>G7 f _ g2
 have g1:Hq (∀ q,Cl 168 #[Iv f] (W.drewN q) fun x w'=>x=.returned (Iv (enode f:Nat))/\W.drewN q=w'):=Hd fun q=>BE f _ g2
 have g3:∀ q,(Instr.lookup 195 (.map (some mt)) (Iv (enode f:Nat)) false).run prog (W.drewN q)=.ok (.bool (decide (enode f∈met))) (W.drewN q):=fun q=>Nf (h.below (Am W q)).map (enode f)
 have cbm:=h.bm;have HF:Hq (∀ q,SnR F ⟨bm,bx,bn,bd,mt,nt,xb⟩ mb o m V met W (.returned (.tuple #[])) (W.drewN q)):=Hd fun q=>⟨rfl,Wr.of_below (Am W q) _,h.below (Am W q)⟩
 obtain⟨P,hP⟩:=Ex (SnR F ⟨bm,bx,bn,bd,mt,nt,xb⟩ mb o m V met W);rw[<- hP] at HF ⊢;unfold SnC.caps;clear hP h
 show Calls _ _ #[_,_,_,_,_] _ _
 rcases hst with h0|h0
 ·rw[WV (show enode f=0 from h0)] at g0
  go_enter func166,ntmps166
  go_wp2_with fail
  go_quiet ((first|(with_reducible exact BI (g0.o _))|(with_reducible exact BI (g1.o _))))
  go_wp2_with fail;refine VR (WC rfl _ _ _) rfl ?_;exact HF.o _
 ·simp only[WV (show enode f∈met from h0)] at g3
  by_cases h1:enode f=0
  ·rw[WV h1] at g0
   go_enter func166,ntmps166
   go_wp2_with fail
   go_quiet ((first|(with_reducible exact BI (g0.o _))|(with_reducible exact BI (g1.o _))))
   go_wp2_with fail;refine VR (WC rfl _ _ _) rfl ?_;exact HF.o _
  ·rw[WJ h1] at g0
   go_enter func166,ntmps166
   go_wp2_with fail
   go_quiet ((first|(with_reducible exact BI (g0.o _))|(with_reducible exact BI (g1.o _))))
   go_wp2_with fail;refine VR (WC rfl _ _ _) rfl ?_;exact HF.o _
theorem TR (IH:∀ met f W,SnS F c mb o m V met (tally m.d met) W->okE (Aa m.d) f->m.d.vars.length<=lvE m.d.vars.length (levN m.d) (Aa m.d) f+k->Cl 166 (#[Iv (f:Nat)]++c.caps) W (SnR F c mb o m V (AB m.d k met f) W))
 (h:SnS F c mb o m V met (tally m.d met) W) {f:Nat} {b:BN} (hb:Aa m.d (f/2)=some b) (hnm:f/2∉met) (hlev:m.d.vars.length<=lvE m.d.vars.length (levN m.d) (Aa m.d) f+(k+1)) :
 Cl 166 (#[Iv f]++c.caps) W (SnR F c mb o m V (AB m.d k (AB m.d k (met++[f/2]) (cofs m.d f b.v).1) (cofs m.d f b.v).2) W):=by
 obtain⟨bm,bx,bn,bd,mt,nt,xb⟩:=c;have hf:okE (Aa m.d) f:=.inr ⟨b,hb⟩;have g7:∀ e,okE (Aa m.d) e->e<eMax:=fun e he=>IR (K:=fun _ _=>F) (V:=V) h.is he
 have ga:=g7 f hf;have gD:=h.ok.dag.var _ _ hb;have hl:levN m.d b.v<=lvE m.d.vars.length (levN m.d) (Aa m.d) f:=by unfold lvE;rw[hb];exact Vu _
 have h7:lvE m.d.vars.length (levN m.d) (Aa m.d) f=levN m.d b.v:=by unfold lvE;rw[hb]
 obtain⟨q1,q2,q3,q4,_⟩:=BY h.ok hf gD hl;have h0:enode f≠0:=fun e=>by
  have:f/2=0:=e;rw[this,h.ok.dag.none0] at hb;cases hb
 have g6:=h.mok;have g3:=g6.snoc hb hnm;have gC:getC b.v (tally m.d met)<=2305843009213693952:=by
  have h1:=Na b.v (tally m.d met);rw[Ja] at h1;have h2:=g6.len g7;omega
 obtain⟨lo,gc⟩:∃ z,z=(cofs m.d f b.v).1:=⟨_,rfl⟩;obtain⟨hi,gd⟩:∃ z,z=(cofs m.d f b.v).2:=⟨_,rfl⟩;rw[<- gc,<- gd];rw[<- gc] at q1 q3;rw[<- gd] at q2 q4;obtain⟨bv,g2⟩:∃ z,z=b.v:=⟨_,rfl⟩;have gw:Hq (∀ q,Cl 167 #[Iv f] (W.drewN q) fun x w'=>x=.returned (.bool false)/\W.drewN q=w'):=Hd fun q=>by
  have:=G7 f (W.drewN q) ga
  rwa [WJ h0] at this
 have gS:Hq (∀ W',Cl 168 #[Iv f] W' (Sm (Iv (enode f:Nat)) W')):=Hd fun W'=>BE f W' ga
 have gR:Hq (∀ q,Cl 168 #[Iv f] (W.drewN q) fun x w'=>x=.returned (Iv (enode f:Nat))/\W.drewN q=w'):=Hd fun q=>BE f _ ga
 have h6:∀ q,(Instr.lookup 195 (.map (some mt)) (Iv (enode f:Nat)) false).run prog (W.drewN q)=.ok (.bool false) (W.drewN q):=fun q=>by
  have:=Nf (h.below (Am W q)).map (enode f)
  rwa [WJ (show ¬ enode f∈met from hnm)] at this
 have g5:mt≠nt:=h.ne.2.2.2.2.2;have gM:Hq (∀ W',SnS F ⟨bm,bx,bn,bd,mt,nt,xb⟩ mb o m V met (tally m.d met) W'->∃ w',(Instr.mapUpdate 195 (.map (some mt)) (Iv (enode f:Nat)) (.bool true)).run prog W'=.ok () w'/\Wr (SnC.two ⟨bm,bx,bn,bd,mt,nt,xb⟩) W' w'/\SnS F ⟨bm,bx,bn,bd,mt,nt,xb⟩ mb o m V (met++[f/2]) (tally m.d met) w'):=Hd fun W' g=>by
  obtain⟨w',r1,r2,r3⟩:=TL g.map (f:=enode f) hnm;have hw:Wr (· = mt) W' w':=Wr.of_grown r3 _ (fun k e=>by cases e;rfl);have g1:Wr (SnC.two ⟨bm,bx,bn,bd,mt,nt,xb⟩) W' w':=hw.mono (fun _ e=>.inl e);exact⟨w',r1,g1,g.go g1 r2 (g.cnt.keepB (hw.keep _ g.cnt.lt (fun e=>g5 e.symm))) g3⟩
 have gv:Hq (∀ W',SnS F ⟨bm,bx,bn,bd,mt,nt,xb⟩ mb o m V (met++[f/2]) (tally m.d met) W'->(Instr.lookup 153 (.map (some nt)) (Iv (bv:Nat)) false).run prog W'=.ok (Iv (getC b.v (tally m.d met):Nat)) W'):=Hd fun W' g=>by
  rw[g2];exact TM g.cnt b.v
 have gu:Hq (∀ W',SnS F ⟨bm,bx,bn,bd,mt,nt,xb⟩ mb o m V (met++[f/2]) (tally m.d met) W'->∃ w',(Instr.mapUpdate 153 (.map (some nt)) (Iv (bv:Nat)) (Iv ((getC b.v (tally m.d met):Nat)+1))).run prog W'=.ok () w'/\Wr (SnC.two ⟨bm,bx,bn,bd,mt,nt,xb⟩) W' w'/\SnS F ⟨bm,bx,bn,bd,mt,nt,xb⟩ mb o m V (met++[f/2]) (tally m.d (met++[f/2])) w'):=Hd fun W' g=>by
  rw[g2];obtain⟨w',r1,r2,r3⟩:=TO g.cnt b.v (c:=((getC b.v (tally m.d met):Nat):Int)+1) (by omega);have hw:Wr (· = nt) W' w':=Wr.of_grown r3 _ (fun k e=>by cases e;rfl);have g1:Wr (SnC.two ⟨bm,bx,bn,bd,mt,nt,xb⟩) W' w':=hw.mono (fun _ e=>.inr e);rw[<- TH met hb] at r2;exact⟨w',r1,g1,g.go g1 (g.map.keepB (hw.keep _ g.map.lt (fun e=>g5 e))) r2 g3⟩
 have gn:Hq (∀ W' s,SnS F ⟨bm,bx,bn,bd,mt,nt,xb⟩ mb o m V (met++[f/2]) (tally m.d met) W'->W'.heap[s]?=some (.cells #[Iv f] 101 (0,0))->Cl 169 #[Pt xb,.slice (some (Av s)) 1 1] W' (Bl (Iv (bv:Nat)) W')):=Hd fun W' s g hs=>by
  refine(KC g.is g.lt g.x g.ok [f] (by simpa using hf) (some (Av s)) 1 ⟨by simp,fun i h8=>?_⟩).mono ?_
  ·obtain rfl:i=0:=by simpa using h8
   exact⟨s,0,rfl,by rw[Vt _ _ 0 _ _ _ hs];rfl⟩
  ·rintro x w' ⟨top,least,rfl,ht,h4⟩;rcases TD ht with ⟨_,hn⟩|⟨b',gE,rfl⟩
   . rw[hb] at hn;cases hn
   . rw[hb] at gE;cases gE;exact⟨by rw[g2],h4⟩
 have gP:Hq (∀ W' cs,SnS F ⟨bm,bx,bn,bd,mt,nt,xb⟩ mb o m V (met++[f/2]) cs W'->Cl 170 #[Pt xb,Iv f,Iv (bv:Nat)] W' (Bl (.tuple #[Iv lo,Iv hi]) W')):=Hd fun W' cs g=>by
  have:=KA g.is g.lt g.x g.ok f hf (b.v:Nat);rw[<- gc,<- gd,<- g2] at this;exact this
 have gU:Hq (∀ W',SnS F ⟨bm,bx,bn,bd,mt,nt,xb⟩ mb o m V (met++[f/2]) (tally m.d (met++[f/2])) W'->Cl 166 #[Iv lo,Pt bm,Pt bx,Pt bn,Pt bd] W' (SnR F ⟨bm,bx,bn,bd,mt,nt,xb⟩ mb o m V (AB m.d k (met++[f/2]) lo) W')):=Hd fun W' g=>IH _ lo W' g q1 (by omega)
 have gT:Hq (∀ W',SnS F ⟨bm,bx,bn,bd,mt,nt,xb⟩ mb o m V (AB m.d k (met++[f/2]) lo) (tally m.d (AB m.d k (met++[f/2]) lo)) W'->Cl 166 #[Iv hi,Pt bm,Pt bx,Pt bn,Pt bd] W' (SnR F ⟨bm,bx,bn,bd,mt,nt,xb⟩ mb o m V (AB m.d k (AB m.d k (met++[f/2]) lo) hi) W')):=Hd fun W' g=>IH _ hi W' g q2 (by omega)
 have cbm:=h.bm;have HS:=Hd h;obtain⟨P,hP⟩:=Ex (SnR F ⟨bm,bx,bn,bd,mt,nt,xb⟩ mb o m V (AB m.d k (AB m.d k (met++[f/2]) lo) hi) W);have HP:Hq (∀ x w',SnR F ⟨bm,bx,bn,bd,mt,nt,xb⟩ mb o m V (AB m.d k (AB m.d k (met++[f/2]) lo) hi) W x w'->P x w'):=Hd (by rw[hP];exact fun _ _ e=>e);have eg1:=TQ;obtain⟨g0,gj⟩:∃ g,g=getC b.v (tally m.d met):=⟨_,rfl⟩;rw[<- gj] at gC;have ha:IntKind.i64.wrap ((g0:Nat)+1)=(g0:Nat)+1:=Xf _ ⟨by omega,by omega⟩;rw[<- gj] at gv gu;rw[<- hP];unfold SnC.caps;clear hP h IH hb hnm hlev hf ga g7 gD hl h7 q1 q2 q3 q4 h0 gc gd g2 g6 g3 gC gj g5
 show Calls _ _ #[_,_,_,_,_] _ _
 go_enter func166,ntmps166
 go_wp2_with fail
 go_quiet ((first|(with_reducible exact BI (gw.o _))|(with_reducible exact BI (gR.o _))))
 go_upto_region 1 with fail;obtain⟨w1,gh⟩:=Ex ((W.drewN nq).drew);have gm:Bw W w1:=by rw[gh];exact Am W (nq+1)
 have gt:=Hd (HS.o.below gm);have HW1:=Hd (Wr.of_below gm (SnC.two ⟨bm,bx,bn,bd,mt,nt,xb⟩));have gF:=Hd gh;have cbm1:=gt.o.bm;clear gh gm;refine FL [0,1,2,3] (fun W'=>W'.cell? (Av bm)=some (.map (some mt))) (fun ch w'=>False) (fun c a w hd h=>h.elim) (by kernel_rfl) (by rw[<- gF.o];exact cbm1) ?_;rw[<- gF.o]
 iterate 2
  refine Ed rfl rfl (by kernel_rfl) ?_;apply Exists.intro;refine⟨fun w' hw=>?_,?_⟩
  . have q1:w'.cell? (Av bm)=some (.map (some mt)):=hw;go_simp;rfl
  simp only[Ab]
 refine It (R1:=fun u w'=>u=Iv (enode f:Nat)/\w1=w') rfl (by kernel_rfl) rfl rfl (by go_simp) ((gS.o w1).mono fun x w' h=>⟨_,h.1,rfl,h.2⟩) (by rintro u w' ⟨_,rfl⟩;exact cbm1) ?_;rintro u w'-⟨rfl,rfl⟩;simp only[Ab];obtain⟨w2,gZ,g1,gB⟩:=gM.o w1 gt.o;have gg:=Hd gB;have gL:=Hd (HW1.o.trans g1 (fun _ _ e=>e) (fun _ _ e=>e));refine TP (w':=w2) rfl (by kernel_rfl) rfl rfl (by go_simp) gg.o.bm ?_;simp only[Ab];refine FM (by kernel_rfl) ?_;clear gZ g1 gB cbm1 cbm;have cbx:=gg.o.bx;have ge:=Ah w2 (.cells #[Iv f] 101);obtain⟨w4,g4⟩:=Ex (w2.alloc (.cells #[Iv f] 101));rw[<- g4] at ge;have h5:=Hd g4;have gi:w4.heap[w2.heap.size]?=some (.cells #[Iv f] 101 (0,0)):=by rw[g4];exact Vv _ _
 have gr:=Hd (gg.o.below ge);have gK:=Hd (gL.o.trans (Wr.of_below ge _) (fun _ _ e=>e) (fun _ _ e=>e));have gO:=Hd (gn.o w4 _ gr.o gi);have gN:Hq (Cl 169 #[Pt xb,.slice (some (Av w2.heap.size)) 1 1] (w2.alloc (.cells #[Iv f] 101)) (Bl (Iv (bv:Nat)) w4)):=Hd (by have:=gO.o;rw[g4] at this ⊢;exact this);clear ge g4 gi gO;go_wp2_with fail;refine gN.o.mono ?_;rintro x w5 ⟨rfl,gl⟩;have gf:=Hd (gr.o.below gl);have gJ:=Hd (gK.o.trans (Wr.of_below gl _) (fun _ _ e=>e) (fun _ _ e=>e));have cbn5:=gf.o.bn;have h3:=gv.o w5 gf.o;obtain⟨w6,gY,gz,g9⟩:=gu.o w5 gf.o;have gQ:=Hd g9;have gI:=Hd (gJ.o.trans gz (fun _ _ e=>e) (fun _ _ e=>e));have cbx6:=g9.bx;have gp:=Hd (gP.o w6 _ g9);clear gl gz g9 gN cbx gr gK gg gL gt HW1 h5 h6;go_wp2_with fail;refine gp.o.mono ?_;rintro x w7 ⟨rfl,gk⟩;have gq:=Hd (gQ.o.below gk);have gH:=Hd (gI.o.trans (Wr.of_below gk _) (fun _ _ e=>e) (fun _ _ e=>e));have cbd:=gq.o.bd;unfold SnC.caps at cbd;have gX:=Hd (gU.o w7 gq.o);clear gk gf gJ gU gn gP gM gS gR gw gv gu gQ gI h3 gY cbx6 cbn5 gp;go_wp2_with fail;refine gX.o.mono ?_;rintro x w8 ⟨rfl,gy,g8⟩;have h9:=Hd g8;have gG:=Hd (gH.o.trans gy (fun _ _ e=>e) (fun _ _ e=>e));have gV:=Hd (gT.o w8 g8);have cbd8:=g8.bd;unfold SnC.caps at cbd8;clear gy g8 cbd gX gT gq gH;go_wp2_with fail;refine gV.o.mono ?_;rintro x w9 ⟨rfl,gx,gA⟩;have HF:=Hd (HP.o (.returned (.tuple #[])) w9 ⟨rfl,gG.o.trans gx (fun _ _ e=>e) (fun _ _ e=>e),gA⟩);clear gx gA cbd8 gV h9 gG HP;go_wp2_with fail;refine Xi (WC rfl _ _ _) rfl ?_;exact HF.o
theorem Ng:∀ (k:Nat) (met:List Nat) (f:Nat) (W:Wd),SnS F c mb o m V met (tally m.d met) W->okE (Aa m.d) f->m.d.vars.length<=lvE m.d.vars.length (levN m.d) (Aa m.d) f+k->Cl 166 (#[Iv (f:Nat)]++c.caps) W (SnR F c mb o m V (AB m.d k met f) W)
 | 0,met,f,W,h,hf,hl=>by
   refine Jd h hf (.inl ?_);rcases hf with h1|⟨b,hb⟩
   . exact h1
   . exfalso;have h1:=h.ok.dag.lt b.v (h.ok.dag.var _ _ hb);unfold lvE at hl;rw[hb] at hl;simp at hl;omega
 | k+1,met,f,W,h,hf,hl=>by
   unfold AB;cases hb:Aa m.d (f/2) with
   | none =>
     refine Jd h hf (.inl ?_);rcases hf with h1|⟨b,hb'⟩
     . exact h1
     . rw[hb] at hb';cases hb'
   | some b =>
     show Calls _ _ _ _ (SnR F c mb o m V (if f/2∈met then met else _) W)
     by_cases hm:f/2∈met
     . rw[Vw hm];exact Jd h hf (.inr hm)
     . rw[Vs hm];exact TR (fun met f W=>Ng k met f W) h hb hm hl
end
def Indep (F:BF)(v:Nat):Prop:=∀ ρ b,F (upd ρ v b)=F ρ
theorem Nh {v:Nat}(h:Indep F v)(u:Nat)(c:Bool):Indep (cofF F u c) v:=fun ρ b=>by
 show F (upd (upd ρ v b) u c)=F (upd ρ u c)
 by_cases e:v=u
 . subst e;exact Wo F (funext fun x=>by unfold upd;split<;>rfl)
 ·rw[show upd (upd ρ v b) u c=upd (upd ρ u c) v b from funext fun x=>by
   unfold upd
   by_cases h1:x=u<;>by_cases h2:x=v<;>simp_all]
  exact h _ b
theorem TS {u v:Nat}(hne:v≠u)(h0:Indep (cofF F u false) v)(h1:Indep (cofF F u true) v):Indep F v:=fun ρ b=>by
 have key:∀ σ:Nat->Bool,F σ=cofF F u (σ u) σ:=fun σ=>Wo F (funext fun x=>by
  by_cases e:x=u
  . subst e;simp
  . simp[e])
 rw[key (upd ρ v b),key ρ,show upd ρ v b u=ρ u by unfold upd;rw[Vs (fun e=>hne e.symm)]];cases ρ u
 . exact h0 ρ b
 . exact h1 ρ b
theorem Ni {v:Nat}(h:Indep F v):Indep (notF F) v:=fun ρ b=>by
 show (!F (upd ρ v b)) = !F ρ
 rw[h]
theorem Je {v:Nat}:Indep F v↔cofF F v false=cofF F v true:=by
 constructor
 ·intro h;funext ρ
  exact(h ρ false).trans (h ρ true).symm
 ·intro h ρ b
  have key:∀ σ:Nat->Bool,F σ=cofF F v (σ v) σ:=fun σ=>Wo F (funext fun x=>by
   by_cases e:x=v
   . subst e;simp
   . simp[e])
  have e2:cofF F v b ρ=cofF F v (ρ v) ρ:=by
   cases b<;>cases ρ v<;>first|rfl|rw[h]
  exact e2.trans (key ρ).symm
section
theorem Nj {v:Nat}:Indep (ef V f) v↔Indep (V (f/2)) v:=by
 rcases IX (V:=V) f with e|e
 . rw[e]
 . rw[e];exact⟨fun h=>by have:=Ni h;rwa [MW] at this,Ni⟩
def InM (d:Ae)(met:List Nat)(f:Nat):Prop:=Aa d (f/2)=none\/f/2∈met
def ClM (d:Ae)(met met':List Nat):Prop:=∀ i∈met',i∉met->∀ b,Aa d i=some b->InM d met' b.lo/\InM d met' b.hi
theorem Nk {b:BN}(hb:Aa d (f/2)=some b):(cofs d f b.v).1/2=b.lo/2/\(cofs d f b.v).2/2=b.hi/2:=by
 unfold cofs;simp only[hb,Wy];constructor<;>(unfold eflip;split<;>first|exact D2 _|rfl)
theorem Ep:∀ (k:Nat) (met:List Nat) (f:Nat),∀ i∈met,i∈AB d k met f
 | 0,met,f,i,hi=>hi
 | k+1,met,f,i,hi=>by
   unfold AB;cases hb:Aa d (f/2) with
   | none=>exact hi
   | some b =>
     show i∈(if f/2∈met then met else _)
     by_cases c:f/2∈met
     . rw[Vw c];exact hi
     . rw[Vs c];exact Ep k _ _ _ (Ep k _ _ _ (Wx _ hi))
theorem InM.mono {met':List Nat}(h:InM d met f)(hs:∀ i∈met,i∈met'):InM d met' f:=h.imp id (hs _)
theorem Jf (h:Ak d V):∀ (k:Nat) (met:List Nat) (f:Nat),okE (Aa d) f->d.vars.length<=lvE d.vars.length (levN d) (Aa d) f+k->InM d (AB d k met f) f/\ClM d met (AB d k met f)
 | 0,met,f,hf,hl=>by
   refine⟨.inl ?_,fun i hi hn=>absurd hi hn⟩;cases hb:Aa d (f/2) with
   | none=>rfl
   | some b =>
     exfalso;have h1:=h.dag.lt b.v (h.dag.var _ _ hb);unfold lvE at hl;rw[hb] at hl;simp at hl;omega
 | k+1,met,f,hf,hl=>by
   unfold AB;cases hb:Aa d (f/2) with
   | none=>exact⟨.inl hb,fun i hi hn=>absurd hi hn⟩
   | some b =>
     show InM d (if f/2∈met then met else _) f/\ClM d met (if f/2∈met then met else _)
     by_cases c:f/2∈met
     . rw[Vw c];exact⟨.inr c,fun i hi hn=>absurd hi hn⟩
     ·rw[Vs c];have hbv:=h.dag.var _ _ hb;have hlv:levN d b.v<=lvE d.vars.length (levN d) (Aa d) f:=by unfold lvE;rw[hb];exact Vu _
      have g2:lvE d.vars.length (levN d) (Aa d) f=levN d b.v:=by unfold lvE;rw[hb]
      obtain⟨q1,q2,q3,q4,_⟩:=BY h hf hbv hlv;obtain⟨e1,e2⟩:=Nk hb;obtain⟨a1,a2⟩:=Jf h k (met++[f/2]) _ q1 (by omega);obtain⟨b1,b2⟩:=Jf h k (AB d k (met++[f/2]) (cofs d f b.v).1) _ q2 (by omega);have hs1:=Ep (d:=d) k (AB d k (met++[f/2]) (cofs d f b.v).1) (cofs d f b.v).2;have g1:=Ep (d:=d) k (met++[f/2]) (cofs d f b.v).1;refine⟨.inr (hs1 _ (g1 _ (by simp))),fun i hi hn b' g0=>?_⟩
      by_cases m2:i∈AB d k (met++[f/2]) (cofs d f b.v).1
      ·by_cases m1:i∈met++[f/2]
       ·have:i=f/2:=by
         rcases VF.1 m1 with m|m
         . exact absurd m hn
         . simpa using m
        subst this;rw[hb] at g0;cases g0
        have w1:=a1.mono hs1;unfold InM at w1 b1;rw[e1] at w1;rw[e2] at b1;exact⟨w1,b1⟩
       . obtain⟨w1,w2⟩:=a2 i m2 m1 b' g0;exact⟨w1.mono hs1,w2.mono hs1⟩
      . exact b2 i hi m2 b' g0
theorem Jg (h:Ak d V):∀ (k:Nat) (met:List Nat) (f:Nat),okE (Aa d) f->∀ i∈AB d k met f,i∈met\/∀ v,Indep (ef V f) v->Indep (V i) v
 | 0,met,f,hf,i,hi=>.inl hi
 | k+1,met,f,hf,i,hi=>by
   unfold AB at hi;cases hb:Aa d (f/2) with
   | none=>rw[hb] at hi;exact .inl hi
   | some b =>
     rw[hb] at hi
     replace hi:i∈(if f/2∈met then met else AB d k (AB d k (met++[f/2]) (cofs d f b.v).1) (cofs d f b.v).2):=hi
     by_cases c:f/2∈met
     . rw[Vw c] at hi;exact .inl hi
     ·rw[Vs c] at hi;have hbv:=h.dag.var _ _ hb;have hlv:levN d b.v<=lvE d.vars.length (levN d) (Aa d) f:=by unfold lvE;rw[hb];exact Vu _
      obtain⟨q1,q2,_⟩:=BY h hf hbv hlv;obtain⟨e1,e2⟩:=IU h hf hbv hlv;rcases Jg h k _ _ q2 i hi with m|m
      ·rcases Jg h k _ _ q1 i m with m|m
       ·rcases VF.1 m with m|m
        . exact .inl m
        ·simp at m;subst m
         exact .inr fun v hv=>Nj.1 hv
       . exact .inr fun v hv=>m v (by rw[e1];exact Nh hv _ _)
      . exact .inr fun v hv=>m v (by rw[e2];exact Nh hv _ _)
theorem TT (h:Ak d V)(hcl:ClM d [] met){v:Nat}(hv:∀ i∈met,∀ b,Aa d i=some b->b.v≠v):∀ (k:Nat) (f:Nat),okE (Aa d) f->d.vars.length<=lvE d.vars.length (levN d) (Aa d) f+k->InM d met f->Indep (ef V f) v:=by
 have hc:∀ f,okE (Aa d) f->Aa d (f/2)=none->Indep (ef V f) v:=fun f hf hn=>by
  obtain⟨c,e⟩:=(IY h h.dag.none0 hf).2 hn;rw[e];exact fun _ _=>rfl
 intro k
 induction k with
 | zero =>
   intro f hf hl hi;cases hb:Aa d (f/2) with
   | none=>exact hc f hf hb
   | some b =>
     exfalso;have h1:=h.dag.lt b.v (h.dag.var _ _ hb);unfold lvE at hl;rw[hb] at hl;simp at hl;omega
 | succ k ih =>
   intro f hf hl hi;cases hb:Aa d (f/2) with
   | none=>exact hc f hf hb
   | some b =>
     have hm:f/2∈met:=by
      rcases hi with e|e
      . rw[hb] at e;cases e
      . exact e
     have g1:=h.dag.var _ _ hb;have g0:levN d b.v<=lvE d.vars.length (levN d) (Aa d) f:=by unfold lvE;rw[hb];exact Vu _
     have g2:lvE d.vars.length (levN d) (Aa d) f=levN d b.v:=by unfold lvE;rw[hb]
     obtain⟨q1,q2,q3,q4,_⟩:=BY h hf g1 g0;obtain⟨e1,e2⟩:=IU h hf g1 g0;obtain⟨k1,k2⟩:=Nk hb;obtain⟨w1,w2⟩:=hcl _ hm (by simp) b hb;have i1:=ih _ q1 (by omega) (by unfold InM;rw[k1];exact w1);have i2:=ih _ q2 (by omega) (by unfold InM;rw[k2];exact w2);rw[e1] at i1;rw[e2] at i2;exact TS (fun e=>hv _ hm b hb e.symm) i1 i2
theorem TU {a b c:List Nat}(h1:ClM d a b)(h2:ClM d b c)(hs:∀ i∈b,i∈c):ClM d a c:=fun i hi hn b' hb'=>by
 by_cases m:i∈b
 . obtain⟨w1,w2⟩:=h1 i m hn b' hb';exact⟨w1.mono hs,w2.mono hs⟩
 . exact h2 i hi m b' hb'
theorem Nl (h:Ak d V):∀ (l met:List Nat),(∀ f∈l,okE (Aa d) f)->ClM d [] met->ClM d [] (l.foldl (fun met f=>AB d d.vars.length met f) met)/\(∀ i∈met,i∈l.foldl (fun met f=>AB d d.vars.length met f) met)/\(∀ f∈l,InM d (l.foldl (fun met f=>AB d d.vars.length met f) met) f)/\∀ i∈l.foldl (fun met f=>AB d d.vars.length met f) met,i∈met\/∃ f∈l,∀ v,Indep (ef V f) v->Indep (V i) v
 | [],met,_,hc=>⟨hc,fun i hi=>hi,fun f hf=>by simp at hf,fun i hi=>.inl hi⟩
 | f::r,met,hl,hc=>by
   have hf:=hl f (VM ..);obtain⟨c1,c2⟩:=Jf h d.vars.length met f hf (by omega);obtain⟨r1,r2,r3,r4⟩:=Nl h r (AB d d.vars.length met f) (fun g hg=>hl g (Wi _ hg)) (TU hc c2 (Ep _ _ _));refine⟨r1,fun i hi=>r2 i (Ep _ _ _ i hi),fun g hg=>?_,fun i hi=>?_⟩
   ·rcases Wj.1 hg with rfl|hg
    . exact c1.mono r2
    . exact r3 g hg
   ·rcases r4 i hi with m|⟨g,hg,m⟩
    ·rcases Jg h _ _ f hf i m with m|m
     . exact .inl m
     . exact .inr ⟨f,VM ..,m⟩
    . exact .inr ⟨g,Wi _ hg,m⟩
structure Jh (n:Nat)(os:List Nat)(Fs:List BF)(cs:List (Nat×Nat)):Prop where
 sum:sumC cs=(nodesF n os Fs).length
 le:sumC cs<=2305843009213693952
 dep:∀ v,0<getC v cs↔∃ F∈Fs,AS n F v=true
theorem TV (h:Ak d V)(l:List Nat)(hl:∀ f∈l,okE (Aa d) f)(hlt:∀ e,okE (Aa d) e->e<eMax):Jh d.vars.length d.vars (l.map (ef V)) (tally d (CN d l)):=by
 refine⟨?_,?_,fun v=>?_⟩
 . rw[Ja,TK h l hl]
 . rw[Ja];exact(Nc h l).len hlt
 ·obtain⟨r1,r2,r3,r4⟩:=Nl h l [] hl (fun i hi=>by simp at hi);rw[TI,List.countP_pos_iff];constructor
  ·rintro⟨i,hi,hv⟩;rcases r4 i hi with m|⟨f,hf,m⟩
   . simp at m
   ·refine⟨ef V f,VD.2 ⟨f,hf,rfl⟩,(Dd (h.dep (hl f hf)) v).2 fun e=>?_⟩;have h1:=m v (Je.2 e);obtain⟨b,hb⟩:=(Nc h l).node i hi;have g4:b.v=v:=by
     have:vrD d i=v:=by simpa using hv
     unfold vrD at this;rw[hb] at this;exact this
    have g0:Aa d (2*i/2)=some b:=by rw[show 2*i/2=i by omega];exact hb
    have h2:=(Nj (V:=V) (f:=2*i) (v:=v)).2 (by rw[show 2*i/2=i by omega];exact h1);have ht:=(MJ h g0).1;have g1:=h.dep (f:=2*i) (.inr ⟨b,g0⟩)
    by_cases hx:∃ u∈d.vars,AS d.vars.length (ef V (2*i)) u=true
    . obtain⟨q,_,g2,g3,_⟩:=MT hx;rw[ht] at g2;rw[<- Int.ofNat.inj g2,g4,Dd g1] at g3;exact g3 (Je.1 h2)
    ·have:=MH (n:=d.vars.length) (F:=ef V (2*i)) (l:=d.vars) (fun u hu=>by
      cases e:AS d.vars.length (ef V (2*i)) u with
      | false=>rfl
      | true=>exact absurd ⟨u,hu,e⟩ hx)
     rw[ht] at this;omega
  ·rintro⟨F,hF,hh⟩;obtain⟨f,hf,rfl⟩:=VD.1 hF;refine Classical.byContradiction fun g5=>?_
   refine(Dd (h.dep (hl f hf)) v).1 hh (Je.1 (TT h r1 (v:=v) (fun i hi b hb e=>g5 ⟨i,hi,by unfold vrD;rw[hb];simp[e]⟩) d.vars.length f (hl f hf) (by omega) (r3 f hf)))
end
theorem TW (args:Array Value)(w:Wd):(callFunc 165 args).run prog w=.ok (.enter 165 args) w:=XS func165 (by kernel_rfl) rfl args w
structure BoN (wB:Wd)(bn bl:Nat)(a:Option Addr)(c:Nat)(ks:List Int)(W:Wd):Prop where
 n:∃ v,W.heap[bn]?=some (.cells #[v] 153 (0,0))
 l:W.cell? (Av bl)=some (.slice a ks.length c)
 z:Ar W a ks
 s:∀ x,a=some x->W.heap[x.block]?=wB.heap[x.block]?
def CsN (bn bl:Nat)(a:Option Addr)(k:Nat):Prop:=k=bn\/k=bl\/∃ x,a=some x/\k=x.block
theorem BoN.keep {wB:Wd}{bn bl:Nat}{a:Option Addr}(h:BoN wB bn bl a c ks W)(hk:∀ k,CsN bn bl a k->W'.heap[k]?=W.heap[k]?):BoN wB bn bl a c ks W' :=
 ⟨by rw[hk _ (.inl rfl)];exact h.n,Co h.l (hk _ (.inr (.inl rfl))),⟨h.z.len,fun i hi=>by
  obtain⟨b,off,e,hc⟩:=h.z.cells i hi;exact⟨b,off,e,Co hc (hk _ (.inr (.inr ⟨_,e,rfl⟩)))⟩⟩,fun x hx=>(hk _ (.inr (.inr ⟨x,hx,rfl⟩))).trans (h.s x hx)⟩
section
variable {o:Own}
theorem SatE.edges (h:SatE K n Od room w0 mb fs nx w o m V)(hlen:Fs.length=ks.length)(hm:∀ i (h:i<ks.length),(ks[i],Fs[i]'(by omega))∈fs) :
 ∃ es:List Nat,es.length=ks.length/\es.map (ef V)=Fs/\(∀ f∈es,okE (Aa m.d) f)/\∀ i (h:i<ks.length) (h2:i<es.length),(ks[i],es[i])∈m.hs:=by
 have:∀ i,∃ f,∀ hi:i<ks.length,(ks[i],f)∈m.hs/\ef V f=Fs[i]'(by omega):=fun i=>by
  by_cases hi:i<ks.length
  . obtain⟨f,h1,h2⟩:=h.find (hm i hi);exact⟨f,fun _=>⟨h1,h2⟩⟩
  . exact⟨0,fun e=>absurd e hi⟩
 have hs:=fun i=>Yj (this i)
 refine⟨(List.range ks.length).map fun i=>Classical.choose (this i),by simp,?_,?_,?_⟩
 ·refine Xh (by simp[hlen]) fun i h1 h2=>?_
  have hi:i<ks.length:=by simpa using h1
  simpa using(hs i hi).2
 . intro f hf;obtain⟨i,hi,rfl⟩:=VD.1 hf;exact h.ok.handles.ok _ (hs i (Xs.1 hi)).1
 . intro i hi h2;simpa using(hs i hi).1
def Fb (n:Nat)(ws0:List Ev)(os:List Nat)(bn:Nat)(Fs:List BF)(s:Nat)(W:Wd)(m:ManD)(_:Nat->BF):Prop :=
 m.waits=ws0/\m.d.vars=os/\∃ nt cs,s<=nt/\W.cell? (Av bn)=some (.map (some nt))/\A3 W nt (Value.int .i64) (ctL cs)/\Jh n os Fs cs
theorem TX {wB:Wd}{bn bl:Nat}{a:Option Addr}(hnl:bn≠bl)(hna:∀ x,a=some x->bn≠x.block)(hlen:Fs.length=ks.length)(hm:∀ i (h:i<ks.length),(ks[i],Fs[i]'(by omega))∈fs)(ws0:List Ev)(os:List Nat)(E:Int->ManD->ManD->Prop) :
 OpLN K n Od room w0 mb fs nx (CsN bn bl a) (BoN wB bn bl a c ks) (fun m=>m.waits=ws0/\m.d.vars=os) 165 #[Pt bn,Pt bl] (fun s _=>Fb n ws0 os bn Fs s) E:=by
 intro o W m V xb g0 hB hC hr gn hnx;obtain⟨gQ,gt⟩:=hr;obtain⟨es,h7,h9,gj,h8⟩:=g0.edges hlen hm;have hk:=g0.ok.store;have gv:∀ k,CsN bn bl a k->o k=none:=fun k e=>(hC k e).2
 obtain⟨v0,gR⟩:=hB.n;have hA:∀ (fn:Fn) (first cap:Array Value) (w:Wd),(Instr.makeFunc fn first cap).run prog w=.ok (.func fn first cap) w:=fun _ _ _ _=>rfl
 have gB:bn<W.heap.size:=(hC bn (.inl rfl)).1;have gk:bl<W.heap.size:=(hC bl (.inr (.inl rfl))).1;obtain⟨w1,gd⟩:=Ex (W.alloc (.cells #[Pt xb] 180));have gN:w1.heap.size=W.heap.size+1:=by rw[gd];simp
 have g10:w1.heap[W.heap.size]?=some (.cells #[Pt xb] 180 (0,0)):=by rw[gd];exact Vv _ _
 have gZ:Wr (· = bn) W w1:=by rw[gd];exact Wr.of_below (Ah _ _) _
 obtain⟨nt,gu⟩:=Ex w1.heap.size;obtain⟨w2,g7⟩:=Ex (w1.alloc (.map #[] 0));have hn:∀ t,(Instr.makeMap t none).run prog w1=.ok (.map (some nt)) w2:=fun t=>by rw[gu,g7];exact EC w1 t
 have gM:w2.heap.size=W.heap.size+2:=by rw[g7];simp[gN]
 have h5:A3 w2 nt (Value.int .i64) (ctL []):=by rw[g7,gu];exact F7 w1 _
 have gY:Wr (· = bn) W w2:=by rw[g7];exact gZ.alloc _
 have gf:w2.heap[bn]?=some (.cells #[v0] 153 (0,0)):=by
  rw[g7,VL _ _ (by omega),gd,VL _ _ gB];exact gR
 obtain⟨w3,g5⟩:=Ex (w2.setCell (Av bn) (.map (some nt)));have ht:(store (Av bn) (.map (some nt))).run prog w2=.ok () w3:=by
  rw[run_store _ _ _ _ _ rfl];simp[cell1 gf,World.frozen?,gf,g5]
 have gL:w3.heap.size=W.heap.size+2:=by rw[g5];simp[World.setCell,gM]
 have gx:∀ q,q≠bn->w3.heap[q]?=w2.heap[q]?:=fun q hq=>by rw[g5];exact Ay hq _
 have g3:w3.heap[bn]?=some (.cells #[.map (some nt)] 153 (0,0)):=by rw[g5];exact A2 gf _
 have gX:Wr (· = bn) W w3:=by rw[g5];exact gY.setCell (.inl rfl) _
 have h4:A3 w3 nt (Value.int .i64) (ctL []):=h5.keepB (gx nt (by omega));obtain⟨mt,gw⟩:=Ex w3.heap.size;obtain⟨w4,g4⟩:=Ex (w3.alloc (.map #[] 0));have hg:∀ t,(Instr.makeMap t none).run prog w3=.ok (.map (some mt)) w4:=fun t=>by rw[gw,g4];exact EC w3 t
 have gK:w4.heap.size=W.heap.size+3:=by rw[g4];simp[gL]
 have h3:A3 w4 mt (Value.int .i64) (mtL []):=by rw[g4,gw];exact F7 w3 _
 have gD:Bw w3 w4:=by rw[g4];exact Ah _ _
 obtain⟨w6,gc⟩:=Ex (w4.alloc (.cells #[.map (some mt)] 195));have gl:Bw w4 w6:=by rw[gc];exact Ah _ _
 have gJ:w6.heap.size=W.heap.size+4:=by rw[gc];simp[gK]
 have g6:w6.heap[w4.heap.size]?=some (.cells #[.map (some mt)] 195 (0,0)):=by rw[gc];exact Vv _ _
 obtain⟨FV,gp⟩:=Ex (.func (.func 166) #[] #[Pt w4.heap.size,Pt W.heap.size,Pt bn,Pt w6.heap.size]:Value);obtain⟨w7,ga⟩:=Ex (w6.alloc (.cells #[.nilFunc] 196));have gC:Bw w6 w7:=by rw[ga];exact Ah _ _
 have gI:w7.heap.size=W.heap.size+5:=by rw[ga];simp[gJ]
 have go:w7.heap[w6.heap.size]?=some (.cells #[.nilFunc] 196 (0,0)):=by rw[ga];exact Vv _ _
 obtain⟨w8,g9⟩:=Ex (w7.setCell (Av w6.heap.size) FV);have gS:(store (Av w6.heap.size) FV).run prog w7=.ok () w8:=by
  rw[run_store _ _ _ _ _ (by rw[gp];rfl)];simp[cell1 go,World.frozen?,go,g9]
 have hp:w8.heap.size=W.heap.size+5:=by rw[g9];simp[World.setCell,gI]
 have gh:Bw w6 w8:=by rw[g9];exact gC.setCell (Vu _) _
 have g8:w8.heap[w6.heap.size]?=some (.cells #[FV] 196 (0,0)):=by rw[g9];exact A2 go _
 have gV:Wr (· = bn) W w4:=by rw[g4];exact gX.alloc _
 have gU:Wr (· = bn) W w6:=by rw[gc];exact gV.alloc _
 have gT:Wr (· = bn) W w7:=by rw[ga];exact gU.alloc _
 have ge:Wr (· = bn) W w8:=by rw[g9];exact gT.setCell (.inr (by show W.heap.size<=w6.heap.size;omega)) _
 have gg:∀ q,q<w3.heap.size->w8.heap[q]?=w3.heap[q]?:=fun q hq=>by
  rw[gh.block q (by omega),gl.block q (by omega),gD.block q hq]
 have e4:w8.heap[w4.heap.size]?=some (.cells #[.map (some mt)] 195 (0,0)):=by
  rw[gh.block _ (by omega)];exact g6
 have em:A3 w8 mt (Value.int .i64) (mtL []):=h3.keepB (by rw[gh.block _ (by omega),gl.block _ (by omega)]);have en:A3 w8 nt (Value.int .i64) (ctL []):=h4.keepB (gg nt (by omega));have ex:w8.heap[W.heap.size]?=some (.cells #[Pt xb] 180 (0,0)):=by
  rw[gg _ (by omega),gx _ (by omega),g7,VL _ _ (by omega)];exact g10
 have eb:w8.heap[bn]?=some (.cells #[.map (some nt)] 153 (0,0)):=by rw[gg _ (by omega)];exact g3
 have gP:xb<W.heap.size:=Af gn.cell;have gq:xb≠bn:=fun e=>hnx (.inl e)
 have oS:∀ q,W.heap.size<=q->o q=none:=fun q hq=>g0.lt.none hq
 have hs:SnS (K m.d V) ⟨w4.heap.size,W.heap.size,bn,w6.heap.size,mt,nt,xb⟩ mb o m V [] (tally m.d []) w8:=by
  refine⟨g0.is.other g0.lt ge (fun k _ e=>by subst e;exact gv _ (.inl rfl)),g0.lt.mono ge.size,hk,⟨Co gn.cell (ge.keep xb gP gq),gn.own⟩,cell1 e4,cell1 ex,cell1 eb,?_,em,en,?_,?_,?_,⟨List.nodup_nil,by simp⟩⟩
  . rw[cell1 g8,gp];rfl
  ·rintro q (e|e|e|e|e|e)
   . have e:q=w4.heap.size:=e;exact oS _ (by omega)
   . have e:q=W.heap.size:=e;exact oS _ (by omega)
   . have e:q=bn:=e;exact gv _ (.inl e)
   . have e:q=w6.heap.size:=e;exact oS _ (by omega)
   . have e:q=mt:=e;exact oS _ (by omega)
   . have e:q=nt:=e;exact oS _ (by omega)
  ·refine⟨?_,?_,?_,?_,?_,?_⟩
   . show mt≠w4.heap.size;omega
   . show mt≠W.heap.size;omega
   . show mt≠bn;omega
   . show mt≠w6.heap.size;omega
   . show mt≠xb;omega
   . show mt≠nt;omega
  ·refine⟨?_,?_,?_,?_,?_⟩
   . show nt≠w4.heap.size;omega
   . show nt≠W.heap.size;omega
   . show nt≠bn;omega
   . show nt≠w6.heap.size;omega
   . show nt≠xb;omega
 obtain⟨C,g1⟩:=Ex (⟨w4.heap.size,W.heap.size,bn,w6.heap.size,mt,nt,xb⟩:SnC);have hf:C.caps=#[Pt w4.heap.size,Pt W.heap.size,Pt bn,Pt w6.heap.size]:=by rw[g1];rfl
 have gE:∀ k,C.two k->W.heap.size<=k:=by
  rw[g1];rintro k (e|e)
  . have e:k=mt:=e;omega
  . have e:k=nt:=e;omega
 rw[<- g1] at hs;have ho:=hB.z.len;have clist:w8.cell? (Av bl)=some (.slice a ks.length c):=Co hB.l (ge.keep bl gk (fun e=>hnl e.symm));obtain⟨I,hI⟩:=Ex (fun i wr=>Wr (· = bn) W wr/\wr.heap[bn]?=some (.cells #[.map (some nt)] 153 (0,0))/\SnS (K m.d V) C mb o m V (CN m.d (es.take i)) (tally m.d (CN m.d (es.take i))) wr:Nat->Wd->Prop)
 have gH:Hq (I 0 w8):=by rw[hI];exact Hd ⟨ge,eb,by simpa [CN] using hs⟩
 have HX:Hq (∀ i wr,I i wr->wr.cell? (Av W.heap.size)=some (Pt xb)/\wr.cell? (Av w6.heap.size)=some (.func (.func 166) #[] C.caps)/\(∀ j,j<ks.length->∃ b off,a=some (Aw b off)/\wr.cell? (Aw b (off+j))=some (Iv (at0 ks j)))/\I i wr.drew):=by
  rw[hI];refine Hd fun i wr hh=>?_
  obtain⟨h1,gi,h2⟩:=hh;have hx:=h2.bx;have hd:=h2.bd;rw[g1] at hx;refine⟨hx,?_,fun j hj=>?_,h1.drew,gi,h2.below (Am wr 1)⟩
  . rw[g1] at hd ⊢;exact hd
  . obtain⟨b,off,e,hc⟩:=hB.z.cells j hj;exact⟨b,off,e,Co hc (h1.keep b (hC b (.inr (.inr ⟨_,e,rfl⟩))).1 (fun q=>hna _ e q.symm))⟩
 have g2:Hq (∀ i wr,i<ks.length->I i wr->∃ f,Cl 148 #[Pt xb,Iv (at0 ks i)] wr ((Sm (Iv (f:Nat)) wr)) /\
  Cl 166 (#[Iv (f:Nat)]++C.caps) wr fun x w'=>x=.returned (.tuple #[])/\I (i+1) w'):=by
  rw[hI];refine Hd fun i wr hi hh=>?_
  obtain⟨h1,gi,h2⟩:=hh;have gy:i<es.length:=by omega
  have gO:=h2.x;rw[g1] at gO;refine⟨es[i],by rw[As hi];exact FG h2.is gO g0.ok.handles.nodup (h8 i hi gy),?_⟩;refine(Ng m.d.vars.length _ _ wr h2 (gj _ (VG gy)) (by omega)).mono ?_;rintro x w' ⟨rfl,r1,r2⟩;refine⟨rfl,h1.trans r1 (fun _ _ e=>e) (fun k hk e=>by have:=gE k e;omega),(r1.keep bn (by have:=h1.size;omega) (fun e=>by have:=gE bn e;omega)).trans gi,?_⟩;rw[TJ es gy];exact r2
 obtain⟨P,hP⟩:∃ P:Ending->Wd->Prop,P=fun e w'=>∃ (o':Own) (m':ManD) (V':Nat->BF),C8 (CsN bn bl a) K o W mb m V o' w' m' V'/\BoN wB bn bl a c ks w' /\
  ((e=.returned (.tuple #[])/\Fb n ws0 os bn Fs W.heap.size w' m' V') \/
   (∃ er:Int,e=AV er false ev0/\er≠0/\m'.waits=m.waits/\(m'.waits=ws0/\m'.d.vars=os)/\E er m m') \/
   (∃ ev,e=AV 0 true ev/\m.waits=ev::m'.waits/\StE K n Od room w0 mb fs nx (fun m=>m.waits=ws0/\m.d.vars=os) m'/\HapG K n Od room w0 mb fs nx ev)):=⟨_,rfl⟩
 have gm:Hq (∀ wr,I ks.length wr->P (.returned (.tuple #[])) wr):=by
  rw[hI,hP];refine Hd fun wr hh=>?_
  obtain⟨h1,gi,h2⟩:=hh;rw[<- h7,Wb] at h2;have ha:=h2.bn;have h0:=h2.cnt;rw[g1] at ha h0;refine⟨o,m,V,⟨h2.is,h2.lt,ChgX.of_wr h1 o (fun k _ e=>.inl e),hk,Ext.refl _ _,rfl,rfl⟩,⟨?_,?_,⟨ho,fun i hi=>?_⟩,fun x hx=>?_⟩,.inl ⟨rfl,gQ,gt,nt,_,by omega,ha,h0,?_⟩⟩
  . exact⟨_,gi⟩
  . exact(Co hB.l (h1.keep bl gk (fun e=>hnl e.symm)))
  . obtain⟨b,off,e,hc⟩:=hB.z.cells i hi;exact⟨b,off,e,Co hc (h1.keep b (hC b (.inr (.inr ⟨_,e,rfl⟩))).1 (fun q=>hna _ e q.symm))⟩
  . exact(h1.keep _ (hC _ (.inr (.inr ⟨x,hx,rfl⟩))).1 (fun q=>hna x hx q.symm)).trans (hB.s x hx)
  . have:=TV hk es gj (fun e he=>IR g0.is he);rw[g0.vars,h9,gt] at this;exact this
 have HW1:=Hd gd.symm;have hv:=Hd g5.symm;have hF:=Hd g4.symm;have c2:=cell1 gf;have f2:w2.frozen? (Av bn)=false:=by simp[World.frozen?,gf]
 have hu:=Hd gc.symm;rw[gp,ga] at gS;rw[<- hP];rw[hf] at HX g2;clear hP hI hs g0 hB hC gn hnx h9 gj h8 hk gv gR gB gk gd g7 g5 g4 gc ga g9 gN gM gL gK gJ gI hp g10 gZ h5 gY gV gU gT gf go gC gx g3 gX h4 h3 gD gl g6 gp gh g8 ge gg e4 em en ex eb gP gq oS g1 hf gE gu gw hlen hm h7 gQ gt
 go_enter func165,ntmps165
 go_upto_region 1 with fail;rw[HW1.o];go_upto_region 2 with fail;rw[hv.o];clear c2 f2 hn ht;go_upto_region 3 with fail;rw[hu.o];clear hg;go_upto_region 5 with fail;clear gS;go_wp2_with fail
 go_loopw [7,13] (fun _ s13 wr=>∃ i:Nat,i<=ks.length/\s13=Iv i/\Hq (I i wr)) (fun _ s13 _=>ks.length-(intOf s13).toNat)
 case atStart=>exact⟨0,VC _,rfl,gH⟩
 case round =>
  obtain⟨i,hi,rfl,HI⟩:=hrel
  by_cases h6:i<ks.length
  ·have hD:(i:Int)<(ks.length:Int):=by omega
   obtain⟨x1,x2,x3,x4⟩:=HX.o i _ HI.o;obtain⟨b,off,rfl,ck⟩:=x3 i h6;have HD:=Hd (HX.o i _ x4);obtain⟨f,hE,hS⟩:=g2.o i _ h6 x4;have HE:=Hd hE;have HS:=Hd hS;have gF:=HX;clear hE hS x1 x2 x3 x4 HX g2 gm HI gH clist;go_upto_region 8 with fail;obtain⟨wz,gr⟩:=Ex wr.drew;rw[<- gr] at HD HE HS;have gG:=Hd gr;clear gr;have gA:=HD.o.1;have gz:=HD.o.2.1;refine FL [0,1,2,3,4] (fun W'=>W'.cell? (Av W.heap.size)=some (Pt xb)/\W'.cell? (Av w6.heap.size)=some (.func (.func 166) #[] #[Pt w4.heap.size,Pt W.heap.size,Pt bn,Pt w6.heap.size])) (fun ch w'=>False) (fun c a w hd h=>h.elim) (by kernel_rfl) (by rw[<- gG.o];exact⟨gA,gz⟩) ?_;rw[<- gG.o]
   iterate 3
    refine Ed rfl rfl (by kernel_rfl) ?_;apply Exists.intro;refine⟨fun w' hw=>?_,?_⟩
    . obtain⟨q1,q2⟩:=hw;go_simp;rfl
    simp only[Ab]
   refine It (R1:=fun u w'=>u=Iv (f:Nat)/\wz=w') rfl (by kernel_rfl) rfl rfl (by go_simp) (HE.o.mono fun x w' h=>⟨_,h.1,rfl,h.2⟩) (by rintro u w' ⟨_,rfl⟩;exact⟨gA,gz⟩) ?_;rintro u w'-⟨rfl,rfl⟩;simp only[Ab];refine It (R1:=fun u w'=>u=.tuple #[]/\I (i+1) w') rfl (by kernel_rfl) rfl rfl (by go_simp) (HS.o.mono fun x w' h=>⟨_,h.1,rfl,h.2⟩) (by rintro u w' ⟨_,hI⟩;exact⟨(gF.o (i+1) w' hI).1,(gF.o (i+1) w' hI).2.1⟩) ?_;rintro u w9-⟨rfl,hb⟩;have hy:=Hd hb;clear hb gF HS HE HD gA gz gG;simp only[Ab];refine FM (by kernel_rfl) ?_;go_wp2_with fail;go_roundw
   case rel=>exact⟨i+1,by omega,by rw[show ((i+1:Nat):Int)=(i:Int)+1 by omega],hy⟩
   case measure=>simp[intOf];omega
  ·obtain rfl:i=ks.length:=by omega
   have hz:¬ (ks.length:Int)<(ks.length:Int):=by omega
   have HF:=Hd (gm.o _ HI.o);clear HX g2 gm HI gH;go_wp2_with fail;refine Xi (WC rfl _ _ _) rfl ?_;exact HF.o
end
structure ArgI (w0 w:Wd)(o:Own)(a:Option Addr)(ks:List Int):Prop where
 z:Ar w a ks
 own:∀ x,a=some x->x.block<w.heap.size/\w0.heap.size<=x.block/\o x.block=none
theorem TY {fr:Nat×Nat}(h:w.heap[b]?=some (.cells #[v] t fr)):w.setCell (Av b) v=w:=by
 have:w.heap.modify b (fun|.cells c elem frozen=>.cells (c.setIfInBounds 0 v) elem frozen|o=>o)=w.heap:=by
  apply Array.ext_getElem?;intro i;rw[XN];split
  ·rename_i e
   subst e;rw[h];rfl
  . rfl
 show ({ w with heap:=w.heap.modify b (fun|.cells c elem frozen=>.cells (c.setIfInBounds 0 v) elem frozen|o=>o) }:Wd)=w
 rw[this]
section
variable {o:Own}
def Ji (K:Law)(n:Nat)(Od:List Nat->Prop)(room:Nat)(w0:Wd)(mb:Nat)(fs:List (Int×BF))(nx:Int)(m:ManD)(o:Own)(w:Wd)(Fs:List BF)(x:Ending)(w':Wd):Prop :=
 ∃ nt cs,x=.returned (.tuple #[.map (some nt),Iv 0])/\A3 w' nt (Value.int .i64) (ctL cs)/\Jh n m.d.vars Fs cs/\∃ o' m' V',ChgX NoB o o' w w'/\m'.waits=m.waits/\m'.d.vars=m.d.vars/\SatE K n Od room w0 mb fs nx w' o' m' V'
theorem TZ {bn s:Nat}(hb:bn<s)(hz:s+3<=W.heap.size)(h:Fb n ws0 os bn Fs (s+3) W m V)(a:Ali s W W'):Fb n ws0 os bn Fs 0 W' m V:=by
 obtain⟨h1,h2,nt,cs,h3,h4,h5,h6⟩:=h;exact⟨h1,h2,nt,cs,VC _,Co h4 (a.keep bn (by omega) (by omega)),h5.keepB (a.keep nt h5.lt (by omega)),h6⟩
theorem Ua (h:SatE K n Od room w0 mb fs nx w o m V){a:Option Addr}(hl:ArgI w0 w o a ks)(hlen:Fs.length=ks.length)(hm:∀ i (h:i<ks.length),(ks[i],Fs[i]'(by omega))∈fs) :
 Cl 122 #[Pt mb,.slice a ks.length c] w (Ji K n Od room w0 mb fs nx m o w Fs):=by
 have gi:∀ (fn:Fn) (first cap:Array Value) (w:Wd),(Instr.makeFunc fn first cap).run prog w=.ok (.func fn first cap) w:=fun _ _ _ _=>rfl
 have hw0:=h.chg.size;obtain⟨w2,g3⟩:=Ex ((w.alloc (.cells #[.slice a ks.length c] 22)).alloc (.cells #[.map none] 153));have g5:Bw w w2:=by rw[g3];exact(Ah _ _).alloc (by simp) _
 have gc:w2.heap.size=w.heap.size+2:=by rw[g3];simp
 have g0:w2.heap[w.heap.size]?=some (.cells #[.slice a ks.length c] 22 (0,0)):=by
  rw[g3];exact(VL _ _ (by simp)).trans (Vv _ _)
 have g1:w2.heap[w.heap.size+1]?=some (.cells #[.map none] 153 (0,0)):=by
  have:=Vv (w.alloc (.cells #[.slice a ks.length c] 22)) (.cells #[.map none] 153);rw[VK] at this;rw[g3];exact this
 obtain⟨s,hs⟩:=Ex (w.heap.size+1);rw[<- hs] at g1;have g6:∀ x,a=some x->s≠x.block:=fun x hx e=>by have:=(hl.own x hx).1;omega
 have g4:=h.below g5;have hz:=hl.z.below g5;have g8:BoN w2 s w.heap.size a c ks w2:=⟨⟨_,g1⟩,cell1 g0,hz,fun _ _=>rfl⟩;have hC:∀ k,CsN s w.heap.size a k->k<w2.heap.size/\o k=none:=by
  rintro k (rfl|rfl|⟨x,hx,rfl⟩)
  . exact⟨by omega,h.lt.none (by omega)⟩
  . exact⟨by omega,h.lt.none (by omega)⟩
  . have:=hl.own x hx;exact⟨by omega,this.2.2⟩
 have ga:∀ k,CsN s w.heap.size a k->w0.heap.size<=k:=by
  rintro k (rfl|rfl|⟨x,hx,rfl⟩)
  . omega
  . omega
  . exact(hl.own x hx).2.1
 have hL:=Ty (B:=BoN w2 s w.heap.size a c ks) (QP:=fun _=>Fb n m.waits m.d.vars s Fs 0) (St:=fun m'=>m'.waits=m.waits/\m'.d.vars=m.d.vars) (fun _ _ hb hk=>hb.keep hk) (fun s' _ W W' m' V' hc hz _ hq a=>TZ (hc s (.inl rfl)) hz hq a) (fun m' d hm hr=>⟨hm.1,by show d.vars=_;rw[hr.vars];exact hm.2⟩) ga TW (TX (E:=fun _ _ _=>False) (by omega) g6 hlen hm m.waits m.d.vars) g4 g8 hC ⟨rfl,rfl⟩
 have HL:Hq (Cl 164 #[Pt mb,.func (.func 165) #[] #[Pt s,Pt w.heap.size]] w2 fun x w'=>x=.returned (Iv 0)/\∃ nt,w'.cell? (Av s)=some (.map (some nt))/\(∃ v,w'.heap[s]?=some (.cells #[v] 153 (0,0)))/\Ji K n Od room w0 mb fs nx m o w Fs (.returned (.tuple #[.map (some nt),Iv 0])) w'):=Hd (hL.mono (by
  rintro x w' ⟨er,rfl,o',m',V',hs',g9,hc,⟨rfl,q1,q2,nt,cs,q3,q4,q5,q6⟩|⟨_,m0,e,_⟩⟩
  ·refine⟨rfl,nt,q4,g9.n,nt,cs,rfl,q5,q6,o',m',V',?_,q1,q2,hs'⟩;have g2:ChgX (CsN s w.heap.size a) o o' w w':=(ChgX.of_below g5 o (CsN s w.heap.size a)).trans hc (fun _ _ e=>e);refine⟨g2.os,g2.tape,g2.output,g2.size,fun k hk ho _=>?_,g2.ext,g2.new⟩
   by_cases e:CsN s w.heap.size a k
   ·rcases e with e|e|⟨x,hx,e⟩
    . omega
    . omega
    . subst e;exact(g9.s x hx).trans (g5.block _ hk)
   . exact g2.block k hk ho e
  . exact e.elim))
 have gf:Hq (∀ i,i<ks.length->Cl 20 #[Pt mb,Iv (at0 ks i)] w2 (Sm (.bool true) w2)):=Hd fun i hi=>by
  rw[As hi];exact(IG g4 (hm i hi))
 have HZ:Hq (∀ i,i<ks.length->∃ b off,a=some (Aw b off)/\w2.cell? (Aw b (off+i))=some (Iv (at0 ks i))):=Hd fun i hi=>by
  obtain⟨b,off,e,hc⟩:=hz.cells i hi;exact⟨b,off,e,hc⟩
 have gd:=Hd g3.symm;have HS:=Hd hs;have c0:=cell1 g0;have gh:=hz.len;obtain⟨P,hP⟩:=Ex (Ji K n Od room w0 mb fs nx m o w Fs);rw[<- hP] at HL ⊢;have HP:Hq (∀ x w',P x w'->P x w'):=Hd fun _ _ e=>e
 clear hP h hw0 g3 g5 gc g0 g1 hs g6 g4 hz g8 hC ga hL hl hlen hm
 go_enter func122,ntmps122
 go_upto_region 1 with fail;rw[gd.o];rw[<- HS.o];go_wp2_with fail
 go_loopw [7,12] (fun _ s12 wr=>∃ i:Nat,i<=ks.length/\s12=Iv i/\wr=w2) (fun _ s12 _=>ks.length-(intOf s12).toNat)
 case atStart=>exact⟨0,VC _,by trivial,by trivial⟩
 case round =>
  obtain⟨i,hi,rfl,rfl⟩:=hrel
  by_cases g7:i<ks.length
  ·have gj:(i:Int)<(ks.length:Int):=by omega
   obtain⟨b,off,rfl,ck⟩:=HZ.o i g7;have HI:=Hd (gf.o i g7);clear HL;go_wp2_with fail;refine HI.o.mono ?_;rintro x w' ⟨rfl,rfl⟩;go_wp2_with fail;go_roundw
   case rel=>exact⟨i+1,by omega,by rw[show ((i+1:Nat):Int)=(i:Int)+1 by omega],trivial⟩
   case measure=>simp[intOf];omega
  ·obtain rfl:i=ks.length:=by omega
   have gg:¬ (ks.length:Int)<(ks.length:Int):=by omega
   go_wp2_with fail;refine HL.o.mono ?_;rintro x w' ⟨rfl,nt,q1,⟨v,q2⟩,hf⟩;have HF:=Hd hf;obtain rfl:v=.map (some nt):=Xp ((cell1 q2).symm.trans q1);have ge:=Hd (TY q2);have f1:w'.frozen? (Av s)=false:=by simp[World.frozen?,q2]
   clear hf HL;go_wp2_with fail;rw[ge.o];have hu:=underlying153;refine VR (v:=.tuple #[.map (some nt),Iv 0]) ((results_cell_tmp rfl _ _ _).trans ?_) rfl HF.o
   show ((asAddr (Pt s)).run prog w').andThen (fun a w₁=>((loadVar 153 a).run prog w₁).andThen fun v w₂=>.ok (Value.tuple #[v,Iv 0]) w₂)=_
   go_simp
end
open Go.ChangeMaps (setBlock)
theorem Nm (seen:Array Nat):∀ es:List MapEntry,(∀ e∈es,0<=valOf e.val)->0<=seenSum es seen/\seenSum es seen<=(es.map fun e=>valOf e.val).sum
 | [],_=>⟨Yc _,Yc _⟩
 | x::l,h=>by
   have h1:=h x (VM ..);obtain⟨a,b⟩:=Nm seen l (fun e he=>h e (Wi _ he))
   show 0<=(if seen.contains x.born then valOf x.val else 0)+seenSum l seen/\(if seen.contains x.born then valOf x.val else 0)+seenSum l seen<=(List.map (fun e=>valOf e.val) (x::l)).sum
   rw[WG,List.sum_cons];split<;>constructor<;>omega
theorem Ub {r:Nat}(h:Below n w w')(hr:n<=r)(o:Obj):Below n w (setBlock w' r o):=by
 refine⟨h.os,h.tape,h.output,by simpa [setBlock] using h.size,fun k hk=>?_⟩;have:(setBlock w' r o).heap[k]?=w'.heap[k]?:=by simp[setBlock,Xq,show r≠k by omega]
 exact this.trans (h.block k hk)
theorem Uc {r:Nat}(h:r<w.heap.size)(o:Obj):(setBlock w r o).heap[r]?=some o:=by simp[setBlock,h]
theorem Ud (cs:List (Nat×Nat)):((ctL cs).map fun p=>valOf p.2).sum=(sumC cs:Nat):=by
 induction cs with
 | nil=>rfl
 | cons p r ih =>
   simp only[ctL,sumC,WG,List.sum_cons,Xa] at ih ⊢;rw[ih];simp[valOf]
section
variable {o:Own}
def AskV (K:Law)(n:Nat)(Od:List Nat->Prop)(room:Nat)(w0:Wd)(mb:Nat)(fs:List (Int×BF))(nx:Int)(m:ManD)(o:Own)(w w':Wd):Prop :=
 ∃ o' m' V',ChgX NoB o o' w w'/\m'.waits=m.waits/\m'.d.vars=m.d.vars/\SatE K n Od room w0 mb fs nx w' o' m' V'
theorem AskV.below {w1 w':Wd}(h:AskV K n Od room w0 mb fs nx m o w w1)(hb:Bw w1 w'):AskV K n Od room w0 mb fs nx m o w w':=by
 obtain⟨o',m',V',h1,h2,h3,h4⟩:=h;exact⟨o',m',V',h1.trans (ChgX.of_below hb o' NoB) (fun _ _ e=>e),h2,h3,h4.below hb⟩
end
open Go.ChangeMaps (setBlock)
section
variable {o:Own}
theorem Ue (h:SatE K n Od room w0 mb fs nx w o m V){a:Option Addr}(hl:ArgI w0 w o a ks)(hlen:Fs.length=ks.length)(hm:∀ i (h:i<ks.length),(ks[i],Fs[i]'(by omega))∈fs) :
 Cl 65 #[Pt mb,.slice a ks.length c] w fun x w'=>x=.returned (.tuple #[Iv ((nodesF n m.d.vars Fs).length:Nat),Iv 0])/\AskV K n Od room w0 mb fs nx m o w w':=by
 have HS:=Hd (Ua (c:=c) h hl hlen hm);obtain⟨N,hN⟩:=Ex ((nodesF n m.d.vars Fs).length);obtain⟨P,hP⟩:=Ex (fun x w'=>x=.returned (.tuple #[Iv (N:Nat),Iv 0])/\AskV K n Od room w0 mb fs nx m o w w':Ending->Wd->Prop)
 have gA:Hq (∀ w1 w',AskV K n Od room w0 mb fs nx m o w w1->Bw w1 w'->P (.returned (.tuple #[Iv (N:Nat),Iv 0])) w'):=Hd fun w1 w' h1 h2=>by
  rw[hP];exact⟨rfl,h1.below h2⟩
 rw[<- hN];rw[<- hP];have gm:=Hd hN;clear hN hP h hl hlen hm
 go_enter func65,ntmps65
 go_wp2_with fail;refine HS.o.mono ?_;rintro x w1 ⟨nt,cs,rfl,gg,hv,gi⟩;have gB:=Hd (show AskV K n Od room w0 mb fs nx m o w w1 from gi);obtain⟨es,clock,hM,g3,g9,gr⟩:=gg.ex;have gc:(es.toList.map fun e=>valOf e.val).sum=((N:Nat):Int):=by
  have h1:=Wo (List.map fun q:Value×Value=>valOf q.2) g3;simp only[Xa] at h1;have h2:(es.toList.map fun e=>valOf e.val)=(ctL cs).map fun p=>valOf p.2:=h1
  rw[h2,Ud,hv.sum,gm.o]
 have g2:∀ e∈es.toList,∃ k:Nat,e.val=Iv k:=fun e he=>by
  have h1:(e.key,e.val)∈(ctL cs).map (fun p=>(Value.int .i64 p.1,p.2)):=by rw[<- g3];exact VD.2 ⟨e,he,rfl⟩
  obtain⟨p,hp,e2⟩:=VD.1 h1;obtain⟨q,_,rfl⟩:=VD.1 hp;exact⟨q.2,(Wo Prod.snd e2).symm⟩
 have ge:∀ e∈es.toList,0<=valOf e.val:=fun e he=>by
  obtain⟨k,hk⟩:=g2 e he;rw[hk];exact Int.natCast_nonneg k
 have gj:N<=2305843009213693952:=by rw[gm.o,<- hv.sum];exact hv.le
 have gf:nt<w1.heap.size:=gg.lt;have HV:=Hd g2;have HPOS:=Hd ge;have gl:=Hd gc;have go:=Hd g9;have gx:=Hd gr;have HM:=Hd hM;have gD:=run_range_map (P:=prog) w1 153 _ _ nt es clock underlying153 hM;clear gi gg hv g3 g9 gr gc g2 ge hM HS gm;go_upto_region 5 with fail;obtain⟨r,hr⟩:=Ex w1.heap.size;obtain⟨w2,g5⟩:=Ex (w1.alloc (.mapIter (some nt) clock #[] clock));have HB2:=Hd (show Bw w1 w2 by rw[g5];exact Ah _ _);have gE:=Hd (show w2.heap[r]?=some (.mapIter (some nt) clock #[] clock) by rw[g5,hr];exact Vv _ _);rw[<- g5,<- hr];have HR:=Hd hr;have gw:=Hd gf;clear g5 gD hr gf
 go_loopw [4,8] (fun s4 _ wr=>∃ seen:Array Nat,Bw w1 wr/\wr.heap[r]?=some (.mapIter (some nt) clock seen clock)/\s4=Iv (seenSum es.toList seen)) (fun _ _ wr=>(leftOf es (wr.iterSeen r)).size)
 case atStart=>exact⟨#[],HB2.o,gE.o,by rw[seenSum_none]⟩
 case round =>
  obtain⟨seen,hb,g1,rfl⟩:=hrel;have gk:wr.heap[nt]?=some (.map es clock):=(hb.block nt gw.o).trans HM.o;have HB:=Hd hb;have gG:=Hd g1;rcases run_next_at (P:=prog) wr 0 r nt clock clock seen es clock g1 gk go.o (Vu _) with ⟨hz,g0⟩|⟨e,he,w3,ga,g0⟩
  ·have hs:=seenSum_all es seen hz;rw[gl.o] at hs;have hnx:∀ ty,(Instr.next (Pt r) false ty).run prog wr=_:=fun _=>g0
   rw[hs];have HF:=Hd (gA.o w1 wr gB.o hb);clear hs g0 hz gk g1 hb gj;go_wp2_with fail;exact HF.o
  ·obtain⟨g8,gt⟩:=mem_left he;obtain⟨k,hk⟩:=HV.o e g8;have gC:0<=seenSum es.toList (seen.push e.born)/\seenSum es.toList (seen.push e.born)<=(N:Nat):=by
    have:=Nm (seen.push e.born) es.toList HPOS.o;rw[gl.o] at this;exact this
   have g6:=seenSum_push seen e gt es.toList gx.o g8;rw[hk] at g6;obtain⟨w4,g4⟩:=Ex (setBlock w3 r (.mapIter (some nt) clock (seen.push e.born) clock));have gd:r<wr.heap.size:=(Vr.1 g1).1;have gu:Bw w1 w3:=by rcases ga with e|e<;>rw[e];exact hb;exact hb.trans ((Am wr 1).mono hb.size)
   have gq:r<w3.heap.size:=by rcases ga with e|e<;>rw[e];exact gd;exact gd
   have gh:Bw w1 w4:=by rw[g4];exact Ub gu (by rw[HR.o];exact Vu _) _
   have g7:w4.heap[r]?=some (.mapIter (some nt) clock (seen.push e.born) clock):=by rw[g4];exact Uc gq _
   have gv:w4.heap[nt]?=some (.map es clock):=(gh.block nt gw.o).trans HM.o;have gy:=run_entry_at (P:=prog) w4 r nt clock seen es clock e g7 gv g8 gx.o;rw[<- g4,hk] at g0;rw[hk] at gy;have hnx:∀ ty,(Instr.next (Pt r) false ty).run prog wr=_:=fun _=>g0
   obtain⟨S,hS⟩:=Ex (seenSum es.toList seen);have gp:valOf (Iv (k:Nat))=(k:Int):=rfl;rw[gp,<- hS] at g6;have gF:IntKind.i64.wrap (S+(k:Nat))=S+(k:Nat):=Xf _ ⟨by omega,by omega⟩;have gz:=Hd (show ∃ sn:Array Nat,Bw w1 w4/\w4.heap[r]?=some (.mapIter (some nt) clock sn clock)/\(Value.int .i64 (S+(k:Nat)))=Iv (seenSum es.toList sn) from ⟨_,gh,g7,by rw[g6]⟩)
   have gn:=Hd (show (leftOf es (w4.iterSeen r)).size<(leftOf es (wr.iterSeen r)).size by
    have e1:w4.iterSeen r=seen.push e.born:=by unfold World.iterSeen;rw[g7]
    have e2:wr.iterSeen r=seen:=by unfold World.iterSeen;rw[g1]
    rw[e1,e2];exact left_shrinks es seen e he)
   rw[<- hS];clear g0 gk g1 hb gj he g8 gt hk gC g6 g4 gd gu gq gh g7 gv hS gp ga;go_wp2_with fail;go_roundw
   case rel=>exact gz.o
   case measure=>exact gn.o
end
section
theorem Uf (bu:List Bool)(au:Option Addr)(cu:Nat)(w:Wd)(h1:Cd w au bu) :
 Cl 180 #[.slice au bu.length cu] w fun x w'=>∃ g,x=.returned (.slice (some (Av g)) bu.length bu.length)/\OwnB w' w.heap.size (.slice (some (Av g)) bu.length bu.length) (bu.map (!·))/\Bw w w':=by
 have g7:=h1.len;obtain⟨L,hL⟩:=Ex bu.length;have H1:=Hd h1;have g1:=Hd hL;rw[<- hL] at g7 ⊢;clear hL h1
 go_enter func180,ntmps180
 go_wp2_with (at_make;refine FQ Du rfl _ _ rfl w.heap.size w _ L rfl rfl rfl (by omega) (Vu _) (VI _ _) ?_;intro g w1 g3 g6 hs1 gg ge gd;clear gd)
 go_loopw [4] (fun s4 wr=>∃ j:Nat,j<=L/\s4=Iv j/\OwnB wr w.heap.size (.slice (some (Av g)) L L) ((bu.map (!·)).take j++(List.replicate L false).drop j)/\Bw w wr) (fun s4 _=>L-(intOf s4).toNat)
 case atStart=>exact⟨0,by omega,rfl,by unfold OwnB;simpa [AL] using g3,g6⟩
 case round =>
  clear g3 g6;obtain⟨j,hj,rfl,g0,g2⟩:=hrel
  by_cases g5:j<L
  ·have ga:j<(bu.map (!·)).length:=by simp[<- g1.o];exact g5
   obtain⟨b1,of1,e1,c1⟩:=(H1.o.below g2).cells j (by rw[<- g1.o];exact g5);have q0:=g0.cellB j (by have:=g1.o;simp;omega);have p0:=g0.frozen j;subst e1;have g8:=Hd g0;have g9:=Hd g2;obtain⟨y1,g4⟩:∃ y,y=bu.getD j false:=⟨_,rfl⟩;rw[<- g4] at c1
   have HY:Hq ((bu.map (!·))[j] = !y1):=Hd (by
    have gc:j<bu.length:=by rw[<- g1.o];exact g5
    rw[g4];simp[gc])
   clear g0 g2 g4 H1;go_wp2_with fail;go_roundw
   case rel =>
    refine⟨j+1,by omega,by go_num,?_,g9.o.setCell ge _⟩;rw[<- Lm (by have:=g1.o;simp;omega) ga HY.o];exact g8.o.setB j _
   case measure=>simp[intOf];omega
  ·obtain rfl:j=L:=by omega
   have gf:(bu.map (!·)).length=j:=by simp[<- g1.o]
   go_wp2_with fail;go_ret;refine⟨g,rfl,?_,g2⟩;rw[Wv (by omega),Wu (by simp),WU] at g0;exact g0
end
section
theorem Ug (n:Nat)(F:BF)(au:Option Addr)(cu:Nat)(w:Wd)(h1:Cd w au (tabB n F)) :
 Cl 180 #[.slice au (2^n) cu] w fun x w'=>∃ g,x=.returned (.slice (some (Av g)) (2^n) (2^n))/\B6 w' (.slice (some (Av g)) (2^n) (2^n)) (tabB n (notF F))/\Bw w w':=by
 have:=Uf (tabB n F) au cu w h1;rw[CA] at this;refine this.mono ?_;rintro x w' ⟨g,rfl,h2,h3⟩;rw[SH] at h2;exact⟨g,rfl,h2.boolsIs (by have:=h1.len;rw[CA] at this ⊢;exact this),h3⟩
end
section
variable {x y:Value}
theorem Uh (hn:n<=16)(h:TabA n w x F):Cl 180 #[x] w (RefT n (notF F) w):=by
 obtain⟨a,c,rfl,h1⟩:=h;refine(Ug n F a c w h1).mono ?_;rintro e w' ⟨g,rfl,h2,h3⟩;exact⟨_,rfl,h2,h3⟩
end
end Go.Proofs.YtkidaindpahefaaGreat
