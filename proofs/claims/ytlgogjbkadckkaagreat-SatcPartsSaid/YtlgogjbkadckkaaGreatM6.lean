/- Several texts in one file: contracts of the program's functions and what follows from them. -/
import Derived.Test.YtlgogjbkadckkaaGreatM5
import Derived.Deep.CutBlock
import Derived.Laws.CopyOwn
set_option linter.unusedSimpArgs false
set_option linter.unusedVariables false
set_option linter.unusedSectionVars false
set_option linter.unnecessarySimpa false
set_option maxRecDepth 100000
set_option maxHeartbeats 8000000
namespace Go.Proofs.YtlgogjbkadckkaaGreat
open Go.RowKit
theorem Ybx (w:World) (g:Fn) (fs cs:Array Value):(binOp .eql 157 (.func g fs cs) .nilFunc).run Tryz.prog w=.ok (.bool false) w:=by
 have hd:Op.maxDepth=9999+1:=rfl;have h:(Op.equal 157 (.func g fs cs) .nilFunc).run Tryz.prog w=.ok false w:=by
  unfold Op.equal;rw[hd];unfold Op.equalIn;simp only[Sem.run_bind,run_underlying Tryz.underlying157,Result.andThen_ok];simp
 simp only[binOp];simp[h]
section
variable {K:Law} {n:Nat} {Od:List Nat->Prop} {room:Nat} {w0:World} {mb:Nat} {fs:List (Int×BF)} {nx:Int} {C:Nat->Prop} {B:World->Prop} {St:ManD->Prop} {gop:Nat} {lop:Array Value} {QO:Nat->Own->World->ManD->(Nat->BF)->Prop} {QP:Own->World->ManD->(Nat->BF)->Prop} {Q:World->ManD->(Nat->BF)->Prop} {E:Int->ManD->ManD->Prop}
def OpLN (K:Law) (n:Nat) (Od:List Nat->Prop) (room:Nat) (w0:World) (mb:Nat) (fs:List (Int×BF)) (nx:Int) (C:Nat->Prop) (B:World->Prop) (St:ManD->Prop) (gop:Nat) (lop:Array Value) (Q:Nat->Own->World->ManD->(Nat->BF)->Prop) (E:Int->ManD->ManD->Prop):Prop :=
 ∀ (o:Own) (W:World) (m:ManD) (V:Nat->BF) (xb:Nat),SatE K n Od room w0 mb fs nx W o m V->B W->(∀ k,C k->k<W.heap.size/\o k=none)->St m->Zer o W xb mb->¬ C xb ->
  Calls Tryz.prog gop (#[.pointer (some ⟨xb,0,none⟩)]++lop) W fun e w'=>∃ (o':Own) (m':ManD) (V':Nat->BF),Zhj C K o W mb m V o' w' m' V'/\B w' /\
   ((e=.returned (.tuple #[])/\Q W.heap.size o' w' m' V') \/
    (∃ er:Int,e=Zb8 er false ev0/\er≠0/\m'.waits=m.waits/\St m'/\E er m m') \/
    (∃ ev,e=Zb8 0 true ev/\m.waits=ev::m'.waits/\StE K n Od room w0 mb fs nx St m'/\HapG K n Od room w0 mb fs nx ev))
def Zle (W:World) (b:Nat):Prop:=∀ k d,W.cell? ⟨b,k,none⟩≠some (.int .u32 d)
structure Ztt (K:Law) (n:Nat) (Od:List Nat->Prop) (room:Nat) (w0:World) (mb:Nat) (fs:List (Int×BF)) (nx:Int) (C:Nat->Prop) (B:World->Prop) (St:ManD->Prop) (o0:Own) (w:World) (k:Nat) (full:Bool) (W:World) (o:Own) (m:ManD) (V:Nat->BF):Prop where
 sat:SatE K n Od room w0 mb fs nx W o m V
 bok:B W
 st:St m
 len:m.waits.length=k
 cok:∀ c,C c->c<w.heap.size/\o c=none
 chg:ChgX C o0 o w W
 clean:full=true->m.d.dead=0
def Yaq (K:Law) (n:Nat) (Od:List Nat->Prop) (room:Nat) (w0:World) (mb:Nat) (fs:List (Int×BF)) (nx:Int) (C:Nat->Prop) (B:World->Prop) (Q:Own->World->ManD->(Nat->BF)->Prop) (E:Int->ManD->ManD->Prop) (o0:Own) (w:World) (er:Int) (W:World):Prop :=
 ∃ o m V,SatE K n Od room w0 mb fs nx W o m V/\B W/\ChgX C o0 o w W/\((er=0/\Q o W m V)\/(er≠0/\∃ m0:ManD,E er m0 m/\(er=7->m0.d.dead=0)))
theorem Zw5 (hB:∀ W W',B W->(∀ c,C c->W'.heap[c]?=W.heap[c]?)->B W') (hQ:∀ s o W W' m V,(∀ c,C c->c<s)->s+3<=W.heap.size->Zle W s/\Zle W (s+1)->QO (s+3) o W m V->Ali s W W'->QP o W' m V) (hSt:∀ (m:ManD) (d:Zac),St m->Za2 m.d d->St { m with d:=d }) (hC0:∀ c,C c->w0.heap.size<=c) (eg:∀ args w,(callFunc gop args).run Tryz.prog w=.ok (.enter gop args) w)
 (hop:OpLN K n Od room w0 mb fs nx C B St gop lop QO E) {o:Own} {w:World} {m:ManD} {V:Nat->BF} (h:SatE K n Od room w0 mb fs nx w o m V) (hb:B w) (hC:∀ c,C c->c<w.heap.size/\o c=none) (hst:St m) :
 Calls Tryz.prog 96 #[.pointer (some ⟨mb,0,none⟩),.func (.func gop) #[] lop] w fun x w'=>∃ er,x=.returned (.int .i64 er)/\Yaq K n Od room w0 mb fs nx C B QP E o w er w':=by
 have hw0:=h.chg.size;have hother:∀ {k full W W' o1 m1 V1},Ztt K n Od room w0 mb fs nx C B St o w k full W o1 m1 V1->∀ {s:Nat},w.heap.size<=s->o1 s=none->o1 (s+1)=none->Ali s W W'->Ztt K n Od room w0 mb fs nx C B St o w k full W' o1 m1 V1:=by
  intro k full W W' o1 m1 V1 hi s hs n0 n1 a;have hk:∀ k,k<w.heap.size->W'.heap[k]?=W.heap[k]?:=fun k hk=>a.keep k (by have:=hi.chg.size;omega) (by omega)
  refine⟨hi.sat.other a (fun k _ e=>?_),hB _ _ hi.bok (fun c hc=>hk c (hi.cok c hc).1),hi.st,hi.len,hi.cok,hi.chg.trans (ChgX.of_wr (C:=fun k=>w.heap.size<=k) a o1 (fun k _ e=>by omega)) (fun k hk e=>by omega),hi.clean⟩;rcases e with rfl|rfl
  ·
   exact⟨by omega,n0⟩
  ·
   exact⟨by omega,n1⟩
 have hnext:∀ {k full full' W W' o1 m1 V1 o2 m2 V2},Ztt K n Od room w0 mb fs nx C B St o w k full W o1 m1 V1->SatE K n Od room w0 mb fs nx W' o2 m2 V2->ChgX NoB o1 o2 W W'->m2.waits=m1.waits->St m2->(full'=true->m2.d.dead=0)->Ztt K n Od room w0 mb fs nx C B St o w k full' W' o2 m2 V2:=by
  intro k full full' W W' o1 m1 V1 o2 m2 V2 hi hsat hc e1 e2 e3;have hsz:=hi.chg.size;exact⟨hsat,hB _ _ hi.bok (fun c hc'=>hc.block c (by have:=(hi.cok c hc').1;omega) (hi.cok c hc').2 (fun e=>e)),e2,by rw[e1];exact hi.len,fun c hc'=>⟨(hi.cok c hc').1,hc.none' (by have:=(hi.cok c hc').1;omega) (hi.cok c hc').2⟩,hi.chg.trans hc (fun _ _ e=>e.elim),e3⟩
 refine Zx2 mb _ _ _ eg (fun k full W=>∃ o1 m1 V1,Ztt K n Od room w0 mb fs nx C B St o w k full W o1 m1 V1) _ ?_ m.waits.length ⟨o,m,V,h,hb,hst,rfl,hC,ChgX.of_below (Below.refl _ _) o C,by simp⟩;rintro k full W ⟨o1,m1,V1,hi⟩;have hsz:=hi.chg.size;obtain⟨s,hs⟩:∃ s,s=W.heap.size:=⟨_,rfl⟩
 refine⟨fun st W1=>match st with
  | none=>∃ (o':Own) (m':ManD) (V':Nat->BF),SatE K n Od room w0 mb fs nx W1 o' m' V'/\B W1/\ChgX C o o' w W1/\s+3<=W1.heap.size/\(∀ q,w.heap.size<=q->q<s+3->o1 q=none->o' q=none)/\(Zle W1 s/\Zle W1 (s+1))/\QO (s+3) o' W1 m' V'
  | some (er,evt,ev)=>∃ (o':Own) (m':ManD) (V':Nat->BF),Ztt K n Od room w0 mb fs nx C B St o w m'.waits.length false W1 o' m' V'/\s+3<=W1.heap.size/\(∀ q,w.heap.size<=q->q<s+3->o1 q=none->o' q=none) /\
   ((evt=false/\er≠0/\m'.waits=m1.waits/\E er m1 m')\/(evt=true/\m1.waits=ev::m'.waits/\StE K n Od room w0 mb fs nx St m'/\HapG K n Od room w0 mb fs nx ev)),?_,?_,?_,?_,?_⟩
 ·
  unfold Zvi;have hbt:Below W.heap.size W (tryW mb W):=((Zaf _ _).alloc (by simp) _).alloc (by simp;omega) _;have hzt:(tryW mb W).heap.size=W.heap.size+3:=by unfold tryW;simp
  obtain⟨T,hT⟩:∃ T,T=tryW mb W:=⟨_,rfl⟩;have h1:(tryW mb W).heap[W.heap.size+2]?=some (.cells #[.pointer (some ⟨mb,0,none⟩)] 174 (0,0)):=by
   have:=heap_alloc_new ((W.alloc (.cells #[.int .i64 0,.bool false,.int .i64 0,.int .i64 0,.int .i64 0] 178)).alloc (.cells #[.bool false] 4)) (.cells #[.pointer (some ⟨mb,0,none⟩)] 174);rw[World.size_alloc,World.size_alloc] at this;exact this
  have hn0:Zle (tryW mb W) W.heap.size:=fun k d hd=>by
   have e:(tryW mb W).heap[W.heap.size]?=some (.cells #[.int .i64 0,.bool false,.int .i64 0,.int .i64 0,.int .i64 0] 178 (0,0)) :=
    (Go.heap_alloc_old _ _ (by simp;omega)).trans ((Go.heap_alloc_old _ _ (by simp)).trans (heap_alloc_new _ _))
   rw[cell_of_row _ _ _ _ _ _ e] at hd;rcases(show k=0\/k=1\/k=2\/k=3\/k=4\/5<=k by omega) with rfl|rfl|rfl|rfl|rfl|hk
   ·
    simp at hd
   ·
    simp at hd
   ·
    simp at hd
   ·
    simp at hd
   ·
    simp at hd
   ·
    rw[Array.getElem?_eq_none (by simpa using hk)] at hd;cases hd
  have hn1:Zle (tryW mb W) (W.heap.size+1):=fun k d hd=>by
   have e0:=heap_alloc_new (W.alloc (.cells #[.int .i64 0,.bool false,.int .i64 0,.int .i64 0,.int .i64 0] 178)) (.cells #[.bool false] 4);rw[World.size_alloc] at e0;have e:(tryW mb W).heap[W.heap.size+1]?=some (.cells #[.bool false] 4 (0,0)) :=
    (Go.heap_alloc_old _ _ (by simp)).trans e0
   rw[cell_of_row _ _ _ _ _ _ e] at hd;rcases(show k=0\/1<=k by omega) with rfl|hk
   ·
    simp at hd
   ·
    rw[Array.getElem?_eq_none (by simpa using hk)] at hd;cases hd
  rw[<- hT] at hbt hzt h1 hn0 hn1 ⊢;clear hT;have hsatT:=hi.sat.below hbt;have hcx:Zer o1 T (W.heap.size+2) mb:=⟨cell1 h1,hi.sat.lt.none (by omega)⟩;have hC':∀ q,w.heap.size<=q->¬ C q:=fun q hq e=>by have:=(hi.cok q e).1;omega
  have hkeep:∀ {o':Own} {w1:World},ChgX C o1 o' T w1->∀ q,w.heap.size<=q->q<s+3->o1 q=none->w1.heap[q]?=T.heap[q]?:=fun hc q h1 h2 h3=>hc.block q (by omega) h3 (hC' q h1)
  have n0:o1 W.heap.size=none:=hi.sat.lt.none (Nat.le_refl _);have n1:o1 (W.heap.size+1)=none:=hi.sat.lt.none (by omega);refine(hop o1 T m1 V1 (W.heap.size+2) hsatT (hB _ _ hi.bok (fun c hc=>hbt.block c (by have:=(hi.cok c hc).1;omega))) (fun c hc=>⟨by have:=(hi.cok c hc).1;omega,(hi.cok c hc).2⟩) hi.st hcx (hC' _ (by omega))).mono ?_;rintro e w1 ⟨o',m',V',st,b1,hcase⟩;have hsz1:=st.chg.size;have hc1:=(hi.chg.trans (ChgX.of_below hbt o1 C) (fun _ _ e=>e)).trans st.chg (fun _ _ e=>e);refine⟨by omega,hkeep st.chg _ (by omega) (by omega) n0,hkeep st.chg _ (by omega) (by omega) n1,?_⟩;have hnone:∀ q,w.heap.size<=q->q<s+3->o1 q=none->o' q=none:=fun q _ h2 h3=>st.chg.none' (by omega) h3
  have hcok:∀ c,C c->c<w.heap.size/\o' c=none:=fun c hc=>⟨(hi.cok c hc).1,st.chg.none' (by have:=(hi.cok c hc).1;omega) (hi.cok c hc).2⟩
  rcases hcase with ⟨rfl,q1⟩|⟨er,rfl,q1,q2,q3,q4⟩|⟨ev,rfl,q1,q2,q3⟩
  ·
   have hu:∀ {q:Nat},q<s+3->w.heap.size<=q->o1 q=none->Zle T q->Zle w1 q:=fun h2 h1 h3 hn k d hd=>hn k d (by
    have e:=hkeep st.chg _ h1 h2 h3;exact(World.cell?_of_block (w:=T) (a:=⟨_,k,none⟩) e).symm.trans hd)
   exact .inl ⟨rfl,o',m',V',hsatT.step st hC0,b1,hc1,by omega,hnone,⟨by rw[hs];exact hu (by omega) (by omega) n0 hn0,by rw[hs];exact hu (by omega) (by omega) n1 hn1⟩,by rw[hs,<- hzt];exact q1⟩
  ·
   exact .inr ⟨er,false,ev0,rfl,o',m',V',⟨hsatT.step st hC0,b1,q3,rfl,hcok,hc1,by simp⟩,by omega,hnone,.inl ⟨rfl,q1,q2,q4⟩⟩
  ·
   exact .inr ⟨0,true,ev,rfl,o',m',V',⟨hsatT.step st hC0,b1,q2 _ _ _ _ (hsatT.step st hC0) rfl rfl (.inl (Nat.le_refl _)),rfl,hcok,hc1,by simp⟩,by omega,hnone,.inr ⟨rfl,q1,q2,q3⟩⟩
 ·
  rintro W1 W2 ⟨o',m',V',a1,a2,a3,a4,a5,au,a8⟩ al;rw[<- hs] at al;have n0:o' s=none:=a5 s (by omega) (by omega) (by rw[hs];exact hi.sat.lt.none (Nat.le_refl _));have n1:o' (s+1)=none:=a5 (s+1) (by omega) (by omega) (by rw[hs];exact hi.sat.lt.none (by omega));have hk:∀ c,C c->W2.heap[c]?=W1.heap[c]?:=fun c hc=>al.keep c (by have:=(hi.cok c hc).1;omega) (by have:=(hi.cok c hc).1;omega)
  refine⟨o',m',V',a1.other al (fun k _ e=>?_),hB _ _ a2 hk,a3.trans (ChgX.of_wr (C:=fun k=>w.heap.size<=k) al o' (fun k _ e=>by omega)) (fun k hk e=>by omega),.inl ⟨rfl,hQ s _ _ _ _ _ (fun c hc=>by have:=(hi.cok c hc).1;omega) a4 au a8 al⟩⟩;rcases e with rfl|rfl
  ·
   exact⟨by omega,n0⟩
  ·
   exact⟨by omega,n1⟩
 ·
  rintro er ev W1 W2 ⟨o',m',V',hi',a4,a5,(⟨h1,_⟩|⟨_,hev,hvs,hap⟩)⟩ al
  ·
   cases h1
  rw[<- hs] at al;have n0:o' s=none:=a5 s (by omega) (by omega) (by rw[hs];exact hi.sat.lt.none (Nat.le_refl _));have n1:o' (s+1)=none:=a5 (s+1) (by omega) (by omega) (by rw[hs];exact hi.sat.lt.none (by omega));have hi2:=hother hi' (by omega) n0 n1 al;refine(hap o' W2 m' V' hi2.sat).mono ?_;rintro x w' ⟨rfl,o2,m2,V2,g1,g2,g3,g5,g4⟩;exact⟨rfl,m'.waits.length,by rw[<- hi.len,hev];simp,o2,m2,V2,hnext hi2 g1 g4 g2 (hvs _ _ _ _ g1 g2 g3 g5) (by simp)⟩
 ·
  rintro ev W1 W2 ⟨o',m',V',hi',a4,a5,(⟨_,_,hw,_⟩|⟨h1,_⟩)⟩ al hfull
  ·
   rw[<- hs] at al;have n0:o' s=none:=a5 s (by omega) (by omega) (by rw[hs];exact hi.sat.lt.none (Nat.le_refl _));have n1:o' (s+1)=none:=a5 (s+1) (by omega) (by omega) (by rw[hs];exact hi.sat.lt.none (by omega));have hi2:=hother hi' (by omega) n0 n1 al;refine(Zg2 hi2.sat).mono ?_;rintro x w' ⟨rfl,o2,d2,g1,g2,g3⟩;have hi3:=hnext (full':=true) hi2 g1 (ChgX.of_chg g3 NoB) rfl (hSt _ _ hi2.st g2) (fun _=>g2.dead);rw[hw,hi.len] at hi3;exact⟨⟨_,rfl⟩,o2,_,V',hi3⟩
  ·
   cases h1
 ·
  rintro er ev W1 W2 ⟨o',m',V',hi',a4,a5,(⟨_,h0,hw,hE⟩|⟨h1,_⟩)⟩ al hne
  ·
   rw[<- hs] at al;have n0:o' s=none:=a5 s (by omega) (by omega) (by rw[hs];exact hi.sat.lt.none (Nat.le_refl _));have n1:o' (s+1)=none:=a5 (s+1) (by omega) (by omega) (by rw[hs];exact hi.sat.lt.none (by omega));have hi2:=hother hi' (by omega) n0 n1 al;refine⟨o',m',V',hi2.sat,hi2.bok,hi2.chg,.inr ⟨h0,m1,hE,fun e7=>hi.clean ?_⟩⟩;cases full with
   | true=>rfl
   | false=>exact(hne ⟨e7,rfl⟩).elim
  ·
   cases h1
theorem Zps (hB:∀ W W',B W->(∀ c,C c->W'.heap[c]?=W.heap[c]?)->B W') (hQ:∀ s o W W' m V,(∀ c,C c->c<s)->s+3<=W.heap.size->Zle W s/\Zle W (s+1)->QO (s+3) o W m V->Ali s W W'->QP o W' m V) (hSt:∀ (m:ManD) (d:Zac),St m->Za2 m.d d->St { m with d:=d }) (hC0:∀ c,C c->w0.heap.size<=c) (eg:∀ args w,(callFunc gop args).run Tryz.prog w=.ok (.enter gop args) w)
 (hop:OpLN K n Od room w0 mb fs nx C B St gop lop QO E) {o:Own} {w:World} {m:ManD} {V:Nat->BF} (h:SatE K n Od room w0 mb fs nx w o m V) (hb:B w) (hC:∀ c,C c->c<w.heap.size/\o c=none) (hst:St m) :
 Calls Tryz.prog 82 #[.pointer (some ⟨mb,0,none⟩),.func (.func gop) #[] lop] w fun x w'=>∃ er,x=.returned (.int .i64 er)/\Yaq K n Od room w0 mb fs nx C B QP E o w er w':=by
 have HRUN:=Hd (Zw5 hB hQ hSt hC0 eg hop h hb hC hst);have hnf:=Ybx w (.func gop) #[] lop;clear h hb hB hQ hSt hC0 hop hC hst
 go_enter Tryz.func82,Tryz.ntmps82
 go_wp2_with fail;refine HRUN.out.mono ?_;rintro x w1 ⟨er,rfl,hf⟩;have HF:=Hd hf;clear hf HRUN;go_wp2_with fail;go_ret;exact⟨er,rfl,HF.out⟩
end
open Go.RowKit
section
variable {K:Law} {n:Nat} {Od:List Nat->Prop} {room:Nat} {w0 w:World} {mb xb:Nat} {fs:List (Int×BF)} {nx:Int} {o:Own} {m:ManD} {V:Nat->BF}
end
open Go.RowKit
section
variable {K:Law} {n:Nat} {room:Nat} {w0 w:World} {mb:Nat} {fs:List (Int×BF)} {nx:Int} {o:Own} {m:ManD} {V:Nat->BF} {ws0:List Ev}
end
open Go.RowKit
theorem Zma (W:World) (zs:List Int) (hl:zs.length<=1000000):Zay (W.alloc (.cells (Za7 zs).toArray 3)) (some ⟨W.heap.size,0,none⟩) zs :=
 ⟨by omega,fun k hk=>⟨W.heap.size,0,rfl,by
  rw[Nat.zero_add,cell_of_row _ _ k _ _ _ (heap_alloc_new _ _)];simp[Za7,Zb0 hk,hk]⟩⟩
section
variable {K:Law} {n:Nat} {Od:List Nat->Prop} {room:Nat} {w0 w w':World} {mb:Nat} {fs:List (Int×BF)} {nx:Int} {o o':Own} {m m':ManD} {V V':Nat->BF}
def Goes (K:Law) (n:Nat) (Od:List Nat->Prop) (room:Nat) (w0:World) (mb:Nat) (fs:List (Int×BF)) (nx:Int) (Wt:List Ev->Int->Nat->Prop) (o:Own) (w w':World):Prop :=
 ∃ o' m' V',ChgX NoB o o' w w'/\Wt m'.waits m'.calls m'.d.pool.many/\SatE K n Od room w0 mb fs nx w' o' m' V'
def NoW (M:Nat) (ws:List Ev) (_:Int) (k:Nat):Prop:=ws=[]/\k<=M
abbrev W2 (Wt:List Ev->Int->Prop):List Ev->Int->Nat->Prop:=fun ws c _=>Wt ws c
theorem Goes.more {M M':Nat} (h:Goes K n Od room w0 mb fs nx (NoW M) o w w') (hm:M<=M'):Goes K n Od room w0 mb fs nx (NoW M') o w w':=by
 obtain⟨o',m',V',h1,h2,h3⟩:=h;exact⟨o',m',V',h1,⟨h2.1,Nat.le_trans h2.2 hm⟩,h3⟩
theorem Goes.below {Wt:List Ev->Int->Nat->Prop} {w'':World} (h:Goes K n Od room w0 mb fs nx Wt o w w') (hb:Below w'.heap.size w' w''):Goes K n Od room w0 mb fs nx Wt o w w'':=by
 obtain⟨o',m',V',h1,h2,h3⟩:=h;exact⟨o',m',V',h1.trans (Ze1 hb o') (fun _ _ e=>e),h2,h3.below hb⟩
theorem Ydk (hK:Zc8 K) {M:Nat} (h:Goes K n Od room w0 mb fs nx (NoW M) o w w') (hn:nx<549755813888) (hr:M+1<=room) {v:Nat} (hv:v<n) :
 Calls Tryz.prog 30 #[.pointer (some ⟨mb,0,none⟩),.int .i64 v] w' fun x w''=>x=.returned (.tuple #[.int .i64 nx,.int .i64 0])/\Goes K n Od room w0 mb (fs++[(nx,varF v)]) (nx+1) (NoW (M+1)) o w w'':=by
 obtain⟨o',m',V',h1,h2,h3⟩:=h;refine(Zmc hK h3 [] (by rw[h2.1];exact List.suffix_refl _) (some M) (fun _ e=>by cases e;exact⟨rfl,hr⟩) (fun _ e=>by cases e;exact h2.2) (by simp) (by omega) v hv).mono ?_;rintro x w'' hp;obtain⟨o2,m2,V2,q1,q2,q3,q4⟩:=Zmg hp;exact⟨q3,o2,m2,V2,h1.trans q1 (fun _ _ e=>e),q2,q4⟩
theorem Zxl (hK:Zc8 K) {Wt:List Ev->Int->Nat->Prop} (h:Goes K n Od room w0 mb fs nx Wt o w w') (hn:nx<549755813888) {k:Int} {F:BF} (hf:(k,F)∈fs) :
 Calls Tryz.prog 9 #[.pointer (some ⟨mb,0,none⟩),.int .i64 k] w' fun x w''=>x=.returned (.tuple #[.int .i64 nx,.int .i64 0])/\Goes K n Od room w0 mb (fs++[(nx,notF F)]) (nx+1) Wt o w w'':=by
 obtain⟨o',m',V',h1,h2,h3⟩:=h;refine(Zum hK h3 hn hf).mono ?_;rintro x w'' ⟨rfl,o2,m2,q⟩;exact⟨rfl,o2,m2,V',h1.trans (ChgX.of_chg q.chg NoB) (fun _ _ e=>e),by rw[q.waits,q.calls,q.many];exact h2,q.sat⟩
theorem Zm3 (hK:Zc8 K) {Wt:List Ev->Int->Nat->Prop} (h:Goes K n Od room w0 mb fs nx Wt o w w') (hn:nx<549755813888) {k:Int} {F:BF} (hf:(k,F)∈fs) :
 Calls Tryz.prog 35 #[.pointer (some ⟨mb,0,none⟩),.int .i64 k] w' fun x w''=>x=.returned (.tuple #[.int .i64 nx,.int .i64 0])/\Goes K n Od room w0 mb (fs++[(nx,F)]) (nx+1) Wt o w w'':=by
 obtain⟨o',m',V',h1,h2,h3⟩:=h;refine(Zrj hK h3 hn hf).mono ?_;rintro x w'' ⟨rfl,o2,m2,q⟩;exact⟨rfl,o2,m2,V',h1.trans (ChgX.of_chg q.chg NoB) (fun _ _ e=>e),by rw[q.waits,q.calls,q.many];exact h2,q.sat⟩
theorem Zm4 (hK:Zc8 K) {Wt:List Ev->Int->Nat->Prop} {hs r:List (Int×BF)} (h:Goes K n Od room w0 mb (fs++(hs++r)) nx Wt o w w') (hb:B2 fs) (hn:nx<549755813888) (hl:hs.length<=1000) {T:World} (hT:T=w'.alloc (.cells (Za7 (hs.map Prod.fst)).toArray 3)) :
 Calls Tryz.prog 38 #[.pointer (some ⟨mb,0,none⟩),.slice (some ⟨w'.heap.size,0,none⟩) hs.length hs.length] T fun x w''=>x=.returned (.int .i64 0)/\Goes K n Od room w0 mb (fs++r) nx Wt o w w'':=by
 obtain⟨o',m',V',h1,h2,h3⟩:=h;subst hT;have hbn:=Zaf w' (.cells (Za7 (hs.map Prod.fst)).toArray 3);refine(Zrl hK (h3.below hbn) hb hn (Zma w' (hs.map Prod.fst) (by simp;omega)) (fun x hx=>by cases hx;exact h3.lt.none (Nat.le_refl _))).mono ?_;rintro x w'' ⟨rfl,o2,m2,q⟩;exact⟨rfl,o2,m2,V',(h1.trans (Ze1 hbn o') (fun _ _ e=>e)).trans (ChgX.of_chg q.chg NoB) (fun _ _ e=>e),by rw[q.waits,q.calls,q.many];exact h2,q.sat⟩
end
open Go.RowKit
section
variable {K:Law} {n:Nat} {room:Nat} {w0:World} {mb:Nat} {fs hs:List (Int×BF)} {nx:Int} {W w w':World} {o o':Own} {m m':ManD} {V V':Nat->BF} {vl vx:Value} {ws0:List Ev}
abbrev SufW (ws0:List Ev):List Ev->Int->Prop:=fun ws _=>ws <:+ ws0
theorem Yc7 (hK:Zc8 K) (h:SatE K n (fun _=>True) room w0 mb fs nx w o m V) (hw:m.waits <:+ ws0) (hn:nx<=549755813888) (hr:(fs.length+1)*2^n<=room) {kf kg kh:Int} {F G H:BF} (hf:(kf,F)∈fs) (hg:(kg,G)∈fs) (hh:(kh,H)∈fs) :
 Calls Tryz.prog 18 #[.pointer (some ⟨mb,0,none⟩),.int .i64 kf,.int .i64 kg,.int .i64 kh] w fun x w''=>x=.returned (.tuple #[.int .i64 nx,.int .i64 0])/\Goes K n (fun _=>True) room w0 mb (fs++[(nx,Zdc F G H)]) (nx+1) (W2 (SufW ws0)) o w w'':=by
 refine(Zul hK h ws0 hw none (fun _ e=>by cases e) (fun _ e=>by cases e) (fun ev _=>Zl7 hn ev) (by omega) hf hg hh).mono ?_;rintro x w'' hp;obtain⟨o2,m2,V2,q1,q2,q3,q4⟩:=Zpz hp (Nat.sub_le _ _) hr;exact⟨q3,o2,m2,V2,q1,q2,q4⟩
end
open Go.RowKit
end Go.Proofs.YtlgogjbkadckkaaGreat

namespace Go.Proofs.YtlgogjbkadckkaaGreat
open Go.RowKit
def cofF (F:BF) (v:Nat) (b:Bool):BF:=fun ρ=>F fun u=>if u=v then b else ρ u
open Go.RowKit
def Zbn (n:Nat) (F:BF) (v:Nat):Bool := !decide (tabB n (cofF F v false)=tabB n (cofF F v true))
def topR (n:Nat) (F:BF):List Nat->Int
 | []=>-1
 | v::l=>if Zbn n F v then (v:Nat) else topR n F l
open Go.RowKit
theorem Zqp {n:Nat} {F:BF}:∀ {l:List Nat},(∀ v∈l,Zbn n F v=false)->topR n F l = -1
 | [],_=>rfl
 | v::l,h=>by
   show (if Zbn n F v then ((v:Nat):Int) else topR n F l) = -1
   rw[h v (List.mem_cons_self ..)];exact Zqp fun u hu=>h u (List.mem_cons_of_mem _ hu)
theorem Zr1 {n:Nat} {F:BF}:∀ (l:List Nat) (k:Nat),k<l.length->Zbn n F (l.getD k 0)=true->(∀ j,j<k->Zbn n F (l.getD j 0)=false)->topR n F l=(l.getD k 0:Nat)
 | [],k,hk,_,_=>by simp at hk
 | v::l,0,_,h,_=>by
   show (if Zbn n F v then ((v:Nat):Int) else topR n F l)=(v:Nat)
   have h':Zbn n F v=true:=h;rw[h',if_pos rfl]
 | v::l,k+1,hk,h,hj=>by
   show (if Zbn n F v then ((v:Nat):Int) else topR n F l)=_
   have h0:Zbn n F v=false:=hj 0 (by omega);rw[h0];have:=Zr1 l k (by simpa using hk) (by simpa using h) (fun j hjk=>by simpa using hj (j+1) (by omega));simpa using this
section
variable {d:Zac} {V:Nat->BF}
theorem Zaj.dep (h:Zaj d V) {f:Nat} (hf:okE (Zaa d) f):DepF d.vars.length (ef V f):=fun ρ ρ' hr=>h.dag.indep _ f (Nat.le_refl _) hf ρ ρ' fun v hv _=>hr v hv
theorem Zsa {n:Nat} {F:BF} (h:DepF n F) (v:Nat) (b:Bool):DepF n (cofF F v b):=fun ρ ρ' hr=>h _ _ fun u hu=>by
 show (if u=v then b else ρ u)=if u=v then b else ρ' u
 rw[hr u hu]
theorem Zcl (F:BF) (v:Nat) (b:Bool) (ρ:Nat->Bool):cofF F v b ρ=F (upd ρ v b):=rfl
theorem Zf4 {n:Nat} {F:BF} (h:DepF n F) (v:Nat):Zbn n F v=true↔cofF F v false≠cofF F v true:=by
 unfold Zbn;rw[Bool.not_eq_true',decide_eq_false_iff_not];exact⟨fun h1 e=>h1 (by rw[e]),fun h1 e=>h1 (Zye (Zsa h v _) (Zsa h v _) e)⟩
theorem Zzd (h:Zaj d V) {f v:Nat} (hf:okE (Zaa d) f) (hl:levN d v<lvE d.vars.length (levN d) (Zaa d) f):Zbn d.vars.length (ef V f) v=false:=by
 rw[<- Bool.not_eq_true,Zf4 (h.dep hf)];intro hne;refine hne ?_;funext ρ;rw[Zcl,Zcl,h.dag.indep_var hf hl,h.dag.indep_var hf hl]
theorem Zsd (V:Nat->BF) (f:Nat) (ρ:Nat->Bool):ef V f ρ=(if f%2=0 then V (f/2) ρ else !V (f/2) ρ):=by
 unfold ef;split<;>simp_all
theorem Ztd (h:Zaj d V) {f:Nat} {b:BN} (hb:Zaa d (f/2)=some b):topR d.vars.length (ef V f) d.vars=(b.v:Nat)/\b.v<d.vars.length:=by
 have hf:okE (Zaa d) f:=.inr ⟨b,hb⟩;have hbv:=h.dag.var _ _ hb;have hlv:=h.dag.lt _ hbv;have hlf:lvE d.vars.length (levN d) (Zaa d) f=levN d b.v:=by unfold lvE;rw[hb]
 refine⟨?_,hbv⟩;have hinv:=h.inv b.v hbv;rw[Zr1 d.vars (levN d b.v) hlv ?_ ?_,hinv]
 ·
  rw[hinv,Zf4 (h.dep hf)];intro he;have hc:ef V b.hi=ef V b.lo:=by
   funext ρ;have h1:=h.dag.cofs hb ρ;have h2:ef V f (upd ρ b.v false)=ef V f (upd ρ b.v true):=congrFun he ρ;rw[Zsd,Zsd,h1.1,h1.2] at h2;split at h2
   ·
    exact h2.symm
   ·
    have:=congrArg not h2;simpa using this.symm
  have:=h.dag.canon (h.dag.okHi _ _ hb) (h.dag.okLo _ _ hb) hc;exact h.dag.ne _ _ hb this.symm
 ·
  intro j hj;have h1:=h.vlt j (by omega);exact Zzd h hf (by rw[hlf,h1.2];exact hj)
end
open Go.RowKit
theorem DepF.const {n:Nat} (b:Bool):DepF n fun _=>b:=fun _ _ _=>rfl
theorem DepF.ite {n:Nat} {F G H:BF} (h1:DepF n F) (h2:DepF n G) (h3:DepF n H):DepF n (Zdc F G H):=fun ρ ρ' hr=>by
 show iteB (F ρ) (G ρ) (H ρ)=iteB (F ρ') (G ρ') (H ρ')
 rw[h1 ρ ρ' hr,h2 ρ ρ' hr,h3 ρ ρ' hr]
theorem DepF.not {n:Nat} {F:BF} (h:DepF n F):DepF n (notF F):=fun ρ ρ' hr=>by
 show (!F ρ)=(!F ρ')
 rw[h ρ ρ' hr]
section
variable {n:Nat} {F G:BF} {x y:Value} {w:World}
end
open Go.RowKit
theorem Yb5 {op:Int} (h:0<=(Zeh op).1):1<=op/\op<=10/\(Zeh op).2<=64:=by
 unfold Zeh at h ⊢;split
 ·
  rename_i h1;exact⟨by omega,by omega,by simp⟩
 ·
  split
  ·
   rename_i h1;exact⟨by omega,by omega,by simp⟩
  ·
   split
   ·
    rename_i h1;exact⟨by omega,by omega,by simp⟩
   ·
    split
    ·
     rename_i h1;exact⟨by omega,by omega,by simp⟩
    ·
     split
     ·
      rename_i h1;exact⟨by omega,by omega,by simp⟩
     ·
      exfalso;revert h;simp_all
open Go.RowKit
section
variable {P:Program} {ops:Array Oper} {S:World->Prop} {Q:Exit->Act->World->Prop} {last:Bool}
theorem Zuq {o:Oper} {r:List (Option Oper×Bool)} {a:Act} {w w':World} {v:Value} (hw:Region.wanted o (yielded ops a.tmps)=true)
 (he:(execOp a.eval o).run P w=.ok (.value v) w') (hS:S w') (h:Zck P ops Q S last r (a.put o.dst v) w'):Zck P ops Q S last ((some o,true)::r) a w:=by
 unfold Zck;simp only[hw,if_true,Oper.wp,he,Oper.upon];exact⟨.inr hS,h⟩
theorem Zup {o:Oper} {r:List (Option Oper×Bool)} {a:Act} {w:World} {f:FuncId} {args:Array Value} {R:Value->World->Prop} (hw:Region.wanted o (yielded ops a.tmps)=true)
 (he:(execOp a.eval o).run P w=.ok (.enter f args) w) (hc:Calls P f args w fun e w'=>∃ v,e=.returned v/\S w'/\R v w')
 (h:∀ v w',S w'->R v w'->Zck P ops Q S last r (a.put o.dst v) w'):Zck P ops Q S last ((some o,true)::r) a w:=by
 unfold Zck;simp only[hw,if_true,Oper.wp,he,Oper.upon];exact hc.mono fun e w' ⟨v,h1,h2,h3⟩=>by subst h1;exact⟨.inr h2,h v w' h2 h3⟩
end
theorem Zf7 (mb:Nat) (b:Bool) (w:World):Calls Tryz.prog 36 #[.pointer (some ⟨mb,0,none⟩),.bool b] w fun x w'=>x=.returned (.int .i64 (if b then 1 else 0))/\w=w':=by
 cases b with
 | true =>
   go_enter Tryz.func36,Tryz.ntmps36
   go_wp2_with fail;go_ret;exact⟨rfl,rfl⟩
 | false =>
   go_enter Tryz.func36,Tryz.ntmps36
   go_wp2_with fail;go_ret;exact⟨rfl,rfl⟩
theorem Yb8 {α:Type} {l:List α} (h:l.length=2):∃ a b,l=[a,b]:=by
 match l,h with
 | [a,b],_=>exact⟨a,b,rfl⟩
theorem Zwz {α:Type} {l:List α} (h:l.length=3):∃ a b c,l=[a,b,c]:=by
 match l,h with
 | [a,b,c],_=>exact⟨a,b,c,rfl⟩
theorem Zs6 {f:Nat->Nat} (h:∀ i,1<=f i):∀ k,k<=sumN k f
 | 0=>Nat.zero_le _
 | k+1=>by
   have:=Zs6 h k;have:=h k
   show k+1<=sumN k f+f k
   omega
section
variable {K:Law} {n:Nat} {Od:List Nat->Prop} {room:Nat} {w0 w w' w'':World} {mb:Nat} {fs fs':List (Int×BF)} {nx nx':Int} {o o':Own} {m m':ManD} {V V':Nat->BF}
theorem Goes.refl {M:Nat} (h:SatE K n Od room w0 mb fs nx w o m V) (hw:m.waits=[]/\m.d.pool.many<=M):Goes K n Od room w0 mb fs nx (NoW M) o w w:=⟨o,m,V,ChgX.of_below (Below.refl _ _) o NoB,hw,h⟩
theorem Goes.after {Wt:List Ev->Int->Nat->Prop} (hc:ChgX NoB o o' w w') (g:Goes K n Od room w0 mb fs nx Wt o' w' w''):Goes K n Od room w0 mb fs nx Wt o w w'':=by
 obtain⟨o2,m2,V2,h1,h2,h3⟩:=g;exact⟨o2,m2,V2,hc.trans h1 (fun _ _ e=>e),h2,h3⟩
theorem Goes.cell {Wt:List Ev->Int->Nat->Prop} (g:Goes K n Od room w0 mb fs nx Wt o w w') {p:Addr} {v:Value} (hc:w.cell? p=some v) (hb:o p.block=none):w'.cell? p=some v:=by
 obtain⟨o2,m2,V2,h1,h2,h3⟩:=g;exact h1.cell hc hb (fun e=>e)
theorem Goes.below0 {Wt:List Ev->Int->Nat->Prop} (g:Goes K n Od room w0 mb fs nx Wt o w w'):Below w0.heap.size w0 w':=by
 obtain⟨o2,m2,V2,h1,h2,h3⟩:=g;exact h3.chg.below0
structure BuiT (K:Law) (n:Nat) (Od:List Nat->Prop) (room:Nat) (w0:World) (mb:Nat) (fs:List (Int×BF)) (nx:Int) (M:Nat) (o:Own) (w:World) (vl:Value) (ks:List Int) (W:World) (o':Own) (m':ManD) (V':Nat->BF):Prop where
 sat:SatE K n Od room w0 mb fs nx W o' m' V'
 waits:m'.waits=[]/\m'.d.pool.many<=M
 chg:ChgX NoB o o' w W
 l:LawL W o' w.heap.size vl ks
def BuiS (K:Law) (n:Nat) (Od:List Nat->Prop) (room:Nat) (w0:World) (mb:Nat) (fs:List (Int×BF)) (nx:Int) (M:Nat) (o:Own) (w:World) (vl:Value) (ks:List Int) (W:World):Prop:=∃ o' m' V',BuiT K n Od room w0 mb fs nx M o w vl ks W o' m' V'
section
variable {M:Nat} {vl vl':Value} {ks:List Int} {W W':World}
theorem BuiT.go (h:BuiT K n Od room w0 mb fs nx M o w vl ks W o' m' V') {M':Nat} (g:Goes K n Od room w0 mb fs' nx' (NoW M') o' W W'):BuiS K n Od room w0 mb fs' nx' M' o w vl ks W':=by
 obtain⟨o2,m2,V2,h1,h2,h3⟩:=g;exact⟨o2,m2,V2,h3,h2,h.chg.trans h1 (fun _ _ e=>e),h.l.chg h1⟩
theorem BuiT.refl (h:BuiT K n Od room w0 mb fs nx M o w vl ks W o' m' V'):Goes K n Od room w0 mb fs nx (NoW M) o' W W:=Goes.refl h.sat h.waits
theorem BuiS.below (h:BuiS K n Od room w0 mb fs nx M o w vl ks W) (hb:Below W.heap.size W W'):BuiS K n Od room w0 mb fs nx M o w vl ks W':=by
 obtain⟨o',m',V',h⟩:=h;exact h.go (h.refl.below hb)
theorem BuiS.goes (h:BuiS K n Od room w0 mb fs nx M o w vl ks W):Goes K n Od room w0 mb fs nx (NoW M) o w W:=by
 obtain⟨o',m',V',h⟩:=h;exact⟨o',m',V',h.chg,h.waits,h.sat⟩
theorem BuiS.app {k:Int} (h:BuiT K n Od room w0 mb fs nx M o w vl ks W o' m' V') (hown:OwnC 3 W' w.heap.size vl' (Za7 ks++[.int .i64 k])) (e1:W'.os=W.os) (e2:W'.tape=W.tape) (e3:W'.output=W.output) (e4:W.heap.size<=W'.heap.size) (hk:Zft vl vl' W W') (hw0:w0.heap.size<=w.heap.size) :
 BuiS K n Od room w0 mb fs nx M o w vl' (ks++[k]) W':=by
 have hw:=Ydl e1 e2 e3 e4 hk;exact⟨o',m',V',h.sat.other hw (fun k _ hk=>⟨by have:=(h.l.own.lt k hk).1;omega,h.l.no k hk⟩),h.waits,h.chg.trans (ChgX.of_wr (C:=fun k=>w.heap.size<=k) hw o' (fun k _ hk=>(h.l.own.lt k hk).1)) (fun k hk e=>by omega),h.l.app h.sat.lt hown hk⟩
theorem BuiS.cells (h:BuiS K n Od room w0 mb fs nx M o w vl ks W) (hp:0<ks.length):∃ g c,vl=.slice (some ⟨g,0,none⟩) ks.length c/\∀ j,j<ks.length->W.cell? ⟨g,j,none⟩=some (.int .i64 (at0 ks j)):=by
 obtain⟨o',m',V',h⟩:=h;obtain⟨g,c,e,_⟩:=h.l.own.shape (by simpa [Za7] using hp);have e':vl=.slice (some ⟨g,0,none⟩) ks.length c:=by rw[e];simp[Za7]
 refine⟨g,c,e',fun j hj=>?_⟩;have ho:=h.l.own;rw[e'] at ho;rw[ho.cell j (by simpa [Za7] using hj)];simp[Za7,Zb0 hj,hj]
theorem BuiS.cellsN (h:BuiS K n Od room w0 mb fs nx M o w vl ks W) {i:Nat} (hl:ks.length=i) (hp:0<i):∃ g c,vl=.slice (some ⟨g,0,none⟩) i c/\∀ j,j<i->W.cell? ⟨g,j,none⟩=some (.int .i64 (at0 ks j)):=by
 subst hl;exact h.cells hp
end
def Zhb (n s:Nat):Nat:=s*2^n-(2^n-1)
theorem Zj9 (n:Nat) {s:Nat} (h:1<=s):Zhb n s+(2^n-1)=s*2^n:=by
 have:=Nat.mul_le_mul_right (2^n) h;unfold Zhb;omega
def Zef (n:Nat) (kid:Nat->ExT) (i:Nat):Nat:=sumN i fun j=>Zhb n (kid j).size
theorem Zoz (n:Nat) (kid:Nat->ExT):∀ i,Zef n kid i+i*(2^n-1)=(sumN i fun i=>(kid i).size)*2^n
 | 0=>by simp[Zef,sumN]
 | i+1=>by
   have h1:=Zoz n kid i;have h2:=Zj9 n (kid i).size_pos
   show Zef n kid i+Zhb n (kid i).size+(i+1)*(2^n-1)=((sumN i fun i=>(kid i).size)+(kid i).size)*2^n
   rw[Nat.add_mul,Nat.add_mul];omega
end
open Go.RowKit
section
variable {K:Law} {n:Nat} {Od:List Nat->Prop} {room:Nat} {w0 w w' w'':World} {mb:Nat} {fs fs':List (Int×BF)} {nx nx':Int} {o o':Own} {m m':ManD} {V V':Nat->BF}
end
open Go.RowKit
section
variable {K:Law} {n:Nat} {Od:List Nat->Prop} {room:Nat} {w0 w w' w'':World} {mb:Nat} {fs fs':List (Int×BF)} {nx nx':Int} {o o':Own} {m m':ManD} {V V':Nat->BF}
end
open Go.RowKit
section
variable {K:Law} {n:Nat} {Od:List Nat->Prop} {room:Nat} {w0 w w' w'':World} {mb:Nat} {fs fs':List (Int×BF)} {nx nx':Int} {o o':Own} {m m':ManD} {V V':Nat->BF}
end
open Go.RowKit
section
variable {K:Law} {n:Nat} {Od:List Nat->Prop} {room:Nat} {w0 w w' w'':World} {mb:Nat} {fs fs':List (Int×BF)} {nx nx':Int} {o o':Own} {m m':ManD} {V V':Nat->BF}
end
open Go.RowKit
section
variable {K:Law} {n:Nat} {Od:List Nat->Prop} {room:Nat} {w0:World} {mb:Nat}
end
open Go.RowKit
section
variable {K:Law} {n:Nat} {Od:List Nat->Prop} {room:Nat} {w0 w w':World} {mb:Nat} {fs:List (Int×BF)} {nx:Int} {o o':Own} {m m':ManD} {V V':Nat->BF} {P:List Nat->Prop} {W W':World}
end
open Go.RowKit
end Go.Proofs.YtlgogjbkadckkaaGreat

namespace Go.Proofs.YtlgogjbkadckkaaGreat
open Go.RowKit
section
variable {P:Program} (w:World)
end
open Go.RowKit
section
variable {K:Law} {n:Nat} {Od:List Nat->Prop} {room:Nat} {w0 w w':World} {mb:Nat} {fs:List (Int×BF)} {nx:Int} {o o':Own} {m m':ManD} {V V':Nat->BF}
end
open Go.RowKit
def two:List (Int×BF):=[(0,fun _=>false),(1,fun _=>true)]
theorem Ydh:B2 two:=⟨by simp[two],by simp[two]⟩
theorem Zzo {K:Law} (n room:Nat) (w:World) (hn:n<=64) (h1:1<=room) (h2:room<=1048576) :
 Calls Tryz.prog 7 #[.int .i64 n,.int .i64 room] w fun x w'=>∃ mb,x=.returned (.tuple #[.pointer (some ⟨mb,0,none⟩),.int .i64 0])/\∃ o m V,SatE K n (fun _=>True) room w mb two 2 w' o m V/\m.waits=[]/\m.calls=0/\m.d.pool.many=0:=by
 refine(Zxh (F:=K (man0 n room).d (fun _ _=>true)) (fun _=>none) n room w (fun k r h=>by cases h) hn h1 h2).mono ?_;rintro x w1 ⟨mb,o1,rfl,hm0,hc0,hl0,_⟩;exact⟨mb,rfl,o1,man0 n room,fun _ _=>true,⟨hm0,hl0,Zw8 n room hn,by simp[man0,store0],trivial,by simp[man0,store0,pool0],rfl,by simp[man0,two,ef];constructor<;>rfl,ChgX.of_chg hc0 NoB⟩,rfl,rfl,rfl⟩
open Go.RowKit
theorem SatE.dep {K:Law} {n:Nat} {Od:List Nat->Prop} {room:Nat} {w0 w:World} {mb:Nat} {fs:List (Int×BF)} {nx:Int} {o:Own} {m:ManD} {V:Nat->BF} (h:SatE K n Od room w0 mb fs nx w o m V) {k:Int} {F:BF} (hk:(k,F)∈fs):DepF n F:=by
 obtain⟨f,hf,rfl⟩:=h.find hk;have:=h.ok.store.dep (h.ok.handles.ok _ hf)
 rwa [h.vars] at this
open Go.RowKit
end Go.Proofs.YtlgogjbkadckkaaGreat

namespace Go.Proofs.YtlgogjbkadckkaaGreat
open Go.RowKit
def Zr8 (l:List BF) (F:BF):Prop:=∃ i,∃ h:i<l.length,l[i]=F\/l[i]=notF F
open Go.RowKit
section
variable {d:Zac} {V:Nat->BF}
theorem Ybo (h:Zaj d V) {f:Nat} {b:BN} (hb:Zaa d (f/2)=some b):(okE (Zaa d) (cofs d f b.v).1/\ef V (cofs d f b.v).1=cofF (ef V f) b.v false)/\okE (Zaa d) (cofs d f b.v).2/\ef V (cofs d f b.v).2=cofF (ef V f) b.v true:=by
 have hf:okE (Zaa d) f:=.inr ⟨b,hb⟩;have hbv:=h.dag.var _ _ hb;obtain⟨h1,h2,h3,h4,h5⟩:=Zbv h hf hbv (by unfold lvE;rw[hb];exact Nat.le_refl _);refine⟨⟨h1,?_⟩,h2,?_⟩
 ·
  funext ρ;rw[Zcl,h5,Zfn,h.dag.indep_var h1 h3];rfl
 ·
  funext ρ;rw[Zcl,h5,Zfn,h.dag.indep_var h2 h4];rfl
end
section
variable {d:Zac} {V:Nat->BF}
theorem Ztc {f:Nat} {top least:Int} (h:TopS d [f] top least):(top = -1/\Zaa d (f/2)=none)\/∃ b,Zaa d (f/2)=some b/\top=(b.v:Nat):=by
 rcases h with ⟨h1,_,h3⟩|⟨v,h1,_,_,⟨e,he,b,hb,hv⟩,_⟩
 ·
  exact .inl ⟨h1,h3 f (by simp)⟩
 ·
  simp only[List.mem_singleton] at he;subst he;exact .inr ⟨b,hb,by rw[h1,hv]⟩
end
open Go.RowKit
def Ind (F:BF) (v:Nat):Prop:=∀ b,cofF F v b=F
open Classical in
theorem Zv4 (F:BF) (v:Nat) (b c:Bool):cofF (cofF F v b) v c=cofF F v b:=by
 funext ρ;unfold cofF;congr 1;funext u
 by_cases h:u=v<;>simp[h]
theorem Zv3 (F:BF) {u v:Nat} (h:u≠v) (a b:Bool):cofF (cofF F u a) v b=cofF (cofF F v b) u a:=by
 funext ρ;unfold cofF;congr 1;funext x;dsimp only
 by_cases h1:x=u
 ·
  have h2:¬ x=v:=fun e=>h (h1.symm.trans e)
  simp only[if_pos h1,if_neg h2]
 ·
  by_cases h2:x=v
  ·
   simp only[if_neg h1,if_pos h2]
  ·
   simp only[if_neg h1,if_neg h2]
theorem Ind.cof {F:BF} {u:Nat} (h:Ind F u) (v:Nat) (b:Bool):Ind (cofF F v b) u:=fun c=>by
 by_cases e:u=v
 ·
  subst e;exact Zv4 F u b c
 ·
  rw[Zv3 F (fun h=>e h.symm),h c]
theorem Ind.at {F:BF} {v:Nat} (h:Ind F v) (ρ:Nat->Bool) (b:Bool):F (upd ρ v b)=F ρ:=by
 have:=congrFun (h b) ρ
 rwa [Zcl] at this
theorem Ind.of {F:BF} {v:Nat} (h:∀ ρ b,F (upd ρ v b)=F ρ):Ind F v:=fun b=>by
 funext ρ;rw[Zcl];exact h ρ b
theorem Zhl {d:Zac} {V:Nat->BF} (h:Zaj d V) {f v:Nat} (hf:okE (Zaa d) f) (hv:v<d.vars.length) (hl:levN d v<=lvE d.vars.length (levN d) (Zaa d) f) :
 ef V (cofs d f v).1=cofF (ef V f) v false/\ef V (cofs d f v).2=cofF (ef V f) v true:=by
 obtain⟨q1,q2,q3,q4,q5⟩:=Zbv h hf hv hl;constructor
 ·
  funext ρ;rw[Zcl,q5,Zfn,h.dag.indep_var q1 q3];rfl
 ·
  funext ρ;rw[Zcl,q5,Zfn,h.dag.indep_var q2 q4];rfl
open Go.RowKit
section
variable {u u' u'' x v:Value} {w w' w'' W W':World} {n B:Nat} {F:BF} {Fs:List BF}
theorem Zl6 (p:Nat->Bool):∀ m,(∃ i,i<m/\p i=true)->∃ q,q<m/\p q=true/\∀ j,j<q->p j=false
 | 0,h=>by obtain⟨i,hi,_⟩:=h;omega
 | m+1,h=>by
   by_cases c:∃ i,i<m/\p i=true
   ·
    obtain⟨q,h1,h2,h3⟩:=Zl6 p m c;exact⟨q,by omega,h2,h3⟩
   ·
    have hn:∀ j,j<m->p j=false:=fun j hj=>by
     cases e:p j with
     | false=>rfl
     | true=>exact absurd ⟨j,hj,e⟩ c
    obtain⟨i,hi,e⟩:=h;obtain rfl:i=m:=by
     rcases Nat.lt_or_ge i m with h1|h1
     ·
      rw[hn i h1] at e;cases e
     ·
      omega
    exact⟨i,hi,e,hn⟩
theorem Zu4 {l:List Nat} (h:∃ v∈l,Zbn n F v=true):∃ q,q<l.length/\topR n F l=(l.getD q 0:Nat)/\Zbn n F (l.getD q 0)=true/\∀ j,j<q->Zbn n F (l.getD j 0)=false:=by
 obtain⟨v,hv,hh⟩:=h;obtain⟨i,hi,rfl⟩:=List.getElem_of_mem hv;obtain⟨q,h1,h2,h3⟩:=Zl6 (fun q=>Zbn n F (l.getD q 0)) l.length ⟨i,hi,by simpa [List.getD,hi] using hh⟩;exact⟨q,h1,Zr1 l q h1 h2 h3,h2,h3⟩
end
open Classical in
noncomputable def belF (n:Nat) (os:List Nat):Nat->List BF->BF->List BF
 | 0,l,_=>l
 | k+1,l,F=>if (∃ c,F=fun _=>c)\/Zr8 l F then l else belF n os k (belF n os k (l++[F]) (cofF F (topR n F os).toNat false)) (cofF F (topR n F os).toNat true)
open Go.RowKit
section
variable {n:Nat} {os:List Nat} {p k:Nat} {F:BF} {l:List BF}
theorem Zoq (h:(∃ c,F=fun _=>c)\/Zr8 l F):belF n os k l F=l:=by
 cases k with
 | zero=>rfl
 | succ k=>unfold belF;rw[if_pos h]
theorem Ybi {v:Nat} (h:¬ ((∃ c,F=fun _=>c)\/Zr8 l F)) (hv:topR n F os=(v:Nat)):belF n os (k+1) l F=belF n os k (belF n os k (l++[F]) (cofF F v false)) (cofF F v true):=by
 rw[belF,if_neg h,hv];rfl
end
open Go.RowKit
noncomputable def nodesF (n:Nat) (os:List Nat) (Gs:List BF):List BF:=Gs.foldl (fun l G=>belF n os n l G) []
open Go.RowKit
def Zbu (d:Zac):Nat->List Nat->Nat->List Nat
 | 0,met,_=>met
 | k+1,met,f=>match Zaa d (f/2) with
   | none=>met
   | some b=>if f/2∈met then met else Zbu d k (Zbu d k (met++[f/2]) (cofs d f b.v).1) (cofs d f b.v).2
structure RelN (d:Zac) (V:Nat->BF) (met:List Nat) (l:List BF):Prop where
 len:met.length=l.length
 node:∀ i∈met,∃ b,Zaa d i=some b
 fn:∀ i (h:i<met.length) (h2:i<l.length),l[i]=V met[i]\/l[i]=notF (V met[i])
section
variable {d:Zac} {V:Nat->BF}
theorem Zpy (F:BF):notF (notF F)=F:=funext fun ρ=>by show (!(!F ρ))=F ρ;simp
theorem Ybu (f:Nat):ef V f=V (f/2)\/ef V f=notF (V (f/2)):=by
 rcases(show f%2=0\/f%2=1 by omega) with h|h
 ·
  exact .inl (funext fun ρ=>by simp[ef,h])
 ·
  exact .inr (funext fun ρ=>by simp[ef,h,notF])
theorem Zj8 (h:Zaj d V) (h0:Zaa d 0=none) {f:Nat} (hf:okE (Zaa d) f):(∃ c,ef V f=fun _=>c)↔Zaa d (f/2)=none:=by
 constructor
 ·
  rintro⟨c,hc⟩;have:f=0\/f=1:=by
   cases c with
   | true=>exact .inl ((h.dag.canon_iff hf (.inl rfl)).1 (by rw[hc,h.dag.ef0]))
   | false=>exact .inr ((h.dag.canon_iff hf (.inl rfl)).1 (by rw[hc,h.dag.ef1]))
  rcases this with rfl|rfl<;>exact h0
 ·
  intro hn;rcases hf with h1|⟨b,hb⟩
  ·
   rw[Zwe h h1];exact⟨_,rfl⟩
  ·
   rw[hn] at hb;cases hb
theorem Zop (h:Zaj d V) {f:Nat} (hf:okE (Zaa d) f) {met:List Nat} {l:List BF} (hr:RelN d V met l):Zr8 l (ef V f)↔f/2∈met:=by
 constructor
 ·
  rintro⟨i,hi,he⟩;have hm:i<met.length:=by rw[hr.len];exact hi
  obtain⟨b,hb⟩:=hr.node _ (List.getElem_mem hm);have hE:∀ c,c<2->okE (Zaa d) (2*met[i]+c):=fun c hc=>.inr ⟨b,by rw[show (2*met[i]+c)/2=met[i] by omega];exact hb⟩
  have hv0:ef V (2*met[i]+0)=V met[i]:=funext fun ρ=>by unfold ef;rw[show (2*met[i]+0)/2=met[i] by omega,show (2*met[i]+0)%2=0 by omega];simp
  have hv1:ef V (2*met[i]+1)=notF (V met[i]):=funext fun ρ=>by unfold ef notF;rw[show (2*met[i]+1)/2=met[i] by omega,show (2*met[i]+1)%2=1 by omega];simp
  have hn:=Ybv V f;have key:∀ e,okE (Zaa d) e->e/2=met[i]->(ef V e=ef V f\/ef V e=ef V (enot f))->f/2=met[i]:=fun e he h2 h3=>by
   rcases h3 with h3|h3
   ·
    rw[<- (h.dag.canon_iff he hf).1 h3];exact h2
   ·
    have:=(h.dag.canon_iff he (Zns hf)).1 h3;rw[this,Zdt] at h2;exact h2
  have:f/2=met[i]:=by
   rcases hr.fn i hm hi with e|e
   ·
    exact key _ (hE 0 (by omega)) (by omega) (by rw[hv0,<- e,hn];exact he)
   ·
    exact key _ (hE 1 (by omega)) (by omega) (by rw[hv1,<- e,hn];exact he)
  rw[this];exact List.getElem_mem hm
 ·
  intro hm;obtain⟨i,hi,he⟩:=List.getElem_of_mem hm;refine⟨i,by rw[<- hr.len];exact hi,?_⟩;have h1:=hr.fn i hi (by rw[<- hr.len];exact hi);rw[he] at h1;rcases Ybu (V:=V) f with e|e<;>rcases h1 with e2|e2<;>rw[e,e2]
  ·
   exact .inl rfl
  ·
   exact .inr rfl
  ·
   exact .inr (Zpy _).symm
  ·
   exact .inl rfl
theorem Zis (h:Zaj d V) (h0:Zaa d 0=none):∀ (k:Nat) (met:List Nat) (l:List BF) (f:Nat),okE (Zaa d) f->RelN d V met l->RelN d V (Zbu d k met f) (belF d.vars.length d.vars k l (ef V f))
 | 0,met,l,f,_,hr=>hr
 | k+1,met,l,f,hf,hr=>by
   cases hb:Zaa d (f/2) with
   | none =>
     rw[Zoq (.inl ((Zj8 h h0 hf).2 hb))];unfold Zbu;rw[hb];exact hr
   | some b =>
     unfold Zbu;rw[hb]
     show RelN d V (if f/2∈met then met else _) _
     by_cases hm:f/2∈met
     ·
      rw[if_pos hm,Zoq (.inr ((Zop h hf hr).2 hm))];exact hr
     ·
      have hnc:¬ ∃ c,ef V f=fun _=>c:=fun e=>by rw[(Zj8 h h0 hf).1 e] at hb;cases hb
      obtain⟨htop,hbv⟩:=Ztd h hb;rw[if_neg hm,Ybi (fun e=>e.elim hnc fun e=>hm ((Zop h hf hr).1 e)) htop];have hl:levN d b.v<=lvE d.vars.length (levN d) (Zaa d) f:=by unfold lvE;rw[hb];exact Nat.le_refl _
      obtain⟨q1,q2,_⟩:=Zbv h hf hbv hl;obtain⟨e1,e2⟩:=Zhl h hf hbv hl;rw[<- e1,<- e2];refine Zis h h0 k _ _ _ q2 (Zis h h0 k _ _ _ q1 ⟨by simp[hr.len],fun i hi=>?_,fun i h1 h2=>?_⟩)
      ·
       rcases List.mem_append.1 hi with c|c
       ·
        exact hr.node i c
       ·
        simp at c;subst c;exact⟨b,hb⟩
      ·
       rcases Nat.lt_or_ge i met.length with c|c
       ·
        rw[List.getElem_append_left c,List.getElem_append_left (by rw[<- hr.len];exact c)];exact hr.fn i c _
       ·
        have e:i=met.length:=by simp at h1;omega
        subst e;rw[List.getElem_append_right (Nat.le_refl _),List.getElem_append_right (by rw[hr.len];exact Nat.le_refl _)];simpa using Ybu (V:=V) f
end
open Go.RowKit
def Zfc (v:Nat):List (Nat×Nat)->List (Nat×Nat)
 | []=>[(v,1)]
 | p::r=>if p.1=v then (v,p.2+1)::r else p::Zfc v r
def getC (v:Nat):List (Nat×Nat)->Nat
 | []=>0
 | p::r=>if p.1=v then p.2 else getC v r
def sumC (l:List (Nat×Nat)):Nat:=(l.map (·.2)).sum
theorem Zs7 (v:Nat):∀ l,sumC (Zfc v l)=sumC l+1
 | []=>rfl
 | p::r=>by
   unfold Zfc;split
   ·
    simp only[sumC,List.map_cons,List.sum_cons];omega
   ·
    have:=Zs7 v r;simp only[sumC,List.map_cons,List.sum_cons] at this ⊢;omega
theorem Zsg (v u:Nat):∀ l,getC u (Zfc v l)=getC u l+(if u=v then 1 else 0)
 | []=>by
   show (if v=u then 1 else 0)=0+_
   by_cases h:u=v
   ·
    subst h;simp
   ·
    rw[if_neg h,if_neg (fun e=>h e.symm)]
 | p::r=>by
   unfold Zfc
   by_cases h:p.1=v
   ·
    rw[if_pos h]
    show (if v=u then p.2+1 else getC u r)=(if p.1=u then p.2 else getC u r)+_
    rw[h]
    by_cases e:v=u
    ·
     rw[if_pos e,if_pos e,if_pos e.symm]
    ·
     rw[if_neg e,if_neg e,if_neg (fun c=>e c.symm),Nat.add_zero]
   ·
    rw[if_neg h]
    show (if p.1=u then p.2 else getC u (Zfc v r))=(if p.1=u then p.2 else getC u r)+_
    by_cases e:p.1=u
    ·
     rw[if_pos e,if_pos e,if_neg (fun c=>h (e.trans c)),Nat.add_zero]
    ·
     rw[if_neg e,if_neg e,Zsg v u r]
theorem Yaz (v:Nat):∀ l,getC v l<=sumC l
 | []=>Nat.le_refl _
 | p::r=>by
   have:=Yaz v r;simp only[getC,sumC,List.map_cons,List.sum_cons] at this ⊢;split<;>omega
def vrD (d:Zac) (i:Nat):Nat:=match Zaa d i with|some b=>b.v|none=>0
def tally (d:Zac) (met:List Nat):List (Nat×Nat):=met.foldl (fun c i=>Zfc (vrD d i) c) []
section
variable {d:Zac} {V:Nat->BF}
theorem Zu3 (met:List Nat) (i:Nat):tally d (met++[i])=Zfc (vrD d i) (tally d met):=by
 unfold tally;rw[List.foldl_append];rfl
theorem Zr0 (met:List Nat) {i:Nat} {b:BN} (hb:Zaa d i=some b):tally d (met++[i])=Zfc b.v (tally d met):=by
 rw[Zu3,show vrD d i=b.v by unfold vrD;rw[hb]]
theorem Zmq (c:List (Nat×Nat)) (v:Nat):∀ met:List Nat,sumC (met.foldl (fun c i=>Zfc (vrD d i) c) c)=sumC c+met.length/\getC v (met.foldl (fun c i=>Zfc (vrD d i) c) c)=getC v c+met.countP fun i=>vrD d i=v:=by
 intro met
 induction met generalizing c with
 | nil=>exact⟨rfl,rfl⟩
 | cons i r ih =>
   obtain⟨h1,h2⟩:=ih (Zfc (vrD d i) c);refine⟨?_,?_⟩
   ·
    rw[List.foldl_cons,h1,Zs7,List.length_cons];omega
   ·
    rw[List.foldl_cons,h2,Zsg,List.countP_cons]
    by_cases e:v=vrD d i
    ·
     rw[if_pos e,if_pos (by simp[e])];omega
    ·
     rw[if_neg e,if_neg (by simpa using fun c=>e c.symm)];omega
theorem Zk9 (met:List Nat):sumC (tally d met)=met.length:=by
 have:=(Zmq (d:=d) [] 0 met).1;unfold tally;rw[this];simp[sumC]
theorem Zyg (met:List Nat) (v:Nat):getC v (tally d met)=met.countP fun i=>vrD d i=v:=by
 have:=(Zmq (d:=d) [] v met).2;unfold tally;rw[this];simp[getC]
structure Zib (d:Zac) (met:List Nat):Prop where
 nd:met.Nodup
 node:∀ i∈met,∃ b,Zaa d i=some b
theorem Zib.snoc {met:List Nat} (h:Zib d met) {i:Nat} {b:BN} (hb:Zaa d i=some b) (hn:i∉met):Zib d (met++[i]):=by
 refine⟨List.nodup_append.2 ⟨h.nd,by simp,fun a ha c hc e=>?_⟩,fun j hj=>?_⟩
 ·
  simp at hc;subst hc;subst e;exact hn ha
 ·
  rcases List.mem_append.1 hj with c|c
  ·
   exact h.node j c
  ·
   simp at c;subst c;exact⟨b,hb⟩
theorem Zib.len {met:List Nat} (h:Zib d met) (hlt:∀ e,okE (Zaa d) e->e<eMax):met.length<=2305843009213693952:=by
 refine Zhz _ _ h.nd fun i hi=>?_
 obtain⟨b,hb⟩:=h.node i hi;have:=hlt (2*i) (.inr ⟨b,by rw[show 2*i/2=i by omega];exact hb⟩);unfold eMax at this;omega
theorem Zn9 (h:Zaj d V):∀ (k:Nat) (met:List Nat) (f:Nat),Zib d met->Zib d (Zbu d k met f)
 | 0,met,f,hm=>hm
 | k+1,met,f,hm=>by
   unfold Zbu;cases hb:Zaa d (f/2) with
   | none=>exact hm
   | some b =>
     show Zib d (if f/2∈met then met else _)
     by_cases c:f/2∈met
     ·
      rw[if_pos c];exact hm
     ·
      rw[if_neg c];exact Zn9 h k _ _ (Zn9 h k _ _ (hm.snoc hb c))
def Zll (d:Zac) (l:List Nat):List Nat:=l.foldl (fun met f=>Zbu d d.vars.length met f) []
theorem Zuw (l:List Nat) {i:Nat} (hi:i<l.length):Zll d (l.take (i+1))=Zbu d d.vars.length (Zll d (l.take i)) l[i]:=by
 unfold Zll;rw[List.take_add_one,List.getElem?_eq_getElem hi,List.foldl_append];rfl
theorem Zsz (h:Zaj d V) (l:List Nat):Zib d (Zll d l):=by
 unfold Zll;have:∀ (l met:List Nat),Zib d met->Zib d (l.foldl (fun met f=>Zbu d d.vars.length met f) met):=by
  intro l
  induction l with
  | nil=>intro met hm;exact hm
  | cons f r ih=>intro met hm;exact ih _ (Zn9 h _ _ _ hm)
 exact this l [] ⟨List.nodup_nil,by simp⟩
theorem Zx4 (h:Zaj d V) (l:List Nat) (hl:∀ f∈l,okE (Zaa d) f):(Zll d l).length=(nodesF d.vars.length d.vars (l.map (ef V))).length:=by
 have:∀ (l:List Nat) (met:List Nat) (gs:List BF),(∀ f∈l,okE (Zaa d) f)->RelN d V met gs->RelN d V (l.foldl (fun met f=>Zbu d d.vars.length met f) met) ((l.map (ef V)).foldl (fun l G=>belF d.vars.length d.vars d.vars.length l G) gs):=by
  intro l
  induction l with
  | nil=>intro met gs _ hr;exact hr
  | cons f r ih =>
    intro met gs hl hr;exact ih _ _ (fun g hg=>hl g (List.mem_cons_of_mem _ hg)) (Zis h h.dag.none0 _ _ _ f (hl f (List.mem_cons_self ..)) hr)
 exact(this l [] [] hl ⟨rfl,fun i hi=>by simp at hi,fun i h1=>by simp at h1⟩).len
end
open Go.RowKit
def Indep (F:BF) (v:Nat):Prop:=∀ ρ b,F (upd ρ v b)=F ρ
theorem Zpj {F:BF} {v:Nat} (h:Indep F v) (u:Nat) (c:Bool):Indep (cofF F u c) v:=fun ρ b=>by
 show F (upd (upd ρ v b) u c)=F (upd ρ u c)
 by_cases e:v=u
 ·
  subst e;exact congrArg F (funext fun x=>by unfold upd;split<;>rfl)
 ·
  rw[show upd (upd ρ v b) u c=upd (upd ρ u c) v b from funext fun x=>by
   unfold upd
   by_cases h1:x=u<;>by_cases h2:x=v<;>simp_all]
  exact h _ b
theorem Zne {F:BF} {u v:Nat} (hne:v≠u) (h0:Indep (cofF F u false) v) (h1:Indep (cofF F u true) v):Indep F v:=fun ρ b=>by
 have key:∀ σ:Nat->Bool,F σ=cofF F u (σ u) σ:=fun σ=>congrArg F (funext fun x=>by
  by_cases e:x=u
  ·
   subst e;simp
  ·
   simp[e])
 rw[key (upd ρ v b),key ρ,show upd ρ v b u=ρ u by unfold upd;rw[if_neg (fun e=>hne e.symm)]];cases ρ u
 ·
  exact h0 ρ b
 ·
  exact h1 ρ b
theorem Zl8 {F:BF} {v:Nat} (h:Indep F v):Indep (notF F) v:=fun ρ b=>by
 show (!F (upd ρ v b)) = !F ρ
 rw[h]
theorem Zhp {F:BF} {v:Nat}:Indep F v↔cofF F v false=cofF F v true:=by
 constructor
 ·
  intro h;funext ρ
  exact(h ρ false).trans (h ρ true).symm
 ·
  intro h ρ b
  have key:∀ σ:Nat->Bool,F σ=cofF F v (σ v) σ:=fun σ=>congrArg F (funext fun x=>by
   by_cases e:x=v
   ·
    subst e;simp
   ·
    simp[e])
  have e2:cofF F v b ρ=cofF F v (ρ v) ρ:=by
   cases b<;>cases ρ v<;>first|rfl|rw[h]
  exact e2.trans (key ρ).symm
section
variable {d:Zac} {V:Nat->BF}
theorem Zsi {f v:Nat}:Indep (ef V f) v↔Indep (V (f/2)) v:=by
 rcases Ybu (V:=V) f with e|e
 ·
  rw[e]
 ·
  rw[e];exact⟨fun h=>by have:=Zl8 h;rwa [Zpy] at this,Zl8⟩
def InM (d:Zac) (met:List Nat) (f:Nat):Prop:=Zaa d (f/2)=none\/f/2∈met
def ClM (d:Zac) (met met':List Nat):Prop:=∀ i∈met',i∉met->∀ b,Zaa d i=some b->InM d met' b.lo/\InM d met' b.hi
theorem Zox {f:Nat} {b:BN} (hb:Zaa d (f/2)=some b):(cofs d f b.v).1/2=b.lo/2/\(cofs d f b.v).2/2=b.hi/2:=by
 unfold cofs;simp only[hb,if_true];constructor<;>(unfold eflip;split<;>first|exact Zdt _|rfl)
theorem Ze7:∀ (k:Nat) (met:List Nat) (f:Nat),∀ i∈met,i∈Zbu d k met f
 | 0,met,f,i,hi=>hi
 | k+1,met,f,i,hi=>by
   unfold Zbu;cases hb:Zaa d (f/2) with
   | none=>exact hi
   | some b =>
     show i∈(if f/2∈met then met else _)
     by_cases c:f/2∈met
     ·
      rw[if_pos c];exact hi
     ·
      rw[if_neg c];exact Ze7 k _ _ _ (Ze7 k _ _ _ (List.mem_append_left _ hi))
theorem InM.mono {met met':List Nat} {f:Nat} (h:InM d met f) (hs:∀ i∈met,i∈met'):InM d met' f:=h.imp id (hs _)
theorem Zgg (h:Zaj d V):∀ (k:Nat) (met:List Nat) (f:Nat),okE (Zaa d) f->d.vars.length<=lvE d.vars.length (levN d) (Zaa d) f+k->InM d (Zbu d k met f) f/\ClM d met (Zbu d k met f)
 | 0,met,f,hf,hl=>by
   refine⟨.inl ?_,fun i hi hn=>absurd hi hn⟩;cases hb:Zaa d (f/2) with
   | none=>rfl
   | some b =>
     exfalso;have h1:=h.dag.lt b.v (h.dag.var _ _ hb);unfold lvE at hl;rw[hb] at hl;simp at hl;omega
 | k+1,met,f,hf,hl=>by
   unfold Zbu;cases hb:Zaa d (f/2) with
   | none=>exact⟨.inl hb,fun i hi hn=>absurd hi hn⟩
   | some b =>
     show InM d (if f/2∈met then met else _) f/\ClM d met (if f/2∈met then met else _)
     by_cases c:f/2∈met
     ·
      rw[if_pos c];exact⟨.inr c,fun i hi hn=>absurd hi hn⟩
     ·
      rw[if_neg c];have hbv:=h.dag.var _ _ hb;have hlv:levN d b.v<=lvE d.vars.length (levN d) (Zaa d) f:=by unfold lvE;rw[hb];exact Nat.le_refl _
      have hl2:lvE d.vars.length (levN d) (Zaa d) f=levN d b.v:=by unfold lvE;rw[hb]
      obtain⟨q1,q2,q3,q4,_⟩:=Zbv h hf hbv hlv;obtain⟨e1,e2⟩:=Zox hb;obtain⟨a1,a2⟩:=Zgg h k (met++[f/2]) _ q1 (by omega);obtain⟨b1,b2⟩:=Zgg h k (Zbu d k (met++[f/2]) (cofs d f b.v).1) _ q2 (by omega);have hs1:=Ze7 (d:=d) k (Zbu d k (met++[f/2]) (cofs d f b.v).1) (cofs d f b.v).2;have hs0:=Ze7 (d:=d) k (met++[f/2]) (cofs d f b.v).1;refine⟨.inr (hs1 _ (hs0 _ (by simp))),fun i hi hn b' hb'=>?_⟩
      by_cases m2:i∈Zbu d k (met++[f/2]) (cofs d f b.v).1
      ·
       by_cases m1:i∈met++[f/2]
       ·
        have:i=f/2:=by
         rcases List.mem_append.1 m1 with m|m
         ·
          exact absurd m hn
         ·
          simpa using m
        subst this;rw[hb] at hb';cases hb'
        have w1:=a1.mono hs1;unfold InM at w1 b1;rw[e1] at w1;rw[e2] at b1;exact⟨w1,b1⟩
       ·
        obtain⟨w1,w2⟩:=a2 i m2 m1 b' hb';exact⟨w1.mono hs1,w2.mono hs1⟩
      ·
       exact b2 i hi m2 b' hb'
theorem Zir (h:Zaj d V):∀ (k:Nat) (met:List Nat) (f:Nat),okE (Zaa d) f->∀ i∈Zbu d k met f,i∈met\/∀ v,Indep (ef V f) v->Indep (V i) v
 | 0,met,f,hf,i,hi=>.inl hi
 | k+1,met,f,hf,i,hi=>by
   unfold Zbu at hi;cases hb:Zaa d (f/2) with
   | none=>rw[hb] at hi;exact .inl hi
   | some b =>
     rw[hb] at hi
     replace hi:i∈(if f/2∈met then met else Zbu d k (Zbu d k (met++[f/2]) (cofs d f b.v).1) (cofs d f b.v).2):=hi
     by_cases c:f/2∈met
     ·
      rw[if_pos c] at hi;exact .inl hi
     ·
      rw[if_neg c] at hi;have hbv:=h.dag.var _ _ hb;have hlv:levN d b.v<=lvE d.vars.length (levN d) (Zaa d) f:=by unfold lvE;rw[hb];exact Nat.le_refl _
      obtain⟨q1,q2,_⟩:=Zbv h hf hbv hlv;obtain⟨e1,e2⟩:=Zhl h hf hbv hlv;rcases Zir h k _ _ q2 i hi with m|m
      ·
       rcases Zir h k _ _ q1 i m with m|m
       ·
        rcases List.mem_append.1 m with m|m
        ·
         exact .inl m
        ·
         simp at m;subst m
         exact .inr fun v hv=>Zsi.1 hv
       ·
        exact .inr fun v hv=>m v (by rw[e1];exact Zpj hv _ _)
      ·
       exact .inr fun v hv=>m v (by rw[e2];exact Zpj hv _ _)
theorem Zpi (h:Zaj d V) {met:List Nat} (hcl:ClM d [] met) {v:Nat} (hv:∀ i∈met,∀ b,Zaa d i=some b->b.v≠v):∀ (k:Nat) (f:Nat),okE (Zaa d) f->d.vars.length<=lvE d.vars.length (levN d) (Zaa d) f+k->InM d met f->Indep (ef V f) v:=by
 have hc:∀ f,okE (Zaa d) f->Zaa d (f/2)=none->Indep (ef V f) v:=fun f hf hn=>by
  obtain⟨c,e⟩:=(Zj8 h h.dag.none0 hf).2 hn;rw[e];exact fun _ _=>rfl
 intro k
 induction k with
 | zero =>
   intro f hf hl hi;cases hb:Zaa d (f/2) with
   | none=>exact hc f hf hb
   | some b =>
     exfalso;have h1:=h.dag.lt b.v (h.dag.var _ _ hb);unfold lvE at hl;rw[hb] at hl;simp at hl;omega
 | succ k ih =>
   intro f hf hl hi;cases hb:Zaa d (f/2) with
   | none=>exact hc f hf hb
   | some b =>
     have hm:f/2∈met:=by
      rcases hi with e|e
      ·
       rw[hb] at e;cases e
      ·
       exact e
     have hbv:=h.dag.var _ _ hb;have hlv:levN d b.v<=lvE d.vars.length (levN d) (Zaa d) f:=by unfold lvE;rw[hb];exact Nat.le_refl _
     have hl2:lvE d.vars.length (levN d) (Zaa d) f=levN d b.v:=by unfold lvE;rw[hb]
     obtain⟨q1,q2,q3,q4,_⟩:=Zbv h hf hbv hlv;obtain⟨e1,e2⟩:=Zhl h hf hbv hlv;obtain⟨k1,k2⟩:=Zox hb;obtain⟨w1,w2⟩:=hcl _ hm (by simp) b hb;have i1:=ih _ q1 (by omega) (by unfold InM;rw[k1];exact w1);have i2:=ih _ q2 (by omega) (by unfold InM;rw[k2];exact w2);rw[e1] at i1;rw[e2] at i2;exact Zne (fun e=>hv _ hm b hb e.symm) i1 i2
theorem Zvy {a b c:List Nat} (h1:ClM d a b) (h2:ClM d b c) (hs:∀ i∈b,i∈c):ClM d a c:=fun i hi hn b' hb'=>by
 by_cases m:i∈b
 ·
  obtain⟨w1,w2⟩:=h1 i m hn b' hb';exact⟨w1.mono hs,w2.mono hs⟩
 ·
  exact h2 i hi m b' hb'
theorem Zqe (h:Zaj d V):∀ (l met:List Nat),(∀ f∈l,okE (Zaa d) f)->ClM d [] met->ClM d [] (l.foldl (fun met f=>Zbu d d.vars.length met f) met)/\(∀ i∈met,i∈l.foldl (fun met f=>Zbu d d.vars.length met f) met)/\(∀ f∈l,InM d (l.foldl (fun met f=>Zbu d d.vars.length met f) met) f)/\∀ i∈l.foldl (fun met f=>Zbu d d.vars.length met f) met,i∈met\/∃ f∈l,∀ v,Indep (ef V f) v->Indep (V i) v
 | [],met,_,hc=>⟨hc,fun i hi=>hi,fun f hf=>by simp at hf,fun i hi=>.inl hi⟩
 | f::r,met,hl,hc=>by
   have hf:=hl f (List.mem_cons_self ..);obtain⟨c1,c2⟩:=Zgg h d.vars.length met f hf (by omega);obtain⟨r1,r2,r3,r4⟩:=Zqe h r (Zbu d d.vars.length met f) (fun g hg=>hl g (List.mem_cons_of_mem _ hg)) (Zvy hc c2 (Ze7 _ _ _));refine⟨r1,fun i hi=>r2 i (Ze7 _ _ _ i hi),fun g hg=>?_,fun i hi=>?_⟩
   ·
    rcases List.mem_cons.1 hg with rfl|hg
    ·
     exact c1.mono r2
    ·
     exact r3 g hg
   ·
    rcases r4 i hi with m|⟨g,hg,m⟩
    ·
     rcases Zir h _ _ f hf i m with m|m
     ·
      exact .inl m
     ·
      exact .inr ⟨f,List.mem_cons_self ..,m⟩
    ·
     exact .inr ⟨g,List.mem_cons_of_mem _ hg,m⟩
structure Zyx (n:Nat) (os:List Nat) (Fs:List BF) (cs:List (Nat×Nat)):Prop where
 sum:sumC cs=(nodesF n os Fs).length
 le:sumC cs<=2305843009213693952
 dep:∀ v,0<getC v cs↔∃ F∈Fs,Zbn n F v=true
theorem Zz2 (h:Zaj d V) (l:List Nat) (hl:∀ f∈l,okE (Zaa d) f) (hlt:∀ e,okE (Zaa d) e->e<eMax):Zyx d.vars.length d.vars (l.map (ef V)) (tally d (Zll d l)):=by
 refine⟨?_,?_,fun v=>?_⟩
 ·
  rw[Zk9,Zx4 h l hl]
 ·
  rw[Zk9];exact(Zsz h l).len hlt
 ·
  obtain⟨r1,r2,r3,r4⟩:=Zqe h l [] hl (fun i hi=>by simp at hi);rw[Zyg,List.countP_pos_iff];constructor
  ·
   rintro⟨i,hi,hv⟩;rcases r4 i hi with m|⟨f,hf,m⟩
   ·
    simp at m
   ·
    refine⟨ef V f,List.mem_map.2 ⟨f,hf,rfl⟩,(Zf4 (h.dep (hl f hf)) v).2 fun e=>?_⟩;have h1:=m v (Zhp.2 e);obtain⟨b,hb⟩:=(Zsz h l).node i hi;have hv':b.v=v:=by
     have:vrD d i=v:=by simpa using hv
     unfold vrD at this;rw[hb] at this;exact this
    have hb2:Zaa d (2*i/2)=some b:=by rw[show 2*i/2=i by omega];exact hb
    have h2:=(Zsi (V:=V) (f:=2*i) (v:=v)).2 (by rw[show 2*i/2=i by omega];exact h1);have ht:=(Ztd h hb2).1;have hdep:=h.dep (f:=2*i) (.inr ⟨b,hb2⟩)
    by_cases hx:∃ u∈d.vars,Zbn d.vars.length (ef V (2*i)) u=true
    ·
     obtain⟨q,_,g2,g3,_⟩:=Zu4 hx;rw[ht] at g2;rw[<- Int.ofNat.inj g2,hv',Zf4 hdep] at g3;exact g3 (Zhp.1 h2)
    ·
     have:=Zqp (n:=d.vars.length) (F:=ef V (2*i)) (l:=d.vars) (fun u hu=>by
      cases e:Zbn d.vars.length (ef V (2*i)) u with
      | false=>rfl
      | true=>exact absurd ⟨u,hu,e⟩ hx)
     rw[ht] at this;omega
  ·
   rintro⟨F,hF,hh⟩;obtain⟨f,hf,rfl⟩:=List.mem_map.1 hF;refine Classical.byContradiction fun hno=>?_
   refine(Zf4 (h.dep (hl f hf)) v).1 hh (Zhp.1 (Zpi h r1 (v:=v) (fun i hi b hb e=>hno ⟨i,hi,by unfold vrD;rw[hb];simp[e]⟩) d.vars.length f (hl f hf) (by omega) (r3 f hf)))
end
open Go.RowKit
def cntN:Nat->BF->(Nat->Bool)->Nat
 | 0,F,ρ=>if F ρ then 1 else 0
 | n+1,F,ρ=>cntN n F (upd ρ n false)+cntN n F (upd ρ n true)
theorem Zyz {F G:BF} (h:∀ ρ,F ρ=G ρ) (n:Nat) (ρ:Nat->Bool):cntN n F ρ=cntN n G ρ:=by rw[show F=G from funext h]
theorem Zlz (n:Nat) (ρ:Nat->Bool):cntN n (fun _=>true) ρ=2^n:=by
 induction n generalizing ρ with
 | zero=>rfl
 | succ n ih=>show cntN n _ _+cntN n _ _=_;rw[ih,ih,Nat.pow_succ];omega
theorem Zm2 (n:Nat) (F:BF) (ρ:Nat->Bool):cntN n (notF F) ρ+cntN n F ρ=2^n:=by
 induction n generalizing ρ with
 | zero=>show (if (!F ρ)=true then 1 else 0)+(if F ρ=true then 1 else 0)=1;cases F ρ<;>rfl
 | succ n ih =>
   have h1:=ih (upd ρ n false);have h2:=ih (upd ρ n true)
   show (cntN n (notF F) _+cntN n (notF F) _)+(cntN n F _+cntN n F _)=_
   rw[Nat.pow_succ];omega
theorem Ybk (n:Nat) (F:BF) (ρ:Nat->Bool):cntN n F ρ<=2^n:=by
 have:=Zm2 n F ρ;omega
theorem Zti (ρ:Nat->Bool) {u v:Nat} (h:u≠v) (a b:Bool):upd (upd ρ u a) v b=upd (upd ρ v b) u a:=funext fun x=>by
 unfold upd
 by_cases h1:x=u<;>by_cases h2:x=v<;>simp_all
theorem Zdb (F:BF) (v:Nat) (b:Bool):∀ (n:Nat) (ρ:Nat->Bool),n<=v->cntN n (cofF F v b) ρ=cntN n F (upd ρ v b)
 | 0,ρ,_=>rfl
 | n+1,ρ,h=>by
   show cntN n _ _+cntN n _ _=cntN n _ _+cntN n _ _
   rw[Zdb F v b n _ (by omega),Zdb F v b n _ (by omega),Zti ρ (by omega) false b,Zti ρ (by omega) true b]
theorem Zj5 (F:BF) {v:Nat}:∀ (n:Nat) (ρ:Nat->Bool),v<n->cntN n (cofF F v false) ρ+cntN n (cofF F v true) ρ=2*cntN n F ρ
 | 0,_,h=>absurd h (by omega)
 | n+1,ρ,h=>by
   show (cntN n _ _+cntN n _ _)+(cntN n _ _+cntN n _ _)=2*(cntN n _ _+cntN n _ _)
   rcases Nat.lt_or_ge v n with c|c
   ·
    have h1:=Zj5 F n (upd ρ n false) c;have h2:=Zj5 F n (upd ρ n true) c;omega
   ·
    obtain rfl:v=n:=by omega
    have e:∀ a b,upd (upd ρ v a) v b=upd ρ v b:=fun a b=>funext fun x=>by unfold upd;split<;>rfl
    rw[Zdb F v false v _ (Nat.le_refl _),Zdb F v false v _ (Nat.le_refl _),Zdb F v true v _ (Nat.le_refl _),Zdb F v true v _ (Nat.le_refl _),e,e,e,e];omega
def fixV (fx:Nat->Option Bool) (F:BF):BF:=fun ρ=>F fun v=>(fx v).getD (ρ v)
theorem Zy8 (fx:Nat->Option Bool) (F:BF):fixV fx (notF F)=notF (fixV fx F):=rfl
theorem Zwh {fx:Nat->Option Bool} {v:Nat} {b:Bool} (h:fx v=some b) (F:BF):fixV fx (cofF F v b)=fixV fx F:=funext fun ρ=>by
 show F _=F _
 congr 1;funext u
 by_cases e:u=v
 ·
  subst e;simp[h]
 ·
  simp[e]
theorem Zpa {fx:Nat->Option Bool} {v:Nat} (h:fx v=none) (F:BF) (b:Bool):fixV fx (cofF F v b)=cofF (fixV fx F) v b:=funext fun ρ=>by
 show F _=F _
 congr 1;funext u
 by_cases e:u=v
 ·
  subst e;simp[h]
 ·
  simp[e]
def totN (n:Nat) (fx:Nat->Option Bool) (F:BF):Nat:=cntN n (fixV fx F) fun _=>false
theorem Zyk (n:Nat) (fx:Nat->Option Bool):totN n fx (fun _=>true)=2^n:=Zlz n _
theorem Yad (n:Nat) (fx:Nat->Option Bool) (F:BF):totN n fx (notF F)=2^n-totN n fx F:=by
 have:=Zm2 n (fixV fx F) fun _=>false
 unfold totN;rw[Zy8];omega
theorem Zyi (n:Nat) (fx:Nat->Option Bool) (F:BF):totN n fx F<=2^n:=Ybk _ _ _
theorem Zqr {n:Nat} {fx:Nat->Option Bool} {v:Nat} {b:Bool} (h:fx v=some b) (F:BF):totN n fx (cofF F v b)=totN n fx F:=by
 unfold totN;rw[Zwh h]
theorem Zyj {n:Nat} {fx:Nat->Option Bool} {v:Nat} (h:fx v=none) (hv:v<n) (F:BF):(totN n fx (cofF F v false)+totN n fx (cofF F v true))/2=totN n fx F:=by
 unfold totN;rw[Zpa h,Zpa h,Zj5 _ _ _ hv];omega
open Go.RowKit
theorem Zkk:Zld Tryz.prog 3 (Value.int .i64):=Zkl Tryz.underlying3
def mtL (met:List Nat):List (Int×Value):=met.map fun i:Nat=>((i:Int),(.bool true:Value))
theorem Zxg (met:List Nat) (f:Nat):getL (mtL met) (f:Int)=if f∈met then some (.bool true) else none:=by
 by_cases h:f∈met
 ·
  rw[if_pos h];unfold getL;have:∀ (l:List Nat) (i:Nat),f∈l->(Zbw (f:Int) (mtL l) i).map (·.2)=some (.bool true):=by
   intro l
   induction l with
   | nil=>intro i h;simp at h
   | cons x r ih =>
     intro i h
     show (if (x:Int)=(f:Int) then some (i,(.bool true:Value)) else Zbw (f:Int) (mtL r) (i+1)).map (·.2)=_
     by_cases e:(x:Int)=(f:Int)
     ·
      rw[if_pos e];rfl
     ·
      rw[if_neg e];refine ih _ ?_;rcases List.mem_cons.1 h with h|h
      ·
       exact absurd (by rw[h]) e
      ·
       exact h
  exact this met 0 h
 ·
  rw[if_neg h];refine Zcu.2 fun p hp=>?_
  obtain⟨i,hi,rfl⟩:=List.mem_map.1 hp;intro e;have e2:i=f:=Int.ofNat.inj e;rw[e2] at hi;exact h hi
theorem Zme {w:World} {b:Nat} {met:List Nat} (h:Zaz w b (Value.int .i64) (mtL met)) (f:Nat) :
 (Instr.lookup 97 (.map (some b)) (.int .i64 (f:Nat)) false).run Tryz.prog w=.ok (.bool (decide (f∈met))) w:=by
 have:=h.lookup Zkk Tryz.underlying97 Tryz.zeroValue4 (f:Int) false;rw[Zxg] at this
 by_cases c:f∈met
 ·
  rw[if_pos c] at this;simpa [c] using this
 ·
  rw[if_neg c] at this;simpa [c] using this
theorem Zuo {w:World} {b:Nat} {met:List Nat} (h:Zaz w b (Value.int .i64) (mtL met)) {f:Nat} (hf:f∉met) :
 ∃ w',(Instr.mapUpdate 97 (.map (some b)) (.int .i64 (f:Nat)) (.bool true)).run Tryz.prog w=.ok () w'/\Zaz w' b (Value.int .i64) (mtL (met++[f]))/\w.grownBy w' (some b):=by
 obtain⟨w',h1,h2,h3⟩:=h.update Zkk Tryz.underlying97 (f:Int) (.bool true);refine⟨w',h1,?_,h3⟩;have e:putL (f:Int) (.bool true) (mtL met)=mtL (met++[f]):=by
  have hg:=Zxg met f;rw[if_neg hf] at hg;unfold getL at hg;unfold putL;cases hc:Zbw (f:Int) (mtL met) 0 with
  | none=>simp[mtL]
  | some q=>rw[hc] at hg;simp at hg
 rw[<- e];exact h2
open Go.RowKit
section
variable {P:Program} {S:World->Prop} {Q:Exit->Act->World->Prop} {R:List PanicEntry->World->Prop}
def Nx (_:List Nat) (P:Program) (l:List Oper) (Q:Exit->Act->World->Prop) (R:List PanicEntry->World->Prop) (S:World->Prop) (f:Nat) (L:Array Bool) (a:Act) (w:World):Prop:=Zmw P l Q R S l.length f L a w
theorem Zem (pl:List Nat) {id:Nat} {a:Act} {w:World} {l:List Oper} (S:World->Prop) (R:List PanicEntry->World->Prop) (hR:∀ c (a:Act) w,a.defers=[]->R c w->Q (.panic c) a w) (hm:P.follows .mixedOrders=true) (hS:S w.drew)
 (h:Nx pl P l Q R S l.length (Array.replicate l.toArray.size false) a w.drew):(Code.region id l.toArray true).wp P Q a w:=Zee S R l.length hR hm hS h
theorem Zcr {i:Nat} {pl:List Nat} {l:List Oper} {f:Nat} {L:Array Bool} {a:Act} {w:World} {o:Oper} (hi:l[i]?=some o) (hg:o.guard=none)
 (hB:(Region.noSelect l.toArray&&(Region.ready .any l.toArray L).contains i&&Region.free .any l.toArray L i)=true)
 (h:∃ v,(∀ w,S w->(execOp a.eval o).run P w=.ok (.value v) w)/\Nx pl P l Q R S f (L.setIfInBounds i true) (a.put o.dst v) w):Nx (i::pl) P l Q R S (f+1) L a w :=
 Za3 _ hi hg (by rw[hB];simp) h
theorem Yce {i:Nat} {pl:List Nat} {l:List Oper} {f:Nat} {L:Array Bool} {a:Act} {w:World} {o:Oper} {g:FuncId} {args:Array Value} {R1:Value->World->Prop} (hi:l[i]?=some o) (hr:decide (Region.ready .any l.toArray L=[i])=true)
 (hg:Region.wanted o (yielded l.toArray a.tmps)=true) (hd:a.defers=[]) (he:(execOp a.eval o).run P w=.ok (.enter g args) w)
 (hc:Calls P g args w fun e w'=>(∃ v,e=.returned v/\S w'/\R1 v w')\/(∃ ch,e=.panicked ch/\R ch w'))
 (h:∀ v w',S w'->R1 v w'->Nx pl P l Q R S f (L.setIfInBounds i true) (a.put o.dst v) w'):Nx (i::pl) P l Q R S (f+1) L a w:=by
 refine Zbp [i] (by rw[Bool.and_eq_true];exact⟨hr,rfl⟩) fun j hi2 hS o2 ho2=>?_
 rw[List.mem_singleton] at hi2;subst hi2;rw[hi] at ho2;cases ho2;refine⟨hg,?_⟩;refine Zin (R:=fun v w'=>S w'/\R1 v w') (R2:=R) he (hc.mono ?_) (fun v w' hh=>⟨hh.1,h v w' hh.1 hh.2⟩) (fun ch w' hh=>⟨hd,hh⟩);rintro e w' (⟨v,h1,h2⟩|hh)
 ·
  exact .inl ⟨v,h1,h2⟩
 ·
  exact .inr hh
theorem Zbb {i:Nat} {pl:List Nat} {l:List Oper} {f:Nat} {L:Array Bool} {a:Act} {w:World} {o:Oper} {g:FuncId} {args:Array Value} {R1:Value->World->Prop} (hi:l[i]?=some o) (hr:decide (Region.ready .any l.toArray L=[i])=true)
 (hg:Region.wanted o (yielded l.toArray a.tmps)=true) (hd:a.defers=[]) (he:(execOp a.eval o).run P w=.ok (.enter g args) w)
 (hc:Calls P g args w fun e w'=>∃ v,e=.returned v/\R1 v w') (hS:∀ v w',R1 v w'->S w')
 (h:∀ v w',S w'->R1 v w'->Nx pl P l Q R S f (L.setIfInBounds i true) (a.put o.dst v) w'):Nx (i::pl) P l Q R S (f+1) L a w :=
 Yce hi hr hg hd he (hc.mono fun e w' ⟨v,h1,h2⟩=>.inl ⟨v,h1,hS v w' h2,h2⟩) h
theorem Zzr {i:Nat} {pl:List Nat} {l:List Oper} {f:Nat} {L:Array Bool} {a:Act} {w w':World} {o:Oper} {t:TypeId} {s x:Operand} (hi:l[i]?=some o) (hr:decide (Region.ready .any l.toArray L=[i])=true)
 (hg:Region.wanted o (yielded l.toArray a.tmps)=true) (ho:o.op=.store t s x) (hs:(Instr.storeAt t (a.eval s) (a.eval x)).run P w=.ok () w') (hS:S w')
 (h:Nx pl P l Q R S f (L.setIfInBounds i true) (a.put o.dst undef) w'):Nx (i::pl) P l Q R S (f+1) L a w:=by
 refine Zbp [i] (by rw[Bool.and_eq_true];exact⟨hr,rfl⟩) fun j hi2 _ o2 ho2=>?_
 rw[List.mem_singleton] at hi2;subst hi2;rw[hi] at ho2;cases ho2;exact⟨hg,Zmh ho hs ⟨hS,h⟩⟩
theorem Znq {i:Nat} {pl:List Nat} {l:List Oper} {f:Nat} {L:Array Bool} {a:Act} {w w':World} {v:Value} {o:Oper} (hi:l[i]?=some o) (hr:decide (Region.ready .any l.toArray L=[i])=true)
 (hg:Region.wanted o (yielded l.toArray a.tmps)=true) (he:(execOp a.eval o).run P w=.ok (.value v) w') (hS:S w')
 (h:Nx pl P l Q R S f (L.setIfInBounds i true) (a.put o.dst v) w'):Nx (i::pl) P l Q R S (f+1) L a w:=by
 refine Zbp [i] (by rw[Bool.and_eq_true];exact⟨hr,rfl⟩) fun j hi2 _ o2 ho2=>?_
 rw[List.mem_singleton] at hi2;subst hi2;rw[hi] at ho2;cases ho2;exact⟨hg,Zca he ⟨hS,h⟩⟩
theorem Zi8 {l:List Oper} {L:Array Bool} {a:Act} {w:World} (hr:(Region.ready .any l.toArray L).isEmpty=true) (h:Q .normal a w):Nx [] P l Q R S 0 L a w:=Zkn hr h
end
open Go.RowKit
section
variable {K:Law} {k k1 k2:Nat} {w W w':World} {mb:Nat} {o o':Own} {m m':ManD} {V V':Nat->BF} {T:Nat->Prop}
end
open Go.RowKit
theorem Zxm {P:Program} {S:World->Prop} {Q:Exit->Act->World->Prop} {R:List PanicEntry->World->Prop} {i:Nat} {pl:List Nat} {l:List Oper} {f:Nat} {L:Array Bool} {a:Act} {w w':World} {o:Oper} {t:TypeId} {m x y:Operand} (hi:l[i]?=some o) (hr:decide (Region.ready .any l.toArray L=[i])=true)
 (hg:Region.wanted o (yielded l.toArray a.tmps)=true) (ho:o.op=.mapUpdate t m x y) (hs:(Instr.mapUpdate t (a.eval m) (a.eval x) (a.eval y)).run P w=.ok () w') (hS:S w')
 (h:Nx pl P l Q R S f (L.setIfInBounds i true) (a.put o.dst undef) w'):Nx (i::pl) P l Q R S (f+1) L a w:=by
 refine Zbp [i] (by rw[Bool.and_eq_true];exact⟨hr,rfl⟩) fun j hi2 _ o2 ho2=>?_
 rw[List.mem_singleton] at hi2;subst hi2;rw[hi] at ho2;cases ho2;refine⟨hg,?_⟩;unfold Oper.wp;simp only[execOp,ho,Sem.run_bind,hs,Result.andThen_ok];exact⟨hS,h⟩
section
variable {F:Phi} {mb:Nat} {o:Own} {m:ManD} {W W':World}
theorem Zd0.other {C:Nat->Prop} (h:Zd0 F o W mb m) (hl:Zai o W) (hx:Wr C W W') (hC:∀ k,k<W.heap.size->C k->o k=none):Zd0 F o W' mb m:=by
 obtain⟨s,hm⟩:=h;exact⟨s,hm.keep (fun g r hg=>hx.keep g (hl g r hg) (fun e=>by have:=hC g (hl g r hg) e;rw[hg] at this;cases this)) (fun _ _ h=>h)⟩
end
open Go.RowKit
def valD:List Nat->Nat
 | []=>0
 | d::r=>d+4294967296*valD r
def OkD (ds:List Nat):Prop:=∀ d∈ds,d<4294967296
def Trim (ds:List Nat):Prop:=∀ k,ds.length=k+1->ds.getD k 0≠0
def digD (x:Nat):List Nat:=if h:x=0 then [] else x%4294967296::digD (x/4294967296)
decreasing_by omega
theorem Zbl:digD 0=[]:=by unfold digD;simp
theorem Zdo {x:Nat} (h:x≠0):digD x=x%4294967296::digD (x/4294967296):=by
 rw[digD];simp[h]
theorem Zwb:∀ ds:List Nat,OkD ds->Trim ds->digD (valD ds)=ds
 | [],_,_=>Zbl
 | d::r,ho,ht=>by
   have hd:d<4294967296:=ho d (List.mem_cons_self ..);have hr:OkD r:=fun x hx=>ho x (List.mem_cons_of_mem _ hx)
   cases r with
   | nil =>
     have hd0:d≠0:=ht 0 rfl;have hv:valD [d]=d:=by simp[valD]
     rw[hv,Zdo hd0,show d/4294967296=0 by omega,Zbl,show d%4294967296=d by omega]
   | cons e q =>
     have htr:Trim (e::q):=fun k hk=>by
      have:=ht (k+1) (by simpa using hk);simpa using this
     have ih:=Zwb (e::q) hr htr;have hne:valD (e::q)≠0:=fun h0=>by
      rw[h0,Zbl] at ih;cases ih
     have hv:valD (d::e::q)=d+4294967296*valD (e::q):=rfl;obtain⟨v,hv2⟩:∃ v,v=valD (e::q):=⟨_,rfl⟩;rw[hv,<- hv2];rw[<- hv2] at ih hne;rw[Zdo (by omega),show (d+4294967296*v)/4294967296=v by omega,show (d+4294967296*v)%4294967296=d by omega,ih]
theorem Zdh (x:Nat):valD (digD x)=x:=by
 induction x using Nat.strongRecOn with
 | ind x ih =>
   by_cases h:x=0
   ·
    subst h;rw[Zbl];rfl
   ·
    rw[Zdo h]
    show x%4294967296+4294967296*valD (digD (x/4294967296))=x
    rw[ih _ (by omega)];omega
theorem Zxo (x:Nat):OkD (digD x):=by
 induction x using Nat.strongRecOn with
 | ind x ih =>
   by_cases h:x=0
   ·
    subst h;rw[Zbl];intro d hd;cases hd
   ·
    rw[Zdo h];intro d hd;rcases List.mem_cons.1 hd with rfl|hd
    ·
     omega
    ·
     exact ih _ (by omega) d hd
theorem Zc3:∀ a b:List Nat,valD (a++b)=valD a+4294967296^a.length*valD b
 | [],b=>by simp[valD]
 | d::r,b=>by
   show d+4294967296*valD (r++b)=d+4294967296*valD r+_
   rw[Zc3 r b,List.length_cons,Nat.pow_succ,Nat.mul_add,Nat.mul_comm (4294967296^r.length) 4294967296,Nat.mul_assoc,Nat.add_assoc]
theorem Zgx:∀ b:List Nat,(∀ d∈b,d=0)->valD b=0
 | [],_=>rfl
 | d::r,h=>by
   show d+4294967296*valD r=0
   rw[Zgx r fun x hx=>h x (List.mem_cons_of_mem _ hx),h d (List.mem_cons_self ..)]
theorem Zoe:∀ ds:List Nat,OkD ds->valD ds<4294967296^ds.length
 | [],_=>by simp[valD]
 | d::r,h=>by
   have h1:=Zoe r fun x hx=>h x (List.mem_cons_of_mem _ hx)
   have h2:=h d (List.mem_cons_self ..)
   show d+4294967296*valD r<4294967296^(r.length+1)
   rw[Nat.pow_succ,Nat.mul_comm]
   generalize 4294967296^r.length=p at *
   omega
theorem Zym {ds:List Nat} {k:Nat} (ho:OkD ds) (hk:k<=ds.length) (hz:∀ j,k<=j->j<ds.length->ds.getD j 0=0) (hn:k=0\/ds.getD (k-1) 0≠0):digD (valD ds)=ds.take k:=by
 have hv:valD ds=valD (ds.take k):=by
  have:=Zc3 (ds.take k) (ds.drop k);rw[List.take_append_drop] at this;rw[this,Zgx (ds.drop k) fun d hd=>?_]
  ·
   simp
  ·
   obtain⟨i,hi,rfl⟩:=List.getElem_of_mem hd;have hi2:k+i<ds.length:=by simp at hi;omega
   have:=hz (k+i) (by omega) hi2;rw[List.getElem_drop];simpa [List.getD,List.getElem?_eq_getElem hi2] using this
 rw[hv];refine Zwb _ (fun d hd=>ho d (List.mem_of_mem_take hd)) fun j hj=>?_
 have hl:(ds.take k).length=k:=by simp;omega
 rw[hl] at hj;rcases hn with rfl|hn
 ·
  cases hj
 ·
  rw[show k-1=j by omega] at hn;have hj2:j<ds.length:=by omega
  simp only[List.getD,List.getElem?_eq_getElem hj2] at hn;simp only[List.getD,List.getElem?_take,if_pos (show j<k by omega),List.getElem?_eq_getElem hj2];exact hn
structure U32At (w:World) (a:Option Addr) (ds:List Nat):Prop where
 len:ds.length<=1000000
 ok:OkD ds
 cells:∀ k,k<ds.length->∃ b off,a=some ⟨b,off,none⟩/\w.cell? ⟨b,off+k,none⟩=some (.int .u32 (ds.getD k 0:Nat))
def NatV (w:World) (v:Value) (x:Nat):Prop:=∃ a c,v=.slice a (digD x).length c/\(digD x).length<=c/\c<=1000000/\U32At w a (digD x)
theorem U32At.below {w w':World} {a:Option Addr} {ds:List Nat} (h:U32At w a ds) (hb:Below w.heap.size w w'):U32At w' a ds :=
 ⟨h.len,h.ok,fun k hk=>by
  obtain⟨b,off,h1,h2⟩:=h.cells k hk;exact⟨b,off,h1,(hb.cell (p:=⟨b,off+k,none⟩) (Zab h2)).trans h2⟩⟩
theorem NatV.below {w w':World} {v:Value} {x:Nat} (h:NatV w v x) (hb:Below w.heap.size w w'):NatV w' v x:=by
 obtain⟨a,c,h1,h2,h3,h4⟩:=h;exact⟨a,c,h1,h2,h3,h4.below hb⟩
theorem U32At.take {w:World} {a:Option Addr} {ds:List Nat} (h:U32At w a ds) (k:Nat):U32At w a (ds.take k):=by
 refine⟨by have:=h.len;simp;omega,fun d hd=>h.ok d (List.mem_of_mem_take hd),fun j hj=>?_⟩;have hj1:j<k/\j<ds.length:=by simpa [Nat.lt_min] using hj
 obtain⟨b,off,h1,h2⟩:=h.cells j hj1.2;refine⟨b,off,h1,?_⟩;simp only[List.getD,List.getElem?_take,if_pos hj1.1];exact h2
open Go.RowKit
theorem Zic {w:World} {a:Option Addr} {c:Nat} {ds:List Nat} (h:U32At w a ds) (hc:ds.length<=c) (hc2:c<=1000000) :
 Calls Tryz.prog 45 #[.slice a ds.length c] w fun x w'=>(∃ k:Nat,x=.returned (.slice a k k)/\NatV w (.slice a k k) (valD ds))/\w=w':=by
 have HH:=Hd h;have hlen:=h.len;obtain⟨P,hP⟩:∃ P:Ending->World->Prop,P=fun x w'=>(∃ k:Nat,x=.returned (.slice a k k)/\NatV w (.slice a k k) (valD ds))/\w=w':=⟨_,rfl⟩
 have HFIN:Hid (∀ k:Nat,k<=ds.length->(∀ j,k<=j->j<ds.length->ds.getD j 0=0)->(k=0\/ds.getD (k-1) 0≠0)->P (.returned (.slice a k k)) w):=Hd fun k h1 h2 h3=>by
  rw[hP];have e:=Zym h.ok h1 h2 h3;have hl:(ds.take k).length=k:=by simp;omega
  refine⟨⟨k,rfl,a,k,?_,?_,by omega,?_⟩,rfl⟩
  ·
   rw[e,hl]
  ·
   rw[e,hl];exact Nat.le_refl _
  ·
   rw[e];exact h.take k
 rw[<- hP];clear hP h
 go_enter Tryz.func45,Tryz.ntmps45
 go_wp2_with fail
 go_loopw [3] (fun s3 wr=>∃ k:Nat,k<=ds.length/\s3=.int .i64 k/\Hid (∀ j,k<=j->j<ds.length->ds.getD j 0=0)/\Hid (wr=w)) (fun s3 _=>(intOf s3).toNat)
 case atStart=>exact⟨ds.length,Nat.le_refl _,rfl,Hd (fun j h1 h2=>absurd h2 (by omega)),Hd rfl⟩
 case round =>
  obtain⟨k,hk,rfl,HZ,HW⟩:=hrel;have hw:=HW.out;subst hw;have hkc:(k:Int)<=(c:Int):=by omega
  by_cases hp:0<k
  ·
   have hpz:(0:Int)<(k:Int):=by omega
   obtain⟨b,off,rfl,ck⟩:=HH.out.cells (k-1) (by omega);have hcast:(k:Int)-1=((k-1:Nat):Int):=by omega
   have hin:k-1<ds.length:=by omega
   have hinz:((k-1:Nat):Int)<(ds.length:Int):=by omega
   by_cases hz:ds.getD (k-1) 0=0
   ·
    rw[hz] at ck;have HZ2:Hid (∀ j,k-1<=j->j<ds.length->ds.getD j 0=0):=Hd fun j h1 h2=>by
     rcases Nat.lt_or_ge j k with c1|c1
     ·
      rw[show j=k-1 by omega];exact hz
     ·
      exact HZ.out j c1 h2
    clear hz HFIN HZ;go_wp2_with fail;go_roundw
    case rel=>exact⟨k-1,by omega,by first|rfl|rw[<- hcast],HZ2,Hd trivial⟩
    case measure=>simp[intOf];omega
   ·
    obtain⟨d,hd⟩:∃ d,d=ds.getD (k-1) 0:=⟨_,rfl⟩;rw[<- hd] at ck;have hd0:¬ d=0:=by rw[hd];exact hz
    have hd1:¬ (d:Int)=0:=by omega
    clear hd;have HF:=Hd (HFIN.out k hk HZ.out (.inr hz));clear hz HFIN HZ;go_wp2_with fail;exact HF.out
  ·
   obtain rfl:k=0:=by omega
   have HF:=Hd (HFIN.out 0 hk HZ.out (.inl rfl));clear HFIN HZ;go_wp2_with fail;exact HF.out
theorem Zq5 {w:World} {a:Option Addr} {c:Nat} {ds:List Nat} (h:U32At w a ds) (hc:ds.length<=c) (hc2:c<=1000000) :
 Calls Tryz.prog 45 #[.slice a ds.length c] w fun x w'=>(∃ v,x=.returned v/\NatV w v (valD ds))/\w=w' :=
 (Zic h hc hc2).mono fun _ _ ⟨⟨_,h1,h2⟩,h3⟩=>⟨⟨_,h1,h2⟩,h3⟩
theorem Zfd {w:World} {g:Nat} {c:Nat} {ds:List Nat} (h:U32At w (some ⟨g,0,none⟩) ds) (hc:ds.length<=c) (hc2:c<=1000000) :
 Calls Tryz.prog 45 #[.slice (some ⟨g,0,none⟩) ds.length c] w fun x w'=>(∃ v,x=.returned v/\NatV w v (valD ds)/\∀ q,v.ownBlock=some q->q=g)/\w=w' :=
 (Zic h hc hc2).mono fun _ _ ⟨⟨_,h1,h2⟩,h3⟩=>⟨⟨_,h1,h2,fun _ e=>(Option.some.inj e).symm⟩,h3⟩
open Go.RowKit
theorem Zy0 {w:World} {n:Nat} (hn:n<18446744073709551616) :
 Calls Tryz.prog 14 #[.int .u64 n] w fun x w'=>(∃ v,x=.returned v/\NatV w' v n/\∀ q,v.ownBlock=some q->w.heap.size<=q)/\Below w.heap.size w w':=by
 obtain⟨w1,hw1⟩:∃ w1,w1=w.alloc (.cells #[.int .u32 ((n:Int)%4294967296),.int .u32 ((n:Int)/4294967296)] 101):=⟨_,rfl⟩;have g1:w1.heap[w.heap.size]?=some (.cells #[.int .u32 ((n:Int)%4294967296),.int .u32 ((n:Int)/4294967296)] 101 (0,0)):=by rw[hw1];exact heap_alloc_new _ _
 have hb1:Below w.heap.size w w1:=by rw[hw1];exact Zaf _ _
 have hu:U32At w1 (some ⟨w.heap.size,0,none⟩) [n%4294967296,n/4294967296]:=by
  refine⟨by simp,fun d hd=>?_,fun k hk=>⟨_,_,rfl,?_⟩⟩
  ·
   simp at hd;omega
  ·
   rw[cell_of_row _ _ _ _ _ _ g1];have hk2:k<2:=by simpa using hk
   rcases(show k=0\/k=1 by omega) with rfl|rfl
   ·
    show some (Value.int .u32 ((n:Int)%4294967296))=some (.int .u32 ((n%4294967296:Nat):Int))
    rw[show ((n%4294967296:Nat):Int)=(n:Int)%4294967296 by omega]
   ·
    show some (Value.int .u32 ((n:Int)/4294967296))=some (.int .u32 ((n/4294967296:Nat):Int))
    rw[show ((n/4294967296:Nat):Int)=(n:Int)/4294967296 by omega]
 have hT:=Zfd (c:=2) hu (by simp) (by omega);have hv:valD [n%4294967296,n/4294967296]=n:=by
  show n%4294967296+4294967296*(n/4294967296+4294967296*0)=n
  omega
 rw[hv] at hT
 have HT:Hid (Calls Tryz.prog 45 #[.slice (some ⟨w.heap.size,0,none⟩) 2 2] w1 fun x w'=>∃ v,x=.returned v/\(NatV w' v n/\∀ q,v.ownBlock=some q->w.heap.size<=q)/\Below w.heap.size w w'):=Hd (hT.mono (by
  rintro x w' ⟨⟨v,rfl,h,hq⟩,rfl⟩;exact⟨v,rfl,⟨h,fun q e=>by rw[hq q e];exact Nat.le_refl _⟩,hb1⟩))
 rw[hw1] at HT;clear hT hu hb1 g1 hw1 hv
 go_enter Tryz.func14,Tryz.ntmps14
 go_wp2_with fail;refine HT.out.mono ?_;rintro x w' ⟨v,rfl,h1,h2⟩;have HF:=Hd (show (∃ v',Ending.returned v=.returned v'/\NatV w' v' n/\∀ q,v'.ownBlock=some q->w.heap.size<=q)/\Below w.heap.size w w' from ⟨⟨v,rfl,h1⟩,h2⟩);clear h1 h2 HT;go_wp2_with fail;go_ret;exact HF.out
theorem Zhk {w:World} {n:Nat} (hn:n<18446744073709551616) :
 Calls Tryz.prog 14 #[.int .u64 n] w fun x w'=>(∃ v,x=.returned v/\NatV w' v n)/\Below w.heap.size w w' :=
 (Zy0 hn).mono fun _ _ ⟨⟨v,h1,h2,_⟩,h3⟩=>⟨⟨v,h1,h2⟩,h3⟩
open Go.RowKit
def cmpZ (x y:Nat):Int:=if x<y then -1 else if y<x then 1 else 0
theorem Zg9 {w:World} {v:Value} {x:Nat} (h:NatV w v x):Calls Tryz.prog 45 #[v] w fun e w'=>(∃ v',e=.returned v'/\NatV w v' x)/\w=w':=by
 obtain⟨a,c,rfl,h1,h2,h3⟩:=h;have:=Zq5 h3 h1 h2
 rwa [Zdh] at this
theorem Yav:∀ x n,n<(digD x).length->4294967296^n<=x:=by
 intro x
 induction x using Nat.strongRecOn with
 | ind x ih =>
   intro n hn
   by_cases h:x=0
   ·
    subst h;rw[Zbl] at hn;cases hn
   ·
    rw[Zdo h] at hn;cases n with
    | zero=>simp;omega
    | succ n =>
      have:=ih (x/4294967296) (by omega) n (by simpa using hn);rw[Nat.pow_succ]
      generalize 4294967296^n=p at *
      omega
theorem Zsc (x:Nat):x<4294967296^(digD x).length:=by
 have:=Zoe (digD x) (Zxo x)
 rwa [Zdh] at this
theorem Zq4 {x y:Nat} (h:(digD x).length<(digD y).length):x<y:=Nat.lt_of_lt_of_le (Zsc x) (Yav y _ h)
theorem Ze3 {ds:List Nat} {i:Nat} (hi:i<ds.length):ds.drop i=ds.getD i 0::ds.drop (i+1):=by
 rw[List.drop_eq_getElem_cons hi];simp[List.getD,List.getElem?_eq_getElem hi]
theorem Ya7 {ds:List Nat} {i:Nat} (hi:i<ds.length):valD ds=valD (ds.take i)+4294967296^i*(ds.getD i 0+4294967296*valD (ds.drop (i+1))):=by
 have:=Zc3 (ds.take i) (ds.drop i);rw[List.take_append_drop,Ze3 hi,List.length_take,Nat.min_eq_left (by omega)] at this;exact this
theorem Zvz {a b:List Nat} {i:Nat} (hoa:OkD a) (ha:i<a.length) (hb:i<b.length) (ht:a.drop (i+1)=b.drop (i+1)) (hlt:a.getD i 0<b.getD i 0):valD a<valD b:=by
 rw[Ya7 ha,Ya7 hb,ht];have h1:=Zoe (a.take i) fun d hd=>hoa d (List.mem_of_mem_take hd)
 rw[List.length_take,Nat.min_eq_left (by omega)] at h1;have h2:=Nat.mul_le_mul_left (4294967296^i) (show a.getD i 0+4294967296*valD (b.drop (i+1))+1<=b.getD i 0+4294967296*valD (b.drop (i+1)) by omega);rw[Nat.mul_add,Nat.mul_one] at h2;omega
theorem Ze2 {w:World} {v1 v2:Value} {x y:Nat} (h1:NatV w v1 x) (h2:NatV w v2 y) :
 Calls Tryz.prog 11 #[v1,v2] w fun e w'=>e=.returned (.int .i64 (cmpZ x y))/\Below w.heap.size w w':=by
 have HT1:=Hd (Zg9 h1);have HT2:=Hd (Zg9 h2);obtain⟨P,hP⟩:∃ P:Ending->World->Prop,P=fun e w'=>e=.returned (.int .i64 (cmpZ x y))/\Below w.heap.size w w':=⟨_,rfl⟩
 have HLT:Hid (∀ w',x<y->Below w.heap.size w w'->P (.returned (.int .i64 (-1))) w'):=Hd fun w' h hb=>by rw[hP];unfold cmpZ;rw[if_pos h];exact⟨rfl,hb⟩
 have HGT:Hid (∀ w',y<x->Below w.heap.size w w'->P (.returned (.int .i64 1)) w'):=Hd fun w' h hb=>by rw[hP];unfold cmpZ;rw[if_neg (by omega),if_pos h];exact⟨rfl,hb⟩
 have HEQ:Hid (∀ w',x=y->Below w.heap.size w w'->P (.returned (.int .i64 0)) w'):=Hd fun w' h hb=>by rw[hP];unfold cmpZ;rw[if_neg (by omega),if_neg (by omega)];exact⟨rfl,hb⟩
 rw[<- hP];clear hP h1 h2
 go_enter Tryz.func11,Tryz.ntmps11
 go_wp2_with fail;refine HT1.out.mono ?_;rintro e w' ⟨⟨v1',rfl,hv1⟩,rfl⟩;obtain⟨a1,c1,rfl,k1,l1,u1⟩:=hv1;clear HT1;go_wp2_with fail;refine HT2.out.mono ?_;rintro e w' ⟨⟨v2',rfl,hv2⟩,rfl⟩;obtain⟨a2,c2,rfl,k2,l2,u2⟩:=hv2;clear HT2;have HU1:=Hd u1;have HU2:=Hd u2;have m1:=u1.len;have m2:=u2.len;have HB0:=Hd (show Below w.heap.size w w from Below.refl _ _);clear u1 u2;obtain⟨L1,hL1⟩:∃ L,L=(digD x).length:=⟨_,rfl⟩;obtain⟨L2,hL2⟩:∃ L,L=(digD y).length:=⟨_,rfl⟩;rw[<- hL1] at k1 m1 ⊢;rw[<- hL2] at k2 m2 ⊢;have HL1:=Hd hL1;have HL2:=Hd hL2;clear hL1 hL2;rcases Nat.lt_trichotomy L1 L2 with c|c|c
 ·
  have cz:(L1:Int)<(L2:Int):=by omega
  have cn:¬ (L1:Int)=(L2:Int):=by omega
  have HF:=Hd (HLT.out w (Zq4 (by rw[<- HL1.out,<- HL2.out];exact c)) HB0.out);clear HLT HGT HEQ;go_wp2_with fail;exact HF.out
 ·
  subst c;go_wp2_with fail
  go_loopw [5,27,37] (fun s5 _ _ wr=>∃ k:Nat,k<=L1/\s5=.int .i64 ((k:Int)-1)/\Hid (Below w.heap.size w wr)/\Hid ((digD x).drop k=(digD y).drop k)) (fun s5 _ _ _=>(intOf s5+1).toNat)
  case atStart=>exact⟨L1,Nat.le_refl _,rfl,HB0,Hd (by rw[List.drop_eq_nil_of_le (by rw[<- HL1.out];exact Nat.le_refl _),List.drop_eq_nil_of_le (by rw[<- HL2.out];exact Nat.le_refl _)])⟩
  case round =>
   obtain⟨k,hk,rfl,HB,HD⟩:=hrel;cases k with
   | zero =>
     have HF:=Hd (HEQ.out wr (by
      have:=HD.out;rw[List.drop_zero,List.drop_zero] at this;rw[<- Zdh x,<- Zdh y,this]) HB.out)
     clear HLT HGT HEQ HD;go_wp2_with fail;exact HF.out
   | succ k =>
     have hi:k<L1:=by omega
     obtain⟨b1,o1,rfl,p1⟩:=HU1.out.cells k (by rw[<- HL1.out];exact hi);obtain⟨b2,o2,rfl,p2⟩:=HU2.out.cells k (by rw[<- HL2.out];exact hi);obtain⟨d1,hd1⟩:∃ d,d=(digD x).getD k 0:=⟨_,rfl⟩;obtain⟨d2,hd2⟩:∃ d,d=(digD y).getD k 0:=⟨_,rfl⟩;rw[<- hd1] at p1;rw[<- hd2] at p2;have q1:=(HB.out.cell (p:=⟨b1,o1+k,none⟩) (Zab p1)).trans p1;have q2:=(HB.out.cell (p:=⟨b2,o2+k,none⟩) (Zab p2)).trans p2;clear p1 p2;have hkz:((k+1:Nat):Int)-1=(k:Int):=by omega
     have hkl:(k:Int)<(L1:Int):=by omega
     have hk0:(0:Int)<=(k:Int):=by omega
     rw[hkz];rcases Nat.lt_trichotomy d1 d2 with e|e|e
     ·
      have ez:(d1:Int)<(d2:Int):=by omega
      have HF:=Hd (fun q=>HLT.out (wr.drewN q) (by
       have:=Zvz (Zxo x) (by rw[<- HL1.out];exact hi) (by rw[<- HL2.out];exact hi) HD.out (by rw[<- hd1,<- hd2];exact e)
       rwa [Zdh,Zdh] at this) (HB.out.trans ((Zah wr q).mono HB.out.size)))
      clear HLT HGT HEQ HD hkz hd1 hd2;go_wp2_with fail
      go_quiet (fail)
      go_wp2_with fail;exact HF.out _
     ·
      have ez:¬ (d1:Int)<(d2:Int):=by omega
      have ez2:¬ (d2:Int)<(d1:Int):=by omega
      have HB2:=Hd (fun q=>HB.out.trans ((Zah wr q).mono HB.out.size))
      have HD2:Hid ((digD x).drop k=(digD y).drop k):=Hd (by
       rw[Ze3 (ds:=digD x) (by rw[<- HL1.out];exact hi),Ze3 (ds:=digD y) (by rw[<- HL2.out];exact hi),HD.out,<- hd1,<- hd2,e])
      clear HLT HGT HEQ HD hkz hd1 hd2 e;go_wp2_with fail
      go_quiet (fail)
      go_wp2_with fail
      go_quiet (fail)
      go_wp2_with fail;go_roundw
      case rel=>exact⟨k,by omega,by rfl,Hd (HB2.out _),HD2⟩
      case measure=>simp[intOf]
     ·
      have ez:¬ (d1:Int)<(d2:Int):=by omega
      have ez2:(d2:Int)<(d1:Int):=by omega
      have HF:=Hd (fun q r=>HGT.out ((wr.drewN q).drewN r) (by
       have:=Zvz (Zxo y) (by rw[<- HL2.out];exact hi) (by rw[<- HL1.out];exact hi) HD.out.symm (by rw[<- hd1,<- hd2];exact e)
       rwa [Zdh,Zdh] at this) (HB.out.trans (((Zah wr q).trans (Zah (wr.drewN q) r)).mono HB.out.size)))
      clear HLT HGT HEQ HD hkz hd1 hd2;go_wp2_with fail
      go_quiet (fail)
      go_wp2_with fail
      go_quiet (fail)
      go_wp2_with fail;exact HF.out _ _
 ·
  have cz:¬ (L1:Int)<(L2:Int):=by omega
  have cn:¬ (L1:Int)=(L2:Int):=by omega
  have HF:=Hd (HGT.out w (Zq4 (by rw[<- HL1.out,<- HL2.out];exact c)) HB0.out);clear HLT HGT HEQ;go_wp2_with fail;exact HF.out
open Go.RowKit
section
variable {P:Program} {ops:Array Oper} {S:World->Prop} {Q:Exit->Act->World->Prop} {R:List PanicEntry->World->Prop} {m:Nat}
def Zjd (P:Program) (ops:Array Oper) (Q:Exit->Act->World->Prop) (S:World->Prop) (m:Nat):Nat->Array Bool->Act->World->Prop
 | 0,L,a,w=>Region.ready .any ops L=[]/\Q .normal a w
 | f+1,L,a,w=>(Region.ready .any ops L=[]->Q .normal a w) /\
   ∀ i∈Region.ready .any ops L,wpOp P ops Q i (fun a' w'=>((L.setIfInBounds i true).getD m false=true\/S w')/\Zjd P ops Q S m f (L.setIfInBounds i true) a' w') a w
theorem Zmt {m:Nat}:∀ (f:Nat) (L:Array Bool) (a:Act) (w:World),Zjd P ops Q S m f L a w->wpAny P .any ops Q f L a w
 | 0,_,_,_,h=>h
 | f+1,_,_,_,h=>⟨h.1,fun i hi=>wpOp_mono (fun a' w' h'=>Zmt f _ a' w' h'.2) (h.2 i hi)⟩
theorem Zct {L:Array Bool} {i j:Nat} (h:i≠j):(L.setIfInBounds i true).getD j false=L.getD j false:=getD_set_ne false h
theorem Zqv {m i:Nat} {oi:Oper} {v:Value} (hi:ops[i]?=some oi) (hs:Region.noSelect ops=true) (hQ:∀ c (a:Act) d v w,Q (.panic c) (a.put d v) w->Q (.panic c) a w)
 (hm:reaches ops ops.size i m=true) :
 ∀ (f:Nat) (L:Array Bool) (a:Act) (w:World),Closed ops L ->
  (∀ j oj,ops[j]?=some oj->j≠i->L.getD j true=false->(∀ e∈oj.after,Region.binds .any e=true->e.on≠i)->oi.apart ops oj=true) ->
  i∈Region.ready .any ops L->YieldsIf P ops S oi v a->S w ->
  Zjd P ops Q S m f (L.setIfInBounds i true) (a.put oi.dst v) w->Zjd P ops Q S m (f+1) L a w:=by
 intro f
 induction f with
 | zero =>
   intro L a w _ _ hr hy hS H;refine⟨fun h=>(by rw[h] at hr;cases hr),fun j hj=>?_⟩
   by_cases hji:j=i
   ·
    subst hji;exact hy.wpOp hi hS ⟨.inr hS,H⟩
   ·
    have:=ready_mono hj hji;rw[H.1] at this;cases this
 | succ f ih =>
   intro L a w hc hfree hr hy hS H;refine⟨fun h=>(by rw[h] at hr;cases hr),fun j hj=>?_⟩
   by_cases hji:j=i
   ·
    subst hji;exact hy.wpOp hi hS ⟨.inr hS,H⟩
   ·
    have h1:=H.2 j (ready_mono hj hji);obtain⟨hjun,oj,hoj,hall⟩:=mem_ready.1 hj;have hiun:=Zrf (mem_ready.1 hr).1;have hnot:∀ e∈oj.after,Region.binds .any e=true->e.on≠i:=fun e he hb heq=>by
     have h1:=hall e he hb;rw[heq,hiun] at h1;cases h1
    have hjm:j≠m:=by
     rintro rfl;have:=Zcw hc _ _ (.inl hj) hm;rw[hiun] at this;cases this
    have him:i≠m:=by
     rintro rfl;have:=Zcw hc _ _ (.inl hr) hm;rw[hiun] at this;cases this
    have hmun:¬ L.getD m false=true:=fun e=>by
     have:=Zcw hc _ _ (.inr e) hm;rw[hiun] at this;cases this
    have h2:=wpOp_putIf hoj (hfree j oj hoj hji hjun hnot) (fun cs b=>Region.noSelect_spec hs i oi cs b hi) (fun cs b=>Region.noSelect_spec hs j oj cs b hoj) (fun c a w=>hQ c a _ _ w) hy h1;have hfree':∀ k ok,ops[k]?=some ok->k≠i->(L.setIfInBounds j true).getD k true=false ->
     (∀ e∈ok.after,Region.binds .any e=true->e.on≠i)->oi.apart ops ok=true:=fun k ok hk hki hun hno=>by
     refine hfree k ok hk hki ?_ hno
     by_cases hjk:j=k
     ·
      subst hjk;exact hjun
     ·
      rw[getD_set_ne true hjk] at hun;exact hun
    refine wpOp_mono (fun a' w' h3=>?_) h2;have hS':S w':=h3.2.1.resolve_left (by rw[Zct hjm,Zct him];exact hmun);refine⟨.inr hS',ih (L.setIfInBounds j true) a' w' (hc.set hj) hfree' (ready_mono hr (Ne.symm hji)) h3.1 hS' ?_⟩;rw[Array.setIfInBounds_comm _ _ hji];exact h3.2.2
theorem Zr4 {m i:Nat} {oi:Oper} {v:Value} (hi:ops[i]?=some oi) (hs:Region.noSelect ops=true) (hQ:∀ c (a:Act) d v w,Q (.panic c) (a.put d v) w->Q (.panic c) a w)
 (him:i≠m) :
 ∀ (f:Nat) (L:Array Bool) (a:Act) (w:World),Closed ops L ->
  (∀ j oj,ops[j]?=some oj->j≠i->L.getD j true=false->(∀ e∈oj.after,Region.binds .any e=true->e.on≠i)->oi.apart ops oj=true) ->
  i∈Region.ready .any ops L->YieldsIf P ops (fun _=>True) oi v a->(L.getD m false=true\/S w) ->
  Zjd P ops Q S m f (L.setIfInBounds i true) (a.put oi.dst v) w->Zjd P ops Q S m (f+1) L a w:=by
 intro f
 induction f with
 | zero =>
   intro L a w _ _ hr hy hS H;refine⟨fun h=>(by rw[h] at hr;cases hr),fun j hj=>?_⟩
   by_cases hji:j=i
   ·
    subst hji;exact hy.wpOp hi trivial ⟨by rw[Zct him];exact hS,H⟩
   ·
    have:=ready_mono hj hji;rw[H.1] at this;cases this
 | succ f ih =>
   intro L a w hc hfree hr hy hS H;refine⟨fun h=>(by rw[h] at hr;cases hr),fun j hj=>?_⟩
   by_cases hji:j=i
   ·
    subst hji;exact hy.wpOp hi trivial ⟨by rw[Zct him];exact hS,H⟩
   ·
    have h1:=H.2 j (ready_mono hj hji);obtain⟨hjun,oj,hoj,hall⟩:=mem_ready.1 hj;have hiun:=Zrf (mem_ready.1 hr).1;have hnot:∀ e∈oj.after,Region.binds .any e=true->e.on≠i:=fun e he hb heq=>by
     have h1:=hall e he hb;rw[heq,hiun] at h1;cases h1
    have h2:=wpOp_putIf hoj (hfree j oj hoj hji hjun hnot) (fun cs b=>Region.noSelect_spec hs i oi cs b hi) (fun cs b=>Region.noSelect_spec hs j oj cs b hoj) (fun c a w=>hQ c a _ _ w) hy h1;have hfree':∀ k ok,ops[k]?=some ok->k≠i->(L.setIfInBounds j true).getD k true=false ->
     (∀ e∈ok.after,Region.binds .any e=true->e.on≠i)->oi.apart ops ok=true:=fun k ok hk hki hun hno=>by
     refine hfree k ok hk hki ?_ hno
     by_cases hjk:j=k
     ·
      subst hjk;exact hjun
     ·
      rw[getD_set_ne true hjk] at hun;exact hun
    refine wpOp_mono (fun a' w' h3=>?_) h2;have hS':(L.setIfInBounds j true).getD m false=true\/S w':=by
     have h4:=h3.2.1;rw[Array.setIfInBounds_comm _ _ (Ne.symm hji),Zct him] at h4;exact h4
    refine⟨hS',ih (L.setIfInBounds j true) a' w' (hc.set hj) hfree' (ready_mono hr (Ne.symm hji)) h3.1 hS' ?_⟩;rw[Array.setIfInBounds_comm _ _ hji];exact h3.2.2
structure Zts (P:Program) (l:List Oper) (Q:Exit->Act->World->Prop) (R:List PanicEntry->World->Prop) (S:World->Prop) (m f:Nat) (L:Array Bool) (a:Act) (w:World):Prop where
 goes:Closed l.toArray L->S w->Zjd P l.toArray (PP R Q) S m f L a w
structure Zon (P:Program) (l:List Oper) (Q:Exit->Act->World->Prop) (R:List PanicEntry->World->Prop) (S:World->Prop) (m f:Nat) (L:Array Bool) (a:Act) (w:World):Prop where
 goes:Zjd P l.toArray (PP R Q) S m f L a w
theorem Zgi {id:Nat} {a:Act} {w:World} {l:List Oper} (S:World->Prop) (R:List PanicEntry->World->Prop) (m:Nat) (hR:∀ c (a:Act) w,a.defers=[]->R c w->Q (.panic c) a w) (hm:P.follows .mixedOrders=true) (hS:S w.drew)
 (h:Zts P l Q R S m l.length (Array.replicate l.toArray.size false) a w.drew):(Code.region id l.toArray true).wp P Q a w :=
 Zto hR (wp_region_any hm (Zmt _ _ _ _ (h.goes (Zej _) hS)))
theorem Zba {l:List Oper} {f:Nat} {L:Array Bool} {a:Act} {w:World} (i:Nat) {o:Oper} (hi:l[i]?=some o) (hg:o.guard=none)
 (hB:(Region.noSelect l.toArray&&(Region.ready .any l.toArray L).contains i&&Region.free .any l.toArray L i&&reaches l.toArray l.toArray.size i m)=true)
 (h:∃ v,(∀ w,S w->(execOp a.eval o).run P w=.ok (.value v) w)/\Zts P l Q R S m f (L.setIfInBounds i true) (a.put o.dst v) w):Zts P l Q R S m (f+1) L a w:=by
 obtain⟨v,h1,h2⟩:=h;refine⟨fun hc hS=>?_⟩;simp only[Bool.and_eq_true] at hB;obtain⟨⟨⟨hs,hr⟩,hf⟩,hm⟩:=hB;have hi':l.toArray[i]?=some o:=by simpa using hi
 have hr':i∈Region.ready .any l.toArray L:=by simpa using hr
 exact Zqv hi' hs Zxu hm f L a w hc (Region.free_spec hi' hf) hr' (.inl ⟨by simp[Region.wanted,hg],h1⟩) hS (h2.goes (hc.set hr') hS)
theorem Zw7 {l:List Oper} {f:Nat} {L:Array Bool} {a:Act} {w:World} (i:Nat) {o:Oper} (hi:l[i]?=some o) (hg:o.guard=none)
 (hB:(Region.noSelect l.toArray&&(Region.ready .any l.toArray L).contains i&&Region.free .any l.toArray L i&&decide (i≠m))=true)
 (h:∃ v,(∀ w,(execOp a.eval o).run P w=.ok (.value v) w)/\Zts P l Q R S m f (L.setIfInBounds i true) (a.put o.dst v) w):Zts P l Q R S m (f+1) L a w:=by
 obtain⟨v,h1,h2⟩:=h;refine⟨fun hc hS=>?_⟩;simp only[Bool.and_eq_true] at hB;obtain⟨⟨⟨hs,hr⟩,hf⟩,hm⟩:=hB;have hi':l.toArray[i]?=some o:=by simpa using hi
 have hr':i∈Region.ready .any l.toArray L:=by simpa using hr
 exact Zr4 hi' hs Zxu (of_decide_eq_true hm) f L a w hc (Region.free_spec hi' hf) hr' (.inl ⟨by simp[Region.wanted,hg],fun w _=>h1 w⟩) (.inr hS) (h2.goes (hc.set hr') hS)
theorem Zyn {l:List Oper} {f:Nat} {L:Array Bool} {a:Act} {w:World} (i:Nat) {o:Oper} (hi:l[i]?=some o) (hr:(decide (Region.ready .any l.toArray L=[i])&&(L.setIfInBounds i true).getD m false)=true)
 (hw:Region.wanted o (yielded l.toArray a.tmps)=true) (h:o.wp P a w (fun a' w'=>Zon P l Q R S m f (L.setIfInBounds i true) a' w') (PP R Q)):Zon P l Q R S m (f+1) L a w:=by
 rw[Bool.and_eq_true] at hr;have hr1:=of_decide_eq_true hr.1;refine⟨⟨fun h0=>(by rw[h0] at hr1;cases hr1),fun j hj=>?_⟩⟩;have hji:j=i:=by rw[hr1] at hj;simpa using hj
 subst hji;have hi':l.toArray[j]?=some o:=by simpa using hi
 unfold wpOp;rw[hi'];simp only[hw,if_true];left;refine Oper.wp_mono ?_ h;intro a' w' h2;exact⟨.inl hr.2,h2.goes⟩
theorem Ydg {l:List Oper} {f:Nat} {L:Array Bool} {a:Act} {w:World} (h:Zon P l Q R S m f L a w):Zts P l Q R S m f L a w:=⟨fun _ _=>h.goes⟩
theorem Ya6 {l:List Oper} {L:Array Bool} {a:Act} {w:World} (hr:(Region.ready .any l.toArray L).isEmpty=true) (h:Q .normal a w):Zon P l Q R S m 0 L a w :=
 ⟨⟨by simpa [List.isEmpty_iff] using hr,h⟩⟩
theorem Ztf {l:List Oper} {f:Nat} {L:Array Bool} {a:Act} {w w':World} (i:Nat) {o:Oper} {t:TypeId} {s x:Operand} (hi:l[i]?=some o) (hr:(decide (Region.ready .any l.toArray L=[i])&&(L.setIfInBounds i true).getD m false)=true)
 (hw:Region.wanted o (yielded l.toArray a.tmps)=true) (ho:o.op=.store t s x) (hs:(Instr.storeAt t (a.eval s) (a.eval x)).run P w=.ok () w')
 (h:Zon P l Q R S m f (L.setIfInBounds i true) (a.put o.dst undef) w'):Zon P l Q R S m (f+1) L a w:=by
 refine Zyn i hi hr hw ?_;unfold Oper.wp;simp only[execOp,ho,Sem.run_bind,hs,Result.andThen_ok];exact h
theorem Ztg {l:List Oper} {f:Nat} {L:Array Bool} {a:Act} {w w':World} {v:Value} (i:Nat) {o:Oper} (hi:l[i]?=some o) (hr:(decide (Region.ready .any l.toArray L=[i])&&(L.setIfInBounds i true).getD m false)=true)
 (hw:Region.wanted o (yielded l.toArray a.tmps)=true) (he:(execOp a.eval o).run P w=.ok (.value v) w')
 (h:Zon P l Q R S m f (L.setIfInBounds i true) (a.put o.dst v) w'):Zon P l Q R S m (f+1) L a w:=by
 refine Zyn i hi hr hw ?_;unfold Oper.wp;simp only[he];exact h
end
open Go.RowKit
theorem Zm5:Zyw 101 40 (.int .u32 0) 4:=⟨Tryz.underlying40,by kernel_rfl,rfl,by omega⟩
def u32V (ds:List Nat):List Value:=ds.map fun d:Nat=>(.int .u32 (d:Int):Value)
theorem Zb5 (ds:List Nat):(u32V ds).length=ds.length:=by simp[u32V]
theorem Zth {ds:List Nat} {k:Nat} (hk:k<ds.length):(u32V ds)[k]?=some (.int .u32 (ds.getD k 0:Nat)):=by
 simp[u32V,List.getElem?_eq_getElem hk,List.getD]
theorem Yai (ds:List Nat) (k d:Nat):(u32V ds).set k (.int .u32 (d:Nat))=u32V (ds.set k d):=by simp[u32V,List.map_set]
def RowU (w:World) (g:Nat) (ds:List Nat):Prop:=w.heap[g]?=some (.cells (u32V ds).toArray 101 (0,0))
theorem RowU.cell {w:World} {g k:Nat} {ds:List Nat} (h:RowU w g ds) (hk:k<ds.length):w.cell? ⟨g,k,none⟩=some (.int .u32 (ds.getD k 0:Nat)):=by
 unfold RowU at h;rw[cell_of_row _ _ k _ _ _ h];simpa using Zth hk
theorem RowU.at {w:World} {g:Nat} {ds:List Nat} (h:RowU w g ds) (ho:OkD ds) (hl:ds.length<=1000000):U32At w (some ⟨g,0,none⟩) ds :=
 ⟨hl,ho,fun k hk=>⟨g,0,rfl,by rw[Nat.zero_add];exact h.cell hk⟩⟩
theorem RowU.set {w:World} {g k d:Nat} {ds:List Nat} (h:RowU w g ds):RowU (w.setCell ⟨g,k,none⟩ (.int .u32 (d:Nat))) g (ds.set k d):=by
 unfold RowU at h ⊢;have hlt:g<w.heap.size:=(Array.getElem?_eq_some_iff.1 h).1
 show (w.heap.modify g _)[g]?=_
 rw[Array.getElem?_modify,if_pos rfl,h,<- Yai];simp
theorem RowU.drewN {w:World} {g:Nat} {ds:List Nat} (h:RowU w g ds) (q:Nat):RowU (w.drewN q) g ds:=h
theorem Zh1 {T:TypeId} {w:World} {base g n:Nat} {xs:List Value} (h:OwnC T w base (.slice (some ⟨g,0,none⟩) n n) xs) (hn:xs.length=n):w.heap[g]?=some (.cells xs.toArray T (0,0)):=by
 obtain⟨h1,⟨h2,_⟩|⟨g',cap,cur,e,h3,h4,h5,h6,h7,h8⟩⟩:=h
 ·
  cases h2
 ·
  cases e;rw[h4];have:cur.toList=xs:=by
   rw[<- h8,hn];exact(List.take_of_length_le (by simp[h7])).symm
  rw[<- this]
theorem Zmm {α:Type} {cur cs:List α} (h:cs.length=cur.length):splice cur 0 cs=cs:=by
 unfold splice;rw[List.take_zero,List.nil_append,Nat.zero_add,h,List.drop_length,List.append_nil]
theorem Zix (a b:Nat) (ha:a<4294967296) (hb:b<4294967296):(BitVec.ofInt 32 (a:Int)).toNat=a/\(BitVec.ofInt 32 (b:Int)).toNat=b:=by
 constructor<;>(rw[BitVec.ofInt_natCast,BitVec.toNat_ofNat];exact Nat.mod_eq_of_lt (by omega))
theorem Yaj (a:Nat) (ha:a<4294967296):bits .and .u32 (a:Int) 1=((a%2:Nat):Int):=by
 obtain⟨h1,h2⟩:=Zix a 1 ha (by omega)
 show IntKind.u32.wrap ((BitVec.ofInt 32 (a:Int) &&& BitVec.ofInt 32 ((1:Nat):Int)).toNat:Int)=_
 rw[BitVec.toNat_and,h1,h2,Nat.and_one_is_mod,IntKind.wrap_u32];omega
theorem Ycr (a c:Nat) (ha:a<2147483648) (hc:c<=1):bits .or .u32 (a:Int) (IntKind.u32.wrap ((c:Int)*2147483648))=((a+c*2147483648:Nat):Int):=by
 have e:IntKind.u32.wrap ((c:Int)*2147483648)=((c*2147483648:Nat):Int):=by rw[IntKind.wrap_u32];omega
 rw[e];obtain⟨h1,h2⟩:=Zix a (c*2147483648) (by omega) (by omega)
 show IntKind.u32.wrap ((BitVec.ofInt 32 (a:Int) ||| BitVec.ofInt 32 ((c*2147483648:Nat):Int)).toNat:Int)=_
 rw[BitVec.toNat_or,h1,h2,Nat.or_comm,show c*2147483648=2^31*c by omega,<- Nat.two_pow_add_eq_or_of_lt (by omega) c,IntKind.wrap_u32];omega
theorem Znh:(Tryz.prog.info? 101).map (·.size)=some 1:=by kernel_rfl
theorem Zju (ds:List Nat):∀ v∈u32V ds,v.oneCell'=true:=fun v hv=>by
 obtain⟨d,_,rfl⟩:=List.mem_map.1 hv;rfl
theorem U32At.src {w:World} {a:Option Addr} {ds:List Nat} (h:U32At w a ds) (hp:0<ds.length):∃ ad,a=some ad/\∀ j v,(u32V ds)[j]?=some v->w.cell? (ad.add j)=some v:=by
 obtain⟨b,off,rfl,_⟩:=h.cells 0 hp;refine⟨_,rfl,fun j v hv=>?_⟩;have hj:j<ds.length:=by
  have:=(List.getElem?_eq_some_iff.1 hv).1
  rwa [Zb5] at this
 rw[Zth hj] at hv;obtain⟨b',off',e,hc⟩:=h.cells j hj;cases e;rw[<- Option.some.inj hv];unfold Addr.add;split
 ·
  rename_i e0
  subst e0;simpa using hc
 ·
  exact hc
structure Zjx (ds:List Nat) (k c:Nat) (rs:List Nat):Prop where
 len:rs.length=ds.length
 low:∀ j,j<k->rs.getD j 0=ds.getD j 0
 ok:OkD rs
 c1:c<=1
 val:valD (ds.drop k)=2*valD (rs.drop k)+c
theorem Zdu (l:List Nat) (i j d:Nat):(l.set i d).getD j 0=if i=j/\j<l.length then d else l.getD j 0:=by
 simp only[List.getD,List.getElem?_set]
 by_cases h:i=j
 ·
  subst h
  by_cases h2:i<l.length
  ·
   simp[h2]
  ·
   simp[h2]
 ·
  simp[h]
theorem Zjx.start {ds:List Nat} (ho:OkD ds):Zjx ds ds.length 0 ds:=⟨rfl,fun _ _=>rfl,ho,by omega,by simp[valD]⟩
theorem Zjx.next {ds rs:List Nat} {k c:Nat} (h:Zjx ds (k+1) c rs) (ho:OkD ds) (hk:k<ds.length):Zjx ds k (ds.getD k 0%2) (rs.set k (ds.getD k 0/2+c*2147483648)):=by
 have hd:ds.getD k 0<4294967296:=by
  simp only[List.getD,List.getElem?_eq_getElem hk];exact ho _ (List.getElem_mem hk)
 have hc:=h.c1;refine⟨by simp[h.len],fun j hj=>?_,fun d hd2=>?_,by omega,?_⟩
 ·
  rw[Zdu,if_neg (by omega)];exact h.low j (by omega)
 ·
  rcases List.mem_or_eq_of_mem_set hd2 with e|e
  ·
   exact h.ok d e
  ·
   subst e;omega
 ·
  have hl:(rs.set k (ds.getD k 0/2+c*2147483648)).length=ds.length:=by simp[h.len]
  rw[Ze3 hk,Ze3 (ds:=rs.set k _) (by rw[hl];exact hk),Zdu,if_pos ⟨rfl,by rw[h.len];exact hk⟩];have e2:(rs.set k (ds.getD k 0/2+c*2147483648)).drop (k+1)=rs.drop (k+1):=by
   rw[List.drop_set];simp
  rw[e2]
  show ds.getD k 0+4294967296*valD (ds.drop (k+1))=2*(ds.getD k 0/2+c*2147483648+4294967296*valD (rs.drop (k+1)))+ds.getD k 0%2
  have hv:=h.val
  generalize ds.getD k 0=d at *
  generalize valD (ds.drop (k+1))=A at *
  generalize valD (rs.drop (k+1))=B at *
  omega
theorem Zjx.done {x c:Nat} {rs:List Nat} (h:Zjx (digD x) 0 c rs):valD rs=x/2/\c=x%2:=by
 have:=h.val;rw[List.drop_zero,List.drop_zero,Zdh] at this;have:=h.c1;omega
theorem Zgj {w:World} {v:Value} {x:Nat} (h:NatV w v x) :
 Calls Tryz.prog 75 #[v] w fun e w'=>(∃ v',e=.returned (.tuple #[v',.bool (decide (x%2=1))])/\NatV w' v' (x/2)/\∀ q,v'.ownBlock=some q->w.heap.size<=q)/\Below w.heap.size w w':=by
 obtain⟨a,c,rfl,h1,h2,h3⟩:=h;obtain⟨ds,hds⟩:∃ ds,ds=digD x:=⟨_,rfl⟩;rw[<- hds] at h1 h3 ⊢;have HU:=Hd h3;have hlen:=h3.len;obtain⟨P,hP⟩:∃ P:Ending->World->Prop,P=fun e w'=>(∃ v',e=.returned (.tuple #[v',.bool (decide (x%2=1))])/\NatV w' v' (x/2)/\∀ q,v'.ownBlock=some q->w.heap.size<=q)/\Below w.heap.size w w':=⟨_,rfl⟩
 have HDS:=Hd hds;have HPE:=Hd hP;rw[<- hP];obtain⟨L,hL⟩:∃ L,L=ds.length:=⟨_,rfl⟩;rw[<- hL] at h1 hlen ⊢;have HL:=Hd hL;clear hds h3 hL hP
 go_enter Tryz.func75,Tryz.ntmps75
 go_upto_region 2 with (at_make;refine Zeq Zm5 rfl _ _ rfl w.heap.size w _ L rfl rfl rfl (by omega) (Nat.le_refl _) (Below.refl _ _) ?_;intro g w1 hown1 hb1 hs1 hk1 hg1 hgx;clear hgx)
 have hrow1:=Zh1 hown1 (by simp);have HU1:=Hd (HU.out.below (hb1.mono (Nat.le_refl _)))
 have HR1:Hid (RowU w1 g (List.replicate L 0)):=Hd (by
  unfold RowU;rw[hrow1];simp[u32V])
 clear hrow1 hown1 hk1;have hLu:L=(u32V ds).length:=by rw[Zb5];exact HL.out
 have HLU:=Hd hLu;clear hLu;go_wp2_with (refine wpList_copy_splice rfl _ _ 40 40 rfl 101 Tryz.underlying40 Znh (some ⟨g,0,none⟩) a L L L c rfl rfl g 0 (u32V (List.replicate L 0)) 101 HR1.out (u32V ds) (by rw[<- HLU.out];exact(Nat.min_self L).symm) (fun hp=>⟨rfl,HU1.out.src (by rw[Zb5] at hp;exact hp)⟩) (by rw[<- HLU.out,Zb5];simp) (Zju ds) w.heap.size w hb1 hg1 ?_;intro w2 hr2 hb2)
 have HR2:Hid (RowU w2 g ds):=Hd (by
  have:_=_:=hr2;rw[Zmm (by rw[<- HLU.out,Zb5];simp)] at this;exact this)
 have HB2:=Hd hb2;clear hr2 hb2 HR1 HU1 hb1 hs1;have HS0:Hid (Zjx ds L 0 ds):=Hd (by rw[HL.out];exact Zjx.start HU.out.ok)
 go_loopw [5,6] (fun s5 s6 wr=>∃ (k cc:Nat) (rs:List Nat),k<=L/\s6=.int .i64 ((k:Int)-1)/\s5=.int .u32 (cc:Nat)/\Hid (Zjx ds k cc rs)/\Hid (RowU wr g rs)/\Hid (Below w.heap.size w wr)) (fun _ s6 _=>(intOf s6+1).toNat)
 case atStart=>exact⟨L,0,ds,Nat.le_refl _,rfl,rfl,HS0,HR2,HB2⟩
 case round =>
  obtain⟨k,cc,rs,hk,rfl,rfl,HS,HR,HB⟩:=hrel;cases k with
  | zero =>
    rw[HDS.out] at HS;have hdn:=HS.out.done;have hT:=Zfd (c:=L) (HR.out.at HS.out.ok (by rw[HS.out.len,<- HDS.out,<- HL.out];exact hlen)) (by rw[HS.out.len,<- HDS.out,<- HL.out];exact Nat.le_refl _) hlen;rw[hdn.1,HS.out.len,<- HDS.out,<- HL.out] at hT;have hcb:decide ((cc:Int)=1)=decide (x%2=1):=by
     rw[<- hdn.2];exact decide_eq_decide.2 (by omega)
    have HT:=Hd hT;have HCB:=Hd hcb;have HF:Hid (∀ v',NatV wr v' (x/2)->(∀ q,v'.ownBlock=some q->q=g)->P (.returned (.tuple #[v',.bool (decide (x%2=1))])) wr):=Hd fun v' hv hq=>by rw[HPE.out];exact⟨⟨v',rfl,hv,fun q e=>by rw[hq q e];exact hg1⟩,HB.out⟩
    clear hT hcb hdn HS HR HB HDS;go_wp2_with fail;refine HT.out.mono ?_;rintro e w' ⟨⟨v',rfl,hv,hq⟩,rfl⟩;have HV:=Hd (HF.out v' hv hq);rw[<- HCB.out] at HV;clear hv hq HT HF HCB;go_wp2_with fail;exact HV.out
  | succ k =>
    have hi:k<L:=by omega
    have hkz:((k+1:Nat):Int)-1=(k:Int):=by omega
    have hkl:(k:Int)<(L:Int):=by omega
    have hk0:(0:Int)<=(k:Int):=by omega
    obtain⟨d,hd⟩:∃ d,d=ds.getD k 0:=⟨_,rfl⟩;have hrl:=HS.out.len;have ck:=HR.out.cell (k:=k) (by rw[hrl,<- HL.out];exact hi);rw[HS.out.low k (by omega),<- hd] at ck;have fk:wr.frozen? ⟨g,k,none⟩=false:=by have:=HR.out;unfold RowU at this;simp[World.frozen?,this]
    have HD:=Hd hd;have hdl:d<4294967296:=by
     rw[hd];have hi2:k<ds.length:=by rw[<- HL.out];exact hi
     simp only[List.getD,List.getElem?_eq_getElem hi2];exact HU.out.ok _ (List.getElem_mem hi2)
    have hcc:=HS.out.c1;have HN:=Hd (HS.out.next HU.out.ok (by rw[<- HL.out];exact hi));rw[<- hd] at HN;rw[hkz];clear hd hrl;go_upto_region 7 with fail;have ckz:wr.drew.cell? ⟨g,k,none⟩=some (.int .u32 (d:Nat)):=ck;have fkz:wr.drew.frozen? ⟨g,k,none⟩=false:=fk;have HRZ:Hid (RowU wr.drew g rs):=Hd (HR.out.drewN 1);have HBZ:Hid (Below w.heap.size w wr.drew):=Hd (HB.out.trans ((Zah wr 1).mono HB.out.size));have eor:=Ycr (d/2) cc (by omega) hcc;have eand:=Yaj d hdl;have ehalf:((d/2:Nat):Int)=(d:Int)/2:=by omega
    rw[ehalf] at eor;obtain⟨wz,hwz⟩:∃ wz,wz=wr.drew:=⟨_,rfl⟩;rw[<- hwz] at ckz fkz HRZ HBZ;have HWZ:=Hd hwz;clear hwz ck fk;refine Zgi (fun W'=>W'.cell? ⟨g,k,none⟩=some (.int .u32 (d:Nat))) (fun ch w'=>False) 16 (fun c a w hd h=>h.elim) (by kernel_rfl) (by rw[<- HWZ.out];exact ckz) ?_;rw[<- HWZ.out];refine Zba 0 rfl rfl (by kernel_rfl) ?_;apply Exists.intro;refine⟨fun w' hw=>?_,?_⟩
    ·
     go_simp;rfl
    simp only[Zag];refine Zba 1 rfl rfl (by kernel_rfl) ?_;apply Exists.intro;refine⟨fun w' hw=>?_,?_⟩
    ·
     go_simp;rfl
    simp only[Zag];refine Zba 2 rfl rfl (by kernel_rfl) ?_;apply Exists.intro;refine⟨fun w' hw=>?_,?_⟩
    ·
     go_simp;rfl
    simp only[Zag];refine Zba 3 rfl rfl (by kernel_rfl) ?_;apply Exists.intro;refine⟨fun w' hw=>?_,?_⟩
    ·
     go_simp;rfl
    simp only[Zag];refine Zba 4 rfl rfl (by kernel_rfl) ?_;apply Exists.intro;refine⟨fun w' hw=>?_,?_⟩
    ·
     go_simp;rfl
    simp only[Zag];refine Zba 5 rfl rfl (by kernel_rfl) ?_;apply Exists.intro;refine⟨fun w' hw=>?_,?_⟩
    ·
     go_simp;rfl
    simp only[Zag];refine Zba 6 rfl rfl (by kernel_rfl) ?_;apply Exists.intro;refine⟨fun w' hw=>?_,?_⟩
    ·
     go_simp;rfl
    simp only[Zag];refine Zba 7 rfl rfl (by kernel_rfl) ?_;apply Exists.intro;refine⟨fun w' hw=>?_,?_⟩
    ·
     go_simp;rfl
    simp only[Zag];refine Zba 8 rfl rfl (by kernel_rfl) ?_;apply Exists.intro;refine⟨fun w' hw=>?_,?_⟩
    ·
     go_simp;rfl
    simp only[Zag];refine Zba 9 rfl rfl (by kernel_rfl) ?_;apply Exists.intro;refine⟨fun w' hw=>?_,?_⟩
    ·
     go_simp;rfl
    simp only[Zag];refine Zba 10 rfl rfl (by kernel_rfl) ?_;apply Exists.intro;refine⟨fun w' hw=>?_,?_⟩
    ·
     go_simp;rfl
    simp only[Zag];refine Zba 11 rfl rfl (by kernel_rfl) ?_;apply Exists.intro;refine⟨fun w' hw=>?_,?_⟩
    ·
     go_simp;rfl
    simp only[Zag];refine Zba 12 rfl rfl (by kernel_rfl) ?_;apply Exists.intro;refine⟨fun w' hw=>?_,?_⟩
    ·
     go_simp;rfl
    simp only[Zag];refine Zba 13 rfl rfl (by kernel_rfl) ?_;apply Exists.intro;refine⟨fun w' hw=>?_,?_⟩
    ·
     go_simp;rfl
    simp only[Zag];refine Zw7 14 rfl rfl (by kernel_rfl) ?_;apply Exists.intro;refine⟨fun w'=>?_,?_⟩
    ·
     go_simp;rfl
    simp only[Zag];refine Zba 15 rfl rfl (by kernel_rfl) ?_;apply Exists.intro;refine⟨fun w' hw=>?_,?_⟩
    ·
     go_simp;rfl
    simp only[Zag];refine Ydg ?_;refine Ztf (w':=wz.setCell ⟨g,k,none⟩ (.int .u32 ((d/2+cc*2147483648:Nat):Int))) 16 rfl (by kernel_rfl) rfl rfl ?_ ?_
    ·
     go_simp
    simp only[Zag];refine Ztg (w':=wz.setCell ⟨g,k,none⟩ (.int .u32 ((d/2+cc*2147483648:Nat):Int))) (v:=.int .u32 ((d%2:Nat):Int)) 17 rfl (by kernel_rfl) rfl (by go_simp) ?_;simp only[Zag];refine Ya6 (by kernel_rfl) ?_;have HR4:=Hd (HRZ.out.set (k:=k) (d:=d/2+cc*2147483648));have HB4:Hid (Below w.heap.size w (wz.setCell ⟨g,k,none⟩ (.int .u32 ((d/2+cc*2147483648:Nat):Int)))):=Hd (HBZ.out.setCell hg1 _);clear HS HR HB HRZ HBZ ckz fkz HWZ;obtain⟨w5,hw5⟩:∃ w5,w5=wz.setCell ⟨g,k,none⟩ (.int .u32 ((d/2+cc*2147483648:Nat):Int)):=⟨_,rfl⟩;rw[<- hw5] at HR4 HB4 ⊢;have HREL:=Hd (show ∃ (k' cc':Nat) (rs':List Nat),k'<=L/\(Value.int .i64 ((k:Int)-1))=.int .i64 ((k':Int)-1)/\(Value.int .u32 ((d%2:Nat):Int))=.int .u32 (cc':Nat)/\Hid (Zjx ds k' cc' rs')/\Hid (RowU w5 g rs')/\Hid (Below w.heap.size w w5) from ⟨k,d%2,_,by omega,rfl,rfl,HN,HR4,HB4⟩);clear hw5 HR4 HB4 HN eor eand ehalf;go_wp2_with fail;go_roundw
    case rel=>exact HREL.out
    case measure=>simp[intOf]
end Go.Proofs.YtlgogjbkadckkaaGreat
