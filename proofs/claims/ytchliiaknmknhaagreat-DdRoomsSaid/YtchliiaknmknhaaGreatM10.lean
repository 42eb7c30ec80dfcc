/- Several texts in one file. The manager's Do in full: events, errors, garbage. Drawn regions in which more than one order stays open, and a call may panic. The manager's Ite and Var in full: events, errors, garbage. Rows of one-cell elements of any type that the call made itself: append, make, stores. The references 13 and 02: truth tables. Law 13's helpers: Is, All, Left, One. The law's own lists beside a manager: handles and tables. -/
import Derived.Test.YtchliiaknmknhaaGreatM9
set_option linter.unusedSimpArgs false
set_option linter.unusedVariables false
set_option linter.unusedSectionVars false
set_option linter.unnecessarySimpa false

-- DoG
namespace Go.Proofs.YtchliiaknmknhaaGreat
open Go.RowKit

/-- What an operation of the user's has to do at any state of the manager; C: the blocks it may write, B: what is known of them, St: what is known of the events. -/
def OpG (K : Law) (n room : Nat) (w0 : World) (mb : Nat) (fs : List (Int × BF)) (nx : Int) (C : Nat → Prop) (B : World → Prop) (St : List Ev → Int → Prop) (gop : Nat) (lop : Array Value) (Q : ManD → (Nat → BF) → Nat → Prop) (E : Int → ManD → ManD → Prop) : Prop :=
  ∀ (o : Own) (W : World) (m : ManD) (V : Nat → BF) (xb : Nat), SatE K n room w0 mb fs nx W o m V → B W → (∀ k, C k → k < W.heap.size ∧ o k = none) → St m.waits m.calls → CtxAt o W xb mb → ¬ C xb →
    Calls Tryz.prog gop (#[.pointer (some ⟨xb, 0, none⟩)] ++ lop) W fun e w' => ∃ (o' : Own) (m' : ManD) (V' : Nat → BF), StepX C K o W mb m V o' w' m' V' ∧ B w' ∧
      ((∃ r : Nat, e = .returned (.int .i64 r) ∧ okE (nodesOf m'.d) r ∧ Q m' V' r) ∨
       (∃ er : Int, e = stopP er false ev0 ∧ er ≠ 0 ∧ m'.waits = m.waits ∧ St m'.waits m'.calls ∧ E er m m') ∨
       (∃ ev, e = stopP 0 true ev ∧ m.waits = ev :: m'.waits ∧ St m'.waits m'.calls))
/-- What happen has to do. -/
def HapG (K : Law) (n room : Nat) (w0 : World) (mb : Nat) (fs : List (Int × BF)) (nx : Int) (ev : Ev) : Prop :=
  ∀ (o : Own) (W : World) (m : ManD) (V : Nat → BF), SatE K n room w0 mb fs nx W o m V → Calls Tryz.prog 122 #[.pointer (some ⟨mb, 0, none⟩), evA ev] W fun x w' => x = .returned (.tuple #[]) ∧
    ∃ o' m' V', SatE K n room w0 mb fs nx w' o' m' V' ∧ m'.waits = m.waits ∧ m'.calls = m.calls ∧ ChgX NoB o o' W w'
set_option maxRecDepth 100000 in
set_option maxHeartbeats 1000000 in
theorem do1_gen (gop : Nat) (lop : Array Value) (W : World) (xb ob fb : Nat) (R : Nat → World → Prop) (R2 : Int → Bool → Ev → World → Prop) (eg : ∀ args w, (callFunc gop args).run Tryz.prog w = .ok (.enter gop args) w)
    (hob : W.cell? ⟨ob, 0, none⟩ = some (.func (.func gop) #[] lop)) (hop : Calls Tryz.prog gop (#[.pointer (some ⟨xb, 0, none⟩)] ++ lop) W fun e w' => (∃ r : Nat, e = .returned (.int .i64 r) ∧ R r w' ∧ (∃ z : Int, w'.cell? ⟨fb, 0, none⟩ = some (.int .i64 z)) ∧ w'.frozen? ⟨fb, 0, none⟩ = false) ∨
      ∃ er evt ev, e = stopP er evt ev ∧ R2 er evt ev w') :
    Calls Tryz.prog 86 #[.pointer (some ⟨xb, 0, none⟩), .pointer (some ⟨ob, 0, none⟩), .pointer (some ⟨fb, 0, none⟩)] W fun e w' => (e = .returned (.tuple #[]) ∧ ∃ r w1, R r w1 ∧ w' = w1.setCell ⟨fb, 0, none⟩ (.int .i64 (r : Nat))) ∨ ∃ er evt ev, e = stopP er evt ev ∧ R2 er evt ev w' := by
  have HOP := Lib.hid hop
  clear hop
  go_enter Tryz.func86, Tryz.ntmps86
  go_wp2_with fail
  refine HOP.out.mono ?_
  rintro e w' (⟨r, rfl, hr, ⟨z, hc⟩, hf⟩ | ⟨er, evt, ev, rfl, hr⟩)
  · have HR := Lib.hid hr
    clear hr
    go_wp2_with fail
    go_end0
    exact .inl ⟨rfl, r, w', HR.out, rfl⟩
  · have HR := Lib.hid hr
    clear hr
    unfold stopP
    go_wp2_with fail
    exact ⟨rfl, .inr ⟨er, evt, ev, rfl, HR.out⟩⟩
/-- Between two attempts. -/
structure RunI (K : Law) (n room : Nat) (w0 : World) (mb : Nat) (fs : List (Int × BF)) (nx : Int) (C : Nat → Prop) (B : World → Prop) (St : List Ev → Int → Prop) (gop : Nat) (lop : Array Value) (o0 : Own) (w : World) (k : Nat) (full : Bool) (W : World) (o : Own) (m : ManD) (V : Nat → BF) : Prop where
  sat : SatE K n room w0 mb fs nx W o m V
  bok : B W
  st : St m.waits m.calls
  len : m.waits.length = k
  cok : ∀ c, C c → c < w.heap.size ∧ o c = none
  chg : ChgX C o0 o w W
  size : w.heap.size + 2 ≤ W.heap.size
  obn : o w.heap.size = none
  fbn : o (w.heap.size + 1) = none
  ob : W.heap[w.heap.size]? = some (.cells #[.func (.func gop) #[] lop] 54 (0, 0))
  fb : ∃ z : Int, W.heap[w.heap.size + 1]? = some (.cells #[.int .i64 z] 52 (0, 0))
  clean : full = true → m.d.dead = 0
/-- Behind run. -/
def RunF (K : Law) (n room : Nat) (w0 : World) (mb : Nat) (fs : List (Int × BF)) (nx : Int) (C : Nat → Prop) (B : World → Prop) (Q : ManD → (Nat → BF) → Nat → Prop) (E : Int → ManD → ManD → Prop) (o0 : Own) (w : World) (er : Int) (W : World) : Prop :=
  ∃ o m V, SatE K n room w0 mb fs nx W o m V ∧ B W ∧ ChgX C o0 o w W ∧ w.heap.size + 2 ≤ W.heap.size ∧ o (w.heap.size + 1) = none ∧
    ((er = 0 ∧ ∃ r : Nat, okE (nodesOf m.d) r ∧ Q m V r ∧ W.heap[w.heap.size + 1]? = some (.cells #[.int .i64 r] 52 (0, 0))) ∨
     (er ≠ 0 ∧ ∃ m0 : ManD, E er m0 m ∧ (er = 7 → m0.d.dead = 0)))
theorem do_runG {K : Law} {n room : Nat} {w0 : World} {mb : Nat} {fs : List (Int × BF)} {nx : Int} {C : Nat → Prop} {B : World → Prop} {St : List Ev → Int → Prop} {gop : Nat} {lop : Array Value} {Q : ManD → (Nat → BF) → Nat → Prop} {E : Int → ManD → ManD → Prop}
    (hB : ∀ W W', B W → (∀ c, C c → W'.heap[c]? = W.heap[c]?) → B W') (hC0 : ∀ c, C c → w0.heap.size ≤ c) (eg : ∀ args w, (callFunc gop args).run Tryz.prog w = .ok (.enter gop args) w)
    (hop : OpG K n room w0 mb fs nx C B St gop lop Q E) {o : Own} {w : World} {m : ManD} {V : Nat → BF} (h : SatE K n room w0 mb fs nx w o m V) (hb : B w) (hC : ∀ c, C c → c < w.heap.size ∧ o c = none) (hst : St m.waits m.calls) (hhap : ∀ ev ∈ m.waits, HapG K n room w0 mb fs nx ev) :
    Calls Tryz.prog 85 #[.pointer (some ⟨mb, 0, none⟩), .func (.func 86) #[] #[.pointer (some ⟨w.heap.size, 0, none⟩), .pointer (some ⟨w.heap.size + 1, 0, none⟩)]] (doW gop lop w) fun x w' => ∃ er, x = .returned (.int .i64 er) ∧ RunF K n room w0 mb fs nx C B Q E o w er w' := by
  have hz : (doW gop lop w).heap.size = w.heap.size + 2 := by simp [doW]
  have hbd : Below w.heap.size w (doW gop lop w) := (below_new1 w _).alloc (by simp) _
  have hfb : (doW gop lop w).heap[w.heap.size + 1]? = some (.cells #[.int .i64 0] 52 (0, 0)) := by
    have := heap_alloc_new (w.alloc (.cells #[.func (.func gop) #[] lop] 54)) (.cells #[.int .i64 0] 52)
    rw [World.size_alloc] at this; exact this
  have hob : (doW gop lop w).heap[w.heap.size]? = some (.cells #[.func (.func gop) #[] lop] 54 (0, 0)) := (Go.heap_alloc_old _ _ (by simp)).trans (heap_alloc_new w _)
  have hw0 := h.chg.size
  have hstart : RunI K n room w0 mb fs nx C B St gop lop o w m.waits.length false (doW gop lop w) o m V :=
    ⟨h.below hbd, hB _ _ hb (fun c hc => hbd.block c (hC c hc).1), hst, rfl, hC, ChgX.of_below hbd o C, by omega, h.lt.none (Nat.le_refl _), h.lt.none (by omega), hob, ⟨0, hfb⟩, by simp⟩
  -- other blocks change: those of try
  have hother : ∀ {k full W W' o1 m1 V1}, RunI K n room w0 mb fs nx C B St gop lop o w k full W o1 m1 V1 → ∀ {s : Nat}, w.heap.size + 2 ≤ s → o1 s = none → o1 (s + 1) = none → Ali s W W' → RunI K n room w0 mb fs nx C B St gop lop o w k full W' o1 m1 V1 := by
    intro k full W W' o1 m1 V1 hi s hs n0 n1 a
    have hsz := hi.size
    have hk : ∀ k, k < w.heap.size + 2 → W'.heap[k]? = W.heap[k]? := fun k hk => a.keep k (by omega) (by omega)
    refine ⟨hi.sat.other a (fun k _ e => ?_), hB _ _ hi.bok (fun c hc => hk c (by have := (hi.cok c hc).1; omega)), hi.st, hi.len, hi.cok, hi.chg.trans (ChgX.of_wr (C := fun k => w.heap.size ≤ k) a o1 (fun k _ e => by omega)) (fun k hk e => by omega), Nat.le_trans hi.size a.size, hi.obn, hi.fbn, (hk _ (by omega)).trans hi.ob, ?_, hi.clean⟩
    · rcases e with rfl | rfl
      · exact ⟨by omega, n0⟩
      · exact ⟨by omega, n1⟩
    · obtain ⟨z, hz⟩ := hi.fb
      exact ⟨z, (hk _ (by omega)).trans hz⟩
  -- the manager moves on by itself
  have hnext : ∀ {k full full' W W' o1 m1 V1 o2 m2 V2}, RunI K n room w0 mb fs nx C B St gop lop o w k full W o1 m1 V1 → SatE K n room w0 mb fs nx W' o2 m2 V2 → ChgX NoB o1 o2 W W' → m2.waits = m1.waits → m2.calls = m1.calls → (full' = true → m2.d.dead = 0) → RunI K n room w0 mb fs nx C B St gop lop o w k full' W' o2 m2 V2 := by
    intro k full full' W W' o1 m1 V1 o2 m2 V2 hi hsat hc e1 e2 e3
    have hsz := hi.size
    obtain ⟨z, hz⟩ := hi.fb
    exact ⟨hsat, hB _ _ hi.bok (fun c hc' => hc.block c (by have := (hi.cok c hc').1; omega) (hi.cok c hc').2 (fun e => e)), by rw [e1, e2]; exact hi.st, by rw [e1]; exact hi.len, fun c hc' => ⟨(hi.cok c hc').1, hc.none' (by have := (hi.cok c hc').1; omega) (hi.cok c hc').2⟩,
      hi.chg.trans hc (fun _ _ e => e.elim), Nat.le_trans hi.size hc.size, hc.none' (by omega) hi.obn, hc.none' (by omega) hi.fbn, (hc.block _ (by omega) hi.obn (fun e => e)).trans hi.ob, ⟨z, (hc.block _ (by omega) hi.fbn (fun e => e)).trans hz⟩, e3⟩
  refine run_any mb _ _ _ enters_do1 (fun k full W => ∃ o1 m1 V1, RunI K n room w0 mb fs nx C B St gop lop o w k full W o1 m1 V1 ∧ ∀ ev ∈ m1.waits, HapG K n room w0 mb fs nx ev) _ ?_ _ ⟨o, m, V, hstart, hhap⟩
  rintro k full W ⟨o1, m1, V1, hi, hh⟩
  have hsz := hi.size
  obtain ⟨s, hs⟩ : ∃ s, s = W.heap.size := ⟨_, rfl⟩
  refine ⟨fun st W1 => match st with
    | none => ∃ (o' : Own) (m' : ManD) (V' : Nat → BF) (r : Nat) (w1 : World), SatE K n room w0 mb fs nx w1 o' m' V' ∧ B w1 ∧ ChgX C o o' w w1 ∧ s + 3 ≤ w1.heap.size ∧ (∀ q, w.heap.size ≤ q → q < s + 3 → o1 q = none → o' q = none) ∧ (∃ z : Int, w1.heap[w.heap.size + 1]? = some (.cells #[.int .i64 z] 52 (0, 0))) ∧ okE (nodesOf m'.d) r ∧ Q m' V' r ∧ W1 = w1.setCell ⟨w.heap.size + 1, 0, none⟩ (.int .i64 (r : Nat))
    | some (er, evt, ev) => ∃ (o' : Own) (m' : ManD) (V' : Nat → BF), RunI K n room w0 mb fs nx C B St gop lop o w m'.waits.length false W1 o' m' V' ∧ s + 3 ≤ W1.heap.size ∧ (∀ q, w.heap.size ≤ q → q < s + 3 → o1 q = none → o' q = none) ∧
        ((evt = false ∧ er ≠ 0 ∧ m'.waits = m1.waits ∧ E er m1 m') ∨ (evt = true ∧ m1.waits = ev :: m'.waits)), ?_, ?_, ?_, ?_, ?_⟩
  · unfold TryOp
    have hbt : Below W.heap.size W (tryW mb W) := ((below_new1 _ _).alloc (by simp) _).alloc (by simp; omega) _
    have hzt : (tryW mb W).heap.size = W.heap.size + 3 := by unfold tryW; simp
    obtain ⟨T, hT⟩ : ∃ T, T = tryW mb W := ⟨_, rfl⟩
    have h1 : (tryW mb W).heap[W.heap.size + 2]? = some (.cells #[.pointer (some ⟨mb, 0, none⟩)] 114 (0, 0)) := by
      have := heap_alloc_new ((W.alloc (.cells #[.int .i64 0, .bool false, .int .i64 0, .int .i64 0, .int .i64 0] 116)).alloc (.cells #[.bool false] 4)) (.cells #[.pointer (some ⟨mb, 0, none⟩)] 114)
      rw [World.size_alloc, World.size_alloc] at this; exact this
    rw [← hT] at hbt hzt h1 ⊢
    clear hT
    have hsatT := hi.sat.below hbt
    have hcx : CtxAt o1 T (W.heap.size + 2) mb := ⟨cell1 h1, hi.sat.lt.none (by omega)⟩
    have hopT := hop o1 T m1 V1 (W.heap.size + 2) hsatT (hB _ _ hi.bok (fun c hc => hbt.block c (by have := (hi.cok c hc).1; omega))) (fun c hc => ⟨by have := (hi.cok c hc).1; omega, (hi.cok c hc).2⟩) hi.st hcx (fun e => by have := (hi.cok _ e).1; omega)
    have hobT := (hbt.block w.heap.size (by omega)).trans hi.ob
    obtain ⟨z, hz⟩ := hi.fb
    have hfbT := (hbt.block (w.heap.size + 1) (by omega)).trans hz
    have hC' : ∀ q, w.heap.size ≤ q → ¬ C q := fun q hq e => by have := (hi.cok q e).1; omega
    have hkeep : ∀ {o' : Own} {w1 : World}, ChgX C o1 o' T w1 → ∀ q, w.heap.size ≤ q → q < s + 3 → o1 q = none → w1.heap[q]? = T.heap[q]? := fun hc q h1 h2 h3 => hc.block q (by omega) h3 (hC' q h1)
    refine (do1_gen gop lop T (W.heap.size + 2) w.heap.size (w.heap.size + 1) (fun r w1 => ∃ o' m' V', StepX C K o1 T mb m1 V1 o' w1 m' V' ∧ B w1 ∧ okE (nodesOf m'.d) r ∧ Q m' V' r)
      (fun er evt ev w1 => ∃ o' m' V', StepX C K o1 T mb m1 V1 o' w1 m' V' ∧ B w1 ∧ St m'.waits m'.calls ∧ ((evt = false ∧ er ≠ 0 ∧ m'.waits = m1.waits ∧ E er m1 m') ∨ (evt = true ∧ m1.waits = ev :: m'.waits))) eg (cell1 hobT) (hopT.mono ?_)).mono ?_
    · rintro e w1 ⟨o', m', V', st, b1, (⟨r, rfl, q1, q2⟩ | ⟨er, rfl, q1, q2, q3, q4⟩ | ⟨ev, rfl, q1, q2⟩)⟩
      · have hf := (hkeep st.chg (w.heap.size + 1) (by omega) (by omega) hi.fbn).trans hfbT
        exact .inl ⟨r, rfl, ⟨o', m', V', st, b1, q1, q2⟩, ⟨z, cell1 hf⟩, by simp [World.frozen?, hf]⟩
      · exact .inr ⟨er, false, ev0, rfl, o', m', V', st, b1, q3, .inl ⟨rfl, q1, q2, q4⟩⟩
      · exact .inr ⟨0, true, ev, rfl, o', m', V', st, b1, q2, .inr ⟨rfl, q1⟩⟩
    · have n0 : o1 W.heap.size = none := hi.sat.lt.none (Nat.le_refl _)
      have n1 : o1 (W.heap.size + 1) = none := hi.sat.lt.none (by omega)
      rintro e W' (⟨rfl, r, w1, ⟨o', m', V', st, b1, q1, q2⟩, rfl⟩ | ⟨er, evt, ev, rfl, o', m', V', st, b1, b2, q⟩)
      · have hf := (hkeep st.chg (w.heap.size + 1) (by omega) (by omega) hi.fbn).trans hfbT
        have hsz1 := st.chg.size
        refine ⟨by simp [World.setCell]; omega, ?_, ?_, .inl ⟨rfl, o', m', V', r, w1, hsatT.step st hC0, b1, (hi.chg.trans (ChgX.of_below hbt o1 C) (fun _ _ e => e)).trans st.chg (fun _ _ e => e), by omega, fun q _ h2 h3 => st.chg.none' (by omega) h3, ⟨z, hf⟩, q1, q2, rfl⟩⟩
        · exact (heap_setCell_ne (by show _ ≠ w.heap.size + 1; omega) _).trans (hkeep st.chg _ (by omega) (by omega) n0)
        · exact (heap_setCell_ne (by show _ ≠ w.heap.size + 1; omega) _).trans (hkeep st.chg _ (by omega) (by omega) n1)
      · have hsz1 := st.chg.size
        have hc1 := (hi.chg.trans (ChgX.of_below hbt o1 C) (fun _ _ e => e)).trans st.chg (fun _ _ e => e)
        refine ⟨by omega, hkeep st.chg _ (by omega) (by omega) n0, hkeep st.chg _ (by omega) (by omega) n1, .inr ⟨er, evt, ev, rfl, o', m', V', ?_, by omega, fun q _ h2 h3 => st.chg.none' (by omega) h3, q⟩⟩
        exact ⟨hsatT.step st hC0, b1, b2, rfl, fun c hc => ⟨(hi.cok c hc).1, st.chg.none' (by have := (hi.cok c hc).1; omega) (hi.cok c hc).2⟩, hc1, by omega, st.chg.none' (by omega) hi.obn, st.chg.none' (by omega) hi.fbn,
          (hkeep st.chg _ (by omega) (by omega) hi.obn).trans hobT, ⟨z, (hkeep st.chg (w.heap.size + 1) (by omega) (by omega) hi.fbn).trans hfbT⟩, by simp⟩
  · rintro W1 W2 ⟨o', m', V', r, w1, a1, a2, a3, a4, a5, ⟨z, a6⟩, a7, a8, rfl⟩ al
    have hwr : Wr (fun k => k = w.heap.size + 1 ∨ k = s ∨ k = s + 1) w1 W2 := Wr.trans ((Wr.refl (fun k => k = w.heap.size + 1) w1).setCell (p := ⟨w.heap.size + 1, 0, none⟩) (.inl rfl) _) al (fun k _ e => .inl e) (fun k _ e => .inr (by rw [hs]; exact e))
    have n0 : o' s = none := a5 s (by omega) (by omega) (by rw [hs]; exact hi.sat.lt.none (Nat.le_refl _))
    have n1 : o' (s + 1) = none := a5 (s + 1) (by omega) (by omega) (by rw [hs]; exact hi.sat.lt.none (by omega))
    have nf : o' (w.heap.size + 1) = none := a5 _ (by omega) (by omega) hi.fbn
    have hf := (al.keep (w.heap.size + 1) (by simp [World.setCell]; omega) (by omega)).trans (heap_setCell_same a6 _)
    refine ⟨o', m', V', a1.other hwr (fun k _ e => ?_), hB _ _ a2 (fun c hc => hwr.keep c (by have := (hi.cok c hc).1; omega) (by have := (hi.cok c hc).1; omega)), a3.trans (ChgX.of_wr (C := fun k => w.heap.size ≤ k) hwr o' (fun k _ e => by omega)) (fun k hk e => by omega), by have := hwr.size; omega, nf, .inl ⟨rfl, r, a7, a8, hf⟩⟩
    rcases e with rfl | rfl | rfl
    · exact ⟨by omega, nf⟩
    · exact ⟨by omega, n0⟩
    · exact ⟨by omega, n1⟩
  · rintro er ev W1 W2 ⟨o', m', V', hi', a4, a5, (⟨h1, _⟩ | ⟨_, hev⟩)⟩ al
    · cases h1
    rw [← hs] at al
    have n0 : o' s = none := a5 s (by omega) (by omega) (by rw [hs]; exact hi.sat.lt.none (Nat.le_refl _))
    have n1 : o' (s + 1) = none := a5 (s + 1) (by omega) (by omega) (by rw [hs]; exact hi.sat.lt.none (by omega))
    have hi2 := hother hi' (by omega) n0 n1 al
    refine (hh ev (by rw [hev]; simp) o' W2 m' V' hi2.sat).mono ?_
    rintro x w' ⟨rfl, o2, m2, V2, g1, g2, g3, g4⟩
    refine ⟨rfl, m'.waits.length, by rw [← hi.len, hev]; simp, o2, m2, V2, hnext hi2 g1 g4 g2 g3 (by simp), fun ev' he => hh ev' (by rw [g2] at he; rw [hev]; exact List.mem_cons_of_mem _ he)⟩
  · rintro ev W1 W2 ⟨o', m', V', hi', a4, a5, (⟨_, _, hw, _⟩ | ⟨h1, _⟩)⟩ al hfull
    · rw [← hs] at al
      have n0 : o' s = none := a5 s (by omega) (by omega) (by rw [hs]; exact hi.sat.lt.none (Nat.le_refl _))
      have n1 : o' (s + 1) = none := a5 (s + 1) (by omega) (by omega) (by rw [hs]; exact hi.sat.lt.none (by omega))
      have hi2 := hother hi' (by omega) n0 n1 al
      refine (manCollect_any hi2.sat).mono ?_
      rintro x w' ⟨rfl, o2, d2, g1, g2, g3⟩
      have hi3 := hnext (full' := true) hi2 g1 (ChgX.of_chg g3 NoB) rfl rfl (fun _ => g2.dead)
      rw [hw, hi.len] at hi3
      exact ⟨⟨_, rfl⟩, o2, _, V', hi3, fun ev' he => hh ev' (by first | exact he | (rw [← hw]; exact he))⟩
    · cases h1
  · rintro er ev W1 W2 ⟨o', m', V', hi', a4, a5, (⟨_, h0, hw, hE⟩ | ⟨h1, _⟩)⟩ al hne
    · rw [← hs] at al
      have n0 : o' s = none := a5 s (by omega) (by omega) (by rw [hs]; exact hi.sat.lt.none (Nat.le_refl _))
      have n1 : o' (s + 1) = none := a5 (s + 1) (by omega) (by omega) (by rw [hs]; exact hi.sat.lt.none (by omega))
      have hi2 := hother hi' (by omega) n0 n1 al
      refine ⟨o', m', V', hi2.sat, hi2.bok, hi2.chg, hi2.size, hi2.fbn, .inr ⟨h0, m1, hE, fun e7 => hi.clean ?_⟩⟩
      cases full with
      | true => rfl
      | false => exact (hne ⟨e7, rfl⟩).elim
    · cases h1
/-- What Do leaves. -/
def DoPost (K : Law) (n room : Nat) (w0 : World) (mb : Nat) (fs : List (Int × BF)) (nx : Int) (C : Nat → Prop) (B : World → Prop) (Q : ManD → (Nat → BF) → Nat → Prop) (E : Int → ManD → ManD → Prop) (o : Own) (w : World) (x : Ending) (w' : World) : Prop :=
  ∃ o' m' V', B w' ∧ ChgX C o o' w w' ∧
    ((∃ r m1, x = .returned (.tuple #[.int .i64 nx, .int .i64 0]) ∧ SatE K n room w0 mb (fs ++ [(nx, ef V' r)]) (nx + 1) w' o' m' V' ∧ Q m1 V' r ∧ okE (nodesOf m1.d) r ∧ nodesOf m'.d = nodesOf m1.d ∧ m'.d.vars = m1.d.vars ∧ m'.d.level = m1.d.level ∧ m'.d.pool.many = m1.d.pool.many ∧ m'.waits = m1.waits ∧ m'.calls = m1.calls) ∨
     (∃ er m0, er ≠ 0 ∧ x = .returned (.tuple #[.int .i64 0, .int .i64 er]) ∧ SatE K n room w0 mb fs nx w' o' m' V' ∧ E er m0 m' ∧ (er = 7 → m0.d.dead = 0)))
set_option maxRecDepth 100000 in
set_option maxHeartbeats 2000000 in
theorem do_gen {K : Law} (hK : LawOK K) {n room : Nat} {w0 : World} {mb : Nat} {fs : List (Int × BF)} {nx : Int} {C : Nat → Prop} {B : World → Prop} {St : List Ev → Int → Prop} {gop : Nat} {lop : Array Value} {Q : ManD → (Nat → BF) → Nat → Prop} {E : Int → ManD → ManD → Prop}
    (hB : ∀ W W', B W → (∀ c, C c → W'.heap[c]? = W.heap[c]?) → B W') (hC0 : ∀ c, C c → w0.heap.size ≤ c) (eg : ∀ args w, (callFunc gop args).run Tryz.prog w = .ok (.enter gop args) w)
    (hop : OpG K n room w0 mb fs nx C B St gop lop Q E) {o : Own} {w : World} {m : ManD} {V : Nat → BF} (h : SatE K n room w0 mb fs nx w o m V) (hb : B w) (hC : ∀ c, C c → c < w.heap.size ∧ o c = none) (hst : St m.waits m.calls) (hhap : ∀ ev ∈ m.waits, HapG K n room w0 mb fs nx ev) (hn : nx < 1099511627776) :
    Calls Tryz.prog 24 #[.pointer (some ⟨mb, 0, none⟩), .func (.func gop) #[] lop] w (DoPost K n room w0 mb fs nx C B Q E o w) := by
  have hmf : ∀ (fn : Fn) (first cap : Array Value) (w : World), (Instr.makeFunc fn first cap).run Tryz.prog w = .ok (.func fn first cap) w := fun _ _ _ _ => rfl
  have HRUN := Lib.hid (do_runG hB hC0 eg hop h hb hC hst hhap)
  have HLAW := Lib.hid hK
  have HHB := Lib.hid hB
  have HNX := Lib.hid hn
  have HCOK := Lib.hid hC
  have hnf := eqNilF (w.alloc (.cells #[.func (.func gop) #[] lop] 54)) (.func gop) #[] lop
  have HW : Hid ((w.alloc (.cells #[.func (.func gop) #[] lop] 54)).alloc (.cells #[.int .i64 0] 52) = doW gop lop w) := Lib.hid rfl
  clear h hb hK hB hC0 hop hC hst hhap hn
  go_enter Tryz.func24, Tryz.ntmps24
  go_wp2_with fail
  rw [HW.out]
  refine HRUN.out.mono ?_
  rintro x w1 ⟨er, rfl, o1, m1, V1, sat, b1, hc1, hsz1, hnf1, (⟨rfl, r, hr, hq, hcf0⟩ | ⟨h0, m0, hE, h7⟩)⟩
  rotate_left
  · have HF : Hid (DoPost K n room w0 mb fs nx C B Q E o w (.returned (.tuple #[.int .i64 0, .int .i64 er])) w1) := Lib.hid ⟨o1, m1, V1, b1, hc1, .inr ⟨er, m0, h0, rfl, sat, hE, h7⟩⟩
    have h00 : (er == 0) = false := by simpa using h0
    clear h0 hE h7 sat b1 hc1 hsz1 hnf1 HRUN HW
    go_wp2_with fail
    go_ret2
    exact HF.out
  have hcf := cell1 hcf0
  obtain ⟨s1, hm1⟩ := sat.is
  obtain ⟨c0, c1, c2, c3, c4, c5, f0⟩ := cells6 hm1.blk
  obtain ⟨ss, hss⟩ := hm1.store
  have hrlt : r < eMax := by have := hss.edge_lt hr; unfold eMax; omega
  have HIS : Hid (Calls Tryz.prog 87 #[.pointer (some ⟨s1.sb, 0, none⟩), .int .i64 r] w1.drew fun x w' => x = .returned (.bool true) ∧ Below w1.heap.size w1 w') := by
    have h1 := storeIs_any (hss.below sat.lt (below_draw w1 1)) (sat.lt.mono (below_draw w1 1).size) r hrlt
    rw [is_eq hr] at h1
    exact Lib.hid (h1.mono fun x w' ⟨a, b⟩ => ⟨a, belowOf (n := 1) b⟩)
  have HST := Lib.hid sat
  have HR := Lib.hid hr
  have HQ := Lib.hid hq
  have HB1 := Lib.hid b1
  have HC1 := Lib.hid hc1
  have HN1 := Lib.hid hnf1
  have lmb : mb < w1.heap.size := lt_of_cell c0
  have lfb : w.heap.size + 1 < w1.heap.size := lt_of_cell hcf
  clear sat hm1 hss hr hq b1 hc1 hnf1 hsz1 HRUN HW
  go_upto_region 9 with fail
  refine wp_region_left (fun W : World => Below w1.heap.size w1 W) 7 (by kernel_rfl) (below_draw w1 1) ?_
  refine left_readE 0 rfl rfl (by kernel_rfl) ?_
  apply Exists.intro
  refine ⟨fun w' hw => ?_, ?_⟩
  · have q1 := (hw.cell (p := ⟨mb, 0, none⟩) lmb).trans c0
    have q2 := (hw.cell (p := ⟨w.heap.size + 1, 0, none⟩) lfb).trans hcf
    go_simp
    rfl
  simp only [Act.put, List.setIfInBounds_toArray, List.set_cons_zero, List.set_cons_succ]
  refine left_readE 1 rfl rfl (by kernel_rfl) ?_
  apply Exists.intro
  refine ⟨fun w' hw => ?_, ?_⟩
  · have q1 := (hw.cell (p := ⟨mb, 0, none⟩) lmb).trans c0
    have q2 := (hw.cell (p := ⟨w.heap.size + 1, 0, none⟩) lfb).trans hcf
    go_simp
    rfl
  simp only [Act.put, List.setIfInBounds_toArray, List.set_cons_zero, List.set_cons_succ]
  refine left_readE 2 rfl rfl (by kernel_rfl) ?_
  apply Exists.intro
  refine ⟨fun w' hw => ?_, ?_⟩
  · have q1 := (hw.cell (p := ⟨mb, 0, none⟩) lmb).trans c0
    have q2 := (hw.cell (p := ⟨w.heap.size + 1, 0, none⟩) lfb).trans hcf
    go_simp
    rfl
  simp only [Act.put, List.setIfInBounds_toArray, List.set_cons_zero, List.set_cons_succ]
  refine left_readE 3 rfl rfl (by kernel_rfl) ?_
  apply Exists.intro
  refine ⟨fun w' hw => ?_, ?_⟩
  · have q1 := (hw.cell (p := ⟨mb, 0, none⟩) lmb).trans c0
    have q2 := (hw.cell (p := ⟨w.heap.size + 1, 0, none⟩) lfb).trans hcf
    go_simp
    rfl
  simp only [Act.put, List.setIfInBounds_toArray, List.set_cons_zero, List.set_cons_succ]
  refine left_readE 4 rfl rfl (by kernel_rfl) ?_
  apply Exists.intro
  refine ⟨fun w' hw => ?_, ?_⟩
  · have q1 := (hw.cell (p := ⟨mb, 0, none⟩) lmb).trans c0
    have q2 := (hw.cell (p := ⟨w.heap.size + 1, 0, none⟩) lfb).trans hcf
    go_simp
    rfl
  simp only [Act.put, List.setIfInBounds_toArray, List.set_cons_zero, List.set_cons_succ]
  refine left_alts [5] (by kernel_rfl) (fun i hi hS o ho => ?_)
  simp only [List.mem_cons, List.not_mem_nil, or_false] at hi
  subst hi
  simp only [List.getElem?_cons_zero, List.getElem?_cons_succ, Option.some.injEq] at ho
  subst ho
  refine ⟨rfl, ?_⟩
  refine oper_call (v := .bool true) (R := fun w' => Below w1.heap.size w1 w') (by go_simp) HIS.out ?_
  rintro w2 hb2
  refine ⟨hb2, ?_⟩
  simp only [Act.put, List.setIfInBounds_toArray, List.set_cons_zero, List.set_cons_succ]
  have hcf2 := (hb2.cell (p := ⟨w.heap.size + 1, 0, none⟩) lfb).trans hcf
  have d0 := (hb2.cell (p := ⟨mb, 0, none⟩) lmb).trans c0
  have HST2 := Lib.hid (HST.out.below hb2)
  refine left_readE 6 rfl rfl (by kernel_rfl) ?_
  apply Exists.intro
  refine ⟨fun w' hw => ?_, ?_⟩
  · have q1 := (hw.cell (p := ⟨mb, 0, none⟩) lmb).trans c0
    have q2 := (hw.cell (p := ⟨w.heap.size + 1, 0, none⟩) lfb).trans hcf
    go_simp
    rfl
  simp only [Act.put, List.setIfInBounds_toArray, List.set_cons_zero, List.set_cons_succ]
  have hb2' := hb2
  clear c0 c1 c2 c3 c4 c5 f0 hcf hcf0 hb2
  refine left_end (by kernel_rfl) ?_
  have HG := Lib.hid (give_any HLAW.out HST2.out.is HST2.out.lt HST2.out.ok r HR.out (by rw [HST2.out.next]; exact HNX.out))
  have HB2 := Lib.hid hb2'
  clear hb2'
  go_wp2_with fail
  refine HG.out.mono ?_
  rintro x w3 ⟨rfl, o3, m3, hg⟩
  have HGV := Lib.hid hg
  have HNX : Hid (m1.next = nx) := Lib.hid HST2.out.next
  clear hg
  go_wp2_with fail
  go_ret2
  have hlt2 := HST2.out.lt
  have hkc : ∀ c, C c → w3.heap[c]? = w1.heap[c]? := fun c hc => by
    have h1 := (HCOK.out c hc).1
    have h2 := HC1.out.size
    have h3 := HB2.out.size
    exact (HGV.out.chg.alien (by omega) (HC1.out.none' h1 (HCOK.out c hc).2)).trans (HB2.out.block c (by omega))
  refine ⟨o3, m3, V1, HHB.out _ _ HB1.out hkc, (HC1.out.trans (ChgX.of_below HB2.out o1 C) (fun _ _ e => e)).trans (ChgX.of_chg HGV.out.chg C) (fun _ _ e => e), .inl ⟨r, m1, by rw [← HNX.out]; rfl, HST2.out.gave HGV.out, HQ.out, HR.out, HGV.out.nodes, HGV.out.vars, HGV.out.level, HGV.out.many, HGV.out.waits, HGV.out.calls⟩⟩
end Go.Proofs.YtchliiaknmknhaaGreat

-- AltP
namespace Go.Proofs.YtchliiaknmknhaaGreat
open Go.RowKit

section
variable {P : Program} {S : World → Prop} {Q : Exit → Act → World → Prop} {R : List PanicEntry → World → Prop} {m : Nat}

/-- Q, but R at a panic, whatever the slots hold. -/
def PP (R : List PanicEntry → World → Prop) (Q : Exit → Act → World → Prop) : Exit → Act → World → Prop
  | .panic c, a, w => a.defers = [] ∧ R c w
  | e, a, w => Q e a w
theorem put_defers (a : Act) (d : Option Nat) (v : Value) : (a.put d v).defers = a.defers := by cases d <;> rfl
theorem pp_put (c : List PanicEntry) (a : Act) (d : Option Nat) (v : Value) (w : World) (h : PP R Q (.panic c) (a.put d v) w) : PP R Q (.panic c) a w := ⟨(put_defers a d v).symm.trans h.1, h.2⟩
theorem wp_of_pp {s : Code} {a : Act} {w : World} (hR : ∀ c (a : Act) w, a.defers = [] → R c w → Q (.panic c) a w) (h : s.wp P (PP R Q) a w) : s.wp P Q a w :=
  Code.wp_mono (fun e a w h => by cases e <;> first | exact h | exact hR _ _ _ h.1 h.2) h

/-- What is left of a region, with what it needs. -/
structure LeftP (P : Program) (l : List Oper) (Q : Exit → Act → World → Prop) (R : List PanicEntry → World → Prop) (S : World → Prop) (m f : Nat) (L : Array Bool) (a : Act) (w : World) : Prop where
  goes : Closed l.toArray L → S w → wpAnyS P l.toArray (PP R Q) S m f L a w

theorem wp_region_leftP {id : Nat} {a : Act} {w : World} {l : List Oper} (S : World → Prop) (R : List PanicEntry → World → Prop) (m : Nat) (hR : ∀ c (a : Act) w, a.defers = [] → R c w → Q (.panic c) a w) (hm : P.follows .mixedOrders = true) (hS : S w.drew)
    (h : LeftP P l Q R S m l.length (Array.replicate l.toArray.size false) a w.drew) : (Code.region id l.toArray true).wp P Q a w :=
  wp_of_pp hR (wp_region_any hm (wpAny_of_S _ _ _ _ (h.goes (closed_start _) hS)))
/-- A read that may be taken first. -/
theorem left_readP {l : List Oper} {f : Nat} {L : Array Bool} {a : Act} {w : World} (i : Nat) (o : Oper) (v : Value) (hi : l[i]? = some o)
    (hB : (Region.noSelect l.toArray && (Region.ready .any l.toArray L).contains i && Region.free .any l.toArray L i && (decide (l.toArray.size ≤ m) || reaches l.toArray l.toArray.size i m)) = true)
    (hy : ∀ w, S w → YieldsIf P l.toArray S o v a) (h : LeftP P l Q R S m f (L.setIfInBounds i true) (a.put o.dst v) w) : LeftP P l Q R S m (f + 1) L a w := by
  refine ⟨fun hc hS => ?_⟩
  simp only [Bool.and_eq_true] at hB
  obtain ⟨⟨⟨hs, hr⟩, hf⟩, hm⟩ := hB
  have hi' : l.toArray[i]? = some o := by simpa using hi
  have hr' : i ∈ Region.ready .any l.toArray L := by simpa using hr
  exact wpAnyS_first hi' hs pp_put hm f L a w hc (Region.free_spec hi' hf) hr' (hy w hS) hS (h.goes (hc.set hr') hS)
theorem left_readEP {l : List Oper} {f : Nat} {L : Array Bool} {a : Act} {w : World} (i : Nat) {o : Oper} (hi : l[i]? = some o) (hg : o.guard = none)
    (hB : (Region.noSelect l.toArray && (Region.ready .any l.toArray L).contains i && Region.free .any l.toArray L i && (decide (l.toArray.size ≤ m) || reaches l.toArray l.toArray.size i m)) = true)
    (h : ∃ v, (∀ w, S w → (execOp a.eval o).run P w = .ok (.value v) w) ∧ LeftP P l Q R S m f (L.setIfInBounds i true) (a.put o.dst v) w) : LeftP P l Q R S m (f + 1) L a w := by
  obtain ⟨v, h1, h2⟩ := h
  exact left_readP i o v hi hB (fun w _ => .inl ⟨by simp [Region.wanted, hg], h1⟩) h2
/-- Whatever may come next comes. -/
theorem left_altsP {l : List Oper} {f : Nat} {L : Array Bool} {a : Act} {w : World} (is : List Nat) (hr : (decide (Region.ready .any l.toArray L = is) && !is.isEmpty) = true)
    (h : ∀ i ∈ is, S w → ∀ o, l[i]? = some o → Region.wanted o (yielded l.toArray a.tmps) = true ∧ o.wp P a w (fun a' w' => S w' ∧ LeftP P l Q R S m f (L.setIfInBounds i true) a' w') (PP R Q)) : LeftP P l Q R S m (f + 1) L a w := by
  refine ⟨fun hc hS => ?_⟩
  simp only [Bool.and_eq_true, decide_eq_true_eq] at hr
  obtain ⟨hr, hne⟩ := hr
  refine ⟨fun h0 => (by rw [h0] at hr; subst hr; simp at hne), fun i hi => ?_⟩
  have hi2 : i ∈ is := by rw [← hr]; exact hi
  obtain ⟨_, o, ho, _⟩ := mem_ready.1 hi
  obtain ⟨hw, hwp⟩ := h i hi2 hS o (by simpa using ho)
  unfold wpOp
  rw [ho]
  simp only [hw, if_true]
  left
  refine Oper.wp_mono ?_ hwp
  intro a' w' ⟨h1, h2⟩
  exact ⟨.inr h1, h2.goes (hc.set hi) h1⟩
theorem left_endP {l : List Oper} {L : Array Bool} {a : Act} {w : World} (hr : (Region.ready .any l.toArray L).isEmpty = true) (h : Q .normal a w) : LeftP P l Q R S m 0 L a w :=
  ⟨fun _ _ => ⟨by simpa [List.isEmpty_iff] using hr, h⟩⟩
end
end Go.Proofs.YtchliiaknmknhaaGreat

-- IteG
namespace Go.Proofs.YtchliiaknmknhaaGreat
open Go.RowKit

theorem oper_callP {P : Program} {o : Oper} {a : Act} {w : World} {K : Act → World → Prop} {Q : Exit → Act → World → Prop} {f : FuncId} {args : Array Value} {R : Value → World → Prop} {R2 : List PanicEntry → World → Prop} (he : (execOp a.eval o).run P w = .ok (.enter f args) w)
    (hc : Calls P f args w fun e w' => (∃ v, e = .returned v ∧ R v w') ∨ (∃ ch, e = .panicked ch ∧ R2 ch w')) (h : ∀ v w', R v w' → K (a.put o.dst v) w') (h2 : ∀ ch w', R2 ch w' → Q (.panic ch) a w') : o.wp P a w K Q := by
  unfold Oper.wp
  simp only [he, Oper.upon]
  refine hc.mono fun e w' hh => ?_
  rcases hh with ⟨v, h1, h3⟩ | ⟨ch, h1, h3⟩
  · subst h1; exact h v w' h3
  · subst h1; exact h2 ch w' h3
abbrev C3 (bf bg bh : Nat) : Nat → Prop := fun k => k = bf ∨ k = bg ∨ k = bh
structure B3 (bf bg bh : Nat) (kf kg kh : Int) (W : World) : Prop where
  f : W.cell? ⟨bf, 0, none⟩ = some (.int .i64 kf)
  g : W.cell? ⟨bg, 0, none⟩ = some (.int .i64 kg)
  h : W.cell? ⟨bh, 0, none⟩ = some (.int .i64 kh)
theorem B3.keep {bf bg bh : Nat} {kf kg kh : Int} (W W' : World) (h : B3 bf bg bh kf kg kh W) (hk : ∀ c, C3 bf bg bh c → W'.heap[c]? = W.heap[c]?) : B3 bf bg bh kf kg kh W' :=
  ⟨(World.cell?_of_block (w := W) (a := ⟨bf, 0, none⟩) (hk _ (.inl rfl))).trans h.f, (World.cell?_of_block (w := W) (a := ⟨bg, 0, none⟩) (hk _ (.inr (.inl rfl)))).trans h.g, (World.cell?_of_block (w := W) (a := ⟨bh, 0, none⟩) (hk _ (.inr (.inr rfl)))).trans h.h⟩
def iteFn (F G H : BF) : BF := fun ρ => iteB (F ρ) (G ρ) (H ρ)
/-- Some state of the manager. -/
def SatX (K : Law) (n room : Nat) (w0 : World) (mb : Nat) (fs : List (Int × BF)) (nx : Int) (m : ManD) : Prop := ∃ W o V, SatE K n room w0 mb fs nx W o m V
def QF (ws0 : List Ev) (F : BF) (m' : ManD) (V' : Nat → BF) (r : Nat) : Prop := ef V' r = F ∧ m'.waits <:+ ws0
def EF (A : ManD → Prop) (k : Nat) (ws0 : List Ev) (er : Int) (m m' : ManD) : Prop := er = 7 ∧ A m ∧ m'.d.pool.many = m'.d.pool.room ∧ m'.d.pool.many + 1 ≤ m.d.pool.many + k ∧ m'.waits <:+ ws0
abbrev SuffOf (ws0 : List Ev) (ws : List Ev) (_ : Int) : Prop := ws <:+ ws0
set_option maxRecDepth 100000 in
set_option maxHeartbeats 1000000 in
theorem ite1_gen {K : Law} (hK : LawOK K) {n room : Nat} {w0 : World} {mb : Nat} {fs : List (Int × BF)} {nx : Int} (ws0 : List Ev) (bf bg bh : Nat) {kf kg kh : Int} {F G H : BF} (hf : (kf, F) ∈ fs) (hg : (kg, G) ∈ fs) (hh : (kh, H) ∈ fs) :
    OpG K n room w0 mb fs nx (C3 bf bg bh) (B3 bf bg bh kf kg kh) (SuffOf ws0) 80 #[.pointer (some ⟨bf, 0, none⟩), .pointer (some ⟨bg, 0, none⟩), .pointer (some ⟨bh, 0, none⟩)] (QF ws0 (iteFn F G H)) (EF (SatX K n room w0 mb fs nx) (2 ^ n - 1) ws0) := by
  intro o W m V xb hsat hB hC hst hcx hnx
  obtain ⟨f, hf, ef1⟩ := hsat.find hf
  obtain ⟨g, hg, ef2⟩ := hsat.find hg
  obtain ⟨h, hh, ef3⟩ := hsat.find hh
  have hk := hsat.ok
  have hlt := hsat.lt
  have hks := hk.store
  obtain ⟨s, hm⟩ := hsat.is
  have hbd : Below W.heap.size W W.drew := below_draw W 1
  have hmW := hm.below hlt hbd
  have hlW := hlt.mono hbd.size
  have hxW : CtxAt o W.drew xb mb := ⟨(hbd.cell (p := ⟨xb, 0, none⟩) (lt_of_cell hcx.cell)).trans hcx.cell, hcx.own⟩
  have df := (hbd.cell (p := ⟨bf, 0, none⟩) (lt_of_cell hB.f)).trans hB.f
  have dg := (hbd.cell (p := ⟨bg, 0, none⟩) (lt_of_cell hB.g)).trans hB.g
  have dh := (hbd.cell (p := ⟨bh, 0, none⟩) (lt_of_cell hB.h)).trans hB.h
  have of := (hC bf (.inl rfl)).2
  have og := (hC bg (.inr (.inl rfl))).2
  have oh := (hC bh (.inr (.inr rfl))).2
  have HEF := Lib.hid (ctxEdge_yes ⟨s, hmW⟩ hxW hk.handles.nodup hf)
  have HEG := Lib.hid (ctxEdge_yes ⟨s, hmW⟩ hxW hk.handles.nodup hg)
  have HEH := Lib.hid (ctxEdge_yes ⟨s, hmW⟩ hxW hk.handles.nodup hh)
  have HITE := Lib.hid (ctxIte_any hK n o W.drew xb mb m V f g h ⟨s, hmW⟩ hlW hxW hks (hk.handles.ok _ hf) (hk.handles.ok _ hg) (hk.handles.ok _ hh) (by rw [hsat.vars]; omega))
  obtain ⟨P, hP⟩ : ∃ P : Ending → World → Prop, P = fun e w' => ∃ (o' : Own) (m' : ManD) (V' : Nat → BF), StepX (C3 bf bg bh) K o W mb m V o' w' m' V' ∧ B3 bf bg bh kf kg kh w' ∧
      ((∃ r : Nat, e = .returned (.int .i64 r) ∧ okE (nodesOf m'.d) r ∧ QF ws0 (iteFn F G H) m' V' r) ∨
       (∃ er : Int, e = stopP er false ev0 ∧ er ≠ 0 ∧ m'.waits = m.waits ∧ SuffOf ws0 m'.waits m'.calls ∧ EF (SatX K n room w0 mb fs nx) (2 ^ n - 1) ws0 er m m') ∨
       (∃ ev, e = stopP 0 true ev ∧ m.waits = ev :: m'.waits ∧ SuffOf ws0 m'.waits m'.calls)) := ⟨_, rfl⟩
  have HFIN : Hid (∀ e w', ItePost K n o W.drew mb m V f g h e w' → (∃ v, e = .returned v ∧ (w'.cell? ⟨bf, 0, none⟩ = some (.int .i64 kf) ∧ w'.cell? ⟨bg, 0, none⟩ = some (.int .i64 kg) ∧ w'.cell? ⟨bh, 0, none⟩ = some (.int .i64 kh)) ∧ P (.returned v) w') ∨ (∃ ch, e = .panicked ch ∧ P (.panicked ch) w')) := by
    refine Lib.hid ?_
    subst hP
    rintro e w' ⟨o', m', V', st, hcase⟩
    have hb3 : B3 bf bg bh kf kg kh w' := ⟨st.chg.cell df of, st.chg.cell dg og, st.chg.cell dh oh⟩
    have stx : StepX (C3 bf bg bh) K o W mb m V o' w' m' V' := Step.toX (K := K) ⟨st.is, st.lt, (Chg.of_below hbd _ o).trans st.chg, st.ok, st.ext, st.hs, st.next⟩ _
    have hp2 : 0 < 2 ^ n := Nat.pow_pos (by omega)
    rcases hcase with ⟨r, rfl, h1, h2, h3⟩ | ⟨rfl, h2, h3, h4⟩ | ⟨ev, rfl, h1⟩
    · refine .inl ⟨_, rfl, ⟨hb3.f, hb3.g, hb3.h⟩, o', m', V', stx, hb3, .inl ⟨r, rfl, h1.okR, ?_, by rw [h2]; exact hst⟩⟩
      have e1 := (st.ext.ef (hk.handles.ok _ hf)).trans ef1
      have e2 := (st.ext.ef (hk.handles.ok _ hg)).trans ef2
      have e3 := (st.ext.ef (hk.handles.ok _ hh)).trans ef3
      dsimp only at e1 e2 e3
      funext ρ
      rw [h1.val ρ, e1, e2, e3]
      rfl
    · exact .inr ⟨_, rfl, o', m', V', stx, hb3, .inr (.inl ⟨7, rfl, by omega, h2, by rw [h2]; exact hst, rfl, ⟨_, _, _, hsat⟩, h3, by omega, by rw [h2]; exact hst⟩)⟩
    · refine .inr ⟨_, rfl, o', m', V', stx, hb3, .inr (.inr ⟨ev, rfl, h1, ?_⟩)⟩
      have hst' : m.waits <:+ ws0 := hst
      rw [h1] at hst'
      exact (List.suffix_cons ev m'.waits).trans hst'
  rw [← hP]
  clear hm hks hk hcx hB hC hst hnx hK hlt hf hg hh of og oh hmW hlW hxW hbd hsat hP ef1 ef2 ef3
  go_enter Tryz.func80, Tryz.ntmps80
  go_upto_region 1 with fail
  refine wp_region_leftP (fun W : World => W.cell? ⟨bf, 0, none⟩ = some (.int .i64 kf) ∧ W.cell? ⟨bg, 0, none⟩ = some (.int .i64 kg) ∧ W.cell? ⟨bh, 0, none⟩ = some (.int .i64 kh)) (fun ch w' => P (.panicked ch) w') 12 (fun c a w hd h => ⟨hd, h⟩) (by kernel_rfl) ⟨df, dg, dh⟩ ?_
  refine left_readEP 0 rfl rfl (by kernel_rfl) ?_
  apply Exists.intro
  refine ⟨fun w' hw => ?_, ?_⟩
  · obtain ⟨q1, q2, q3⟩ := hw
    go_simp
    rfl
  simp only [Act.put, List.setIfInBounds_toArray, List.set_cons_zero, List.set_cons_succ]
  refine left_readEP 1 rfl rfl (by kernel_rfl) ?_
  apply Exists.intro
  refine ⟨fun w' hw => ?_, ?_⟩
  · obtain ⟨q1, q2, q3⟩ := hw
    go_simp
    rfl
  simp only [Act.put, List.setIfInBounds_toArray, List.set_cons_zero, List.set_cons_succ]
  refine left_readEP 2 rfl rfl (by kernel_rfl) ?_
  apply Exists.intro
  refine ⟨fun w' hw => ?_, ?_⟩
  · obtain ⟨q1, q2, q3⟩ := hw
    go_simp
    rfl
  simp only [Act.put, List.setIfInBounds_toArray, List.set_cons_zero, List.set_cons_succ]
  refine left_readEP 4 rfl rfl (by kernel_rfl) ?_
  apply Exists.intro
  refine ⟨fun w' hw => ?_, ?_⟩
  · obtain ⟨q1, q2, q3⟩ := hw
    go_simp
    rfl
  simp only [Act.put, List.setIfInBounds_toArray, List.set_cons_zero, List.set_cons_succ]
  refine left_readEP 5 rfl rfl (by kernel_rfl) ?_
  apply Exists.intro
  refine ⟨fun w' hw => ?_, ?_⟩
  · obtain ⟨q1, q2, q3⟩ := hw
    go_simp
    rfl
  simp only [Act.put, List.setIfInBounds_toArray, List.set_cons_zero, List.set_cons_succ]
  refine left_readEP 7 rfl rfl (by kernel_rfl) ?_
  apply Exists.intro
  refine ⟨fun w' hw => ?_, ?_⟩
  · obtain ⟨q1, q2, q3⟩ := hw
    go_simp
    rfl
  simp only [Act.put, List.setIfInBounds_toArray, List.set_cons_zero, List.set_cons_succ]
  refine left_readEP 8 rfl rfl (by kernel_rfl) ?_
  apply Exists.intro
  refine ⟨fun w' hw => ?_, ?_⟩
  · obtain ⟨q1, q2, q3⟩ := hw
    go_simp
    rfl
  simp only [Act.put, List.setIfInBounds_toArray, List.set_cons_zero, List.set_cons_succ]
  refine left_altsP [3] (by kernel_rfl) (fun i hi hS o ho => ?_)
  simp only [List.mem_cons, List.not_mem_nil, or_false] at hi
  subst hi
  simp only [List.getElem?_cons_zero, List.getElem?_cons_succ, Option.some.injEq] at ho
  subst ho
  refine ⟨rfl, ?_⟩
  refine oper_call (v := .int .i64 (f : Nat)) (R := fun w' => W.drew = w') (by go_simp) HEF.out ?_
  rintro w' rfl
  refine ⟨⟨df, dg, dh⟩, ?_⟩
  simp only [Act.put, List.setIfInBounds_toArray, List.set_cons_zero, List.set_cons_succ]
  refine left_altsP [6] (by kernel_rfl) (fun i hi hS o ho => ?_)
  simp only [List.mem_cons, List.not_mem_nil, or_false] at hi
  subst hi
  simp only [List.getElem?_cons_zero, List.getElem?_cons_succ, Option.some.injEq] at ho
  subst ho
  refine ⟨rfl, ?_⟩
  refine oper_call (v := .int .i64 (g : Nat)) (R := fun w' => W.drew = w') (by go_simp) HEG.out ?_
  rintro w' rfl
  refine ⟨⟨df, dg, dh⟩, ?_⟩
  simp only [Act.put, List.setIfInBounds_toArray, List.set_cons_zero, List.set_cons_succ]
  refine left_altsP [9] (by kernel_rfl) (fun i hi hS o ho => ?_)
  simp only [List.mem_cons, List.not_mem_nil, or_false] at hi
  subst hi
  simp only [List.getElem?_cons_zero, List.getElem?_cons_succ, Option.some.injEq] at ho
  subst ho
  refine ⟨rfl, ?_⟩
  refine oper_call (v := .int .i64 (h : Nat)) (R := fun w' => W.drew = w') (by go_simp) HEH.out ?_
  rintro w' rfl
  refine ⟨⟨df, dg, dh⟩, ?_⟩
  simp only [Act.put, List.setIfInBounds_toArray, List.set_cons_zero, List.set_cons_succ]
  refine left_altsP [10] (by kernel_rfl) (fun i hi hS o ho => ?_)
  simp only [List.mem_cons, List.not_mem_nil, or_false] at hi
  subst hi
  simp only [List.getElem?_cons_zero, List.getElem?_cons_succ, Option.some.injEq] at ho
  subst ho
  refine ⟨rfl, ?_⟩
  refine oper_callP (R := fun v w' => (w'.cell? ⟨bf, 0, none⟩ = some (.int .i64 kf) ∧ w'.cell? ⟨bg, 0, none⟩ = some (.int .i64 kg) ∧ w'.cell? ⟨bh, 0, none⟩ = some (.int .i64 kh)) ∧ P (.returned v) w') (R2 := fun ch w' => P (.panicked ch) w') (by go_simp) (HITE.out.mono HFIN.out) ?_ ?_
  · rintro v w' ⟨hS, hst⟩
    refine ⟨hS, ?_⟩
    have HST := Lib.hid hst
    clear hst
    simp only [Act.put, List.setIfInBounds_toArray, List.set_cons_zero, List.set_cons_succ]
    refine left_readEP 11 rfl rfl (by kernel_rfl) ?_
    apply Exists.intro
    refine ⟨fun w' hw => ?_, ?_⟩
    · go_simp
      rfl
    simp only [Act.put, List.setIfInBounds_toArray, List.set_cons_zero, List.set_cons_succ]
    refine left_endP (by kernel_rfl) ?_
    clear hS df dg dh
    go_wp2_with fail
    exact HST.out
  · intro ch w' hst
    exact ⟨rfl, hst⟩
abbrev C1 (b : Nat) : Nat → Prop := fun k => k = b
structure B1 (b : Nat) (v : Int) (W : World) : Prop where
  c : W.cell? ⟨b, 0, none⟩ = some (.int .i64 v)
theorem B1.keep {b : Nat} {v : Int} (W W' : World) (h : B1 b v W) (hk : ∀ c, C1 b c → W'.heap[c]? = W.heap[c]?) : B1 b v W' := ⟨(World.cell?_of_block (w := W) (a := ⟨b, 0, none⟩) (hk _ rfl)).trans h.c⟩
set_option maxRecDepth 100000 in
theorem var1_gen {K : Law} (hK : LawOK K) {n room : Nat} {w0 : World} {mb : Nat} {fs : List (Int × BF)} {nx : Int} (ws0 : List Ev) (v vb : Nat) (hv : v < n) :
    OpG K n room w0 mb fs nx (C1 vb) (B1 vb v) (SuffOf ws0) 78 #[.pointer (some ⟨vb, 0, none⟩)] (QF ws0 (varF v)) (EF (SatX K n room w0 mb fs nx) 1 ws0) := by
  intro o W m V xb hsat hB hC hst hx hnx
  have hk := hsat.ok
  have hlt := hsat.lt
  have hks := hk.store
  have o0 : okE (nodesOf m.d) 0 := .inl rfl
  have o1 : okE (nodesOf m.d) 1 := .inl rfl
  have hl0 : lvE m.d.vars.length (levN m.d) (nodesOf m.d) 0 = m.d.vars.length := lvE_const hks rfl
  have hl1 : lvE m.d.vars.length (levN m.d) (nodesOf m.d) 1 = m.d.vars.length := lvE_const hks rfl
  have hvl : v < m.d.vars.length := by rw [hsat.vars]; exact hv
  have hlv := hks.dag.lt v hvl
  have HMK := Lib.hid (ctxMk_any hK hsat.is hlt hx hks v 1 0 o1 o0)
  have cvb := hB.c
  have ob := (hC vb rfl).2
  obtain ⟨P, hP⟩ : ∃ P : Ending → World → Prop, P = fun e w' => ∃ (o' : Own) (m' : ManD) (V' : Nat → BF), StepX (C1 vb) K o W mb m V o' w' m' V' ∧ B1 vb v w' ∧
      ((∃ r : Nat, e = .returned (.int .i64 r) ∧ okE (nodesOf m'.d) r ∧ QF ws0 (varF v) m' V' r) ∨
       (∃ er : Int, e = stopP er false ev0 ∧ er ≠ 0 ∧ m'.waits = m.waits ∧ SuffOf ws0 m'.waits m'.calls ∧ EF (SatX K n room w0 mb fs nx) 1 ws0 er m m') ∨
       (∃ ev, e = stopP 0 true ev ∧ m.waits = ev :: m'.waits ∧ SuffOf ws0 m'.waits m'.calls)) := ⟨_, rfl⟩
  have HFIN : Hid (∀ e w', CtxMkPost K o W mb m V v 1 0 e w' → (∃ r : Nat, e = .returned (.int .i64 r) ∧ P (.returned (.int .i64 r)) w') ∨ (∃ er evt ev, e = stopP er evt ev ∧ P (stopP er evt ev) w')) := by
    refine Lib.hid ?_
    subst hP
    rintro e w' ⟨o', m', V', st, hcase⟩
    have hb1 : B1 vb v w' := ⟨st.chg.cell cvb ob⟩
    have stx : StepX (C1 vb) K o W mb m V o' w' m' V' := st.toX _
    rcases hcase with ⟨ev, h1, _, _, _, _, rfl⟩ | ⟨h1, _, _, (⟨er, her, hd, _, rfl⟩ | ⟨_, _, r, rfl, h2, h3, _, h5⟩)⟩
    · refine .inr ⟨0, true, ev, rfl, o', m', V', stx, hb1, .inr (.inr ⟨ev, rfl, h1, ?_⟩)⟩
      have hst' : m.waits <:+ ws0 := hst
      rw [h1] at hst'
      exact (List.suffix_cons ev m'.waits).trans hst'
    · refine .inr ⟨er, false, ev0, rfl, o', m', V', stx, hb1, .inr (.inl ?_)⟩
      rcases her with ⟨_, h⟩ | ⟨_, _, _, h⟩ | ⟨rfl, h⟩
      · exact (h ⟨by omega, by omega⟩).elim
      · simp only [Int.toNat_natCast] at h; omega
      · exact ⟨7, rfl, by omega, h1, by rw [h1]; exact hst, rfl, ⟨_, _, _, hsat⟩, by rw [hd]; exact h, by rw [hd]; omega, by rw [h1]; exact hst⟩
    · refine .inl ⟨r, rfl, o', m', V', stx, hb1, .inl ⟨r, rfl, h2, ?_, by rw [h1]; exact hst⟩⟩
      rw [h3]
      funext ρ
      have a0 := ef_zero hks.dag.one ρ
      have a1 := ef_one hks.dag.one ρ
      simp only [iteF, varF, Int.toNat_natCast, a0, a1]
      cases ρ v <;> rfl
  rw [← hP]
  clear hks o0 o1 hl0 hl1 hlv hvl hk hx hC hK hv hlt hB hnx hst hP ob hsat
  go_enter Tryz.func78, Tryz.ntmps78
  go_wp2_with fail
  refine HMK.out.mono ?_
  intro e w' hp
  rcases HFIN.out e w' hp with ⟨r, rfl, hst⟩ | ⟨er, evt, ev, rfl, hst⟩
  · have HST := Lib.hid hst
    clear hp hst
    go_wp2_with fail
    exact HST.out
  · have HST := Lib.hid hst
    clear hp hst
    unfold stopP
    go_wp2_with fail
    exact ⟨rfl, HST.out⟩
/-- What an operation of the manager's leaves: a new handle of F, or ErrRoom. -/
def OpLeft (K : Law) (n room : Nat) (w0 : World) (mb : Nat) (fs : List (Int × BF)) (nx : Int) (ws0 : List Ev) (k : Nat) (F : BF) (o : Own) (w : World) (x : Ending) (w' : World) : Prop :=
  ∃ o' m' V', ChgX NoB o o' w w' ∧ m'.waits <:+ ws0 ∧ ((x = .returned (.tuple #[.int .i64 nx, .int .i64 0]) ∧ SatE K n room w0 mb (fs ++ [(nx, F)]) (nx + 1) w' o' m' V') ∨
    (x = .returned (.tuple #[.int .i64 0, .int .i64 7]) ∧ SatE K n room w0 mb fs nx w' o' m' V' ∧ ∃ m0, SatX K n room w0 mb fs nx m0 ∧ m0.d.dead = 0 ∧ room + 1 ≤ m0.d.pool.many + k))
theorem opLeft_of {K : Law} {n room : Nat} {w0 : World} {mb : Nat} {fs : List (Int × BF)} {nx : Int} {ws0 : List Ev} {k : Nat} {F : BF} {o : Own} {w w1 w' : World} {C : Nat → Prop} {B : World → Prop} {x : Ending} (hb : Below w.heap.size w w1) (hC : ∀ c, C c → w.heap.size ≤ c)
    (h : DoPost K n room w0 mb fs nx C B (QF ws0 F) (EF (SatX K n room w0 mb fs nx) k ws0) o w1 x w') : OpLeft K n room w0 mb fs nx ws0 k F o w x w' := by
  obtain ⟨o', m', V', _, hc, hcase⟩ := h
  have hc' : ChgX NoB o o' w w' := (ChgX.of_below hb o NoB).trans hc (fun k hk e => by have := hC k e; omega)
  rcases hcase with ⟨r, m1, rfl, hs, ⟨q1, q2⟩, _, _, _, _, _, q3, _⟩ | ⟨er, m0, _, rfl, hs, ⟨rfl, hm0, h1, h2, h3⟩, h7⟩
  · exact ⟨o', m', V', hc', by rw [q3]; exact q2, .inl ⟨rfl, by rw [← q1]; exact hs⟩⟩
  · refine ⟨o', m', V', hc', h3, .inr ⟨rfl, hs, m0, hm0, h7 rfl, ?_⟩⟩
    have := hs.room
    omega
set_option maxRecDepth 100000 in
set_option maxHeartbeats 1000000 in
theorem manIte_gen {K : Law} (hK : LawOK K) {n room : Nat} {w0 : World} {mb : Nat} {fs : List (Int × BF)} {nx : Int} {w : World} {o : Own} {m : ManD} {V : Nat → BF} (h : SatE K n room w0 mb fs nx w o m V) (ws0 : List Ev) (hws : m.waits <:+ ws0) (hhap : ∀ ev ∈ ws0, HapG K n room w0 mb fs nx ev) (hn : nx < 1099511627776)
    {kf kg kh : Int} {F G H : BF} (hf : (kf, F) ∈ fs) (hg : (kg, G) ∈ fs) (hh : (kh, H) ∈ fs) :
    Calls Tryz.prog 18 #[.pointer (some ⟨mb, 0, none⟩), .int .i64 kf, .int .i64 kg, .int .i64 kh] w (OpLeft K n room w0 mb fs nx ws0 (2 ^ n - 1) (iteFn F G H) o w) := by
  have hmf : ∀ (fn : Fn) (first cap : Array Value) (w : World), (Instr.makeFunc fn first cap).run Tryz.prog w = .ok (.func fn first cap) w := fun _ _ _ _ => rfl
  obtain ⟨hb, cf, cg, ch⟩ := box3_ok kf kg kh w
  have hw0 := h.chg.size
  have hz : (box3 kf kg kh w).heap.size = w.heap.size + 3 := by simp [box3]
  have HDO : Hid (Calls Tryz.prog 24 #[.pointer (some ⟨mb, 0, none⟩), .func (.func 80) #[] #[.pointer (some ⟨w.heap.size, 0, none⟩), .pointer (some ⟨w.heap.size + 1, 0, none⟩), .pointer (some ⟨w.heap.size + 1 + 1, 0, none⟩)]] (box3 kf kg kh w) (OpLeft K n room w0 mb fs nx ws0 (2 ^ n - 1) (iteFn F G H) o w)) := by
    refine Lib.hid ?_
    refine (do_gen hK B3.keep ?_ enters_ite1 (ite1_gen hK ws0 w.heap.size (w.heap.size + 1) (w.heap.size + 1 + 1) hf hg hh) (h.below hb) ⟨cf, cg, ch⟩ ?_ hws (fun ev he => hhap ev (hws.subset he)) hn).mono fun x w' hp => opLeft_of hb ?_ hp
    · rintro c (rfl | rfl | rfl) <;> omega
    · rintro c (rfl | rfl | rfl) <;> exact ⟨by omega, h.lt.none (by omega)⟩
    · rintro c (rfl | rfl | rfl) <;> omega
  have HW : Hid (_ = box3 kf kg kh w) := Lib.hid (show ((w.alloc (.cells #[.int .i64 kf] 3)).alloc (.cells #[.int .i64 kg] 3)).alloc (.cells #[.int .i64 kh] 3) = box3 kf kg kh w from rfl)
  clear h hK hws hhap hn hf hg hh hb cf cg ch hw0 hz
  obtain ⟨P, hP⟩ : ∃ P, P = OpLeft K n room w0 mb fs nx ws0 (2 ^ n - 1) (iteFn F G H) o w := ⟨_, rfl⟩
  rw [← hP] at HDO ⊢
  have HT : Hid (∀ x w', P x w' → ∃ a b, x = .returned (.tuple #[.int .i64 a, .int .i64 b])) := by
    refine Lib.hid ?_
    subst hP
    rintro x w' ⟨_, _, _, _, _, (⟨rfl, _⟩ | ⟨rfl, _⟩)⟩
    · exact ⟨_, _, rfl⟩
    · exact ⟨_, _, rfl⟩
  clear hP
  go_enter Tryz.func18, Tryz.ntmps18
  go_wp2_with fail
  rw [HW.out]
  refine HDO.out.mono ?_
  intro x w' hd
  obtain ⟨a, b, rfl⟩ := HT.out x w' hd
  have HD := Lib.hid hd
  clear hd
  go_wp2_with fail
  exact HD.out
set_option maxRecDepth 100000 in
set_option maxHeartbeats 1000000 in
theorem manVar_gen {K : Law} (hK : LawOK K) {n room : Nat} {w0 : World} {mb : Nat} {fs : List (Int × BF)} {nx : Int} {w : World} {o : Own} {m : ManD} {V : Nat → BF} (h : SatE K n room w0 mb fs nx w o m V) (ws0 : List Ev) (hws : m.waits <:+ ws0) (hhap : ∀ ev ∈ ws0, HapG K n room w0 mb fs nx ev) (hn : nx < 1099511627776)
    (v : Nat) (hv : v < n) :
    Calls Tryz.prog 15 #[.pointer (some ⟨mb, 0, none⟩), .int .i64 v] w (OpLeft K n room w0 mb fs nx ws0 1 (varF v) o w) := by
  have hmf : ∀ (fn : Fn) (first cap : Array Value) (w : World), (Instr.makeFunc fn first cap).run Tryz.prog w = .ok (.func fn first cap) w := fun _ _ _ _ => rfl
  obtain ⟨w1, hw1⟩ : ∃ w1, w1 = w.alloc (.cells #[.int .i64 (v : Nat)] 3) := ⟨_, rfl⟩
  have hb1 : Below w.heap.size w w1 := by rw [hw1]; exact below_new1 w _
  have hvb : w1.heap[w.heap.size]? = some (.cells #[.int .i64 (v : Nat)] 3 (0, 0)) := by rw [hw1]; exact heap_alloc_new w _
  have cvb : w1.cell? ⟨w.heap.size, 0, none⟩ = some (.int .i64 (v : Nat)) := cell1 hvb
  have hz1 : w1.heap.size = w.heap.size + 1 := by rw [hw1]; simp
  have hw0 := h.chg.size
  obtain ⟨s, hms⟩ := h.is
  have hm1 := hms.below h.lt hb1
  obtain ⟨c0, c1, c2, c3, c4, c5, f0⟩ := cells6 hm1.blk
  obtain ⟨ss, hss⟩ := hm1.store
  have hlz : levelZ m.d v = (levN m.d v : Nat) := levelZ_of (by rw [hss.len, h.vars]; exact hv)
  have HLV : Hid (∀ n, Calls Tryz.prog 77 #[.pointer (some ⟨s.sb, 0, none⟩), .int .i64 (v : Nat)] (w1.drewN n) fun x w' => x = .returned (.int .i64 (levN m.d v : Nat)) ∧ w1.drewN n = w') := by
    refine Lib.hid fun n => ?_
    have := storeLevelZ (hss.below (h.lt.mono hb1.size) (below_draw w1 n)) v (by rw [hss.len]; have := h.ok.store.small; omega)
    rw [hlz] at this; exact this
  obtain ⟨P, hP⟩ : ∃ P, P = OpLeft K n room w0 mb fs nx ws0 1 (varF v) o w := ⟨_, rfl⟩
  have HDO : Hid (∀ q, Calls Tryz.prog 24 #[.pointer (some ⟨mb, 0, none⟩), .func (.func 78) #[] #[.pointer (some ⟨w.heap.size, 0, none⟩)]] (w1.drewN q) P) := by
    refine Lib.hid fun q => ?_
    rw [hP]
    have hb2 : Below w.heap.size w (w1.drewN q) := hb1.trans ((below_draw w1 q).mono hb1.size)
    refine (do_gen hK B1.keep ?_ enters_var1 (var1_gen hK ws0 v w.heap.size hv) (h.below hb2) ⟨cvb⟩ ?_ hws (fun ev he => hhap ev (hws.subset he)) hn).mono fun x w' hp => opLeft_of hb2 ?_ hp
    · rintro c rfl; omega
    · rintro c rfl; exact ⟨by have := hb2.size; show w.heap.size < w1.heap.size; omega, h.lt.none (by omega)⟩
    · rintro c rfl; omega
  have HT : Hid (∀ x w', P x w' → ∃ a b, x = .returned (.tuple #[.int .i64 a, .int .i64 b])) := by
    refine Lib.hid ?_
    rw [hP]
    rintro x w' ⟨_, _, _, _, _, (⟨rfl, _⟩ | ⟨rfl, _⟩)⟩
    · exact ⟨_, _, rfl⟩
    · exact ⟨_, _, rfl⟩
  rw [← hP]
  have HW : Hid (w.alloc (.cells #[.int .i64 (v : Nat)] 3) = w1) := Lib.hid hw1.symm
  clear hm1 hss hlz hms hb1 hvb hw1 hK hn hv hws hhap h hw0 hz1 hP
  go_enter Tryz.func15, Tryz.ntmps15
  go_upto_region 3 with fail
  rw [HW.out]
  go_quiet (with_reducible exact quiet_of_eq (HLV.out _))
  go_wp2_with fail
  refine (HDO.out _).mono ?_
  intro x w' hd
  obtain ⟨a, b, rfl⟩ := HT.out x w' hd
  have HD := Lib.hid hd
  clear hd
  go_wp2_with fail
  exact HD.out
end Go.Proofs.YtchliiaknmknhaaGreat

-- Cells
namespace Go.Proofs.YtchliiaknmknhaaGreat
open Go.RowKit

/-- A slice type of one-cell elements. -/
structure ElemT (T ST : TypeId) (z : Value) (b : Nat) : Prop where
  under : Tryz.prog.underlying ST = some (.slice T)
  info : (Tryz.prog.info? T).map (fun i => (i.zero, i.size, i.bytes)) = some (some z, 1, b)
  one : z.cells = #[z]
  small : b ≤ 100
theorem elemInt : ElemT 3 22 (.int .i64 0) 8 := ⟨Tryz.underlying22, by kernel_rfl, rfl, by omega⟩
theorem elemBool : ElemT 4 36 (.bool false) 1 := ⟨Tryz.underlying36, by kernel_rfl, rfl, by omega⟩
theorem elemRow : ElemT 36 33 (.slice none 0 0) 24 := ⟨Tryz.underlying33, by kernel_rfl, rfl, by omega⟩

/-- A row that the call made: its elements are the values xs. -/
def OwnC (T : TypeId) (w : World) (base : Nat) (v : Value) (xs : List Value) : Prop := w.ownsRow base T 1 v xs.length xs
section
variable {T ST : TypeId} {z : Value} {b : Nat} {w w' : World} {base : Nat} {v : Value} {xs : List Value}
theorem OwnC.alloc (h : OwnC T w base v xs) (o : Obj) : OwnC T (w.alloc o) base v xs := World.ownsRow.alloc h o
theorem OwnC.drewN (h : OwnC T w base v xs) (n : Nat) : OwnC T (w.drewN n) base v xs := h
theorem OwnC.lt (h : OwnC T w base v xs) : ∀ k, v.ownBlock = some k → base ≤ k ∧ k < w.heap.size := World.ownsRow.lt h
theorem OwnC.keep {row : Option Nat} (h : OwnC T w base v xs) (hk : KeepBut row w w') (hne : ∀ k, v.ownBlock = some k → some k ≠ row) : OwnC T w' base v xs := by
  refine ⟨h.1, ?_⟩
  rcases h.2 with hn | ⟨g, cap, cur, rfl, hb, hgg, rest⟩
  · exact .inl hn
  · refine .inr ⟨g, cap, cur, rfl, hb, ?_, rest⟩
    rw [hk g (Array.getElem?_eq_some_iff.1 hgg).1 (hne g rfl)]
    exact hgg
theorem OwnC.same (h : OwnC T w base v xs) (hk : ∀ k, v.ownBlock = some k → w'.heap[k]? = w.heap[k]?) : OwnC T w' base v xs := by
  refine ⟨h.1, ?_⟩
  rcases h.2 with hn | ⟨g, cap, cur, rfl, hb, hgg, rest⟩
  · exact .inl hn
  · refine .inr ⟨g, cap, cur, rfl, hb, ?_, rest⟩
    rw [hk g rfl]; exact hgg
theorem OwnC.below (h : OwnC T w base v xs) (hb : Below w.heap.size w w') : OwnC T w' base v xs := h.same fun k hk => hb.block k (h.lt k hk).2
theorem OwnC.shape (h : OwnC T w base v xs) (hp : 0 < xs.length) : ∃ g cap, v = .slice (some ⟨g, 0, none⟩) xs.length cap ∧ base ≤ g ∧ g < w.heap.size := by
  rcases h.2 with ⟨_, h0⟩ | ⟨g, cap, cur, hv, hg, hh, _⟩
  · omega
  · exact ⟨g, cap, hv, hg, (Array.getElem?_eq_some_iff.1 hh).1⟩
theorem OwnC.slice (h : OwnC T w base v xs) : ∃ a cap, v = .slice a xs.length cap ∧ (a = none → cap = 0) := by
  rcases h.2 with ⟨hv, h0⟩ | ⟨g, cap, cur, hv, hg, hh, _⟩
  · exact ⟨none, 0, by rw [hv, h0], fun _ => rfl⟩
  · exact ⟨_, cap, hv, by simp⟩
theorem OwnC.cell {g cap n : Nat} (h : OwnC T w base (.slice (some ⟨g, 0, none⟩) n cap) xs) (k : Nat) (hk : k < xs.length) : w.cell? ⟨g, k, none⟩ = xs[k]? := by
  have hn : n = xs.length := by
    rcases h.2 with ⟨hv, _⟩ | ⟨_, _, _, hv, _⟩
    · cases hv
    · cases hv; rfl
  subst hn
  exact World.ownsRow.cellAt h k (by omega)
theorem OwnC.frozen {g cap n : Nat} (h : OwnC T w base (.slice (some ⟨g, 0, none⟩) n cap) xs) (k : Nat) : w.frozen? ⟨g, k, none⟩ = false := by
  rcases h.2 with ⟨hv, _⟩ | ⟨_, _, _, hv, _⟩
  · cases hv
  · cases hv; exact World.ownsRow.frozenAt h k
theorem OwnC.stored {g cap n : Nat} (h : OwnC T w base (.slice (some ⟨g, 0, none⟩) n cap) xs) (k : Nat) (y : Value) : OwnC T (w.setCell ⟨g, k, none⟩ y) base (.slice (some ⟨g, 0, none⟩) n cap) (xs.set k y) := by
  rcases h.2 with ⟨hv, _⟩ | ⟨_, _, _, hv, _⟩
  · cases hv
  · cases hv
    have := (World.ownsRow.stored h k y).1
    unfold OwnC
    rw [List.length_set]
    exact this
theorem OwnC.typed (h : OwnC T w base v xs) : ∀ k, v.ownBlock = some k → ∃ cur, w.heap[k]? = some (.cells cur T (0, 0)) := by
  intro k hk
  rcases h.2 with ⟨rfl, _⟩ | ⟨g, cap, cur, rfl, _, hg, _⟩
  · cases hk
  · cases hk; exact ⟨cur, hg⟩
theorem ownC_new (T : TypeId) (w : World) (base : Nat) (hb : base ≤ w.heap.size) : OwnC T (w.alloc (.cells #[] T)) base (.slice (some ⟨w.heap.size, 0, none⟩) 0 0) [] :=
  World.ownsRow_made w #[] 0 hb (by unfold maxLen; omega) (by simp)
theorem ownC_nil (T : TypeId) (w : World) (base : Nat) : OwnC T w base (.slice none 0 0) [] := World.ownsRow_nil w base T 1
/-- 'append(s, y)': the row moves or grows. -/
theorem wpList_appC (E : ElemT T ST z b) (wr : World) {ops : Array Oper} {rest : List Oper} {o : Oper} {a : Act} {Q : Exit → Act → World → Prop} {W : World} (hgd : o.guard = none) (s x : Operand)
    (ho : o.op = .call { callee := .builtin .append, args := #[s, x], argTypes := #[ST, ST] })
    (base : Nat) (v : Value) (xs : List Value) (y : Value) (hs : a.eval s = v) {N : Nat} (hx : a.eval x = .slice (some ⟨N, 0, none⟩) 1 1)
    (hW : W = wr.alloc (.cells #[y] T)) (hN : N = wr.heap.size) (hy : y.oneCell' = true)
    (hown : OwnC T wr base v xs) (hlen : xs.length < 1099511627776) (hbase : base ≤ wr.heap.size)
    (h : ∀ v' w', OwnC T w' base v' (xs ++ [y]) → w'.os = wr.os → w'.tape = wr.tape → w'.output = wr.output → wr.heap.size ≤ w'.heap.size → KeepApp v v' wr w' → wpList Tryz.prog ops Q rest (a.put o.dst v') w') :
    wpList Tryz.prog ops Q (o :: rest) a W := by
  obtain ⟨i, hi, hz, hsz, hby⟩ := info_parts E.info
  subst hN; subst hW
  have hsm := E.small
  refine wpList_append_own_at (w := wr.alloc (.cells #[y] T)) hgd s x ST ho base T i z 1 b E.under hi hz hsz hby (by rw [E.one]; rfl) (by decide)
    v xs.length xs hs (hown.alloc _) ⟨wr.heap.size, 0, none⟩ 1 1 [y] hx rfl (cell_one_new _ _ _) (by intro u hu; simp at hu; subst hu; exact hy) (by unfold maxLen; omega) (by
      have h1 : (xs.length + 1) * b ≤ 1099511627776 * 100 := Nat.mul_le_mul (by omega) hsm
      omega) (by simp; omega) ?_
  intro v' w' h1 h2 _ hloc
  refine h v' w' ?_ h2.os h2.tape h2.output ?_ ⟨keepBut_of_grown h2, hloc.imp id fun e => ⟨_, e, by simp⟩⟩
  · unfold OwnC
    rw [List.length_append]; exact h1
  · have := h2.size; simp at this; omega
theorem below_app {w0 wr w' : World} {v' : Value} (hb : Below base w0 wr) (hown : OwnC T wr base v xs) (h1 : w'.os = wr.os) (h2 : w'.tape = wr.tape) (h3 : w'.output = wr.output) (h4 : wr.heap.size ≤ w'.heap.size) (hk : KeepApp v v' wr w') (hbase : base ≤ wr.heap.size) : Below base w0 w' :=
  ⟨h1.trans hb.os, h2.trans hb.tape, h3.trans hb.output, Nat.le_trans hb.size h4, fun k hkb => (hk.keep k (by omega) (fun e => by have := (hown.lt k e.symm).1; omega)).trans (hb.block k hkb)⟩
/-- 'make([]T, n)'. -/
theorem wpList_makeC (E : ElemT T ST z b) {ops : Array Oper} {rest : List Oper} {o : Oper} {a : Act} {Q : Exit → Act → World → Prop} {wr : World} (hgd : o.guard = none) (l c : Operand)
    (ho : o.op = .makeSlice ST l c) (base : Nat) (w0 : World) (L : Int) (n : Nat) (hl : a.eval l = .int .i64 L) (hc : a.eval c = .int .i64 L) (hL : L = n) (hn : n < 1099511627776)
    (hbase : base ≤ wr.heap.size) (hb : Below base w0 wr)
    (h : ∀ g w', OwnC T w' base (.slice (some ⟨g, 0, none⟩) n n) (List.replicate n z) → Below base w0 w' → base ≤ w'.heap.size → KeepBut none wr w' → base ≤ g → g = wr.heap.size →
      wpList Tryz.prog ops Q rest (a.put o.dst (.slice (some ⟨g, 0, none⟩) n n)) w') :
    wpList Tryz.prog ops Q (o :: rest) a wr := by
  obtain ⟨i, hi, hz, hsz, hby⟩ := info_parts E.info
  have hsm := E.small
  refine wpList_make_full wr hgd l c ST ho base T i z 1 E.under hi hz hsz .i64 .i64 L L n hl hc hL hL (by
    have h1 : i.bytes * n ≤ 100 * 1099511627776 := Nat.mul_le_mul (by omega) (by omega)
    omega) (by unfold maxLen; omega) hbase ?_
  intro w' h1 h2
  refine h wr.heap.size w' ?_ (hb.grown h2 hbase (by simp)) (by have := h2.size; omega) (keepBut_of_grown0 h2) hbase rfl
  unfold OwnC
  have e1 : List.replicate n z = (madeCells z.cells (n * 1)).toList := by
    rw [E.one]
    simp [madeCells]
    apply List.ext_getElem
    · simp
    · intro j h3 h4; simp [Nat.mod_one]
  rw [List.length_replicate, e1]; exact h1
end
/-- The booleans of a row. -/
def boolsV (bs : List Bool) : List Value := bs.map Value.bool
theorem boolsV_length (bs : List Bool) : (boolsV bs).length = bs.length := by simp [boolsV]
theorem getElem?_boolsV {bs : List Bool} {k : Nat} (h : k < bs.length) : (boolsV bs)[k]? = some (.bool (bs.getD k false)) := by
  simp [boolsV, List.getD, h]
abbrev OwnB (w : World) (base : Nat) (v : Value) (bs : List Bool) : Prop := OwnC 4 w base v (boolsV bs)
/-- A value that is a slice of booleans. -/
def BoolsIs (w : World) (v : Value) (bs : List Bool) : Prop := ∃ a c, v = .slice a bs.length c ∧ BoolsAt w a bs ∧ (a = none → c = 0)
theorem BoolsIs.below {w w' : World} {v : Value} {bs : List Bool} (h : BoolsIs w v bs) (hb : Below w.heap.size w w') : BoolsIs w' v bs := by
  obtain ⟨a, c, rfl, h1, h2⟩ := h
  exact ⟨a, c, rfl, h1.below hb, h2⟩
theorem BoolsIs.same {w w' : World} {v : Value} {bs : List Bool} (h : BoolsIs w v bs) (hk : ∀ k, v.ownBlock = some k → w'.heap[k]? = w.heap[k]?) : BoolsIs w' v bs := by
  obtain ⟨a, c, rfl, h1, h2⟩ := h
  refine ⟨a, c, rfl, ⟨h1.len, fun k hlt => ?_⟩, h2⟩
  obtain ⟨g, off, rfl, hc⟩ := h1.cells k hlt
  exact ⟨g, off, rfl, (World.cell?_of_block (w := w) (a := ⟨g, off + k, none⟩) (hk g rfl)).trans hc⟩
theorem OwnC.boolsIs {w : World} {base : Nat} {v : Value} {bs : List Bool} (h : OwnB w base v bs) (hl : bs.length ≤ 1000000) : BoolsIs w v bs := by
  obtain ⟨a, c, hv, hn⟩ := h.slice
  have hv0 := hv
  rw [boolsV_length] at hv0
  refine ⟨a, c, hv0, ⟨hl, fun k hk => ?_⟩, hn⟩
  obtain ⟨g, cap, hv2, hb, hg⟩ := h.shape (by rw [boolsV_length]; omega)
  have ea : a = some ⟨g, 0, none⟩ := by rw [hv] at hv2; injection hv2
  subst ea
  refine ⟨g, 0, rfl, ?_⟩
  subst hv
  rw [Nat.zero_add, h.cell k (by rw [boolsV_length]; exact hk), getElem?_boolsV hk]
theorem OwnC.setB {w : World} {base g cap n : Nat} {bs : List Bool} (h : OwnB w base (.slice (some ⟨g, 0, none⟩) n cap) bs) (k : Nat) (y : Bool) : OwnB (w.setCell ⟨g, k, none⟩ (.bool y)) base (.slice (some ⟨g, 0, none⟩) n cap) (bs.set k y) := by
  have := h.stored k (.bool y)
  unfold OwnB
  rw [show boolsV (bs.set k y) = (boolsV bs).set k (.bool y) by simp [boolsV, List.map_set]]
  exact this
theorem OwnC.cellB {w : World} {base g cap n : Nat} {bs : List Bool} (h : OwnB w base (.slice (some ⟨g, 0, none⟩) n cap) bs) (k : Nat) (hk : k < bs.length) : w.cell? ⟨g, k, none⟩ = some (.bool (bs.getD k false)) := by
  rw [h.cell k (by rw [boolsV_length]; exact hk), getElem?_boolsV hk]
end Go.Proofs.YtchliiaknmknhaaGreat

-- Ref13
namespace Go.Proofs.YtchliiaknmknhaaGreat
open Go.RowKit

/-- The value of variable v in the assignment with number i. -/
def bitB (i v : Nat) : Bool := decide (i / 2 ^ v % 2 = 1)
def bitsL (i n : Nat) : List Bool := (List.range n).map (bitB i)
/-- The truth table of a function of n variables. -/
def tabB (n : Nat) (F : BF) : List Bool := (List.range (2 ^ n)).map fun i => F (envOf (bitsL i n))
theorem bitsL_length (i n : Nat) : (bitsL i n).length = n := by simp [bitsL]
theorem tabB_length (n : Nat) (F : BF) : (tabB n F).length = 2 ^ n := by simp [tabB]
theorem tabB_get {n : Nat} {F : BF} {i : Nat} (hi : i < 2 ^ n) : (tabB n F).getD i false = F (envOf (bitsL i n)) := by simp [tabB, List.getD, hi]
theorem envOf_bits {i n v : Nat} : envOf (bitsL i n) v = (decide (v < n) && bitB i v) := by
  unfold envOf bitsL
  by_cases h : v < n
  · simp [List.getD, h]
  · simp [List.getD, h]
theorem tab_ext {bs : List Bool} {n : Nat} {F : BF} (hl : bs.length = 2 ^ n) (h : ∀ i, i < 2 ^ n → bs.getD i false = F (envOf (bitsL i n))) : bs = tabB n F := by
  refine List.ext_getElem (by rw [hl, tabB_length]) fun i h1 h2 => ?_
  have := h i (by omega)
  have e : (tabB n F).getD i false = F (envOf (bitsL i n)) := tabB_get (by omega)
  rw [← this] at e
  simpa [List.getD, h1, h2] using e.symm
theorem pow_small {k : Nat} (h : k ≤ 20) : 2 ^ k ≤ 1048576 := Nat.pow_le_pow_right (by omega) h
set_option maxRecDepth 100000 in
theorem bit_any (v : Nat) (hv : v ≤ 20) (w : World) : Calls Tryz.prog 98 #[.int .i64 v] w fun x w' => x = .returned (.int .i64 (2 ^ v : Nat)) ∧ w = w' := by
  have HS : Hid (∀ k, k ≤ v → 2 ^ k ≤ 1048576) := Lib.hid fun k hk => pow_small (by omega)
  go_enter Tryz.func98, Tryz.ntmps98
  go_wp2_with fail
  go_loopw [3, 4] (fun s3 s4 wr => ∃ k p : Nat, k ≤ v ∧ s3 = .int .i64 p ∧ s4 = .int .i64 k ∧ w = wr ∧ Hid (2 ^ k = p)) (fun _ s4 _ => v - (intOf s4).toNat)
  case atStart => exact ⟨0, 1, Nat.zero_le _, rfl, rfl, rfl, Lib.hid rfl⟩
  case round =>
    obtain ⟨k, p, hk, rfl, rfl, rfl, HP⟩ := hrel
    by_cases hlt : k < v
    · have hp : p ≤ 1048576 := by rw [← HP.out]; exact HS.out k hk
      go_wp2_with fail
      go_roundw
      case rel => exact ⟨k + 1, 2 * p, by omega, by go_num, by go_num, by simp, Lib.hid (by rw [Nat.pow_succ, HP.out]; omega)⟩
      case measure => simp [intOf]; omega
    · have he : k = v := by omega
      have HE : Hid (2 ^ v = p) := by rw [← he]; exact HP
      clear he
      go_wp2_with fail
      go_ret
      exact ⟨by rw [HE.out]; rfl, rfl⟩
set_option maxRecDepth 100000 in
theorem truth_any (i v : Nat) (hi : i ≤ 1048576) (hv : v ≤ 20) (w : World) : Calls Tryz.prog 79 #[.int .i64 i, .int .i64 v] w fun x w' => x = .returned (.bool (bitB i v)) ∧ w = w' := by
  have HB := Lib.hid (bit_any v hv w)
  have hpos : 0 < 2 ^ v := Nat.pow_pos (by omega)
  have hsm := pow_small hv
  obtain ⟨p, hp⟩ : ∃ p, p = 2 ^ v := ⟨_, rfl⟩
  rw [← hp] at hpos hsm HB
  have hdiv : i / p ≤ i := Nat.div_le_self _ _
  have HF : Hid (((wrap64 ((i : Int) / (p : Int))).tmod 2 == 1) = bitB i v) := by
    refine Lib.hid ?_
    unfold bitB
    rw [← hp]
    have e0 : (i : Int) / (p : Int) = ((i / p : Nat) : Int) := rfl
    rw [e0]
    generalize i / p = q at hdiv ⊢
    rw [IntWalk.wrap64_in _ (by omega)]
    have e1 : Int.tmod (q : Int) 2 = ((q % 2 : Nat) : Int) := by rw [Int.tmod_eq_emod_of_nonneg (by omega)]; rfl
    rw [e1]
    by_cases h : q % 2 = 1
    · rw [h]; rfl
    · have : ((q % 2 : Nat) : Int) ≠ 1 := by omega
      rw [beq_eq_false_iff_ne.2 this, decide_eq_false h]
  clear hp
  go_enter Tryz.func79, Tryz.ntmps79
  go_wp2_with fail
  refine HB.out.mono ?_
  rintro x w' ⟨rfl, rfl⟩
  go_wp2_with fail
  go_ret
  exact ⟨by rw [← HF.out]; rfl, rfl⟩
/-- Const. -/
theorem set_replicate {α : Type} (a b : α) (k n : Nat) (h : k < n) : (List.replicate k a ++ List.replicate (n - k) b).set k a = List.replicate (k + 1) a ++ List.replicate (n - (k + 1)) b := by
  have e : n - k = (n - (k + 1)) + 1 := by omega
  rw [e, List.replicate_succ, List.set_append_right _ _ (by simp), List.length_replicate, Nat.sub_self, List.set_cons_zero, List.replicate_succ', List.append_assoc]; rfl
set_option maxRecDepth 100000 in
set_option maxHeartbeats 1000000 in
theorem refConst_any (b : Bool) (n : Nat) (hn : n ≤ 16) (w : World) : Calls Tryz.prog 27 #[.bool b, .int .i64 n] w fun x w' => ∃ g, x = .returned (.slice (some ⟨g, 0, none⟩) (2 ^ n) (2 ^ n)) ∧ OwnB w' w.heap.size (.slice (some ⟨g, 0, none⟩) (2 ^ n) (2 ^ n)) (List.replicate (2 ^ n) b) ∧ Below w.heap.size w w' := by
  have HS : Hid (∀ k, k ≤ n → 2 ^ k ≤ 1048576) := Lib.hid fun k hk => pow_small (by omega)
  obtain ⟨L, hL⟩ : ∃ L, L = 2 ^ n := ⟨_, rfl⟩
  have HL := Lib.hid hL
  have hLs : L ≤ 1048576 := by rw [hL]; exact pow_small (by omega)
  rw [← hL]
  clear hL
  go_enter Tryz.func27, Tryz.ntmps27
  go_wp2_with fail
  go_loopw [5, 6] (fun s5 s6 wr => ∃ k p : Nat, k ≤ n ∧ s5 = .int .i64 p ∧ s6 = .int .i64 k ∧ w = wr ∧ Hid (2 ^ k = p)) (fun _ s6 _ => n - (intOf s6).toNat)
  case atStart => exact ⟨0, 1, Nat.zero_le _, rfl, rfl, rfl, Lib.hid rfl⟩
  case round =>
    obtain ⟨k, p, hk, rfl, rfl, rfl, HP⟩ := hrel
    by_cases hlt : k < n
    · have hp : p ≤ 1048576 := by rw [← HP.out]; exact HS.out k hk
      go_wp2_with fail
      go_roundw
      case rel => exact ⟨k + 1, 2 * p, by omega, by go_num, by go_num, by simp, Lib.hid (by rw [Nat.pow_succ, HP.out]; omega)⟩
      case measure => simp [intOf]; omega
    · have he : k = n := by omega
      have hp : p = L := by rw [← HP.out, he, HL.out]
      subst hp
      clear he
      go_wp2_with (at_make; refine wpList_makeC elemBool rfl _ _ rfl w.heap.size w _ p rfl rfl rfl (by omega) (Nat.le_refl _) (Below.refl _ _) ?_; intro g w1 hown1 hb1 hs1 hk1 hg1 hgx; clear hgx)
      go_loopw [8] (fun i wr => ∃ j : Nat, j ≤ p ∧ i = .int .i64 j ∧ OwnB wr w.heap.size (.slice (some ⟨g, 0, none⟩) p p) (List.replicate j b ++ List.replicate (p - j) false) ∧ Below w.heap.size w wr) (fun i _ => p - (intOf i).toNat)
      case atStart => exact ⟨0, by omega, rfl, by unfold OwnB; rw [show boolsV (List.replicate 0 b ++ List.replicate (p - 0) false) = List.replicate p (Value.bool false) by simp [boolsV]]; exact hown1, hb1⟩
      case round =>
        obtain ⟨j, hj, rfl, hown, hbel⟩ := hrel
        by_cases hlt : j < p
        · have q0 := hown.cellB j (by simp; omega)
          have p0 := hown.frozen j
          go_wp2_with fail
          go_roundw
          case rel => exact ⟨j + 1, by omega, by go_num, by rw [← set_replicate b false j p hlt]; exact hown.setB j b, hbel.setCell hg1 _⟩
          case measure => simp [intOf]; omega
        · obtain rfl : j = p := by omega
          go_wp2_with fail
          go_ret
          exact ⟨_, rfl, by simpa using hown, hbel⟩
theorem list_take_set {α : Type} {l m : List α} {k : Nat} {y : α} (hk : k < l.length) (hm : k < m.length) (hy : m[k] = y) : (m.take k ++ l.drop k).set k y = m.take (k + 1) ++ l.drop (k + 1) := by
  have h1 : (m.take k).length = k := by simp; omega
  rw [List.set_append_right _ _ (by omega), h1, Nat.sub_self, List.drop_eq_getElem_cons hk, List.set_cons_zero, List.take_succ_eq_append_getElem hm, hy, List.append_assoc]; rfl
set_option maxRecDepth 100000 in
set_option maxHeartbeats 1000000 in
theorem refVar_any (v n : Nat) (hv : v ≤ 16) (hn : n ≤ 16) (w : World) : Calls Tryz.prog 16 #[.int .i64 v, .int .i64 n] w fun x w' => ∃ g, x = .returned (.slice (some ⟨g, 0, none⟩) (2 ^ n) (2 ^ n)) ∧ OwnB w' w.heap.size (.slice (some ⟨g, 0, none⟩) (2 ^ n) (2 ^ n)) ((List.range (2 ^ n)).map (fun i => bitB i v)) ∧ Below w.heap.size w w' := by
  have HCONST := Lib.hid (refConst_any false n hn w)
  have hLs : 2 ^ n ≤ 1048576 := pow_small (by omega)
  have HTR : Hid (∀ i, i ≤ 1048576 → ∀ W, Calls Tryz.prog 79 #[.int .i64 (i : Nat), .int .i64 (v : Nat)] W fun x w' => x = .returned (.bool (bitB i v)) ∧ W = w') := Lib.hid fun i hi W => truth_any i v hi (by omega) W
  obtain ⟨L, hL⟩ : ∃ L, L = 2 ^ n := ⟨_, rfl⟩
  rw [← hL] at hLs HCONST ⊢
  clear hL
  go_enter Tryz.func16, Tryz.ntmps16
  go_wp2_with fail
  refine HCONST.out.mono ?_
  rintro x w1 ⟨g, rfl, hown, hb1⟩
  have hg1 : w.heap.size ≤ g := (hown.lt g rfl).1
  clear HCONST
  go_wp2_with fail
  go_loopw [6] (fun s6 wr => ∃ j : Nat, j ≤ L ∧ s6 = .int .i64 j ∧ OwnB wr w.heap.size (.slice (some ⟨g, 0, none⟩) L L) (((List.range L).map (fun i => bitB i v)).take j ++ (List.replicate L false).drop j) ∧ Below w.heap.size w wr) (fun s6 _ => L - (intOf s6).toNat)
  case atStart => exact ⟨0, by omega, rfl, by simpa using hown, hb1⟩
  case round =>
    clear hown hb1
    obtain ⟨j, hj, rfl, hown, hbel⟩ := hrel
    by_cases hlt : j < L
    · have q0 := hown.cellB j (by simp; omega)
      have p0 := hown.frozen j
      have HOWN := Lib.hid hown
      have HBEL := Lib.hid hbel
      clear hown hbel
      go_wp2_with fail
      refine (HTR.out j (by omega) _).mono ?_
      rintro x w2 ⟨rfl, rfl⟩
      go_wp2_with fail
      go_roundw
      case rel => exact ⟨j + 1, by omega, by go_num, by rw [← list_take_set (by simp; omega) (by simp; omega) (y := bitB j v) (by simp)]; exact HOWN.out.setB j _, HBEL.out.setCell hg1 _⟩
      case measure => simp [intOf]; omega
    · obtain rfl : j = L := by omega
      go_wp2_with fail
      go_ret
      exact ⟨g, rfl, by simpa [List.take_of_length_le] using hown, hbel⟩
/-- if then else of tables. -/
def iteL (u v w : List Bool) : List Bool := (List.range u.length).map fun i => iteB (u.getD i false) (v.getD i false) (w.getD i false)
theorem iteL_tab (n : Nat) (F G H : BF) : iteL (tabB n F) (tabB n G) (tabB n H) = tabB n fun ρ => iteB (F ρ) (G ρ) (H ρ) := by
  unfold iteL
  rw [tabB_length]
  refine tab_ext (by simp) fun i hi => ?_
  simp only [List.getD, List.getElem?_map, List.getElem?_range hi, Option.map_some, Option.getD_some]
  have := @tabB_get n F i hi
  have h2 := @tabB_get n G i hi
  have h3 := @tabB_get n H i hi
  simp only [List.getD] at this h2 h3
  rw [this, h2, h3]
set_option maxRecDepth 100000 in
set_option maxHeartbeats 1000000 in
theorem refIte_any (bu bv bw : List Bool) (hv : bv.length = bu.length) (hw : bw.length = bu.length) (au av aw : Option Addr) (cu cv cw : Nat) (w : World) (h1 : BoolsAt w au bu) (h2 : BoolsAt w av bv) (h3 : BoolsAt w aw bw) :
    Calls Tryz.prog 19 #[.slice au bu.length cu, .slice av bu.length cv, .slice aw bu.length cw] w fun x w' => ∃ g, x = .returned (.slice (some ⟨g, 0, none⟩) bu.length bu.length) ∧ OwnB w' w.heap.size (.slice (some ⟨g, 0, none⟩) bu.length bu.length) (iteL bu bv bw) ∧ Below w.heap.size w w' := by
  have hlen := h1.len
  obtain ⟨L, hL⟩ : ∃ L, L = bu.length := ⟨_, rfl⟩
  have H1 := Lib.hid h1
  have H2 := Lib.hid h2
  have H3 := Lib.hid h3
  have HV := Lib.hid hv
  have HW := Lib.hid hw
  have HLL := Lib.hid hL
  rw [← hL] at hlen ⊢
  clear hL h1 h2 h3 hv hw
  go_enter Tryz.func19, Tryz.ntmps19
  go_wp2_with (at_make; refine wpList_makeC elemBool rfl _ _ rfl w.heap.size w _ L rfl rfl rfl (by omega) (Nat.le_refl _) (Below.refl _ _) ?_; intro g w1 hown1 hb1 hs1 hk1 hg1 hgx; clear hgx)
  go_loopw [8] (fun s8 wr => ∃ j : Nat, j ≤ L ∧ s8 = .int .i64 j ∧ OwnB wr w.heap.size (.slice (some ⟨g, 0, none⟩) L L) ((iteL bu bv bw).take j ++ (List.replicate L false).drop j) ∧ Below w.heap.size w wr) (fun s8 _ => L - (intOf s8).toNat)
  case atStart => exact ⟨0, by omega, rfl, by unfold OwnB; simpa [boolsV] using hown1, hb1⟩
  case round =>
    clear hown1 hb1
    obtain ⟨j, hj, rfl, hown, hbel⟩ := hrel
    by_cases hlt : j < L
    · have hjl : j < (iteL bu bv bw).length := by simp [iteL, ← HLL.out]; exact hlt
      obtain ⟨b1, of1, e1, c1⟩ := (H1.out.below hbel).cells j (by rw [← HLL.out]; exact hlt)
      obtain ⟨b2, of2, e2, c2⟩ := (H2.out.below hbel).cells j (by rw [HV.out, ← HLL.out]; exact hlt)
      obtain ⟨b3, of3, e3, c3⟩ := (H3.out.below hbel).cells j (by rw [HW.out, ← HLL.out]; exact hlt)
      have l1 : b1 < w.heap.size := by
        obtain ⟨b, o, e, c⟩ := H1.out.cells j (by rw [← HLL.out]; exact hlt)
        rw [e1] at e; cases e; exact lt_of_cell c
      have l2 : b2 < w.heap.size := by
        obtain ⟨b, o, e, c⟩ := H2.out.cells j (by rw [HV.out, ← HLL.out]; exact hlt)
        rw [e2] at e; cases e; exact lt_of_cell c
      have l3 : b3 < w.heap.size := by
        obtain ⟨b, o, e, c⟩ := H3.out.cells j (by rw [HW.out, ← HLL.out]; exact hlt)
        rw [e3] at e; cases e; exact lt_of_cell c
      subst e1 e2 e3
      have q0 := hown.cellB j (by simp; omega)
      have p0 := hown.frozen j
      have HOWN := Lib.hid hown
      have HBEL := Lib.hid hbel
      have n1 : g ≠ b1 := by omega
      have n2 : g ≠ b2 := by omega
      obtain ⟨y1, hy1⟩ : ∃ y, y = bu.getD j false := ⟨_, rfl⟩
      obtain ⟨y2, hy2⟩ : ∃ y, y = bv.getD j false := ⟨_, rfl⟩
      obtain ⟨y3, hy3⟩ : ∃ y, y = bw.getD j false := ⟨_, rfl⟩
      rw [← hy1] at c1
      rw [← hy2] at c2
      rw [← hy3] at c3
      have HY : Hid ((iteL bu bv bw)[j] = iteB y1 y2 y3) := Lib.hid (by rw [hy1, hy2, hy3]; simp [iteL])
      clear hown hbel hy1 hy2 hy3 H1 H2 H3
      have d1 := cell_setCell_ne (w := wr) (g := g) (o := j) (v := .bool y3) c1 (.inl n1)
      have d2 := cell_setCell_ne (w := wr) (g := g) (o := j) (v := .bool y3) c2 (.inl n2)
      have HO3 := Lib.hid (HOWN.out.setB j y3)
      have q3 := HO3.out.cellB j (by simp; omega)
      have p3 := HO3.out.frozen j
      cases y1 with
      | true =>
        go_wp2_with fail
        go_roundw
        case rel =>
          refine ⟨j + 1, by omega, by go_num, ?_, (HBEL.out.setCell hg1 _).setCell hg1 _⟩
          rw [← list_take_set (by simp; omega) hjl HY.out]
          have := HO3.out.setB j y2
          rw [List.set_set] at this
          exact this
        case measure => simp [intOf]; omega
      | false =>
        go_wp2_with fail
        go_roundw
        case rel =>
          refine ⟨j + 1, by omega, by go_num, ?_, HBEL.out.setCell hg1 _⟩
          rw [← list_take_set (by simp; omega) hjl HY.out]
          exact HO3.out
        case measure => simp [intOf]; omega
    · obtain rfl : j = L := by omega
      have hl2 : (iteL bu bv bw).length = j := by simp [iteL, ← HLL.out]
      go_wp2_with fail
      go_ret
      refine ⟨g, rfl, ?_, hbel⟩
      rw [List.take_of_length_le (by omega), List.drop_of_length_le (by simp), List.append_nil] at hown
      exact hown
set_option maxRecDepth 100000 in
theorem hold02_any (n : Nat) (hn : n ≤ 64) (w : World) : Calls Tryz.prog 131 #[.int .i64 n, .int .i64 0, .int .i64 64] w fun x w' => x = .returned (.int .i64 n) ∧ w = w' := by
  go_enter Tryz.func131, Tryz.ntmps131
  go_wp2_with fail
  go_ret
  exact ⟨rfl, rfl⟩
theorem bitsL_succ (i n : Nat) : bitsL i (n + 1) = bitsL i n ++ [bitB i n] := by simp [bitsL, List.range_succ]
set_option maxRecDepth 100000 in
set_option maxHeartbeats 1000000 in
theorem refOf_any (i n : Nat) (hi : i ≤ 1048576) (hn : n ≤ 16) (w : World) : Calls Tryz.prog 90 #[.int .u64 i, .int .i64 n] w fun x w' => ∃ v, x = .returned v ∧ OwnB w' w.heap.size v (bitsL i n) ∧ Below w.heap.size w w' := by
  have HH : Hid (∀ W, Calls Tryz.prog 131 #[.int .i64 (n : Nat), .int .i64 0, .int .i64 64] W fun x w' => x = .returned (.int .i64 (n : Nat)) ∧ W = w') := Lib.hid fun W => hold02_any n (by omega) W
  go_enter Tryz.func90, Tryz.ntmps90
  go_wp2_with fail
  go_loopw [0, 5, 6] (fun s0 s5 s6 wr => ∃ j q : Nat, j ≤ n ∧ q ≤ 1048576 ∧ s6 = .int .i64 j ∧ s0 = .int .u64 q ∧ Hid (i / 2 ^ j = q) ∧ OwnB wr w.heap.size s5 (bitsL i j) ∧ w.heap.size ≤ wr.heap.size ∧ Below w.heap.size w wr) (fun _ _ s6 _ => n - (intOf s6).toNat)
  case atStart => exact ⟨0, i, Nat.zero_le _, hi, rfl, rfl, Lib.hid (by simp), ownC_new _ w _ (Nat.le_refl _), by simp, below_new1 w _⟩
  case round =>
    obtain ⟨j, q, hj, hq, rfl, rfl, HQ, hown, hsz, hbel⟩ := hrel
    by_cases hlt : j < n
    · have HB : Hid (((q : Int).tmod 2 == 1) = bitB i j) := by
        refine Lib.hid ?_
        show ((q : Int).tmod 2 == 1) = bitB i j
        unfold bitB
        rw [HQ.out]
        have e1 : Int.tmod (q : Int) 2 = ((q % 2 : Nat) : Int) := by rw [Int.tmod_eq_emod_of_nonneg (by omega)]; rfl
        rw [e1]
        by_cases h : q % 2 = 1
        · rw [h]; rfl
        · have : ((q % 2 : Nat) : Int) ≠ 1 := by omega
          rw [beq_eq_false_iff_ne.2 this, decide_eq_false h]
      have HOWN := Lib.hid hown
      have HBEL := Lib.hid hbel
      clear hown hbel
      go_wp2_with fail
      refine (HH.out _).mono ?_
      rintro x w2 ⟨rfl, rfl⟩
      go_wp2_with (at_builtin; refine wpList_appC elemBool _ rfl _ _ rfl w.heap.size _ (boolsV (bitsL i j)) _ rfl rfl rfl rfl rfl (by exact HOWN.out) (by simp [boolsV, bitsL_length]; omega) hsz ?_; intro v1 w1 hown1 e1 e2 e3 e4 hk1)
      go_roundw
      case rel =>
        refine ⟨j + 1, q / 2, by omega, by omega, by go_num, rfl, Lib.hid ?_, ?_, by omega, below_app HBEL.out HOWN.out e1 e2 e3 e4 hk1 hsz⟩
        · rw [Nat.pow_succ, ← Nat.div_div_eq_div_mul, HQ.out]
        · rw [bitsL_succ]
          have e5 : boolsV (bitsL i j ++ [bitB i j]) = boolsV (bitsL i j) ++ [.bool (bitB i j)] := by simp [boolsV]
          unfold OwnB
          rw [e5, ← HB.out]
          exact hown1
      case measure => simp [intOf]; omega
    · have he : j = n := by omega
      subst he
      have HOWN := Lib.hid hown
      have HBEL := Lib.hid hbel
      clear hown hbel
      go_wp2_with fail
      refine (HH.out _).mono ?_
      rintro x w2 ⟨rfl, rfl⟩
      go_wp2_with fail
      go_ret
      exact ⟨_, rfl, HOWN.out, HBEL.out⟩
end Go.Proofs.YtchliiaknmknhaaGreat

-- LawE
namespace Go.Proofs.YtchliiaknmknhaaGreat
open Go.RowKit

section
variable {K : Law} {n room : Nat} {w0 w : World} {mb : Nat} {fs : List (Int × BF)} {nx : Int} {o : Own} {m : ManD} {V : Nat → BF}
theorem SatE.eval (h : SatE K n room w0 mb fs nx w o m V) {k : Int} {F : BF} (hk : (k, F) ∈ fs) {v : Value} {bs : List Bool} (hbs : BoolsIs w v bs) :
    Calls Tryz.prog 58 #[.pointer (some ⟨mb, 0, none⟩), .int .i64 k, v] w fun x w' => x = .returned (.tuple #[.bool (F (envOf bs)), .int .i64 0]) ∧ Below w.heap.size w w' := by
  obtain ⟨f, hf, e1⟩ := h.find hk
  obtain ⟨a, c, rfl, h1, _⟩ := hbs
  rw [← e1]
  exact eval_yes h.is h.lt h.ok hf a c bs h1
theorem SatE.vars_any (h : SatE K n room w0 mb fs nx w o m V) : Calls Tryz.prog 51 #[.pointer (some ⟨mb, 0, none⟩)] w fun x w' => x = .returned (.int .i64 n) ∧ w = w' := by
  have := manVars_any h.is
  rw [h.vars] at this
  exact this
theorem SatE.len_any (h : SatE K n room w0 mb fs nx w o m V) : Calls Tryz.prog 22 #[.pointer (some ⟨mb, 0, none⟩)] w fun x w' => x = .returned (.int .i64 m.d.pool.many) ∧ w = w' := manLen_any h.is
theorem SatE.handles_any (h : SatE K n room w0 mb fs nx w o m V) : Calls Tryz.prog 70 #[.pointer (some ⟨mb, 0, none⟩)] w fun x w' => x = .returned (.int .i64 (fs.length : Nat)) ∧ w = w' := by
  have e : fs.length = m.hs.length := by rw [← h.hs, List.length_map]
  rw [e]
  exact Go.Proofs.YtchliiaknmknhaaGreat.handles_any h.is
set_option maxRecDepth 100000 in
theorem left_any (h : SatE K n room w0 mb fs nx w o m V) (q : Nat) (hq : q ≤ 1000000) :
    Calls Tryz.prog 20 #[.pointer (some ⟨mb, 0, none⟩), .int .i64 q] w fun x w' => x = .returned (.bool (decide (fs.length = q + 2))) ∧ w = w' := by
  have HH := Lib.hid h.handles_any
  have HF : Hid ((((fs.length : Nat) : Int) == (q : Int) + 2) = decide (fs.length = q + 2)) := by
    refine Lib.hid ?_
    show (((fs.length : Nat) : Int) == (q : Int) + 2) = _
    by_cases e : fs.length = q + 2
    · rw [decide_eq_true e, beq_iff_eq]; omega
    · rw [decide_eq_false e, beq_eq_false_iff_ne]; omega
  clear h
  go_enter Tryz.func20, Tryz.ntmps20
  go_wp2_with fail
  refine HH.out.mono ?_
  rintro x w' ⟨rfl, rfl⟩
  go_wp2_with fail
  go_ret
  exact ⟨by rw [← HF.out]; rfl, rfl⟩
theorem conv_u64 (i : Nat) (hi : i ≤ 1048576) : (IntKind.u64).wrap (i : Int) = (i : Int) := by
  simp [IntKind.wrap, IntKind.bits]; omega
set_option maxRecDepth 100000 in
set_option maxHeartbeats 2000000 in
theorem is_any (h : SatE K n room w0 mb fs nx w o m V) (hn : n ≤ 16) {k : Int} {F : BF} (hk : (k, F) ∈ fs) {v : Value} {bs : List Bool} (hbs : BoolsIs w v bs) :
    Calls Tryz.prog 29 #[.pointer (some ⟨mb, 0, none⟩), .int .i64 k, v] w fun x w' => ∃ b, x = .returned (.bool b) ∧ (b = true ↔ bs = tabB n F) ∧ Below w.heap.size w w' := by
  have HV := Lib.hid h.vars_any
  have HC := Lib.hid (refConst_any false n hn w)
  have HEV : Hid (∀ W, Below w.heap.size w W → ∀ u cs, BoolsIs W u cs → Calls Tryz.prog 58 #[.pointer (some ⟨mb, 0, none⟩), .int .i64 k, u] W fun x w' => x = .returned (.tuple #[.bool (F (envOf cs)), .int .i64 0]) ∧ Below W.heap.size W w') :=
    Lib.hid fun W hb u cs hu => (h.below hb).eval hk hu
  have HOF : Hid (∀ i, i ≤ 1048576 → ∀ W, Calls Tryz.prog 90 #[.int .u64 (i : Nat), .int .i64 n] W fun x w' => ∃ v, x = .returned v ∧ OwnB w' W.heap.size v (bitsL i n) ∧ Below W.heap.size W w') := Lib.hid fun i hi W => refOf_any i n hi hn W
  obtain ⟨a, c, rfl, hb0, hnil⟩ := hbs
  have HBS := Lib.hid hb0
  have hbl := hb0.len
  have hp := pow_small (show n ≤ 20 by omega)
  obtain ⟨L, hL⟩ : ∃ L, L = 2 ^ n := ⟨_, rfl⟩
  have HL := Lib.hid hL
  rw [← hL] at hp HC
  clear h hL hb0 hnil
  go_enter Tryz.func29, Tryz.ntmps29
  go_wp2_with fail
  refine HV.out.mono ?_
  rintro x w' ⟨rfl, rfl⟩
  go_wp2_with fail
  refine HC.out.mono ?_
  rintro x w1 ⟨g, rfl, _, hb1⟩
  by_cases hlen : bs.length = L
  · have hne : ((bs.length : Int) != (L : Int)) = false := by rw [hlen]; simp
    have HB1 := Lib.hid hb1
    clear hb1 HC HV
    go_wp2_with fail
    go_loopw [8, 21] (fun s8 s21 wr => ∃ j : Nat, j ≤ L ∧ s21 = .int .i64 j ∧ Below w.heap.size w wr ∧ Hid (∀ q, q < j → bs.getD q false = F (envOf (bitsL q n)))) (fun _ s21 _ => L - (intOf s21).toNat)
    case atStart => exact ⟨0, Nat.zero_le _, rfl, HB1.out, Lib.hid fun q hq => by omega⟩
    case round =>
      obtain ⟨j, hj, rfl, hbel, HQ⟩ := hrel
      by_cases hlt : j < L
      · have HBEL := Lib.hid hbel
        clear hbel
        have hcv := conv_u64 j (by omega)
        have hjs : (j : Int) < bs.length := by omega
        obtain ⟨b1, of1, rfl, c1⟩ := (HBS.out.below HBEL.out).cells j (by omega)
        go_wp2_with fail
        refine (HOF.out j (by omega) _).mono ?_
        rintro x w3 ⟨u, rfl, hown, hb3⟩
        have HB3 := Lib.hid hb3
        have c3 := (hb3.cell (p := ⟨b1, of1 + j, none⟩) (lt_of_cell c1)).trans c1
        have HU := Lib.hid (hown.boolsIs (by rw [bitsL_length]; omega))
        clear hown hb3 c1
        go_wp2_with fail
        refine (HEV.out _ (HBEL.out.trans (HB3.out.mono HBEL.out.size)) _ _ HU.out).mono ?_
        rintro x w4 ⟨rfl, hb4⟩
        have c4 := (hb4.cell (p := ⟨b1, of1 + j, none⟩) (lt_of_cell c3)).trans c3
        have HB5 := Lib.hid (HBEL.out.trans ((HB3.out.trans (hb4.mono HB3.out.size)).mono HBEL.out.size))
        clear hb4 c3
        obtain ⟨y1, hy1⟩ : ∃ y, y = bs.getD j false := ⟨_, rfl⟩
        obtain ⟨y2, hy2⟩ : ∃ y, y = F (envOf (bitsL j n)) := ⟨_, rfl⟩
        rw [← hy1] at c4
        rw [← hy2]
        have HQ2 : Hid (y2 = y1 → ∀ q, q < j + 1 → bs.getD q false = F (envOf (bitsL q n))) := Lib.hid fun hyy q hq => by
            rcases Nat.lt_or_ge q j with h | h
            · exact HQ.out q h
            · obtain rfl : q = j := by omega
              rw [← hy1, ← hy2, hyy]
        have HNE : Hid (y2 ≠ y1 → bs ≠ tabB n F) := Lib.hid fun hyy e => hyy (by rw [hy1, hy2, e, tabB_get (by rw [← HL.out]; exact hlt)])
        clear hy1 hy2
        cases y1 <;> cases y2
        · go_wp2_with fail
          go_roundw
          case rel => exact ⟨j + 1, by omega, by go_num, HB5.out, Lib.hid (HQ2.out (by simp))⟩
          case measure => simp [intOf]; omega
        · go_wp2_with fail
          go_ret
          exact ⟨false, rfl, by simpa using HNE.out (by simp), HB5.out⟩
        · go_wp2_with fail
          go_ret
          exact ⟨false, rfl, by simpa using HNE.out (by simp), HB5.out⟩
        · go_wp2_with fail
          go_roundw
          case rel => exact ⟨j + 1, by omega, by go_num, HB5.out, Lib.hid (HQ2.out (by simp))⟩
          case measure => simp [intOf]; omega
      · have he : j = L := by omega
        have HBEL := Lib.hid hbel
        have HE : Hid (bs = tabB n F) := Lib.hid (tab_ext (by rw [hlen, HL.out]) (fun i hi => HQ.out i (by rw [he, HL.out]; exact hi)))
        clear hbel
        go_wp2_with fail
        go_ret
        exact ⟨true, rfl, by simpa using HE.out, HBEL.out⟩
  · have hne : ((bs.length : Int) != (L : Int)) = true := by simp; omega
    have HB1 := Lib.hid hb1
    have HNE : Hid (bs ≠ tabB n F) := Lib.hid fun e => hlen (by rw [e, tabB_length, HL.out])
    clear hb1 HC HV hlen
    go_wp2_with fail
    go_ret
    exact ⟨false, rfl, by simpa using HNE.out, HB1.out⟩
end
/-- A slice of rows of booleans. -/
structure RowsAt (P : Nat → Prop) (w : World) (a : Option Addr) (us : List (List Bool)) : Prop where
  len : us.length ≤ 1000000
  cells : ∀ k, k < us.length → ∃ b off v, a = some ⟨b, off, none⟩ ∧ w.cell? ⟨b, off + k, none⟩ = some v ∧ BoolsIs w v (us.getD k []) ∧ ∀ g, v.ownBlock = some g → P g
theorem RowsAt.below {P : Nat → Prop} {w w' : World} {a : Option Addr} {us : List (List Bool)} (h : RowsAt P w a us) (hb : Below w.heap.size w w') : RowsAt P w' a us :=
  ⟨h.len, fun k hk => by
    obtain ⟨b, off, v, rfl, hc, hv, hp⟩ := h.cells k hk
    exact ⟨b, off, v, rfl, (hb.cell (p := ⟨b, off + k, none⟩) (lt_of_cell hc)).trans hc, hv.below hb, hp⟩⟩
/-- The law's lists: handles and their tables. -/
structure LawR (P : Nat → Prop) (n : Nat) (fs : List (Int × BF)) (w : World) (vl vx : Value) (hs : List (Int × BF)) : Prop where
  sub : ∀ p ∈ hs, p ∈ fs
  small : hs.length ≤ 1000
  l : ∃ a c, vl = .slice a hs.length c ∧ IntsAt w a (hs.map Prod.fst)
  x : ∃ a c, vx = .slice a hs.length c ∧ RowsAt P w a (hs.map fun p => tabB n p.2)
theorem LawR.below {P : Nat → Prop} {n : Nat} {fs : List (Int × BF)} {w w' : World} {vl vx : Value} {hs : List (Int × BF)} (h : LawR P n fs w vl vx hs) (hb : Below w.heap.size w w') : LawR P n fs w' vl vx hs := by
  obtain ⟨a, c, h1, h2⟩ := h.l
  obtain ⟨a', c', h3, h4⟩ := h.x
  exact ⟨h.sub, h.small, ⟨a, c, h1, h2.below hb⟩, ⟨a', c', h3, h4.below hb⟩⟩
section
variable {K : Law} {n room : Nat} {w0 w : World} {mb : Nat} {fs : List (Int × BF)} {nx : Int} {o : Own} {m : ManD} {V : Nat → BF}
set_option maxRecDepth 100000 in
set_option maxHeartbeats 2000000 in
theorem all_any (h : SatE K n room w0 mb fs nx w o m V) (hn : n ≤ 16) {vl vx : Value} {hs : List (Int × BF)} {P : Nat → Prop} (hr : LawR P n fs w vl vx hs) :
    Calls Tryz.prog 21 #[.pointer (some ⟨mb, 0, none⟩), vl, vx] w fun x w' => x = .returned (.bool true) ∧ Below w.heap.size w w' := by
  obtain ⟨al, cl, rfl, hl⟩ := hr.l
  obtain ⟨ax, cx, rfl, hx⟩ := hr.x
  have HL := Lib.hid hl
  have HX := Lib.hid hx
  have hsm := hr.small
  have HIS : Hid (∀ W, Below w.heap.size w W → ∀ j v, ∀ hj : j < hs.length, BoolsIs W v (tabB n hs[j].2) → Calls Tryz.prog 29 #[.pointer (some ⟨mb, 0, none⟩), .int .i64 hs[j].1, v] W fun x w' => x = .returned (.bool true) ∧ Below W.heap.size W w') := by
    refine Lib.hid fun W hb j v hj hv => (is_any (h.below hb) hn (hr.sub _ (List.getElem_mem hj)) hv).mono ?_
    rintro x w' ⟨b, rfl, hb1, hb2⟩
    rw [hb1.2 rfl]
    exact ⟨rfl, hb2⟩
  clear h hr hl hx
  go_enter Tryz.func21, Tryz.ntmps21
  go_wp2_with fail
  go_loopw [7, 10] (fun s7 s10 wr => ∃ j : Nat, j ≤ hs.length ∧ s10 = .int .i64 j ∧ Below w.heap.size w wr) (fun _ s10 _ => hs.length - (intOf s10).toNat)
  case atStart => exact ⟨0, Nat.zero_le _, rfl, Below.refl _ _⟩
  case round =>
    obtain ⟨j, hj, rfl, hbel⟩ := hrel
    by_cases hlt : j < hs.length
    · obtain ⟨b1, of1, rfl, c1⟩ := (HL.out.below hbel).cells j (by simpa using hlt)
      obtain ⟨b2, of2, v2, rfl, c2, hv2, _⟩ := (HX.out.below hbel).cells j (by simpa using hlt)
      have e1 : at0 (hs.map Prod.fst) j = hs[j].1 := by rw [at0_eq (by simpa using hlt)]; simp
      have e2 : (hs.map fun p => tabB n p.2).getD j [] = tabB n hs[j].2 := by simp [List.getD, hlt]
      rw [e1] at c1
      rw [e2] at hv2
      have HV2 := Lib.hid hv2
      have HBEL := Lib.hid hbel
      obtain ⟨k1, hk1⟩ : ∃ k1, k1 = hs[j].1 := ⟨_, rfl⟩
      have HI : Hid (∀ W, Below w.heap.size w W → ∀ v, BoolsIs W v (tabB n hs[j].2) → Calls Tryz.prog 29 #[.pointer (some ⟨mb, 0, none⟩), .int .i64 k1, v] W fun x w' => x = .returned (.bool true) ∧ Below W.heap.size W w') := by
        rw [hk1]; exact Lib.hid fun W hb v hv => HIS.out W hb j v hlt hv
      rw [← hk1] at c1
      clear hv2 hbel e1 e2 hk1
      have hn1 : (j : Int) < (hs.length : Int) := by omega
      go_upto_region 4 with fail
      refine wp_region_mix (fun W : World => W.cell? ⟨b1, of1 + j, none⟩ = some (.int .i64 k1) ∧ W.cell? ⟨b2, of2 + j, none⟩ = some v2 ∧ Hid (Below w.heap.size w W)) false 11 [(0, false), (1, false), (2, false), (3, false), (4, false), (5, false), (6, false), (7, false), (8, false), (9, true), (10, false)] (by kernel_rfl) (by kernel_rfl) ⟨c1, c2, Lib.hid (HBEL.out.trans ((below_draw wr 1).mono HBEL.out.size))⟩ ?_
      simp only [planned, List.map_cons, List.map_nil, List.getElem?_cons_succ, List.getElem?_cons_zero]
      iterate 9
        refine mix_readE rfl ?_
        apply Exists.intro
        refine ⟨fun w' hw => ?_, ?_⟩
        · obtain ⟨h1, h2, _⟩ := hw
          go_simp
          rfl
        simp only [Act.put, List.setIfInBounds_toArray, List.set_cons_zero, List.set_cons_succ]
      refine mix_call (v := .bool true) rfl (by go_simp) ((HI.out wr.drew (HBEL.out.trans ((below_draw wr 1).mono HBEL.out.size)) v2 (HV2.out.below (below_draw wr 1))).mono ?_) ?_
      · rintro x w' ⟨rfl, hb⟩
        exact ⟨rfl, (hb.cell (p := ⟨b1, of1 + j, none⟩) (lt_of_cell (w := wr.drew) c1)).trans c1, (hb.cell (p := ⟨b2, of2 + j, none⟩) (lt_of_cell (w := wr.drew) c2)).trans c2, Lib.hid (HBEL.out.trans (((below_draw wr 1).trans (hb.mono (below_draw wr 1).size)).mono HBEL.out.size))⟩
      rintro w' ⟨_, _, HB'⟩
      simp only [Act.put, List.setIfInBounds_toArray, List.set_cons_zero, List.set_cons_succ]
      iterate 1
        refine mix_readE rfl ?_
        apply Exists.intro
        refine ⟨fun w' hw => ?_, ?_⟩
        · obtain ⟨h1, h2, _⟩ := hw
          go_simp
          rfl
        simp only [Act.put, List.setIfInBounds_toArray, List.set_cons_zero, List.set_cons_succ]
      refine mix_end ?_
      clear HBEL c1 c2
      go_wp2_with fail
      go_roundw
      case rel => exact ⟨j + 1, by omega, by go_num, HB'.out⟩
      case measure => simp [intOf]; omega
    · have HBEL := Lib.hid hbel
      clear hbel
      go_wp2_with fail
      go_ret
      exact ⟨rfl, HBEL.out⟩
end
theorem replicate_tab (n : Nat) (b : Bool) : List.replicate (2 ^ n) b = tabB n fun _ => b := tab_ext (by simp) fun i hi => by simp [List.getD, hi]
set_option maxRecDepth 100000 in
set_option maxHeartbeats 2000000 in
theorem one_any {n : Nat} {fs : List (Int × BF)} {w : World} (hn : n ≤ 16) (h0 : (0, fun _ => false) ∈ fs) {vl vx : Value} {hs : List (Int × BF)} {P : Nat → Prop} (hr : LawR P n fs w vl vx hs) (k : Int) :
    Calls Tryz.prog 17 #[.int .i64 n, vl, vx, .int .i64 k] w fun x w' => ∃ a F v, x = .returned (.tuple #[.int .i64 a, v]) ∧ (a, F) ∈ fs ∧ BoolsIs w' v (tabB n F) ∧ (∀ g, v.ownBlock = some g → P g ∨ w.heap.size ≤ g ∧ ∃ cur, w'.heap[g]? = some (.cells cur 4 (0, 0))) ∧ Below w.heap.size w w' := by
  obtain ⟨al, cl, rfl, hl⟩ := hr.l
  obtain ⟨ax, cx, rfl, hx⟩ := hr.x
  have hsm := hr.small
  have HSUB := Lib.hid hr.sub
  obtain ⟨L, hL⟩ : ∃ L, L = hs.length := ⟨_, rfl⟩
  have HLL := Lib.hid hL
  rw [← hL] at hsm ⊢
  clear hr
  by_cases hz : L = 0
  · subst hz
    have HC := Lib.hid (refConst_any false n hn w)
    have hp : 2 ^ n ≤ 65536 := Nat.pow_le_pow_right (by omega) hn
    have H0 := Lib.hid h0
    clear hL hl hx h0
    go_enter Tryz.func17, Tryz.ntmps17
    go_wp2_with fail
    refine HC.out.mono ?_
    rintro x w1 ⟨g, rfl, hown, hb⟩
    have HF : Hid (∃ a F v, Ending.returned (.tuple #[.int .i64 0, .slice (some ⟨g, 0, none⟩) (2 ^ n) (2 ^ n)]) = .returned (.tuple #[.int .i64 a, v]) ∧ (a, F) ∈ fs ∧ BoolsIs w1 v (tabB n F) ∧ (∀ g, v.ownBlock = some g → P g ∨ w.heap.size ≤ g ∧ ∃ cur, w1.heap[g]? = some (.cells cur 4 (0, 0))) ∧ Below w.heap.size w w1) :=
      Lib.hid ⟨0, fun _ => false, _, rfl, H0.out, by rw [← replicate_tab]; exact (show OwnB w1 w.heap.size (.slice (some ⟨g, 0, none⟩) (2 ^ n) (2 ^ n)) (List.replicate (2 ^ n) false) from hown).boolsIs (by rw [List.length_replicate]; omega), fun q hq => .inr ⟨by cases hq; exact (hown.lt g rfl).1, hown.typed q hq⟩, hb⟩
    clear hown hb
    go_wp2_with fail
    go_ret2
    exact HF.out
  · have hpos : 0 < L := by omega
    have e1 : Int.tmod k L < L := Int.tmod_lt_of_pos k (by omega)
    have e2 : -(L : Int) < Int.tmod k L := by
      have := Int.tmod_lt_of_pos (-k) (show (0 : Int) < L by omega)
      rw [Int.neg_tmod] at this
      omega
    obtain ⟨i, hi, hI⟩ : ∃ i, i < L ∧ Int.tmod (Int.tmod k L + L) L = ((i : Nat) : Int) := by
      refine ⟨(Int.tmod (Int.tmod k L + L) L).toNat, ?_, ?_⟩
      · have := Int.tmod_lt_of_pos (Int.tmod k L + L) (show (0 : Int) < L by omega)
        have := Int.tmod_nonneg (L : Int) (show 0 ≤ Int.tmod k L + L by omega)
        omega
      · have := Int.tmod_nonneg (L : Int) (show 0 ≤ Int.tmod k L + L by omega)
        omega
    obtain ⟨b1, of1, rfl, c1⟩ := hl.cells i (by simp; omega)
    obtain ⟨b2, of2, v2, rfl, c2, hv2, hp2⟩ := hx.cells i (by simp; omega)
    have hil : i < hs.length := by omega
    have q1 : at0 (hs.map Prod.fst) i = hs[i].1 := by rw [at0_eq (by simpa using hil)]; simp
    have q2 : (hs.map fun p => tabB n p.2).getD i [] = tabB n hs[i].2 := by simp [List.getD, hil]
    rw [q1] at c1
    rw [q2] at hv2
    have HF : Hid (∀ w', Below w.heap.size w w' → ∃ a F v, Ending.returned (.tuple #[.int .i64 hs[i].1, v2]) = .returned (.tuple #[.int .i64 a, v]) ∧ (a, F) ∈ fs ∧ BoolsIs w' v (tabB n F) ∧ (∀ g, v.ownBlock = some g → P g ∨ w.heap.size ≤ g ∧ ∃ cur, w'.heap[g]? = some (.cells cur 4 (0, 0))) ∧ Below w.heap.size w w') :=
      Lib.hid fun w' hb => ⟨hs[i].1, hs[i].2, v2, rfl, HSUB.out _ (List.getElem_mem hil), hv2.below hb, fun g hg => .inl (hp2 g hg), hb⟩
    obtain ⟨k1, hk1⟩ : ∃ k1, k1 = hs[i].1 := ⟨_, rfl⟩
    rw [← hk1] at c1 HF
    have hne : ((L : Int) == 0) = false := by simp; omega
    clear hL hl hx hv2 hp2 q1 q2 hk1 hz hil h0
    go_enter Tryz.func17, Tryz.ntmps17
    go_upto_region 4 with fail
    refine wp_region_mix (fun W : World => W.cell? ⟨b1, of1 + i, none⟩ = some (.int .i64 k1) ∧ W.cell? ⟨b2, of2 + i, none⟩ = some v2) false 10 [(0, false), (1, false), (2, false), (3, false), (4, false), (5, false), (6, false), (7, false), (8, false), (9, false)] (by kernel_rfl) (by kernel_rfl) ⟨c1, c2⟩ ?_
    simp only [planned, List.map_cons, List.map_nil, List.getElem?_cons_succ, List.getElem?_cons_zero]
    iterate 10
      refine mix_readE rfl ?_
      apply Exists.intro
      refine ⟨fun w' hw => ?_, ?_⟩
      · obtain ⟨h1, h2⟩ := hw
        go_simp
        rfl
      simp only [Act.put, List.setIfInBounds_toArray, List.set_cons_zero, List.set_cons_succ]
    refine mix_end ?_
    go_wp2_with fail
    go_ret2
    exact HF.out _ (below_draw w 1)
end Go.Proofs.YtchliiaknmknhaaGreat

-- LawO
namespace Go.Proofs.YtchliiaknmknhaaGreat
open Go.RowKit

/-- The list of the handles. -/
structure LawL (W : World) (o : Own) (base : Nat) (vl : Value) (ks : List Int) : Prop where
  own : OwnC 3 W base vl (intsV ks)
  no : ∀ k, vl.ownBlock = some k → o k = none
/-- A row of booleans that is no one's. -/
structure LawB (W : World) (o : Own) (base : Nat) (v : Value) (bs : List Bool) : Prop where
  is : BoolsIs W v bs
  no : ∀ k, v.ownBlock = some k → base ≤ k ∧ k < W.heap.size ∧ o k = none ∧ ∃ cur, W.heap[k]? = some (.cells cur 4 (0, 0))
/-- The list of their tables. -/
structure LawX (W : World) (o : Own) (base : Nat) (vx : Value) (us : List (List Bool)) : Prop where
  ex : ∃ rs : List Value, rs.length = us.length ∧ OwnC 36 W base vx rs ∧ ∀ i v, rs[i]? = some v → LawB W o base v (us.getD i [])
  no : ∀ k, vx.ownBlock = some k → o k = none
section
variable {W W' : World} {o o' : Own} {base : Nat} {vl vx v : Value} {ks : List Int} {us : List (List Bool)} {bs : List Bool}
theorem LawL.chg (h : LawL W o base vl ks) (hc : ChgX NoB o o' W W') : LawL W' o' base vl ks :=
  ⟨h.own.same fun k hk => hc.block k (h.own.lt k hk).2 (h.no k hk) (fun e => e), fun k hk => hc.none' (h.own.lt k hk).2 (h.no k hk)⟩
theorem LawB.chg (h : LawB W o base v bs) (hc : ChgX NoB o o' W W') : LawB W' o' base v bs :=
  ⟨h.is.same fun k hk => hc.block k (h.no k hk).2.1 (h.no k hk).2.2.1 (fun e => e), fun k hk => by
    obtain ⟨h1, h2, h3, cur, h4⟩ := h.no k hk
    exact ⟨h1, Nat.lt_of_lt_of_le h2 hc.size, hc.none' h2 h3, cur, (hc.block k h2 h3 (fun e => e)).trans h4⟩⟩
theorem LawX.chg (h : LawX W o base vx us) (hc : ChgX NoB o o' W W') : LawX W' o' base vx us := by
  obtain ⟨rs, h1, h2, h3⟩ := h.ex
  exact ⟨⟨rs, h1, h2.same fun k hk => hc.block k (h2.lt k hk).2 (h.no k hk) (fun e => e), fun i v hv => (h3 i v hv).chg hc⟩, fun k hk => hc.none' (h2.lt k hk).2 (h.no k hk)⟩
theorem chg_below (hb : Below W.heap.size W W') (o : Own) : ChgX NoB o o W W' := ChgX.of_below hb o NoB
/-- Blocks of another type change. -/
theorem LawL.typ {C : Nat → Prop} (h : LawL W o base vl ks) (hw : Wr C W W') {T : TypeId} (hT : T ≠ 3) (hC : ∀ k, C k → ∃ cur, W.heap[k]? = some (.cells cur T (0, 0))) : LawL W' o base vl ks :=
  ⟨h.own.same fun k hk => hw.keep k (h.own.lt k hk).2 fun e => by
    obtain ⟨c1, h1⟩ := hC k e
    obtain ⟨c2, h2⟩ := h.own.typed k hk
    rw [h1] at h2; cases h2; exact hT rfl, h.no⟩
theorem LawB.typ {C : Nat → Prop} (h : LawB W o base v bs) (hw : Wr C W W') {T : TypeId} (hT : T ≠ 4) (hC : ∀ k, C k → ∃ cur, W.heap[k]? = some (.cells cur T (0, 0))) : LawB W' o base v bs := by
  have hk : ∀ k, v.ownBlock = some k → W'.heap[k]? = W.heap[k]? := fun k hk => by
    obtain ⟨h1, h2, h3, cur, h4⟩ := h.no k hk
    exact hw.keep k h2 fun e => by
      obtain ⟨c1, q1⟩ := hC k e
      rw [q1] at h4; cases h4; exact hT rfl
  exact ⟨h.is.same hk, fun k hkk => by
    obtain ⟨h1, h2, h3, cur, h4⟩ := h.no k hkk
    exact ⟨h1, Nat.lt_of_lt_of_le h2 hw.size, h3, cur, (hk k hkk).trans h4⟩⟩
theorem LawX.typ {C : Nat → Prop} (h : LawX W o base vx us) (hw : Wr C W W') {T : TypeId} (hT : T ≠ 4) (hT2 : T ≠ 36) (hC : ∀ k, C k → ∃ cur, W.heap[k]? = some (.cells cur T (0, 0))) : LawX W' o base vx us := by
  obtain ⟨rs, h1, h2, h3⟩ := h.ex
  exact ⟨⟨rs, h1, h2.same fun k hk => hw.keep k (h2.lt k hk).2 fun e => by
    obtain ⟨c1, q1⟩ := hC k e
    obtain ⟨c2, q2⟩ := h2.typed k hk
    rw [q1] at q2; cases q2; exact hT2 rfl, fun i v hv => (h3 i v hv).typ hw hT hC⟩, h.no⟩
/-- What an append does to memory. -/
theorem wr_app {v' : Value} (h1 : W'.os = W.os) (h2 : W'.tape = W.tape) (h3 : W'.output = W.output) (h4 : W.heap.size ≤ W'.heap.size) (hk : KeepApp v v' W W') : Wr (fun k => v.ownBlock = some k) W W' :=
  ⟨h1, h2, h3, h4, fun k hlt hn => hk.keep k hlt (fun e => hn e.symm)⟩
theorem LawL.app {v' : Value} {k : Int} (h : LawL W o base vl ks) (hlt : OwnLt o W) (hn : OwnC 3 W' base v' (intsV ks ++ [.int .i64 k])) (hk : KeepApp vl v' W W') : LawL W' o base v' (ks ++ [k]) := by
  refine ⟨by rw [show intsV (ks ++ [k]) = intsV ks ++ [.int .i64 k] by simp [intsV]]; exact hn, fun q hq => ?_⟩
  rcases hk.loc with e | ⟨g, e, hg⟩
  · exact h.no q (by rw [← e]; exact hq)
  · rw [e] at hq; cases hq; exact hlt.none hg
theorem LawX.app {v' : Value} (h : LawX W o base vx us) (hlt : OwnLt o W) {rs : List Value} (hrs : rs.length = us.length) (hall : ∀ i v, rs[i]? = some v → LawB W o base v (us.getD i [])) (hw : Wr (fun k => vx.ownBlock = some k) W W') (hT : ∀ k, vx.ownBlock = some k → ∃ cur, W.heap[k]? = some (.cells cur 36 (0, 0)))
    (hb : LawB W o base v bs) (hn : OwnC 36 W' base v' (rs ++ [v])) (hk : KeepApp vx v' W W') : LawX W' o base v' (us ++ [bs]) := by
  refine ⟨⟨rs ++ [v], by simp [hrs], hn, fun i u hu => ?_⟩, fun q hq => ?_⟩
  · rcases Nat.lt_or_ge i rs.length with hi | hi
    · rw [List.getElem?_append_left hi] at hu
      have e : (us ++ [bs]).getD i [] = us.getD i [] := by simp [List.getD, List.getElem?_append_left (show i < us.length by omega)]
      rw [e]
      exact (hall i u hu).typ hw (by decide) hT
    · rw [List.getElem?_append_right hi] at hu
      have hi2 : i = rs.length := by
        have := (List.getElem?_eq_some_iff.1 hu).1
        simp at this; omega
      subst hi2
      simp at hu
      subst hu
      have e : (us ++ [bs]).getD rs.length [] = bs := by rw [hrs]; simp [List.getD]
      rw [e]
      exact hb.typ hw (by decide) hT
  · rcases hk.loc with e | ⟨g, e, hg⟩
    · exact h.no q (by rw [← e]; exact hq)
    · rw [e] at hq; cases hq; exact hlt.none hg
/-- A fresh row. -/
theorem lawB_new {n : Nat} (h : OwnB W' W.heap.size v bs) (hl : bs.length ≤ 1000000) (hlt : OwnLt o W) (hb : base ≤ W.heap.size) : LawB W' o base v bs :=
  ⟨OwnC.boolsIs h hl, fun k hk => by
    have h1 := h.lt k hk
    exact ⟨by omega, h1.2, hlt.none h1.1, h.typed k hk⟩⟩
theorem getD_map {α β : Type} (f : α → β) (l : List α) (d : β) (i : Nat) (hi : i < l.length) : (l.map f).getD i d = f l[i] := by simp [List.getD, hi]
/-- The two lists as One and All take them. -/
theorem lawR_of {n : Nat} {fs hs : List (Int × BF)} (hl : LawL W o base vl (hs.map Prod.fst)) (hx : LawX W o base vx (hs.map fun p => tabB n p.2)) (hsub : ∀ p ∈ hs, p ∈ fs) (hsm : hs.length ≤ 1000) :
    LawR (fun g => base ≤ g ∧ g < W.heap.size ∧ o g = none ∧ ∃ cur, W.heap[g]? = some (.cells cur 4 (0, 0))) n fs W vl vx hs := by
  obtain ⟨rs, h1, h2, h3⟩ := hx.ex
  obtain ⟨al, cl, e1, _⟩ := hl.own.slice
  obtain ⟨ax, cx, e2, _⟩ := h2.slice
  have l1 : (intsV (hs.map Prod.fst)).length = hs.length := by simp [intsV]
  have l2 : rs.length = hs.length := by rw [h1]; simp
  rw [l1] at e1
  rw [l2] at e2
  refine ⟨hsub, hsm, ⟨al, cl, e1, ⟨by simp; omega, fun k hk => ?_⟩⟩, ⟨ax, cx, e2, ⟨by simp; omega, fun k hk => ?_⟩⟩⟩
  · obtain ⟨g, cap, e3, _⟩ := hl.own.shape (by rw [l1]; simp at hk; omega)
    rw [e1] at e3
    injection e3 with e3
    subst e3
    have hc := hl.own
    rw [e1] at hc
    refine ⟨g, 0, rfl, ?_⟩
    rw [Nat.zero_add, hc.cell k (by rw [l1]; simpa using hk), intsV, List.getElem?_map, getElem?_at0 hk]; rfl
  · obtain ⟨g, cap, e3, _⟩ := h2.shape (by rw [l2]; simp at hk; omega)
    rw [e2] at e3
    injection e3 with e3
    subst e3
    have hc := h2
    rw [e2] at hc
    have hk' : k < rs.length := by rw [h1]; exact hk
    have hb := h3 k rs[k] (List.getElem?_eq_getElem hk')
    refine ⟨g, 0, rs[k], rfl, ?_, hb.is, hb.no⟩
    rw [Nat.zero_add, hc.cell k hk', List.getElem?_eq_getElem hk']
end
end Go.Proofs.YtchliiaknmknhaaGreat
