/- A region that draws its order: reads taken first, everything else in its forced order; guarded operations are walked without parting. -/
import Derived.Test.YtcembefhfadpbabBase
import Derived.OrdersHeld
import Derived.KernelRfl
namespace Go.Proofs.Ytcembefhfadpbab
open Go.RowKit

section
variable {P : Program} {ops : Array Oper} {S : World → Prop} {Q : Exit → Act → World → Prop} {last : Bool}

/-- Does operation j wait for operation i, by however many steps? -/
def reaches (ops : Array Oper) : Nat → Nat → Nat → Bool
  | 0, _, _ => false
  | f + 1, i, j => match ops[j]? with
    | none => false
    | some oj => oj.after.any fun e => Region.binds .any e && (e.on == i || reaches ops f i e.on)

/-- What has come up has had all that it waits for. -/
def Closed (ops : Array Oper) (L : Array Bool) : Prop := ∀ j oj, ops[j]? = some oj → L.getD j false = true → ∀ e ∈ oj.after, Region.binds .any e = true → L.getD e.on false = true
theorem closed_start (n : Nat) : Closed ops (Array.replicate n false) := by
  intro j oj _ h
  rcases Nat.lt_or_ge j n with h' | h' <;> simp [h'] at h
theorem Closed.set {L : Array Bool} (h : Closed ops L) {i : Nat} (hi : i ∈ Region.ready .any ops L) : Closed ops (L.setIfInBounds i true) := by
  obtain ⟨_, oi, hoi, hall⟩ := mem_ready.1 hi
  intro j oj hj hl e he hb
  by_cases hij : i = j
  · subst hij
    obtain rfl : oj = oi := Option.some.inj (hj.symm.trans hoi)
    exact getD_set_true (hall e he hb)
  · rw [getD_set_ne false hij] at hl
    exact getD_set_true (h j oj hj hl e he hb)
theorem reaches_listed {L : Array Bool} (hc : Closed ops L) {i : Nat} : ∀ (f j : Nat), (j ∈ Region.ready .any ops L ∨ L.getD j false = true) → reaches ops f i j = true → L.getD i false = true
  | 0, _, _, h => by simp [reaches] at h
  | f + 1, j, hj, h => by
    unfold reaches at h
    split at h
    · cases h
    · rename_i oj hoj
      obtain ⟨e, he, h2⟩ := Array.any_eq_true'.1 h
      simp only [Bool.and_eq_true, Bool.or_eq_true, beq_iff_eq] at h2
      have hl : L.getD e.on false = true := by
        rcases hj with hj | hj
        · obtain ⟨_, o', ho', hall⟩ := mem_ready.1 hj
          obtain rfl : o' = oj := Option.some.inj (ho'.symm.trans hoj)
          exact hall e he h2.1
        · exact hc j oj hoj hj e he h2.1
      rcases h2.2 with e1 | e1
      · rw [← e1]; exact hl
      · exact reaches_listed hc f e.on (.inr hl) e1
theorem getD_ff {L : Array Bool} {i : Nat} (h : L.getD i true = false) : L.getD i false = false := by
  rcases Nat.lt_or_ge i L.size with h' | h'
  · simp [h'] at h ⊢; exact h
  · simp [Array.getElem?_eq_none h'] at h

/-- Whatever order comes; behind each operation but number m the condition S holds. -/
def wpAnyS (P : Program) (ops : Array Oper) (Q : Exit → Act → World → Prop) (S : World → Prop) (m : Nat) : Nat → Array Bool → Act → World → Prop
  | 0, L, a, w => Region.ready .any ops L = [] ∧ Q .normal a w
  | f + 1, L, a, w => (Region.ready .any ops L = [] → Q .normal a w) ∧
    ∀ i ∈ Region.ready .any ops L, wpOp P ops Q i (fun a' w' => (i = m ∨ S w') ∧ wpAnyS P ops Q S m f (L.setIfInBounds i true) a' w') a w
theorem wpAny_of_S {m : Nat} : ∀ (f : Nat) (L : Array Bool) (a : Act) (w : World), wpAnyS P ops Q S m f L a w → wpAny P .any ops Q f L a w
  | 0, _, _, _, h => h
  | f + 1, _, _, _, h => ⟨h.1, fun i hi => wpOp_mono (fun a' w' h' => wpAny_of_S f _ a' w' h'.2) (h.2 i hi)⟩

/-- A read that may come up now may be taken first. -/
theorem wpAnyS_first {m i : Nat} {oi : Oper} {v : Value} (hi : ops[i]? = some oi) (hs : Region.noSelect ops = true) (hQ : ∀ c (a : Act) d v w, Q (.panic c) (a.put d v) w → Q (.panic c) a w)
    (hm : (decide (ops.size ≤ m) || reaches ops ops.size i m) = true) :
    ∀ (f : Nat) (L : Array Bool) (a : Act) (w : World), Closed ops L →
      (∀ j oj, ops[j]? = some oj → j ≠ i → L.getD j true = false → (∀ e ∈ oj.after, Region.binds .any e = true → e.on ≠ i) → oi.apart ops oj = true) →
      i ∈ Region.ready .any ops L → YieldsIf P ops S oi v a → S w →
      wpAnyS P ops Q S m f (L.setIfInBounds i true) (a.put oi.dst v) w → wpAnyS P ops Q S m (f + 1) L a w := by
  intro f
  induction f with
  | zero =>
    intro L a w _ _ hr hy hS H
    refine ⟨fun h => (by rw [h] at hr; cases hr), fun j hj => ?_⟩
    by_cases hji : j = i
    · subst hji; exact hy.wpOp hi hS ⟨.inr hS, H⟩
    · have := ready_mono hj hji
      rw [H.1] at this
      cases this
  | succ f ih =>
    intro L a w hc hfree hr hy hS H
    refine ⟨fun h => (by rw [h] at hr; cases hr), fun j hj => ?_⟩
    by_cases hji : j = i
    · subst hji; exact hy.wpOp hi hS ⟨.inr hS, H⟩
    · have h1 := H.2 j (ready_mono hj hji)
      obtain ⟨hjun, oj, hoj, hall⟩ := mem_ready.1 hj
      have hiun := getD_ff (mem_ready.1 hr).1
      have hnot : ∀ e ∈ oj.after, Region.binds .any e = true → e.on ≠ i := fun e he hb heq => by
        have h1 := hall e he hb
        rw [heq, hiun] at h1
        cases h1
      have hjm : j ≠ m := by
        rintro rfl
        simp only [Bool.or_eq_true, decide_eq_true_eq] at hm
        rcases hm with hm | hm
        · have := (Array.getElem?_eq_some_iff.1 hoj).1; omega
        · have := reaches_listed hc _ _ (.inl hj) hm
          rw [hiun] at this
          cases this
      have h2 := wpOp_putIf hoj (hfree j oj hoj hji hjun hnot) (fun cs b => Region.noSelect_spec hs i oi cs b hi) (fun cs b => Region.noSelect_spec hs j oj cs b hoj) (fun c a w => hQ c a _ _ w) hy h1
      have hfree' : ∀ k ok, ops[k]? = some ok → k ≠ i → (L.setIfInBounds j true).getD k true = false →
          (∀ e ∈ ok.after, Region.binds .any e = true → e.on ≠ i) → oi.apart ops ok = true := fun k ok hk hki hun hno => by
        refine hfree k ok hk hki ?_ hno
        by_cases hjk : j = k
        · subst hjk; exact hjun
        · rw [getD_set_ne true hjk] at hun; exact hun
      refine wpOp_mono (fun a' w' h3 => ?_) h2
      have hS' := h3.2.1.resolve_left hjm
      refine ⟨.inr hS', ih (L.setIfInBounds j true) a' w' (hc.set hj) hfree' (ready_mono hr (Ne.symm hji)) h3.1 hS' ?_⟩
      rw [Array.setIfInBounds_comm _ _ hji]
      exact h3.2.2

/-- May the order be: 'true': this one alone can come up; 'false': it may be taken first. -/
def mixB (ops : Array Oper) (m : Nat) : List (Nat × Bool) → Array Bool → Bool
  | [], L => (Region.ready .any ops L).isEmpty
  | (i, true) :: r, L => decide (Region.ready .any ops L = [i]) && mixB ops m r (L.setIfInBounds i true)
  | (i, false) :: r, L => (Region.ready .any ops L).contains i && Region.free .any ops L i && (decide (ops.size ≤ m) || reaches ops ops.size i m) && mixB ops m r (L.setIfInBounds i true)

/-- Which operations are not mere reads. -/
def isEff (o : Oper) : Bool :=
  match o.op with
  | .call { callee := .builtin b, .. } => match b with
    | .len => false
    | .cap => false
    | _ => true
  | .call _ => true
  | .alloc .. => true
  | .store .. => true
  | .buildSlice .. => true
  | .mapUpdate .. => true
  | .makeMap .. => true
  | _ => false

/-- The order to walk in: the first read that may be taken first; else what alone can come up. -/
def mixPlan (ops : Array Oper) : Nat → Array Bool → List (Nat × Bool)
  | 0, _ => []
  | f + 1, L =>
    let rs := Region.ready .any ops L
    match rs.find? (fun i => (match ops[i]? with | some o => !isEff o | none => false) && Region.free .any ops L i) with
    | some i => (i, false) :: mixPlan ops f (L.setIfInBounds i true)
    | none => match rs with
      | i :: _ => (i, true) :: mixPlan ops f (L.setIfInBounds i true)
      | [] => []

def wpMix (P : Program) (ops : Array Oper) (Q : Exit → Act → World → Prop) (S : World → Prop) (last : Bool) : List (Option Oper × Bool) → Act → World → Prop
  | [], a, w => Q .normal a w
  | (none, _) :: _, _, _ => False
  | (some o, false) :: r, a, w => ∃ v, YieldsIf P ops S o v a ∧ wpMix P ops Q S last r (a.put o.dst v) w
  | (some o, true) :: r, a, w => if Region.wanted o (yielded ops a.tmps) then o.wp P a w (fun a' w' => ((last && r.isEmpty) = true ∨ S w') ∧ wpMix P ops Q S last r a' w') Q else wpMix P ops Q S last r (a.put o.dst undef) w

/-- The operations in the plan's order. -/
def planned (l : List Oper) (seq : List (Nat × Bool)) : List (Option Oper × Bool) := seq.map fun p => (l[p.1]?, p.2)

theorem wpAnyS_of_mix {l : List Oper} {m : Nat} {last : Bool} (hs : Region.noSelect l.toArray = true) (hQ : ∀ c (a : Act) d v w, Q (.panic c) (a.put d v) w → Q (.panic c) a w) :
    ∀ (seq : List (Nat × Bool)) (L : Array Bool) (a : Act) (w : World), (last = true → (seq.getLast?.map (·.1) = some m ∨ seq = [])) →
    mixB l.toArray m seq L = true → Closed l.toArray L → S w ∨ seq = [] → wpMix P l.toArray Q S last (planned l seq) a w → wpAnyS P l.toArray Q S m seq.length L a w
  | [], L, a, w, _, hB, _, _, h => ⟨by simpa [mixB, List.isEmpty_iff] using hB, h⟩
  | (i, b) :: r, L, a, w, hl, hB, hc, hS, h => by
    have hS0 := hS.resolve_right (by simp)
    have hl' : last = true → (r.getLast?.map (·.1) = some m ∨ r = []) := fun e => by
      cases r with
      | nil => exact .inr rfl
      | cons x r => left; simpa using (hl e).resolve_right (by simp)
    cases hi : l[i]? with
    | none => simp only [planned, List.map_cons, hi, wpMix] at h
    | some o =>
      have hi' : l.toArray[i]? = some o := by simpa using hi
      simp only [planned, List.map_cons, hi] at h
      cases b with
      | false =>
        simp only [mixB, Bool.and_eq_true] at hB
        obtain ⟨⟨⟨hr, hf⟩, hm⟩, hB⟩ := hB
        obtain ⟨v, hy, hn⟩ := h
        have hr' : i ∈ Region.ready .any l.toArray L := by simpa using hr
        exact wpAnyS_first hi' hs hQ hm _ L a w hc (Region.free_spec hi' hf) hr' hy hS0 (wpAnyS_of_mix hs hQ r _ _ w hl' hB (hc.set hr') (.inl hS0) hn)
      | true =>
        simp only [mixB, Bool.and_eq_true, decide_eq_true_eq] at hB
        obtain ⟨hr, hB⟩ := hB
        refine ⟨fun h0 => (by rw [h0] at hr; cases hr), fun j hj => ?_⟩
        have hij : j = i := by rw [hr] at hj; simpa using hj
        subst hij
        simp only [wpMix] at h
        unfold wpOp
        rw [hi']
        by_cases hw : Region.wanted o (yielded l.toArray a.tmps) = true
        · simp only [hw, if_true] at h ⊢
          left
          refine Oper.wp_mono ?_ h
          intro a' w' ⟨h1, h2⟩
          refine ⟨?_, ?_⟩
          · rcases h1 with h1 | h1
            · simp only [Bool.and_eq_true, List.isEmpty_iff, List.map_eq_nil_iff] at h1
              obtain ⟨h1, rfl⟩ := h1
              left
              simpa using (hl h1)
            · exact .inr h1
          · refine wpAnyS_of_mix hs hQ r _ _ w' hl' hB (hc.set hj) ?_ h2
            rcases h1 with h1 | h1
            · simp only [Bool.and_eq_true, List.isEmpty_iff, List.map_eq_nil_iff] at h1
              exact .inr h1.2
            · exact .inl h1
        · simp only [hw] at h ⊢
          exact ⟨.inr hS0, wpAnyS_of_mix hs hQ r _ _ w hl' hB (hc.set hj) (.inl hS0) h⟩

/-- Q, but False at a panic. -/
def NP (Q : Exit → Act → World → Prop) : Exit → Act → World → Prop
  | .panic _, _, _ => False
  | e, a, w => Q e a w
theorem wp_of_np {s : Code} {a : Act} {w : World} (h : s.wp P (NP Q) a w) : s.wp P Q a w :=
  Code.wp_mono (fun e a w h => by cases e <;> first | exact h | exact h.elim) h

theorem wp_region_mix {id : Nat} {a : Act} {w : World} {l : List Oper} (S : World → Prop) (last : Bool) (m : Nat) (seq : List (Nat × Bool)) (hm : P.follows .mixedOrders = true)
    (hB : (Region.noSelect l.toArray && decide (seq.length = l.toArray.size) && (!last || decide (seq.getLast?.map (·.1) = some m)) && mixB l.toArray m seq (Array.replicate l.toArray.size false)) = true)
    (hS : S w.drew) (h : wpMix P l.toArray (NP Q) S last (planned l seq) a w.drew) : (Code.region id l.toArray true).wp P Q a w := by
  simp only [Bool.and_eq_true, decide_eq_true_eq] at hB
  obtain ⟨⟨⟨hs, hlen⟩, hl⟩, hB⟩ := hB
  refine wp_of_np (wp_region_any hm (wpAny_of_S _ _ _ _ ?_ (S := S) (m := m)))
  rw [← hlen]
  refine wpAnyS_of_mix hs (fun _ _ _ _ _ h => h) seq _ _ _ (fun e => ?_) (by rw [hlen]; exact hB) (closed_start _) (.inl hS) h
  subst e
  left
  simpa using hl
theorem np_normal {Q : Exit → Act → World → Prop} {a : Act} {w : World} (h : Q .normal a w) : NP Q .normal a w := h
theorem mix_end {a : Act} {w : World} {ops : Array Oper} (h : Q .normal a w) : wpMix P ops (NP Q) S last [] a w := h

/-! Steps -/
theorem mix_nil {a : Act} {w : World} (h : Q .normal a w) : wpMix P ops Q S last [] a w := h
theorem mix_read {o : Oper} {r : List (Option Oper × Bool)} {a : Act} {w : World} {v : Value} (hg : o.guard = none) (hv : ∀ w, S w → (execOp a.eval o).run P w = .ok (.value v) w)
    (h : wpMix P ops Q S last r (a.put o.dst v) w) : wpMix P ops Q S last ((some o, false) :: r) a w :=
  ⟨v, .inl ⟨by simp [Region.wanted, hg], hv⟩, h⟩
/-- The same, the value behind an existential (so that each step makes its own hole). -/
theorem mix_readE {o : Oper} {r : List (Option Oper × Bool)} {a : Act} {w : World} (hg : o.guard = none)
    (h : ∃ v, (∀ w, S w → (execOp a.eval o).run P w = .ok (.value v) w) ∧ wpMix P ops Q S last r (a.put o.dst v) w) : wpMix P ops Q S last ((some o, false) :: r) a w := by
  obtain ⟨v, h1, h2⟩ := h
  exact mix_read hg h1 h2
theorem mix_readGE {o : Oper} {r : List (Option Oper × Bool)} {a : Act} {w : World} (b : Bool) (hb : Region.wanted o (yielded ops a.tmps) = b)
    (h : ∃ v, (b = true → ∀ w, S w → (execOp a.eval o).run P w = .ok (.value v) w) ∧ wpMix P ops Q S last r (a.put o.dst (if b then v else undef)) w) : wpMix P ops Q S last ((some o, false) :: r) a w := by
  obtain ⟨v, h1, h2⟩ := h
  cases b with
  | true => exact ⟨v, .inl ⟨hb, h1 rfl⟩, h2⟩
  | false => exact ⟨undef, .inr ⟨hb, rfl⟩, h2⟩
theorem mix_readG {o : Oper} {r : List (Option Oper × Bool)} {a : Act} {w : World} {v : Value} (b : Bool) (hb : Region.wanted o (yielded ops a.tmps) = b)
    (hv : b = true → ∀ w, S w → (execOp a.eval o).run P w = .ok (.value v) w) (h : wpMix P ops Q S last r (a.put o.dst (if b then v else undef)) w) : wpMix P ops Q S last ((some o, false) :: r) a w := by
  cases b with
  | true => exact ⟨v, .inl ⟨hb, hv rfl⟩, h⟩
  | false => exact ⟨undef, .inr ⟨hb, rfl⟩, h⟩
theorem mix_call {o : Oper} {r : List (Option Oper × Bool)} {a : Act} {w : World} {v : Value} {f : FuncId} {args : Array Value} (hg : o.guard = none)
    (he : (execOp a.eval o).run P w = .ok (.enter f args) w) (hc : Calls P f args w fun e w' => e = .returned v ∧ S w')
    (h : ∀ w', S w' → wpMix P ops Q S last r (a.put o.dst v) w') : wpMix P ops Q S last ((some o, true) :: r) a w := by
  have hw : Region.wanted o (yielded ops a.tmps) = true := by simp [Region.wanted, hg]
  unfold wpMix
  simp only [hw, if_true, Oper.wp, he, Oper.upon]
  exact hc.mono fun e w' ⟨h1, h2⟩ => by subst h1; exact ⟨.inr h2, h w' h2⟩
theorem mix_callG {o : Oper} {r : List (Option Oper × Bool)} {a : Act} {w : World} {v : Value} {f : FuncId} {args : Array Value} (b : Bool) (hb : Region.wanted o (yielded ops a.tmps) = b) (hS : S w)
    (he : b = true → (execOp a.eval o).run P w = .ok (.enter f args) w) (hc : b = true → Calls P f args w fun e w' => e = .returned v ∧ S w')
    (h : ∀ w', S w' → wpMix P ops Q S last r (a.put o.dst (if b then v else undef)) w') : wpMix P ops Q S last ((some o, true) :: r) a w := by
  unfold wpMix
  cases b with
  | true =>
    simp only [hb, if_true, Oper.wp, he rfl, Oper.upon]
    exact (hc rfl).mono fun e w' ⟨h1, h2⟩ => by subst h1; exact ⟨.inr h2, h w' h2⟩
  | false =>
    simp only [hb]
    exact h w hS
theorem mix_value {o : Oper} {r : List (Option Oper × Bool)} {a : Act} {w w' : World} {v : Value} (hg : o.guard = none)
    (he : (execOp a.eval o).run P w = .ok (.value v) w') (hS : S w') (h : wpMix P ops Q S last r (a.put o.dst v) w') : wpMix P ops Q S last ((some o, true) :: r) a w := by
  have hw : Region.wanted o (yielded ops a.tmps) = true := by simp [Region.wanted, hg]
  unfold wpMix
  simp only [hw, if_true, Oper.wp, he, Oper.upon]
  exact ⟨.inr hS, h⟩
theorem exec_append {o : Oper} {a : Act} {w w' : World} {s x : Operand} {t u : TypeId} {v y v' : Value} (ho : o.op = .call { callee := .builtin .append, args := #[s, x], argTypes := #[t, u] })
    (hs : a.eval s = v) (hx : a.eval x = y) (hr : (Builtin.append_ #[t, u] o.type #[v, y]).run P w = .ok v' w') : (execOp a.eval o).run P w = .ok (.value v') w' := by
  unfold execOp
  simp only [ho, resolve, invoke, builtin, Sem.run_bind, Sem.run_pure, Result.andThen_ok, List.map_toArray, List.map_cons, List.map_nil, hs, hx, hr]
/-- Any other operation: K is what follows. -/
theorem mix_eff {o : Oper} {r : List (Option Oper × Bool)} {a : Act} {w : World} (hg : o.guard = none)
    (h : ∀ K : Act → World → Prop, (∀ a' w', S w' → wpMix P ops Q S last r a' w' → K a' w') → o.wp P a w K Q) : wpMix P ops Q S last ((some o, true) :: r) a w := by
  have hw : Region.wanted o (yielded ops a.tmps) = true := by simp [Region.wanted, hg]
  unfold wpMix
  simp only [hw, if_true]
  exact h _ fun a' w' h1 h2 => ⟨.inr h1, h2⟩
/-- The last one. -/
theorem mix_last {o : Oper} {a : Act} {w : World} (hg : o.guard = none)
    (h : ∀ K : Act → World → Prop, (∀ a' w', Q .normal a' w' → K a' w') → o.wp P a w K Q) : wpMix P ops Q S true [(some o, true)] a w := by
  have hw : Region.wanted o (yielded ops a.tmps) = true := by simp [Region.wanted, hg]
  unfold wpMix
  simp only [hw, if_true]
  exact h _ fun a' w' h1 => ⟨.inl rfl, h1⟩
end

end Go.Proofs.Ytcembefhfadpbab
