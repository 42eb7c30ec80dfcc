/- What is reachable among nodes: the plain mathematics of the law DdauditDead. -/
import Derived.Test.YtcembefhfadpbabAudB0
namespace Go.Proofs.Ytcembefhfadpbab

/-! Lists that increase strictly are known by their members. -/
theorem sorted_ext : ∀ {a b : List Int}, a.Pairwise (· < ·) → b.Pairwise (· < ·) → (∀ x, x ∈ a ↔ x ∈ b) → a = b
  | [], [], _, _, _ => rfl
  | [], y :: b, _, _, h => absurd ((h y).2 (by simp)) (by simp)
  | x :: a, [], _, _, h => absurd ((h x).1 (by simp)) (by simp)
  | x :: a, y :: b, ha, hb, h => by
    have ha' := List.pairwise_cons.1 ha
    have hb' := List.pairwise_cons.1 hb
    have hxy : x = y := by
      rcases List.mem_cons.1 ((h x).1 (by simp)) with e | hx
      · exact e
      · rcases List.mem_cons.1 ((h y).2 (by simp)) with e | hy
        · exact e.symm
        · have := hb'.1 x hx; have := ha'.1 y hy; omega
    subst hxy
    congr 1
    refine sorted_ext ha'.2 hb'.2 fun z => ?_
    have hz := h z
    simp only [List.mem_cons] at hz
    constructor
    · intro hm
      rcases hz.1 (.inr hm) with e | hm'
      · have := ha'.1 z hm; omega
      · exact hm'
    · intro hm
      rcases hz.2 (.inr hm) with e | hm'
      · have := hb'.1 z hm; omega
      · exact hm'

/-! Reachable numbers. -/
inductive Reach (l : List Nd) : Int → Prop where
  | root {k : Nat} (hk : k < l.length) (hr : 0 < (nd l k).refs) : Reach l (nd l k).id
  | lo {k : Nat} {x : Int} (hk : k < l.length) (h : Reach l (nd l k).id) (he : leadsB (nd l k).lo x = true) : Reach l x
  | hi {k : Nat} {x : Int} (hk : k < l.length) (h : Reach l (nd l k).id) (he : leadsB (nd l k).hi x = true) : Reach l x

/-! The reference: a row of flags, gone over again and again. -/
def bt (b : List Bool) (k : Nat) : Bool := b.getD k false
def hitB (l : List Nd) (b : List Bool) (i k : Nat) : Bool :=
  (decide (0 < (nd l k).refs) && ((nd l k).id == (nd l i).id)) ||
    (bt b k && (((nd l k).id == (nd l i).id) || (leadsB (nd l k).lo (nd l i).id || leadsB (nd l k).hi (nd l i).id)))
def st1 (l : List Nd) (i : Nat) (b : List Bool) (k : Nat) : List Bool := if hitB l b i k = true then b.set i true else b
def stI (l : List Nd) (i : Nat) (b : List Bool) : Nat → List Bool
  | 0 => b
  | k + 1 => st1 l i (stI l i b k) k
def stR (l : List Nd) (b : List Bool) : Nat → List Bool
  | 0 => b
  | i + 1 => stI l i (stR l b i) l.length
def stA (l : List Nd) (b : List Bool) : Nat → List Bool
  | 0 => b
  | r + 1 => stR l (stA l b r) l.length

theorem st1_length (l : List Nd) (i : Nat) (b : List Bool) (k : Nat) : (st1 l i b k).length = b.length := by unfold st1; split <;> simp
theorem stI_length (l : List Nd) (i : Nat) (b : List Bool) (k : Nat) : (stI l i b k).length = b.length := by
  induction k with
  | zero => rfl
  | succ k ih => rw [stI, st1_length, ih]
theorem stR_length (l : List Nd) (b : List Bool) (i : Nat) : (stR l b i).length = b.length := by
  induction i with
  | zero => rfl
  | succ i ih => rw [stR, stI_length, ih]
theorem stA_length (l : List Nd) (b : List Bool) (r : Nat) : (stA l b r).length = b.length := by
  induction r with
  | zero => rfl
  | succ r ih => rw [stA, stR_length, ih]

def cntT (b : List Bool) : Nat := b.countP id
/-- b' has every flag of b. -/
def leF (b b' : List Bool) : Prop := b'.length = b.length ∧ ∀ k, bt b k = true → bt b' k = true
theorem leF_refl (b : List Bool) : leF b b := ⟨rfl, fun _ h => h⟩
theorem leF_trans {a b c : List Bool} (h : leF a b) (h' : leF b c) : leF a c := ⟨h'.1.trans h.1, fun k hk => h'.2 k (h.2 k hk)⟩
theorem bt_set {b : List Bool} {i k : Nat} : bt (b.set i true) k = if k = i ∧ i < b.length then true else bt b k := by
  unfold bt
  simp only [List.getD, List.getElem?_set]
  by_cases e : i = k
  · subst e
    by_cases h : i < b.length
    · simp [h]
    · simp [h, List.getElem?_eq_none (Nat.le_of_not_lt h)]
  · simp [e, Ne.symm e]
theorem leF_st1 (l : List Nd) (i : Nat) (b : List Bool) (k : Nat) : leF b (st1 l i b k) := by
  refine ⟨st1_length l i b k, fun j hj => ?_⟩
  unfold st1
  split
  · rw [bt_set]; split
    · rfl
    · exact hj
  · exact hj
theorem leF_stI (l : List Nd) (i : Nat) (b : List Bool) (k : Nat) : leF b (stI l i b k) := by
  induction k with
  | zero => exact leF_refl b
  | succ k ih => exact leF_trans ih (leF_st1 l i _ k)
theorem leF_stR (l : List Nd) (b : List Bool) (i : Nat) : leF b (stR l b i) := by
  induction i with
  | zero => exact leF_refl b
  | succ i ih => exact leF_trans ih (leF_stI l i _ _)
theorem cntT_le : ∀ {b b' : List Bool}, leF b b' → cntT b ≤ cntT b' ∧ (cntT b = cntT b' → b = b')
  | [], [], _ => ⟨Nat.le_refl _, fun _ => rfl⟩
  | [], _ :: _, h => absurd h.1 (by simp)
  | _ :: _, [], h => absurd h.1 (by simp)
  | x :: b, y :: b', h => by
    have ih := cntT_le (b := b) (b' := b') ⟨by have := h.1; simpa using this, fun k hk => by have := h.2 (k + 1); simp only [bt, List.getD_cons_succ] at this; exact this hk⟩
    have h0 := h.2 0
    simp only [bt, List.getD_cons_zero] at h0
    simp only [cntT, List.countP_cons] at ih ⊢
    cases x <;> cases y <;> simp at h0 ⊢
    · exact ih
    · exact ⟨by omega, fun e => by omega⟩
    · exact ih
/-- No place gets a flag any more. -/
def ClosedF (l : List Nd) (b : List Bool) : Prop := ∀ i k, i < l.length → k < l.length → hitB l b i k = true → bt b i = true
theorem leF_anti {a b : List Bool} (h : leF a b) (h' : leF b a) : a = b := by
  have h1 := cntT_le h
  have h2 := cntT_le h'
  exact h1.2 (by omega)
theorem st1_same {l : List Nd} {i k : Nat} {b : List Bool} (hi : i < b.length) (h : st1 l i b k = b) : hitB l b i k = true → bt b i = true := by
  intro hh
  unfold st1 at h
  rw [if_pos hh] at h
  rw [← h, bt_set, if_pos ⟨rfl, hi⟩]
theorem stI_same {l : List Nd} {i : Nat} {b : List Bool} (hi : i < b.length) : ∀ {n : Nat}, stI l i b n = b → ∀ k, k < n → hitB l b i k = true → bt b i = true
  | 0, _, k, hk => by omega
  | n + 1, h, k, hk => by
    have h0 : stI l i b n = b := by
      refine leF_anti ?_ (leF_stI l i b n)
      have := leF_st1 l i (stI l i b n) n
      have e : st1 l i (stI l i b n) n = b := h
      rw [e] at this; exact this
    have h1 : st1 l i b n = b := by have e : st1 l i (stI l i b n) n = b := h; rw [h0] at e; exact e
    by_cases e : k = n
    · subst e; exact st1_same hi h1
    · exact stI_same hi h0 k (by omega)
theorem stR_same {l : List Nd} {b : List Bool} : ∀ {n : Nat}, n ≤ b.length → stR l b n = b → ∀ i k, i < n → k < l.length → hitB l b i k = true → bt b i = true
  | 0, _, _, i, k, hi => by omega
  | n + 1, hn, h, i, k, hi => by
    have h0 : stR l b n = b := by
      refine leF_anti ?_ (leF_stR l b n)
      have := leF_stI l n (stR l b n) l.length
      have e : stI l n (stR l b n) l.length = b := h
      rw [e] at this; exact this
    have h1 : stI l n b l.length = b := by have e : stI l n (stR l b n) l.length = b := h; rw [h0] at e; exact e
    by_cases e : i = n
    · subst e; exact fun hk => stI_same (by omega) h1 k hk
    · exact stR_same (by omega) h0 i k (by omega)
theorem stI_closed {l : List Nd} {b : List Bool} (hb : b.length = l.length) (hc : ClosedF l b) {i : Nat} (hi : i < l.length) : ∀ n, n ≤ l.length → stI l i b n = b
  | 0, _ => rfl
  | n + 1, hn => by
    have h0 := stI_closed hb hc hi n (by omega)
    show st1 l i (stI l i b n) n = b
    rw [h0]
    unfold st1
    split
    · rename_i hh
      have := hc i n hi (by omega) hh
      refine leF_anti ⟨by simp, fun k hk => ?_⟩ ⟨by simp, fun k hk => ?_⟩
      · rw [bt_set] at hk
        split at hk
        · rename_i e; rw [e.1]; exact this
        · exact hk
      · rw [bt_set]; split
        · rfl
        · exact hk
    · rfl
theorem stR_closed {l : List Nd} {b : List Bool} (hb : b.length = l.length) (hc : ClosedF l b) : ∀ n, n ≤ l.length → stR l b n = b
  | 0, _ => rfl
  | n + 1, hn => by
    show stI l n (stR l b n) l.length = b
    rw [stR_closed hb hc n (by omega), stI_closed hb hc (by omega) _ (Nat.le_refl _)]
theorem stA_closed {l : List Nd} {b : List Bool} (hb : b.length = l.length) : ∀ r, ClosedF l (stA l b r) ∨ r ≤ cntT (stA l b r)
  | 0 => .inr (Nat.zero_le _)
  | r + 1 => by
    have hbr : (stA l b r).length = l.length := by rw [stA_length, hb]
    rcases stA_closed hb r with h | h
    · left
      show ClosedF l (stR l (stA l b r) l.length)
      rw [stR_closed hbr h _ (Nat.le_refl _)]; exact h
    · have h1 := cntT_le (leF_stR l (stA l b r) l.length)
      by_cases e : stR l (stA l b r) l.length = stA l b r
      · left
        show ClosedF l (stR l (stA l b r) l.length)
        rw [e]
        intro i k hi hk
        exact stR_same (n := l.length) (by omega) e i k hi hk
      · right
        show r + 1 ≤ cntT (stR l (stA l b r) l.length)
        have : cntT (stA l b r) ≠ cntT (stR l (stA l b r) l.length) := fun e' => e (h1.2 e').symm
        omega
/-- Every flag says: reachable. -/
def SoundF (l : List Nd) (b : List Bool) : Prop := ∀ i, i < l.length → bt b i = true → Reach l (nd l i).id
theorem st1_sound {l : List Nd} {i k : Nat} {b : List Bool} (hk : k < l.length) (h : SoundF l b) : SoundF l (st1 l i b k) := by
  unfold st1
  split
  · rename_i hh
    intro j hj hb
    rw [bt_set] at hb
    split at hb
    · rename_i e
      obtain ⟨rfl, _⟩ := e
      simp only [hitB, Bool.or_eq_true, Bool.and_eq_true, decide_eq_true_eq, beq_iff_eq] at hh
      rcases hh with ⟨h1, h2⟩ | ⟨h1, h2 | h2 | h2⟩
      · rw [← h2]; exact .root hk h1
      · rw [← h2]; exact h k hk h1
      · exact .lo hk (h k hk h1) h2
      · exact .hi hk (h k hk h1) h2
    · exact h j hj hb
  · exact h
theorem stI_sound {l : List Nd} {i : Nat} {b : List Bool} (h : SoundF l b) : ∀ n, n ≤ l.length → SoundF l (stI l i b n)
  | 0, _ => h
  | n + 1, hn => st1_sound (by omega) (stI_sound h n (by omega))
theorem stR_sound {l : List Nd} {b : List Bool} (h : SoundF l b) : ∀ n, SoundF l (stR l b n)
  | 0 => h
  | n + 1 => stI_sound (stR_sound h n) _ (Nat.le_refl _)
theorem stA_sound {l : List Nd} {b : List Bool} (h : SoundF l b) : ∀ n, SoundF l (stA l b n)
  | 0 => h
  | n + 1 => stR_sound (stA_sound h n) _
/-- The flags at the end. -/
def inF (l : List Nd) : List Bool := stA l (List.replicate l.length false) (l.length + 1)
theorem inF_iff {l : List Nd} {i : Nat} (hi : i < l.length) : bt (inF l) i = true ↔ Reach l (nd l i).id := by
  have hl : (List.replicate l.length false).length = l.length := by simp
  have hbf : ∀ k, bt (List.replicate l.length false) k = false := fun k => by
    unfold bt; simp only [List.getD, List.getElem?_replicate]; split <;> rfl
  constructor
  · exact stA_sound (fun k _ hb => by rw [hbf] at hb; cases hb) _ i hi
  · intro hr
    have hc : ClosedF l (inF l) := by
      rcases stA_closed hl (l.length + 1) with h | h
      · exact h
      · exfalso
        have h1 : cntT (stA l (List.replicate l.length false) (l.length + 1)) ≤ (stA l (List.replicate l.length false) (l.length + 1)).length := List.countP_le_length
        rw [stA_length, hl] at h1
        omega
    have key : ∀ x, Reach l x → ∀ i, i < l.length → (nd l i).id = x → bt (inF l) i = true := by
      intro x hx
      induction hx with
      | root hk hr => intro i hi he; exact hc i _ hi hk (by simp [hitB, hr, he])
      | lo hk h he ih => intro i hi he'; exact hc i _ hi hk (by simp [hitB, ih _ hk rfl, he', he])
      | hi hk h he ih => intro i hi he'; exact hc i _ hi hk (by simp [hitB, ih _ hk rfl, he', he])
    exact key _ hr i hi rfl

/-- The list of the dead, a number put at its place. -/
def putS (out : List Int) (x : Int) : List Int := out.filter (fun y => decide (y < x)) ++ [x] ++ out.filter (fun y => !decide (y < x))
def deadR (l : List Nd) : Nat → List Int
  | 0 => []
  | i + 1 => if bt (inF l) i = true ∨ (nd l i).id ∈ deadR l i then deadR l i else putS (deadR l i) (nd l i).id
theorem mem_putS {out : List Int} {x y : Int} : y ∈ putS out x ↔ y = x ∨ y ∈ out := by
  unfold putS
  simp only [List.mem_append, List.mem_filter, List.mem_singleton, decide_eq_true_eq, Bool.not_eq_true', decide_eq_false_iff_not]
  by_cases h : y < x <;> by_cases h' : y ∈ out <;> simp [h, h'] <;> omega
theorem putS_sorted {out : List Int} {x : Int} (h : out.Pairwise (· < ·)) (hx : x ∉ out) : (putS out x).Pairwise (· < ·) := by
  unfold putS
  rw [List.append_assoc, List.pairwise_append]
  refine ⟨h.filter _, ?_, ?_⟩
  · rw [List.singleton_append, List.pairwise_cons]
    refine ⟨fun y hy => ?_, h.filter _⟩
    simp only [List.mem_filter, Bool.not_eq_true', decide_eq_false_iff_not] at hy
    have : y ≠ x := fun e => hx (e ▸ hy.1)
    omega
  · intro a ha b hb
    simp only [List.mem_filter, decide_eq_true_eq] at ha
    simp only [List.singleton_append, List.mem_cons, List.mem_filter, Bool.not_eq_true', decide_eq_false_iff_not] at hb
    rcases hb with rfl | ⟨_, hb⟩ <;> omega
theorem filter_both (p : Int → Bool) : ∀ l : List Int, (l.filter p).length + (l.filter (fun y => !p y)).length = l.length
  | [] => rfl
  | x :: l => by have := filter_both p l; cases h : p x <;> simp [h] <;> omega
theorem deadR_length (l : List Nd) : ∀ i, (deadR l i).length ≤ i
  | 0 => by simp [deadR]
  | i + 1 => by
    have ih := deadR_length l i
    rw [deadR]
    split
    · omega
    · unfold putS
      simp only [List.length_append, List.length_singleton]
      have := filter_both (fun y => decide (y < (nd l i).id)) (deadR l i)
      omega
theorem deadR_spec (l : List Nd) : ∀ i, i ≤ l.length → (deadR l i).Pairwise (· < ·) ∧ ∀ x, x ∈ deadR l i ↔ ∃ k, k < i ∧ (nd l k).id = x ∧ ¬ Reach l x
  | 0, _ => ⟨List.Pairwise.nil, fun x => by simp [deadR]⟩
  | i + 1, hi => by
    obtain ⟨h1, h2⟩ := deadR_spec l i (by omega)
    have hin := inF_iff (l := l) (i := i) (by omega)
    rw [deadR]
    split
    · rename_i hc
      refine ⟨h1, fun x => ?_⟩
      rw [h2]
      constructor
      · rintro ⟨k, hk, he, hn⟩; exact ⟨k, by omega, he, hn⟩
      · rintro ⟨k, hk, he, hn⟩
        by_cases e : k = i
        · subst e
          rcases hc with hc | hc
          · exact absurd (he ▸ hin.1 hc) hn
          · rw [he] at hc; exact (h2 x).1 hc
        · exact ⟨k, by omega, he, hn⟩
    · rename_i hc
      have hc1 : ¬ bt (inF l) i = true := fun h => hc (.inl h)
      have hc2 : (nd l i).id ∉ deadR l i := fun h => hc (.inr h)
      refine ⟨putS_sorted h1 hc2, fun x => ?_⟩
      rw [mem_putS, h2]
      constructor
      · rintro (rfl | ⟨k, hk, he, hn⟩)
        · exact ⟨i, by omega, rfl, fun h => hc1 (hin.2 h)⟩
        · exact ⟨k, by omega, he, hn⟩
      · rintro ⟨k, hk, he, hn⟩
        by_cases e : k = i
        · subst e; exact .inl he.symm
        · exact .inr ⟨k, by omega, he, hn⟩

/-! The program: a set of numbers, grown until nothing changes. -/
/-- The set says only what is reachable, and has every root. -/
structure SetOk (l : List Nd) (R : Int → Bool) : Prop where
  sound : ∀ x, R x = true → Reach l x
  roots : ∀ k, k < l.length → 0 < (nd l k).refs → R (nd l k).id = true
theorem set_closed {l : List Nd} {R : Int → Bool} (h : SetOk l R) (hlo : ∀ k x, k < l.length → R (nd l k).id = true → leadsB (nd l k).lo x = true → R x = true)
    (hhi : ∀ k x, k < l.length → R (nd l k).id = true → leadsB (nd l k).hi x = true → R x = true) (x : Int) : R x = true ↔ Reach l x := by
  refine ⟨h.sound x, fun hx => ?_⟩
  induction hx with
  | root hk hr => exact h.roots _ hk hr
  | lo hk _ he ih => exact hlo _ _ hk ih he
  | hi hk _ he ih => exact hhi _ _ hk ih he
def addS (R : Int → Bool) (x : Int) : Int → Bool := fun y => if y = x then true else R y
/-- The edges of the list, with what of them is not in the set yet. -/
def ends (l : List Nd) : List Int := l.flatMap fun n => [n.lo / 2, n.hi / 2]
def leftN (l : List Nd) (R : Int → Bool) : Nat := (ends l).countP (fun x => !R x)
theorem leftN_add {l : List Nd} {R : Int → Bool} {x : Int} (hx : R x = false) (hm : x ∈ ends l) : leftN l (addS R x) < leftN l R := by
  unfold leftN
  generalize ends l = q at hm
  have mono : ∀ q : List Int, q.countP (fun y => !addS R x y) ≤ q.countP (fun y => !R y) := fun q => by
    refine List.countP_mono_left fun y _ hy => ?_
    simp only [addS, Bool.not_eq_true'] at hy ⊢
    split at hy
    · cases hy
    · exact hy
  induction q with
  | nil => simp at hm
  | cons y q ih =>
    simp only [List.countP_cons]
    rcases List.mem_cons.1 hm with e | hm
    · subst e
      have := mono q
      have e1 : (!addS R x x) = false := by simp [addS]
      have e2 : (!R x) = true := by simp [hx]
      rw [e1, e2]
      simp only [if_true]
      have e3 : (if false = true then 1 else 0) = 0 := by simp
      omega
    · have := ih hm
      have h1 : (if (!addS R x y) = true then 1 else 0) ≤ (if (!R y) = true then 1 else 0) := by
        unfold addS; by_cases e : y = x <;> simp [e] <;> split <;> omega
      omega
theorem mem_ends {l : List Nd} {k : Nat} (hk : k < l.length) : (nd l k).lo / 2 ∈ ends l ∧ (nd l k).hi / 2 ∈ ends l := by
  unfold ends
  have hm : nd l k ∈ l := by rw [nd_eq hk]; exact List.getElem_mem hk
  exact ⟨List.mem_flatMap.2 ⟨_, hm, by simp⟩, List.mem_flatMap.2 ⟨_, hm, by simp⟩⟩
/-- The numbers of the first i nodes that are not in the set. -/
def outP (l : List Nd) (R : Int → Bool) (i : Nat) : List Int := ((l.take i).map (·.id)).filter (fun x => !R x)
theorem outP_succ {l : List Nd} {R : Int → Bool} {i : Nat} (hi : i < l.length) : outP l R (i + 1) = if R (nd l i).id = true then outP l R i else outP l R i ++ [(nd l i).id] := by
  unfold outP
  rw [List.take_succ_eq_append_getElem hi, List.map_append, List.filter_append, ← nd_eq hi]
  cases h : R (nd l i).id <;> simp [h]
theorem outP_length (l : List Nd) (R : Int → Bool) (i : Nat) : (outP l R i).length ≤ i := by
  unfold outP
  refine Nat.le_trans (List.length_filter_le _ _) ?_
  simp; omega
theorem mem_outP {l : List Nd} {R : Int → Bool} {x : Int} : x ∈ outP l R l.length ↔ ∃ k, k < l.length ∧ (nd l k).id = x ∧ R x = false := by
  unfold outP
  rw [List.take_length]
  simp only [List.mem_filter, List.mem_map, Bool.not_eq_true']
  constructor
  · rintro ⟨⟨n, hn, rfl⟩, h⟩
    obtain ⟨k, hk, rfl⟩ := List.getElem_of_mem hn
    exact ⟨k, hk, by rw [nd_eq hk], h⟩
  · rintro ⟨k, hk, rfl, h⟩
    exact ⟨⟨nd l k, by rw [nd_eq hk]; exact List.getElem_mem hk, rfl⟩, h⟩
/-! Counting the edges to a number. -/
def refsN (l : List Nd) (x : Int) : Nat → Nat
  | 0 => 0
  | k + 1 => refsN l x k + (if leadsB (nd l k).lo x = true then 1 else 0) + (if leadsB (nd l k).hi x = true then 1 else 0)
theorem refsN_le (l : List Nd) (x : Int) : ∀ k, refsN l x k ≤ 2 * k
  | 0 => Nat.le_refl _
  | k + 1 => by have := refsN_le l x k; rw [refsN]; split <;> split <;> omega
def isId (l : List Nd) (x : Int) : Bool := l.any (fun n => n.id == x)
theorem isId_iff {l : List Nd} {x : Int} : isId l x = true ↔ ∃ k, k < l.length ∧ (nd l k).id = x := by
  unfold isId
  rw [List.any_eq_true]
  constructor
  · rintro ⟨n, hn, h⟩
    obtain ⟨k, hk, rfl⟩ := List.getElem_of_mem hn
    exact ⟨k, hk, by rw [nd_eq hk]; simpa using h⟩
  · rintro ⟨k, hk, h⟩
    exact ⟨nd l k, by rw [nd_eq hk]; exact List.getElem_mem hk, by simpa using h⟩
theorem nodup_sub : ∀ {a b : List Int}, a.Nodup → (∀ x ∈ a, x ∈ b) → a.length ≤ b.length
  | [], _, _, _ => Nat.zero_le _
  | x :: a, b, hn, h => by
    have hx := List.nodup_cons.1 hn
    have hm := h x (by simp)
    have ih := nodup_sub (a := a) (b := b.erase x) hx.2 fun y hy => by
      have hne : y ≠ x := fun e => hx.1 (e ▸ hy)
      exact (List.mem_erase_of_ne hne).2 (h y (by simp [hy]))
    have := List.length_erase_of_mem hm
    have := List.length_pos_of_mem hm
    simp only [List.length_cons]
    omega
/-- The first place of a number, if edges lead to it. -/
def firstB (l : List Nd) (i : Nat) : Bool := decide (0 < refsN l (nd l i).id l.length) && decide (∀ k, k < i → (nd l k).id ≠ (nd l i).id)
def firsts (l : List Nd) (i : Nat) : List Int := ((List.range i).filter (firstB l)).map (fun k => (nd l k).id)
theorem firsts_succ (l : List Nd) (i : Nat) : firsts l (i + 1) = if firstB l i = true then firsts l i ++ [(nd l i).id] else firsts l i := by
  unfold firsts
  rw [List.range_succ, List.filter_append, List.map_append]
  cases h : firstB l i <;> simp [h]
theorem firsts_length_le (l : List Nd) : ∀ i, (firsts l i).length ≤ i
  | 0 => by simp [firsts]
  | i + 1 => by have := firsts_length_le l i; rw [firsts_succ]; split <;> simp <;> omega
theorem firsts_spec (l : List Nd) : ∀ i, i ≤ l.length → (firsts l i).Nodup ∧ ∀ x, x ∈ firsts l i ↔ 0 < refsN l x l.length ∧ ∃ k, k < i ∧ (nd l k).id = x
  | 0, _ => ⟨by simp [firsts], fun x => by simp [firsts]⟩
  | i + 1, hi => by
    obtain ⟨h1, h2⟩ := firsts_spec l i (by omega)
    rw [firsts_succ]
    split
    · rename_i hf
      simp only [firstB, Bool.and_eq_true, decide_eq_true_eq] at hf
      have hn : (nd l i).id ∉ firsts l i := fun h => by
        obtain ⟨_, k, hk, he⟩ := (h2 _).1 h
        exact hf.2 k hk he
      refine ⟨?_, fun x => ?_⟩
      · rw [List.nodup_append]
        refine ⟨h1, by simp, fun a ha b hb => ?_⟩
        rw [List.mem_singleton] at hb
        subst hb
        exact fun e => hn (e ▸ ha)
      · rw [List.mem_append, h2, List.mem_singleton]
        constructor
        · rintro (⟨a, k, hk, he⟩ | rfl)
          · exact ⟨a, k, by omega, he⟩
          · exact ⟨hf.1, i, by omega, rfl⟩
        · rintro ⟨a, k, hk, he⟩
          by_cases e : k = i
          · subst e; exact .inr he.symm
          · exact .inl ⟨a, k, by omega, he⟩
    · rename_i hf
      refine ⟨h1, fun x => ?_⟩
      rw [h2]
      constructor
      · rintro ⟨a, k, hk, he⟩; exact ⟨a, k, by omega, he⟩
      · rintro ⟨a, k, hk, he⟩
        by_cases e : k = i
        · subst e
          subst he
          refine ⟨a, ?_⟩
          simp only [firstB, Bool.and_eq_true, decide_eq_true_eq, not_and] at hf
          have := hf a
          simp only [Classical.not_forall, Decidable.not_not] at this
          obtain ⟨j, hj, hje⟩ := this
          exact ⟨j, hj, hje⟩
        · exact ⟨a, k, by omega, he⟩
theorem firsts_len {l : List Nd} {ks : List Int} (hn : ks.Nodup) (h : ∀ x, x ∈ ks ↔ isId l x = true ∧ 0 < refsN l x l.length) : ks.length = (firsts l l.length).length := by
  obtain ⟨h1, h2⟩ := firsts_spec l l.length (Nat.le_refl _)
  have e : ∀ x, x ∈ ks ↔ x ∈ firsts l l.length := fun x => by rw [h, h2, isId_iff]; exact And.comm
  exact Nat.le_antisymm (nodup_sub hn fun x hx => (e x).1 hx) (nodup_sub h1 fun x hx => (e x).2 hx)
end Go.Proofs.Ytcembefhfadpbab
