/- Plain laws on lists of integers: moving an element, inverting; no program in sight. -/
import Derived.Test.YtcembefhfadpbaaPermM
namespace Go.Proofs.Ytcembefhfadpbaa

/-- The list of the values of F at 0 .. n-1. -/
def ofFn (n : Nat) (F : Nat → Int) : List Int := (List.range n).map F
theorem ofFn_length (n : Nat) (F : Nat → Int) : (ofFn n F).length = n := by simp [ofFn]
theorem at0_ofFn {n : Nat} {F : Nat → Int} {j : Nat} (h : j < n) : at0 (ofFn n F) j = F j := by
  rw [at0_eq (by rw [ofFn_length]; exact h)]; simp [ofFn]
theorem eq_ofFn {zs : List Int} {n : Nat} {F : Nat → Int} (hl : zs.length = n) (h : ∀ j, j < n → at0 zs j = F j) : zs = ofFn n F :=
  eq_of_at0 (by rw [ofFn_length, hl]) fun k hk => by rw [at0_ofFn (by omega), h k (by omega)]
theorem at0_append_left {xs ys : List Int} {j : Nat} (h : j < xs.length) : at0 (xs ++ ys) j = at0 xs j := by simp [at0, List.getD, List.getElem?_append_left h]
theorem at0_append_right {xs ys : List Int} {j : Nat} (h : xs.length ≤ j) : at0 (xs ++ ys) j = at0 ys (j - xs.length) := by simp [at0, List.getD, List.getElem?_append_right h]
theorem at0_take {xs : List Int} {i j : Nat} (h : j < i) : at0 (xs.take i) j = at0 xs j := by simp [at0, List.getD, h]
theorem at0_drop {xs : List Int} {i j : Nat} : at0 (xs.drop i) j = at0 xs (i + j) := by simp [at0, List.getD, List.getElem?_drop]
theorem at0_set {xs : List Int} {i j : Nat} {y : Int} (h : i < xs.length) : at0 (xs.set i y) j = if i = j then y else at0 xs j := by
  simp only [at0, List.getD, List.getElem?_set]
  by_cases e : i = j
  · subst e; simp [h]
  · simp [e]
theorem at0_swapZ {zs : List Int} {k j : Nat} (h : k + 1 < zs.length) : at0 (swapZ zs (k : Int)) j = if j = k then at0 zs (k + 1) else if j = k + 1 then at0 zs k else at0 zs j := by
  rw [swapZ_in h, at0_set (by simp; omega), at0_set (by omega)]
  by_cases e1 : j = k
  · subst e1; simp
  · by_cases e2 : j = k + 1
    · subst e2; simp
    · have e3 : ¬ k = j := fun e => e1 e.symm
      have e4 : ¬ k + 1 = j := fun e => e2 e.symm
      simp [e1, e2, e3, e4]

def moveF (F : Nat → Int) (f t j : Nat) : Int :=
  if j = t then F f else if f ≤ j ∧ j < t then F (j + 1) else if t < j ∧ j ≤ f then F (j - 1) else F j
def moveZ (zs : List Int) (f t : Int) : List Int :=
  if (0 ≤ f ∧ f < zs.length) ∧ (0 ≤ t ∧ t < zs.length) then ofFn zs.length (moveF (at0 zs) f.toNat t.toNat) else zs
theorem moveZ_length (zs : List Int) (f t : Int) : (moveZ zs f t).length = zs.length := by unfold moveZ; split <;> simp [ofFn_length]
theorem moveZ_in {zs : List Int} {f t : Nat} (hf : f < zs.length) (ht : t < zs.length) : moveZ zs (f : Int) (t : Int) = ofFn zs.length (moveF (at0 zs) f t) := by
  unfold moveZ; rw [if_pos (by omega)]; simp
theorem moveZ_out {zs : List Int} {f t : Int} (h : ¬ ((0 ≤ f ∧ f < zs.length) ∧ (0 ≤ t ∧ t < zs.length))) : moveZ zs f t = zs := by unfold moveZ; rw [if_neg h]
theorem at0_moveZ {zs : List Int} {f t j : Nat} (hf : f < zs.length) (ht : t < zs.length) (hj : j < zs.length) : at0 (moveZ zs (f : Int) (t : Int)) j = moveF (at0 zs) f t j := by
  rw [moveZ_in hf ht, at0_ofFn hj]
theorem moveZ_self {zs : List Int} {f : Nat} (hf : f < zs.length) : moveZ zs (f : Int) (f : Int) = zs := by
  refine eq_of_at0 (moveZ_length _ _ _) fun j hj => ?_
  rw [moveZ_length] at hj
  rw [at0_moveZ hf hf hj]
  unfold moveF
  by_cases e : j = f
  · subst e; simp
  · rw [if_neg e, if_neg (by omega), if_neg (by omega)]
theorem moveZ_up {zs : List Int} {f t : Nat} (hft : f ≤ t) (ht : t + 1 < zs.length) : swapZ (moveZ zs (f : Int) (t : Int)) (t : Int) = moveZ zs (f : Int) ((t + 1 : Nat) : Int) := by
  have hl : t + 1 < (moveZ zs (f : Int) (t : Int)).length := by rw [moveZ_length]; exact ht
  refine eq_of_at0 (by rw [swapZ_length, moveZ_length, moveZ_length]) fun j hj => ?_
  rw [swapZ_length, moveZ_length] at hj
  rw [at0_swapZ hl, at0_moveZ (by omega) (by omega) (by omega), at0_moveZ (by omega) (by omega) (by omega), at0_moveZ (by omega) (by omega) hj, at0_moveZ (by omega) (by omega) hj]
  clear hl
  unfold moveF
  repeat' split
  all_goals first | rfl | omega | (congr 1; omega)
theorem moveZ_down {zs : List Int} {f t : Nat} (hft : t + 1 ≤ f) (hf : f < zs.length) : swapZ (moveZ zs (f : Int) ((t + 1 : Nat) : Int)) (t : Int) = moveZ zs (f : Int) (t : Int) := by
  have hl : t + 1 < (moveZ zs (f : Int) ((t + 1 : Nat) : Int)).length := by rw [moveZ_length]; omega
  refine eq_of_at0 (by rw [swapZ_length, moveZ_length, moveZ_length]) fun j hj => ?_
  rw [swapZ_length, moveZ_length] at hj
  rw [at0_swapZ hl, at0_moveZ (by omega) (by omega) (by omega), at0_moveZ (by omega) (by omega) (by omega), at0_moveZ (by omega) (by omega) hj, at0_moveZ (by omega) (by omega) hj]
  clear hl
  unfold moveF
  repeat' split
  all_goals first | rfl | omega | (congr 1; omega)
/-- What Delete and Insert make of it. -/
theorem moveZ_cut {zs : List Int} {f t : Nat} (hf : f < zs.length) (ht : t < zs.length) :
    (zs.take f ++ zs.drop (f + 1)).take t ++ [at0 zs f] ++ (zs.take f ++ zs.drop (f + 1)).drop t = moveZ zs (f : Int) (t : Int) := by
  have hm : (zs.take f ++ zs.drop (f + 1)).length = zs.length - 1 := by simp; omega
  have hmj : ∀ j, at0 (zs.take f ++ zs.drop (f + 1)) j = if j < f then at0 zs j else at0 zs (j + 1) := by
    intro j
    by_cases h : j < f
    · rw [if_pos h, at0_append_left (by simp; omega), at0_take h]
    · rw [if_neg h, at0_append_right (by simp; omega), at0_drop]
      congr 1; simp; omega
  generalize zs.take f ++ zs.drop (f + 1) = m at hm hmj ⊢
  refine eq_of_at0 (by rw [moveZ_length]; simp; omega) fun j hj => ?_
  have hj' : j < zs.length := by simp at hj; omega
  rw [at0_moveZ hf ht hj']
  have hmin : (m.take t).length = t := by simp; omega
  have hlen : (m.take t ++ [at0 zs f]).length = t + 1 := by simp; omega
  by_cases e1 : j < t
  · rw [at0_append_left (by omega), at0_append_left (by omega), at0_take e1, hmj]
    unfold moveF
    repeat' split
    all_goals first | rfl | omega | (congr 1; omega)
  · by_cases e2 : j = t
    · subst e2
      rw [at0_append_left (by omega), at0_append_right (by omega), hmin, Nat.sub_self]
      unfold moveF
      rw [if_pos rfl]; rfl
    · rw [at0_append_right (by omega), at0_drop, hmj, hlen]
      unfold moveF
      repeat' split
      all_goals first | rfl | omega | (congr 1; omega)


/-- A list without repeats of numbers below n has at most n elements. -/
theorem nodup_length_le (n : Nat) : ∀ l : List Nat, l.Nodup → (∀ x ∈ l, x < n) → l.length ≤ n := by
  induction n with
  | zero =>
    intro l _ h
    cases l with
    | nil => simp
    | cons x l => have := h x (by simp); omega
  | succ n ih =>
    intro l hn h
    by_cases hm : n ∈ l
    · have h1 := ih (l.erase n) (hn.erase n) (fun x hx => by
        have h2 := (hn.mem_erase_iff).1 hx
        have := h x h2.2
        have := h2.1
        omega)
      rw [List.length_erase_of_mem hm] at h1
      omega
    · have h1 := ih l hn (fun x hx => by
        have := h x hx
        have : x ≠ n := fun e => hm (e ▸ hx)
        omega)
      omega
theorem nodup_surj {n : Nat} {l : List Nat} (hn : l.Nodup) (h : ∀ x ∈ l, x < n) (hl : l.length = n) {x : Nat} (hx : x < n) : x ∈ l := by
  rcases Classical.em (x ∈ l) with h1 | h1
  · exact h1
  · have := nodup_length_le n (x :: l) (List.nodup_cons.2 ⟨h1, hn⟩) (fun y hy => by
      rcases List.mem_cons.1 hy with rfl | hy
      · exact hx
      · exact h y hy)
    simp at this; omega

/-- In an order every number has its place. -/
theorem right_surj {zs : List Int} (h : rightB zs = true) {x : Nat} (hx : x < zs.length) : ∃ k, k < zs.length ∧ at0 zs k = (x : Int) := by
  obtain ⟨h1, h2⟩ := (rightB_iff zs).1 h
  have hnd : (zs.map Int.toNat).Nodup := by
    rw [List.nodup_iff_pairwise_ne, List.pairwise_iff_getElem]
    intro i j hi hj hij
    simp only [List.length_map] at hi hj
    simp only [List.getElem_map]
    have a := h2 j hj i hij
    have b := (h1 i hi).1
    have c := (h1 j hj).1
    rw [at0_eq hi] at a b
    rw [at0_eq hj] at a c
    omega
  have hb : ∀ y ∈ zs.map Int.toNat, y < zs.length := by
    intro y hy
    obtain ⟨z, hz, rfl⟩ := List.mem_map.1 hy
    obtain ⟨k, hk, rfl⟩ := List.mem_iff_getElem.1 hz
    have := h1 k hk
    rw [at0_eq hk] at this
    omega
  have hm := nodup_surj hnd hb (by simp) hx
  obtain ⟨z, hz, hzx⟩ := List.mem_map.1 hm
  obtain ⟨k, hk, rfl⟩ := List.mem_iff_getElem.1 hz
  refine ⟨k, hk, ?_⟩
  have := (h1 k hk).1
  rw [at0_eq hk] at this ⊢
  omega

theorem placeZ_at {zs : List Int} (h : rightB zs = true) {k : Nat} (hk : k < zs.length) : placeZ zs (at0 zs k) = k :=
  placeZ_found hk rfl fun j hj => ((rightB_iff zs).1 h).2 k hk j hj

def invTo (zs : List Int) (k : Nat) : List Int := ofFn zs.length fun x => if placeZ zs (x : Int) < k then max (placeZ zs (x : Int)) 0 else 0
theorem invTo_zero (zs : List Int) : invTo zs 0 = List.replicate zs.length 0 := by
  symm
  refine eq_ofFn (by simp) fun j hj => ?_
  have : at0 (List.replicate zs.length 0) j = 0 := by rw [at0_eq (by simpa using hj)]; simp
  rw [this]; split <;> omega
theorem invTo_step {zs : List Int} (h : rightB zs = true) {k : Nat} (hk : k < zs.length) : (invTo zs k).set (at0 zs k).toNat (k : Int) = invTo zs (k + 1) := by
  have hr := ((rightB_iff zs).1 h).1 k hk
  have hp := placeZ_at h hk
  refine eq_of_at0 (by simp [invTo, ofFn_length]) fun j hj => ?_
  have hj' : j < zs.length := by simpa [invTo, ofFn_length] using hj
  rw [at0_set (by simp [invTo, ofFn_length]; omega)]
  unfold invTo
  rw [at0_ofFn hj', at0_ofFn hj']
  by_cases e : (at0 zs k).toNat = j
  · have ej : (j : Int) = at0 zs k := by omega
    rw [if_pos e, ej, hp, if_pos (by omega)]; omega
  · rw [if_neg e]
    obtain ⟨q, hq, hqe⟩ := right_surj h hj'
    have hq2 := placeZ_at h hq
    rw [hqe] at hq2
    rw [hq2]
    have : q ≠ k := by rintro rfl; omega
    by_cases c : (q : Int) < k
    · rw [if_pos c, if_pos (by omega)]
    · rw [if_neg c, if_neg (by omega)]
theorem invTo_end {zs : List Int} (h : rightB zs = true) : invTo zs zs.length = inverseZ zs := by
  unfold inverseZ
  rw [if_pos h]
  refine eq_of_at0 (by simp [invTo, ofFn_length, iota_length]) fun j hj => ?_
  have hj' : j < zs.length := by simpa [invTo, ofFn_length] using hj
  unfold invTo
  rw [at0_ofFn hj', at0_eq (by simpa [iota_length] using hj')]
  obtain ⟨q, hq, hqe⟩ := right_surj h hj'
  have hq2 := placeZ_at h hq
  rw [hqe] at hq2
  simp [iota, hq2]; omega

end Go.Proofs.Ytcembefhfadpbaa
