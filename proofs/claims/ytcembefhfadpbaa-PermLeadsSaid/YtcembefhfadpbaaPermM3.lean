/- Plain laws on orders: what keeps an order an order, and what leads back; no program in sight. -/
import Derived.Test.YtcembefhfadpbaaPermM2
namespace Go.Proofs.Ytcembefhfadpbaa

theorem right_inj {zs : List Int} (h : rightB zs = true) {i j : Nat} (hi : i < zs.length) (hj : j < zs.length) (he : at0 zs i = at0 zs j) : i = j := by
  have h2 := ((rightB_iff zs).1 h).2
  rcases Nat.lt_trichotomy i j with hlt | e | hlt
  · exact (h2 j hj i hlt he).elim
  · exact e
  · exact (h2 i hi j hlt he.symm).elim
theorem right_comp {zs ys : List Int} (h : rightB zs = true) (hl : ys.length = zs.length) (p : Nat → Nat) (hp : ∀ j, j < zs.length → p j < zs.length)
    (hinj : ∀ i j, i < zs.length → j < zs.length → p i = p j → i = j) (hy : ∀ j, j < zs.length → at0 ys j = at0 zs (p j)) : rightB ys = true := by
  rw [rightB_iff, hl]
  have h1 := ((rightB_iff zs).1 h).1
  refine ⟨fun k hk => by rw [hy k hk]; exact h1 _ (hp k hk), fun i hi k hk he => ?_⟩
  rw [hy i hi, hy k (by omega)] at he
  have := hinj k i (by omega) hi (right_inj h (hp k (by omega)) (hp i hi) he)
  omega
theorem right_swap {zs : List Int} (h : rightB zs = true) (i : Int) : rightB (swapZ zs i) = true := by
  by_cases hin : 0 ≤ i ∧ i + 1 < zs.length
  · obtain ⟨k, rfl⟩ := Int.eq_ofNat_of_zero_le hin.1
    have hk : k + 1 < zs.length := by omega
    refine right_comp h (swapZ_length _ _) (fun j => if j = k then k + 1 else if j = k + 1 then k else j) ?_ ?_ ?_
    · intro j hj; repeat' split
      all_goals omega
    · intro i j hi hj; repeat' split
      all_goals omega
    · intro j hj; rw [at0_swapZ hk]; repeat' split
      all_goals rfl
  · rw [swapZ_out hin]; exact h
theorem swap_swap {zs : List Int} (i : Int) : swapZ (swapZ zs i) i = zs := by
  by_cases hin : 0 ≤ i ∧ i + 1 < zs.length
  · obtain ⟨k, rfl⟩ := Int.eq_ofNat_of_zero_le hin.1
    have hk : k + 1 < zs.length := by omega
    have hk2 : k + 1 < (swapZ zs (k : Int)).length := by rw [swapZ_length]; exact hk
    refine eq_of_at0 (by rw [swapZ_length, swapZ_length]) fun j hj => ?_
    rw [at0_swapZ hk2, at0_swapZ hk, at0_swapZ hk, at0_swapZ hk]
    repeat' split
    all_goals first | rfl | omega | (congr 1; omega)
  · rw [swapZ_out hin, swapZ_out hin]
theorem right_move {zs : List Int} (h : rightB zs = true) (f t : Int) : rightB (moveZ zs f t) = true := by
  by_cases hin : (0 ≤ f ∧ f < zs.length) ∧ (0 ≤ t ∧ t < zs.length)
  · obtain ⟨f, rfl⟩ := Int.eq_ofNat_of_zero_le hin.1.1
    obtain ⟨t, rfl⟩ := Int.eq_ofNat_of_zero_le hin.2.1
    have hf : f < zs.length := by omega
    have ht : t < zs.length := by omega
    clear hin
    refine right_comp h (moveZ_length _ _ _) (fun j => if j = t then f else if f ≤ j ∧ j < t then j + 1 else if t < j ∧ j ≤ f then j - 1 else j) ?_ ?_ ?_
    · intro j hj; repeat' split
      all_goals omega
    · intro i j hi hj; repeat' split
      all_goals omega
    · intro j hj; rw [at0_moveZ hf ht hj]; unfold moveF; repeat' split
      all_goals rfl
  · rw [moveZ_out hin]; exact h
theorem move_move {zs : List Int} (f t : Int) : moveZ (moveZ zs f t) t f = zs := by
  by_cases hin : (0 ≤ f ∧ f < zs.length) ∧ (0 ≤ t ∧ t < zs.length)
  · obtain ⟨f, rfl⟩ := Int.eq_ofNat_of_zero_le hin.1.1
    obtain ⟨t, rfl⟩ := Int.eq_ofNat_of_zero_le hin.2.1
    have hf : f < zs.length := by omega
    have ht : t < zs.length := by omega
    clear hin
    have hl := moveZ_length zs (f : Int) (t : Int)
    refine eq_of_at0 (by rw [moveZ_length, moveZ_length]) fun j hj => ?_
    rw [moveZ_length, hl] at hj
    rw [at0_moveZ (by omega) (by omega) (by omega)]
    unfold moveF
    repeat' split
    all_goals (rw [at0_moveZ hf ht (by omega)]; unfold moveF; repeat' split)
    all_goals first | rfl | omega | (congr 1; omega)
  · rw [moveZ_out hin, moveZ_out (by intro hh; exact hin ⟨hh.2, hh.1⟩)]
theorem at0_reverse {zs : List Int} {j : Nat} (hj : j < zs.length) : at0 zs.reverse j = at0 zs (zs.length - 1 - j) := by
  rw [at0_eq (by simpa using hj), at0_eq (by omega), List.getElem_reverse]
theorem right_reverse {zs : List Int} (h : rightB zs = true) : rightB zs.reverse = true :=
  right_comp h (by simp) (fun j => zs.length - 1 - j) (fun j hj => by omega) (fun i j hi hj => by omega) (fun j hj => at0_reverse hj)
theorem inverseZ_length {zs : List Int} (h : rightB zs = true) : (inverseZ zs).length = zs.length := by unfold inverseZ; rw [if_pos h]; simp [iota_length]
theorem at0_inverse {zs : List Int} (h : rightB zs = true) {x : Nat} (hx : x < zs.length) : at0 (inverseZ zs) x = placeZ zs (x : Int) := by
  rw [at0_eq (by rw [inverseZ_length h]; exact hx)]
  simp only [inverseZ, h, if_true]
  simp [iota]
theorem at0_inverse_at {zs : List Int} (h : rightB zs = true) {p : Nat} (hp : p < zs.length) : at0 (inverseZ zs) (at0 zs p).toNat = p := by
  have h1 := ((rightB_iff zs).1 h).1 p hp
  rw [at0_inverse h (by omega), show (((at0 zs p).toNat : Nat) : Int) = at0 zs p by omega, placeZ_at h hp]
theorem right_inverse {zs : List Int} (h : rightB zs = true) : rightB (inverseZ zs) = true := by
  rw [rightB_iff, inverseZ_length h]
  refine ⟨fun k hk => ?_, fun i hi k hk he => ?_⟩
  · obtain ⟨q, hq, hqe⟩ := right_surj h hk
    rw [at0_inverse h hk, ← hqe, placeZ_at h hq]; omega
  · obtain ⟨q, hq, hqe⟩ := right_surj h hi
    obtain ⟨r, hr, hre⟩ := right_surj h (show k < zs.length by omega)
    rw [at0_inverse h hi, at0_inverse h (by omega), ← hqe, ← hre, placeZ_at h hq, placeZ_at h hr] at he
    have : q = r := by omega
    subst this
    omega
theorem inverse_inverse {zs : List Int} (h : rightB zs = true) : inverseZ (inverseZ zs) = zs := by
  have hi := right_inverse h
  have hl := inverseZ_length h
  refine eq_of_at0 (by rw [inverseZ_length hi, hl]) fun j hj => ?_
  rw [inverseZ_length hi, hl] at hj
  have h1 := ((rightB_iff zs).1 h).1 j hj
  have h2 := at0_inverse_at h hj
  have hx : (at0 zs j).toNat < (inverseZ zs).length := by omega
  have h3 := placeZ_at hi hx
  rw [h2] at h3
  rw [at0_inverse hi (by omega), h3]; omega

end Go.Proofs.Ytcembefhfadpbaa
