/- Plain laws: bubbling leads from one order to another, and the number of exchanges is the number of inversions; no program in sight. -/
import Derived.Test.YtcembefhfadpbaaPermM3
namespace Go.Proofs.Ytcembefhfadpbaa

/-- The number of pairs that f puts in falling order. -/
def invs (f : Int → Int) : List Int → Nat
  | [] => 0
  | x :: xs => xs.countP (fun y => decide (f x > f y)) + invs f xs
theorem invs_exchange (f : Int → Int) (l : List Int) (x y : Int) (r : List Int) (h : f x > f y) : invs f (l ++ x :: y :: r) = invs f (l ++ y :: x :: r) + 1 := by
  induction l with
  | nil =>
    simp only [List.nil_append, invs, List.countP_cons]
    have h2 : ¬ f y > f x := by omega
    simp only [h, h2, decide_true, decide_false, if_true, Bool.false_eq_true, if_false]
    omega
  | cons a l ih =>
    simp only [List.cons_append, invs, ih, List.countP_append, List.countP_cons]
    omega

theorem split_two {zs : List Int} {k : Nat} (h : k + 1 < zs.length) : zs = zs.take k ++ at0 zs k :: at0 zs (k + 1) :: zs.drop (k + 2) := by
  have h1 := List.take_append_drop k zs
  rw [drop_at0 (by omega), drop_at0 h] at h1
  exact h1.symm
theorem swap_split {zs : List Int} {k : Nat} (h : k + 1 < zs.length) : swapZ zs (k : Int) = zs.take k ++ at0 zs (k + 1) :: at0 zs k :: zs.drop (k + 2) := by
  refine eq_of_at0 (by rw [swapZ_length]; simp; omega) fun j hj => ?_
  rw [at0_swapZ h]
  have hk : (zs.take k).length = k := by simp; omega
  by_cases e1 : j < k
  · rw [at0_append_left (by omega), at0_take e1, if_neg (by omega), if_neg (by omega)]
  · rw [at0_append_right (by omega), hk]
    by_cases e2 : j = k
    · subst e2; rw [if_pos rfl, Nat.sub_self]; rfl
    · by_cases e3 : j = k + 1
      · subst e3; rw [if_neg e2, if_pos rfl, show k + 1 - k = 1 by omega]; rfl
      · rw [if_neg e2, if_neg e3, show j - k = (j - k - 2) + 2 by omega]
        show _ = at0 (zs.drop (k + 2)) (j - k - 2)
        rw [at0_drop]; congr 1; omega
theorem invs_swap {f : Int → Int} {zs : List Int} {k : Nat} (h : k + 1 < zs.length) (hf : f (at0 zs k) > f (at0 zs (k + 1))) : invs f zs = invs f (swapZ zs (k : Int)) + 1 := by
  rw [swap_split h]
  conv => lhs; rw [split_two h]
  exact invs_exchange f _ _ _ _ hf

/-- What the outer loop keeps: an order of as many numbers, alike with the goal below i. -/
structure Upto (bs cur : List Int) (i : Nat) : Prop where
  len : cur.length = bs.length
  right : rightB cur = true
  pre : ∀ j, j < i → at0 cur j = at0 bs j

/-- Bubbling the number x from i+d down to i: an inversion less for each exchange. -/
theorem bub_law {bs : List Int} (hb : rightB bs = true) {i : Nat} (hi : i < bs.length) (d : Nat) : ∀ cur : List Int, Upto bs cur i → i + d < bs.length → at0 cur (i + d) = at0 bs i →
    Upto bs (bub cur i d).1 (i + 1) ∧ invs (placeZ bs) cur = invs (placeZ bs) (bub cur i d).1 + d ∧ (∀ s ∈ (bub cur i d).2, 0 ≤ s ∧ s + 1 < bs.length) ∧ (bub cur i d).2.foldl swapZ cur = (bub cur i d).1 := by
  induction d with
  | zero =>
    intro cur hu hd hx
    refine ⟨⟨hu.len, hu.right, fun j hj => ?_⟩, rfl, by simp [bub], rfl⟩
    by_cases e : j = i
    · subst e; exact hx
    · exact hu.pre j (by omega)
  | succ d ih =>
    intro cur hu hd hx
    have hk : (i + d) + 1 < cur.length := by rw [hu.len]; omega
    have hsw : Upto bs (swapZ cur ((i + d : Nat) : Int)) i := by
      refine ⟨by rw [swapZ_length, hu.len], right_swap hu.right _, fun j hj => ?_⟩
      rw [at0_swapZ hk, if_neg (by omega), if_neg (by omega)]; exact hu.pre j hj
    have hx2 : at0 (swapZ cur ((i + d : Nat) : Int)) (i + d) = at0 bs i := by
      rw [at0_swapZ hk, if_pos rfl]; exact hx
    obtain ⟨h1, h2, h3, h4⟩ := ih _ hsw (by omega) hx2
    refine ⟨h1, ?_, ?_, ?_⟩
    · have hgt : placeZ bs (at0 cur (i + d)) > placeZ bs (at0 cur (i + d + 1)) := by
        have e1 : at0 cur (i + d + 1) = at0 bs i := hx
        rw [e1, placeZ_at hb hi]
        have hr := ((rightB_iff cur).1 hu.right).1 (i + d) (by omega)
        obtain ⟨q, hq, hqe⟩ := right_surj hb (x := (at0 cur (i + d)).toNat) (by rw [← hu.len]; omega)
        have e2 : at0 bs q = at0 cur (i + d) := by omega
        rw [← e2, placeZ_at hb hq]
        rcases Nat.lt_or_ge i q with hlt | hge
        · omega
        · exfalso
          by_cases e3 : q = i
          · subst e3
            have := right_inj hu.right (i := q + d) (j := q + d + 1) (by omega) (by omega) (by rw [← e2, e1])
            omega
          · have h5 := hu.pre q (by omega)
            rw [e2] at h5
            have := right_inj hu.right (i := q) (j := i + d) (by omega) (by omega) h5
            omega
      rw [invs_swap hk hgt, h2]
      show _ = invs _ (bub (swapZ cur ((i + d : Nat) : Int)) i d).1 + (d + 1)
      omega
    · intro s hs
      rw [bub] at hs
      rcases List.mem_cons.1 hs with rfl | hs
      · omega
      · exact h3 s hs
    · exact h4

theorem upto_all {bs cur : List Int} (h : Upto bs cur bs.length) : cur = bs := eq_of_at0 h.len fun k hk => h.pre k (by rw [← h.len]; exact hk)
theorem invs_self {bs : List Int} (hb : rightB bs = true) : invs (placeZ bs) bs = 0 := by
  have key : ∀ n k, n + k = bs.length → invs (placeZ bs) (bs.drop k) = 0 := by
    intro n
    induction n with
    | zero => intro k hk; rw [List.drop_of_length_le (by omega)]; rfl
    | succ n ih =>
      intro k hk
      rw [drop_at0 (by omega)]
      simp only [invs]
      rw [ih (k + 1) (by omega), Nat.add_zero, List.countP_eq_zero]
      intro y hy
      obtain ⟨j, hj, rfl⟩ := List.mem_iff_getElem.1 hy
      simp only [List.length_drop] at hj
      have e : (bs.drop (k + 1))[j]'(by simpa using hj) = at0 bs (k + 1 + j) := by rw [at0_eq (by omega), List.getElem_drop]
      rw [e, placeZ_at hb (by omega), placeZ_at hb (by omega)]
      simp; omega
  have := key bs.length 0 (by omega)
  simpa using this

theorem steps_law {bs : List Int} (hb : rightB bs = true) (n : Nat) : ∀ (k : Nat) (cur : List Int), n + k = bs.length → Upto bs cur k →
    (stepsZ cur (bs.drop k) k).length = invs (placeZ bs) cur ∧ (∀ s ∈ stepsZ cur (bs.drop k) k, 0 ≤ s ∧ s + 1 < bs.length) ∧ (stepsZ cur (bs.drop k) k).foldl swapZ cur = bs := by
  induction n with
  | zero =>
    intro k cur hk hu
    obtain rfl : k = bs.length := by omega
    obtain rfl := upto_all hu
    rw [List.drop_of_length_le (Nat.le_refl _)]
    exact ⟨(invs_self hb).symm, by simp [stepsZ], rfl⟩
  | succ n ih =>
    intro k cur hk hu
    have hkl : k < bs.length := by omega
    rw [stepsZ_drop cur bs k hkl]
    obtain ⟨q, hq, hqe⟩ := right_surj hu.right (x := (at0 bs k).toNat) (by rw [hu.len]; have := ((rightB_iff bs).1 hb).1 k hkl; omega)
    have hrk := ((rightB_iff bs).1 hb).1 k hkl
    have e1 : at0 cur q = at0 bs k := by omega
    have hp : placeZ cur (at0 bs k) = q := by rw [← e1]; exact placeZ_at hu.right hq
    have hkq : k ≤ q := by
      rcases Nat.lt_or_ge q k with hlt | hge
      · have := hu.pre q hlt
        rw [e1] at this
        have := right_inj hb (i := k) (j := q) hkl (by omega) this
        omega
      · exact hge
    have hd : ∃ d, q = k + d := ⟨q - k, by omega⟩
    obtain ⟨d, rfl⟩ := hd
    have hbt : bubTo cur (at0 bs k) k = bub cur k d := by unfold bubTo; rw [hp]; congr 1; omega
    rw [hbt]
    obtain ⟨h1, h2, h3, h4⟩ := bub_law hb hkl d cur hu (by rw [← hu.len]; exact hq) e1
    obtain ⟨i1, i2, i3⟩ := ih (k + 1) _ (by omega) h1
    refine ⟨?_, ?_, ?_⟩
    · rw [List.length_append, i1, bub_length2, h2]; omega
    · intro s hs
      rcases List.mem_append.1 hs with hs | hs
      · exact h3 s hs
      · exact i2 s hs
    · rw [List.foldl_append, h4]; exact i3

theorem leads_law {as_ bs : List Int} (ha : rightB as_ = true) (hb : rightB bs = true) (hl : as_.length = bs.length) :
    (stepsOf as_ bs).length = invs (placeZ bs) as_ ∧ (∀ s ∈ stepsOf as_ bs, 0 ≤ s ∧ s + 1 < bs.length) ∧ (stepsOf as_ bs).foldl swapZ as_ = bs := by
  have := steps_law hb bs.length 0 as_ (by omega) ⟨hl, ha, by omega⟩
  unfold stepsOf
  rw [if_pos ⟨ha, hb, hl⟩]
  simpa using this

end Go.Proofs.Ytcembefhfadpbaa
