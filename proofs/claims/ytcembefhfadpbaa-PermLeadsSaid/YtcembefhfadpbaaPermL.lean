/- The walk of the laws' own example (lives) and of PermSteps. -/
import Derived.Test.YtcembefhfadpbaaPermV5
namespace Go.Proofs.Ytcembefhfadpbaa
open Go.RowKit

theorem sliceIs_lit (w : World) (zs : List Int) (n : Nat) (hn : n = zs.length) (hl : zs.length ≤ 9223372036854775807) (cs : List Value) (hcs : cs = intsV zs) :
    SliceIs (w.alloc (.cells cs.toArray 3)) (.slice (some ⟨w.heap.size, 0, none⟩) n n) zs := by
  subst hn; subst hcs
  refine ⟨_, _, rfl, ⟨hl, fun k hk => ⟨w.heap.size, 0, rfl, ?_⟩⟩, by simp⟩
  rw [Nat.zero_add, World.cell?_alloc_new, List.getElem?_toArray, intsV, List.getElem?_map, getElem?_at0 hk]; rfl

theorem refSame_v {u v : Value} {xs ys : List Int} {w : World} (h : SliceIs w u xs) (h' : SliceIs w v ys) :
    Calls Try.prog 15 #[u, v] w fun e w' => e = .returned (.bool (decide (xs = ys))) ∧ ∃ n, w' = w.drewN n := by
  obtain ⟨a, c, rfl, h1, h2⟩ := h
  obtain ⟨a', c', rfl, h1', h2'⟩ := h'
  exact refSame_any a a' c c' xs ys w h1 h1'
/-- Two slices that read alike. -/
theorem refSame_yes {u v : Value} {xs ys : List Int} {w : World} (h : SliceIs w u xs) (h' : SliceIs w v ys) (he : xs = ys) :
    Calls Try.prog 15 #[u, v] w fun e w' => e = .returned (.bool true) ∧ ∃ n, w' = w.drewN n :=
  (refSame_v h h').mono fun e w' ⟨h1, h2⟩ => ⟨by rw [h1, decide_eq_true he], h2⟩
theorem permMove_v {v : Value} {zs : List Int} {f t : Int} {w : World} (h : SliceIs w v zs) (hlen : zs.length < 1000000) :
    Calls Try.prog 25 #[v, .int .i64 f, .int .i64 t] w fun e w' => ∃ v, e = .returned v ∧ SliceIs w' v (moveZ zs f t) ∧ Below w.heap.size w w' := by
  obtain ⟨a, c, rfl, h1, h2⟩ := h
  exact permMove_any a c zs f t w h1 hlen
theorem permInverse_v {v : Value} {zs : List Int} {w : World} (h : SliceIs w v zs) (hlen : zs.length < 1000000) :
    Calls Try.prog 22 #[v] w fun e w' => ∃ v, e = .returned v ∧ SliceIs w' v (inverseZ zs) ∧ Below w.heap.size w w' := by
  obtain ⟨a, c, rfl, h1, h2⟩ := h
  exact permInverse_any a c zs w h1 hlen
theorem permRight_v {v : Value} {zs : List Int} {w : World} (h : SliceIs w v zs) (hlen : zs.length < 1000000) :
    Calls Try.prog 19 #[v] w fun e w' => e = .returned (.bool (rightB zs)) ∧ Below w.heap.size w w' := by
  obtain ⟨a, c, rfl, h1, h2⟩ := h
  exact permRight_any a c zs w h1 hlen
theorem permTurn_v {v : Value} {zs : List Int} {w : World} (h : SliceIs w v zs) (hlen : zs.length < 1000000) :
    Calls Try.prog 27 #[v] w fun e w' => ∃ v, e = .returned v ∧ SliceIs w' v zs.reverse ∧ Below w.heap.size w w' := by
  obtain ⟨a, c, rfl, h1, h2⟩ := h
  exact permTurn_any a c zs w h1 hlen
theorem permSwap_v {v : Value} {zs : List Int} {i : Int} {w : World} (h : SliceIs w v zs) (hlen : zs.length < 1000000) :
    Calls Try.prog 18 #[v, .int .i64 i] w fun e w' => ∃ v, e = .returned v ∧ SliceIs w' v (swapZ zs i) ∧ Below w.heap.size w w' := by
  obtain ⟨a, c, rfl, h1, h2⟩ := h
  exact (permSwap_any a c zs i w h1 hlen).mono fun e w' ⟨v, h1, h2, h3⟩ => ⟨v, h1, h2.sliceIs (by rw [swapZ_length]; omega), h3⟩

theorem live_steps : stepsOf [2, 0, 1] (identZ 3) = [0, 1] := by decide +kernel
theorem live_err : stepsErr [2, 0, 1] (identZ 3) = 0 := by decide +kernel
theorem live_move : moveZ (identZ 4) 3 1 = [0, 3, 1, 2] := by decide +kernel
theorem live_inverse : inverseZ [2, 0, 1] = [1, 2, 0] := by decide +kernel
theorem live_right : rightB [] = true := by decide +kernel
theorem ident_length (n : Int) : (identZ n).length ≤ 64 := by unfold identZ; rw [iota_length]; omega

set_option maxHeartbeats 800000 in
theorem lives_any (w : World) : Calls Try.prog 12 #[] w fun e w' => e = .returned (.bool true) ∧ Below w.heap.size w w' := by
  have HM := Lib.hid live_move
  have HV := Lib.hid live_inverse
  have HR := Lib.hid live_right
  go_enter Try.func12, Try.ntmps12
  go_wp2_with fail
  refine (permIdent_any _ _).mono ?_
  rintro e w1 ⟨v1, rfl, hown1, hb1⟩
  have hi1 := hown1.sliceIs (by have := ident_length 3; omega)
  have hl1 := (sliceIs_lit w [2, 0, 1] 3 rfl (by decide) [.int .i64 2, .int .i64 0, .int .i64 1] rfl).below hb1
  have hB1 := (below_new1 w (.cells #[.int .i64 2, .int .i64 0, .int .i64 1] 3)).trans (hb1.mono (by simp))
  clear hb1 hown1
  go_wp2_with fail
  refine (permSteps_any _ _ _ _ _ hl1 hi1 (by decide) (by have := ident_length 3; omega)).mono ?_
  rintro e w2 ⟨v2, rfl, hs2, hb2⟩
  rw [live_steps] at hs2
  rw [live_err]
  have hB2 := hB1.trans (hb2.mono hB1.size)
  clear hB1 hb2 hl1 hi1
  have hz2 := hB2.size
  go_wp2_with fail
  refine (refSame_yes (hs2.below (below_new1 _ _)) (sliceIs_lit w2 [0, 1] 2 rfl (by decide) [.int .i64 0, .int .i64 1] rfl) rfl).mono ?_
  rintro e w3 ⟨rfl, n3, rfl⟩
  have hB3 := below_drewN (hB2.alloc hz2 (.cells #[.int .i64 0, .int .i64 1] 3)) n3
  clear hB2 hs2
  generalize (w2.alloc (.cells #[.int .i64 0, .int .i64 1] 3)).drewN n3 = w3 at hB3 ⊢
  have hz3 := hB3.size
  go_wp2_with fail
  refine (permIdent_any _ _).mono ?_
  rintro e w4 ⟨v4, rfl, hown4, hb4⟩
  have hB4 := hB3.trans (hb4.mono hz3)
  have hi4 := hown4.sliceIs (by have := ident_length 4; omega)
  clear hB3 hb4 hown4
  have hz4 := hB4.size
  go_wp2_with fail
  refine (permMove_v hi4 (by have := ident_length 4; omega)).mono ?_
  rintro e w5 ⟨v5, rfl, hs5, hb5⟩
  rw [HM.out] at hs5
  have hB5 := hB4.trans (hb5.mono hz4)
  clear hB4 hb5 hi4
  have hz5 := hB5.size
  go_wp2_with fail
  refine (refSame_yes (hs5.below (below_new1 _ _)) (sliceIs_lit w5 [0, 3, 1, 2] 4 rfl (by decide) [.int .i64 0, .int .i64 3, .int .i64 1, .int .i64 2] rfl) rfl).mono ?_
  rintro e w6 ⟨rfl, n6, rfl⟩
  have hB6 := below_drewN (hB5.alloc hz5 (.cells #[.int .i64 0, .int .i64 3, .int .i64 1, .int .i64 2] 3)) n6
  clear hB5 hs5
  generalize (w5.alloc (.cells #[.int .i64 0, .int .i64 3, .int .i64 1, .int .i64 2] 3)).drewN n6 = w6 at hB6 ⊢
  have hz6 := hB6.size
  go_wp2_with fail
  refine (permInverse_v (sliceIs_lit w6 [2, 0, 1] 3 rfl (by decide) [.int .i64 2, .int .i64 0, .int .i64 1] rfl) (by decide)).mono ?_
  rintro e w7 ⟨v7, rfl, hs7, hb7⟩
  rw [HV.out] at hs7
  have hB7 := (hB6.alloc hz6 (.cells #[.int .i64 2, .int .i64 0, .int .i64 1] 3)).trans (hb7.mono (by simp; omega))
  clear hB6 hb7
  have hz7 := hB7.size
  go_wp2_with fail
  refine (refSame_yes (hs7.below (below_new1 _ _)) (sliceIs_lit w7 [1, 2, 0] 3 rfl (by decide) [.int .i64 1, .int .i64 2, .int .i64 0] rfl) rfl).mono ?_
  rintro e w8 ⟨rfl, n8, rfl⟩
  have hB8 := below_drewN (hB7.alloc hz7 (.cells #[.int .i64 1, .int .i64 2, .int .i64 0] 3)) n8
  clear hB7 hs7
  generalize (w7.alloc (.cells #[.int .i64 1, .int .i64 2, .int .i64 0] 3)).drewN n8 = w8 at hB8 ⊢
  have hz8 := hB8.size
  go_wp2_with fail
  refine (permRight_v (sliceIs_nil _) (by decide)).mono ?_
  rintro e w9 ⟨rfl, hb9⟩
  rw [HR.out]
  go_wp2_with fail
  go_ret
  exact ⟨rfl, hB8.trans (hb9.mono hz8)⟩

end Go.Proofs.Ytcembefhfadpbaa
