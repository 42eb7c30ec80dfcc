/- The walk of the law PermSteps. -/
import Derived.Test.YtcembefhfadpbaaPermL
namespace Go.Proofs.Ytcembefhfadpbaa
open Go.RowKit

set_option maxHeartbeats 800000 in
theorem lawSteps_any (va vb : Value) (xs ys : List Int) (w : World) (h : SliceIs w va xs) (h' : SliceIs w vb ys) :
    Calls Try.prog 5 #[va, vb] w fun e w' => e = .returned (.bool true) ∧ Below w.heap.size w w' := by
  have HA := Lib.hid h
  have HB := Lib.hid h'
  obtain ⟨a, c, rfl, ha, hna⟩ := h
  obtain ⟨b, c', rfl, hb, hnb⟩ := h'
  have hla := ha.len
  have hlb := hb.len
  clear ha hna hb hnb
  by_cases h1 : (40 : Int) < xs.length
  · go_enter Try.func5, Try.ntmps5
    go_wp2_with fail
    refine (lives_any _).mono ?_
    rintro e w1 ⟨rfl, hb1⟩
    go_wp2_with fail
    go_ret
    exact ⟨rfl, hb1⟩
  · by_cases h2 : (40 : Int) < ys.length
    · go_enter Try.func5, Try.ntmps5
      go_wp2_with fail
      refine (lives_any _).mono ?_
      rintro e w1 ⟨rfl, hb1⟩
      go_wp2_with fail
      go_ret
      exact ⟨rfl, hb1⟩
    · go_enter Try.func5, Try.ntmps5
      go_wp2_with fail
      refine (permSteps_any _ _ xs ys _ HA.out HB.out (by omega) (by omega)).mono ?_
      rintro e w1 ⟨v1, rfl, hs1, hb1⟩
      go_wp2_with fail
      refine (refSteps_any _ _ xs ys _ (HA.out.below hb1) (HB.out.below hb1) (by omega) (by omega)).mono ?_
      rintro e w2 ⟨v2, rfl, hs2, hb2⟩
      have hB2 := hb1.trans (hb2.mono hb1.size)
      have hs1' := hs1.below hb2
      have hz2 := hB2.size
      go_wp2_with fail
      refine (refSame_yes hs1' hs2 rfl).mono ?_
      rintro e w3 ⟨rfl, n, rfl⟩
      go_wp2_with fail
      refine (lives_any _).mono ?_
      rintro e w4 ⟨rfl, hb4⟩
      go_wp2_with fail
      go_ret
      exact ⟨rfl, (below_drewN hB2 n).trans (hb4.mono (by simpa using hz2))⟩

end Go.Proofs.Ytcembefhfadpbaa
