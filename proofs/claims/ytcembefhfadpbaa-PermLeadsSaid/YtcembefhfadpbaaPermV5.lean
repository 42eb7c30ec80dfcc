/- The walks of perm.Inverse and perm.Turn. -/
import Derived.Test.YtcembefhfadpbaaPermV4
namespace Go.Proofs.Ytcembefhfadpbaa
open Go.RowKit

set_option maxHeartbeats 800000 in
theorem permInverse_any (a : Option Addr) (c : Nat) (zs : List Int) (w : World) (h : IntsAt w a zs) (hlen : zs.length < 1000000) :
    Calls Try.prog 22 #[.slice a zs.length c] w fun e w' => ∃ v, e = .returned v ∧ SliceIs w' v (inverseZ zs) ∧ Below w.heap.size w w' := by
  have HI := Lib.hid h
  clear h
  by_cases hr : rightB zs = true
  · have HR := Lib.hid hr
    have hrange := ((rightB_iff zs).1 hr).1
    have HRA := Lib.hid hrange
    clear hr hrange
    go_enter Try.func22, Try.ntmps22
    go_wp2_with fail
    refine (permRight_any _ _ zs _ HI.out hlen).mono ?_
    rintro e w1 ⟨rfl, hb1⟩
    rw [HR.out]
    have hs1 := hb1.size
    go_wp2_with (at_make; refine wpList_makeI rfl _ _ rfl w.heap.size w _ zs.length rfl rfl rfl (by omega) hs1 hb1 ?_; intro g w2 hown2 hb2 hs2 hk2 hg2)
    have HI2 := Lib.hid (HI.out.below hb2)
    have hown3 : OwnI w2 w.heap.size (.slice (some ⟨g, 0, none⟩) zs.length zs.length) (invTo zs 0) := by rw [invTo_zero]; exact hown2
    go_loopw [14] (fun i wr => ∃ k : Nat, k ≤ zs.length ∧ i = .int .i64 k ∧ OwnI wr w.heap.size (.slice (some ⟨g, 0, none⟩) zs.length zs.length) (invTo zs k) ∧ Below w.heap.size w wr) (fun i _ => zs.length - (intOf i).toNat)
    case atStart => exact ⟨0, by omega, rfl, hown3, hb2⟩
    case round =>
      obtain ⟨k, hk, rfl, hown, hbel⟩ := hrel
      by_cases hlt : k < zs.length
      · obtain ⟨hx1, hx2⟩ := HRA.out k hlt
        have HI3 := Lib.hid (HI.out.below hbel)
        obtain ⟨b, off, rfl, hcell⟩ := HI3.out.cells k hlt
        have q0 := hown.cell (at0 zs k).toNat (by rw [← hown.len]; omega)
        have p0 := hown.frozen (at0 zs k).toNat
        have HST := Lib.hid (invTo_step HR.out hlt)
        go_wp2
        go_roundw
        case rel => exact ⟨k + 1, by omega, by go_num, by rw [← HST.out]; exact hown.stored _ _, hbel.setCell hg2 _⟩
        case measure => simp [intOf]; omega
      · obtain rfl : k = zs.length := by omega
        go_wp2
        go_ret
        exact ⟨_, rfl, by rw [← invTo_end HR.out]; exact hown.sliceIs (by rw [← hown.len]; omega), hbel⟩
  · have hr' : rightB zs = false := by simpa using hr
    have HR := Lib.hid hr'
    have HF : Hid (inverseZ zs = []) := by unfold inverseZ; rw [if_neg hr]; rfl
    clear hr hr'
    go_enter Try.func22, Try.ntmps22
    go_wp2_with fail
    refine (permRight_any _ _ zs _ HI.out hlen).mono ?_
    rintro e w1 ⟨rfl, hb1⟩
    rw [HR.out]
    go_wp2_with fail
    go_ret
    exact ⟨_, rfl, by rw [HF.out]; exact sliceIs_nil _, hb1⟩

set_option maxHeartbeats 400000 in
theorem permTurn_any (a : Option Addr) (c : Nat) (zs : List Int) (w : World) (h : IntsAt w a zs) (hlen : zs.length < 1000000) :
    Calls Try.prog 27 #[.slice a zs.length c] w fun e w' => ∃ v, e = .returned v ∧ SliceIs w' v zs.reverse ∧ Below w.heap.size w w' := by
  have HI := Lib.hid h
  clear h
  go_enter Try.func27, Try.ntmps27
  go_wp2_with fail
  refine (clone_any _ _ zs _ HI.out hlen).mono ?_
  rintro e w1 ⟨g, rfl, hown, hbel⟩
  have hg : w.heap.size ≤ g := (hown.lt g rfl).1
  go_wp2_with fail
  refine (Try.slices_Reverse_int_cells g 0 zs.length zs.length zs w1 (Nat.le_refl _) (by omega) (fun j hj => by rw [Nat.zero_add]; exact hown.cell j hj) (fun j hj => by rw [Nat.zero_add]; exact hown.frozen j)).mono ?_
  rintro e w2 ⟨rfl, q, hw2⟩
  have h2 := OwnI.setCells zs.reverse (w1.drewN q) 0 zs (hown.drewN q) (by simp)
  have e : zs.drop (0 + zs.reverse.length) = [] := List.drop_of_length_le (by simp)
  rw [e, List.take_zero, List.nil_append, List.append_nil] at h2
  have hb2 : Below w.heap.size w ((w1.drewN q).setCells g 0 (intsV zs.reverse)) := below_setCells hg _ _ _ (below_drewN hbel _)
  rw [List.take_length] at hw2
  change w2 = (w1.drewN q).setCells g 0 (intsV zs.reverse) at hw2
  rw [← hw2] at h2 hb2
  clear hw2
  go_wp2_with fail
  go_ret
  exact ⟨_, rfl, h2.sliceIs (by simp; omega), hb2⟩

end Go.Proofs.Ytcembefhfadpbaa
