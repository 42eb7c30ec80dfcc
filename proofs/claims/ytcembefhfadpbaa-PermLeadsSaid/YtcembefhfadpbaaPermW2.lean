/- The walks of the order functions' references, second part. -/
import Derived.Test.YtcembefhfadpbaaPermW
namespace Go.Proofs.Ytcembefhfadpbaa
open Go.RowKit

set_option maxHeartbeats 400000 in
theorem refIdent_any (n : Int) (w : World) :
    Calls Try.prog 21 #[.int .i64 n] w fun e w' => ∃ v, e = .returned v ∧ OwnI w' w.heap.size v (identZ n) ∧ Below w.heap.size w w' := by
  go_enter Try.func21, Try.ntmps21
  go_wp2
  go_loopw [3, 4] (fun v i wr => ∃ k : Nat, (k : Int) ≤ max n 0 ∧ k ≤ 64 ∧ i = .int .i64 k ∧ OwnI wr w.heap.size v (iota k) ∧ w.heap.size ≤ wr.heap.size ∧ Below w.heap.size w wr) (fun _ i _ => 64 - (intOf i).toNat)
  case atStart => exact ⟨0, by omega, by omega, rfl, ownI_new w _ (Nat.le_refl _), by simp, (Below.refl _ _).alloc (Nat.le_refl _) _⟩
  case round =>
    obtain ⟨k, hk1, hk2, rfl, hown, hsz, hbel⟩ := hrel
    by_cases hlt : (k : Int) < n
    · by_cases hlt2 : k < 64
      · go_wp2_with (at_builtin; refine wpList_app1 _ rfl _ _ rfl w.heap.size w _ (iota k) _ rfl rfl rfl rfl (by exact hown) (by rw [iota_length]; omega) hsz hbel ?_; intro v1 w1 hown1 hbel1 hsz1 hkb1)
        go_roundw
        case rel => exact ⟨k + 1, by omega, by omega, by go_num, by rw [iota_succ]; exact hown1, hsz1, hbel1⟩
        case measure => simp [intOf]; omega
      · have hge : (64 : Int) ≤ k := by omega
        go_wp2
        go_ret
        exact ⟨_, rfl, (show min n.toNat 64 = k by omega) ▸ hown, hbel⟩
    · have hge : n ≤ (k : Int) := by omega
      go_wp2
      go_ret
      exact ⟨_, rfl, (show min n.toNat 64 = k by omega) ▸ hown, hbel⟩

set_option maxHeartbeats 400000 in
theorem refInverse_any (a : Option Addr) (c : Nat) (zs : List Int) (w : World) (h : IntsAt w a zs) (hlen : zs.length < 1000000) :
    Calls Try.prog 23 #[.slice a zs.length c] w fun e w' => ∃ v, e = .returned v ∧ OwnI w' w.heap.size v (inverseZ zs) ∧ Below w.heap.size w w' := by
  have HI := Lib.hid h
  clear h
  by_cases hr : rightB zs = true
  · have HR := Lib.hid hr
    have HF : Hid (inverseZ zs = (iota zs.length).map (placeZ zs)) := by unfold inverseZ; rw [if_pos hr]; rfl
    clear hr
    go_enter Try.func23, Try.ntmps23
    go_wp2_with (go_at_call 16; refine (refRight_any _ _ zs _ (HI.out.below ((Below.refl _ _).alloc (Nat.le_refl _) _))).mono ?_; rintro e w' ⟨rfl, n, rfl⟩; rw [HR.out])
    go_loopw [3, 4] (fun v i wr => ∃ k : Nat, k ≤ zs.length ∧ i = .int .i64 k ∧ OwnI wr w.heap.size v ((iota k).map (placeZ zs)) ∧ w.heap.size ≤ wr.heap.size ∧ Below w.heap.size w wr) (fun _ i _ => zs.length - (intOf i).toNat)
    case atStart => exact ⟨0, by omega, rfl, (ownI_new w _ (Nat.le_refl _)).drewN n, by simp, below_drewN ((Below.refl _ _).alloc (Nat.le_refl _) _) _⟩
    case round =>
      obtain ⟨k, hk, rfl, hown, hsz, hbel⟩ := hrel
      by_cases hlt : k < zs.length
      · go_wp2_with (first
          | (at_builtin; refine wpList_app1 _ rfl _ _ rfl w.heap.size w _ ((iota k).map (placeZ zs)) _ rfl rfl (by rfl) (by simp) (hown.drewN _) (by simp [iota_length]; omega) hsz (below_drewN hbel _) ?_; intro v1 w1 hown1 hbel1 hsz1 hkb1)
          | (go_at_call 40; refine (refPlace_any _ _ zs _ _ (HI.out.below hbel)).mono ?_; rintro e w' ⟨rfl, n, rfl⟩))
        go_roundw
        case rel => exact ⟨k + 1, by omega, by go_num, by rw [iota_map_succ]; exact hown1, hsz1, hbel1⟩
        case measure => simp [intOf]; omega
      · go_wp2
        go_ret
        exact ⟨_, rfl, by rw [HF.out]; exact (show zs.length = k by omega) ▸ hown, hbel⟩
  · have hr' : rightB zs = false := by simpa using hr
    have HR := Lib.hid hr'
    have HF : Hid (inverseZ zs = []) := by unfold inverseZ; rw [if_neg hr]; rfl
    clear hr hr'
    go_enter Try.func23, Try.ntmps23
    go_wp2_with (go_at_call 16; refine (refRight_any _ _ zs _ (HI.out.below ((Below.refl _ _).alloc (Nat.le_refl _) _))).mono ?_; rintro e w' ⟨rfl, n, rfl⟩; rw [HR.out])
    go_ret
    exact ⟨_, rfl, by rw [HF.out]; exact (ownI_new w _ (Nat.le_refl _)).drewN n, below_drewN ((Below.refl _ _).alloc (Nat.le_refl _) _) _⟩


set_option maxHeartbeats 400000 in
theorem refTurn_any (a : Option Addr) (c : Nat) (zs : List Int) (w : World) (h : IntsAt w a zs) (hlen : zs.length < 1000000) :
    Calls Try.prog 28 #[.slice a zs.length c] w fun e w' => ∃ v, e = .returned v ∧ OwnI w' w.heap.size v zs.reverse ∧ Below w.heap.size w w' := by
  have HI := Lib.hid h
  clear h
  go_enter Try.func28, Try.ntmps28
  go_wp2
  go_loopw [3, 4] (fun v i wr => ∃ k : Nat, k ≤ zs.length ∧ i = .int .i64 ((k : Int) - 1) ∧ OwnI wr w.heap.size v ((zs.drop k).reverse) ∧ w.heap.size ≤ wr.heap.size ∧ Below w.heap.size w wr) (fun _ i _ => (intOf i + 1).toNat)
  case atStart => exact ⟨zs.length, by omega, rfl, by simpa using (ownI_new w _ (Nat.le_refl _)), by simp, (Below.refl _ _).alloc (Nat.le_refl _) _⟩
  case round =>
    obtain ⟨k, hk, rfl, hown, hsz, hbel⟩ := hrel
    by_cases hlt : 1 ≤ k
    · obtain ⟨l, rfl⟩ : ∃ l, k = l + 1 := ⟨k - 1, by omega⟩
      have HC := Lib.hid (HI.out.below hbel)
      obtain ⟨b, off, rfl, hcell⟩ := HC.out.cells l (by omega)
      have hx : ((l + 1 : Nat) : Int) - 1 = (l : Int) := by omega
      rw [hx]
      clear hx
      have hw1 : IntKind.i64.wrap ((l : Int) - 1) = (l : Int) - 1 := IntWalk.i64_in _ (by omega)
      have HD := Lib.hid (drop_at0 (zs := zs) (k := l) (by omega))
      have hlo : l < zs.length := by omega
      clear hk hlt
      go_wp2_with (at_builtin; refine wpList_app1 _ rfl _ _ rfl w.heap.size w _ ((zs.drop (l + 1)).reverse) _ rfl rfl rfl rfl (by exact hown) (by simp; omega) hsz hbel ?_; intro v1 w1 hown1 hbel1 hsz1 hkb1)
      go_roundw
      case rel => exact ⟨l, by omega, by go_num, by rw [HD.out, List.reverse_cons]; exact hown1, hsz1, hbel1⟩
      case measure => simp [intOf]
    · obtain rfl : k = 0 := by omega
      go_wp2
      go_ret
      exact ⟨_, rfl, by simpa using hown, hbel⟩

end Go.Proofs.Ytcembefhfadpbaa
