/- The walks of the order functions' references: what each computes, for every slice. -/
import Derived.Test.YtcembefhfadpbaaPermM
namespace Go.Proofs.Ytcembefhfadpbaa
open Go.RowKit

set_option maxHeartbeats 400000 in
theorem refPlace_any (a : Option Addr) (c : Nat) (zs : List Int) (x : Int) (w : World) (h : IntsAt w a zs) :
    Calls Try.prog 40 #[.slice a zs.length c, .int .i64 x] w fun e w' => e = .returned (.int .i64 (placeZ zs x)) ∧ ∃ n, w' = w.drewN n := by
  obtain ⟨hl, hc⟩ := h
  have HC := Lib.hid hc
  clear hc
  go_enter Try.func40, Try.ntmps40
  go_wp2
  go_loop [5] (fun i => ∃ k : Nat, k ≤ zs.length ∧ i = .int .i64 k ∧ ∀ j, j < k → at0 zs j ≠ x) (fun i => zs.length - (intOf i).toNat)
  case atStart => exact ⟨0, Nat.zero_le _, rfl, by omega⟩
  case round =>
    obtain ⟨k, hk, rfl, hrel⟩ := hrel
    have HR := Lib.hid hrel
    clear hrel
    by_cases hlt : k < zs.length
    · obtain ⟨b, off, rfl, hcell⟩ := HC.out k hlt
      by_cases hx : at0 zs k = x
      · have H1 : (at0 zs k == x) = true := by simpa using hx
        have HX := Lib.hid hx
        clear hx
        go_wp2
        go_ret
        exact ⟨ret_i64 (placeZ_found hlt HX.out HR.out).symm, 0, rfl⟩
      · have H1 : (at0 zs k == x) = false := by simpa using hx
        go_wp2
        go_round
        case rel => exact ⟨k + 1, by omega, by go_num, fun j hj => by
          by_cases e : j = k
          · subst e; exact hx
          · exact HR.out j (by omega)⟩
        case measure => simp [intOf]; omega
    · go_wp2
      go_ret
      exact ⟨ret_i64 (placeZ_none (fun j hj => HR.out j (by omega))).symm, 0, rfl⟩

set_option maxHeartbeats 400000 in
theorem refIs_any (a : Option Addr) (n c : Nat) (i : Int) (w : World) :
    Calls Try.prog 41 #[.slice a n c, .int .i64 i] w fun e w' => e = .returned (.bool (decide (0 ≤ i ∧ i < n))) ∧ ∃ n, w' = w.drewN n := by
  go_enter Try.func41, Try.ntmps41
  go_wp2
  all_goals go_ret
  all_goals exact ⟨ret_bool (by simp; omega), 0, rfl⟩

set_option maxHeartbeats 400000 in
theorem refSame_any (a a' : Option Addr) (c c' : Nat) (xs ys : List Int) (w : World) (h : IntsAt w a xs) (h' : IntsAt w a' ys) :
    Calls Try.prog 15 #[.slice a xs.length c, .slice a' ys.length c'] w fun e w' => e = .returned (.bool (decide (xs = ys))) ∧ ∃ n, w' = w.drewN n := by
  obtain ⟨hl, hc⟩ := h
  have HC := Lib.hid hc
  clear hc
  obtain ⟨hl', hc'⟩ := h'
  have HC' := Lib.hid hc'
  clear hc'
  by_cases hlen : xs.length = ys.length
  · have H1 : (xs.length == ys.length) = true := by simpa using hlen
    have HL := Lib.hid hlen
    have hle : xs.length ≤ ys.length := by omega
    have hge : ys.length ≤ xs.length := by omega
    have H2 : ((xs.length : Int) == ys.length) = true := by simp [hlen]
    have H3 : ((xs.length : Int) != ys.length) = false := by simp [hlen]
    clear hlen
    go_enter Try.func15, Try.ntmps15
    go_wp2

    go_loopw [5] (fun i wr => ∃ k : Nat, k ≤ xs.length ∧ i = .int .i64 k ∧ (∀ j, j < k → at0 xs j = at0 ys j) ∧ ∃ n, wr = w.drewN n) (fun i _ => xs.length - (intOf i).toNat)
    case atStart => exact ⟨0, Nat.zero_le _, rfl, by omega, 0, rfl⟩
    case round =>
      obtain ⟨k, hk, rfl, hrel, n, rfl⟩ := hrel
      have HR := Lib.hid hrel
      clear hrel
      by_cases hlt : k < xs.length
      · obtain ⟨b, off, rfl, hcell⟩ := HC.out k hlt
        obtain ⟨b', off', rfl, hcell'⟩ := HC'.out k (by omega)
        by_cases hx : at0 xs k = at0 ys k
        · have H4 : (at0 xs k != at0 ys k) = false := by simpa using hx
          have HX := Lib.hid hx
          clear hx
          go_wp2
          go_region
          go_wp2
          go_roundw
          case rel => exact ⟨k + 1, by omega, by go_num, (fun j hj => by
            by_cases e : j = k
            · subst e; exact HX.out
            · exact HR.out j (by omega)), _, rfl⟩
          case measure => simp [intOf]; omega
        · have H4 : (at0 xs k != at0 ys k) = true := by simpa using hx
          go_wp2
          go_region
          go_wp2
          go_ret
          exact ⟨ret_bool (by symm; simp; rintro rfl; exact hx rfl), _, rfl⟩
      · go_wp2
        go_ret
        exact ⟨ret_bool (by symm; simp; exact eq_of_at0 HL.out (fun j hj => HR.out j (by omega))), _, rfl⟩
  · have H2 : ((xs.length : Int) != ys.length) = true := by simp; omega
    go_enter Try.func15, Try.ntmps15
    go_wp2
    go_ret
    exact ⟨ret_bool (by symm; simp; rintro rfl; exact hlen rfl), 0, rfl⟩


set_option maxHeartbeats 400000 in
theorem refRight_any (a : Option Addr) (c : Nat) (zs : List Int) (w : World) (h : IntsAt w a zs) :
    Calls Try.prog 16 #[.slice a zs.length c] w fun e w' => e = .returned (.bool (rightB zs)) ∧ ∃ n, w' = w.drewN n := by
  obtain ⟨hl, hc⟩ := h
  have HC := Lib.hid hc
  clear hc
  go_enter Try.func16, Try.ntmps16
  go_wp2
  go_loopw [3] (fun i wr => ∃ k : Nat, k ≤ zs.length ∧ i = .int .i64 k ∧ (∀ j, j < k → (0 ≤ at0 zs j ∧ at0 zs j < zs.length) ∧ ∀ l, l < j → at0 zs l ≠ at0 zs j) ∧ ∃ n, wr = w.drewN n) (fun i _ => zs.length - (intOf i).toNat)
  case atStart => exact ⟨0, Nat.zero_le _, rfl, by omega, 0, rfl⟩
  case round =>
    obtain ⟨k, hk, rfl, hrel, n, rfl⟩ := hrel
    have HR := Lib.hid hrel
    clear hrel
    by_cases hlt : k < zs.length
    · obtain ⟨b, off, rfl, hcell⟩ := HC.out k hlt
      by_cases hx : 0 ≤ at0 zs k ∧ at0 zs k < zs.length
      · obtain ⟨hx1, hx2⟩ := hx
        go_wp2
        go_loopw [4] (fun i wr => ∃ l : Nat, l ≤ k ∧ i = .int .i64 l ∧ (∀ j, j < l → at0 zs j ≠ at0 zs k) ∧ ∃ n, wr = w.drewN n) (fun i _ => k - (intOf i).toNat)
        case atStart => exact ⟨0, Nat.zero_le _, rfl, by omega, n, rfl⟩
        case round =>
          obtain ⟨l, hlk, rfl, hrel, n2, rfl⟩ := hrel
          have HR2 := Lib.hid hrel
          clear hrel
          by_cases hlt2 : l < k
          · obtain ⟨b', off', hab, hcell2⟩ := HC.out l (by omega)
            cases hab
            by_cases he : at0 zs l = at0 zs k
            · have H1 : (at0 zs l == at0 zs k) = true := by simpa using he
              have HE := Lib.hid he
              clear he
              go_wp2
              go_region
              go_wp2
              go_ret
              exact ⟨ret_bool (rightB_false fun hh => hh.2 k hlt l hlt2 HE.out).symm, _, rfl⟩
            · have H1 : (at0 zs l == at0 zs k) = false := by simpa using he
              go_wp2
              go_region
              go_wp2
              go_roundw
              case rel => exact ⟨l + 1, by omega, by go_num, (fun j hj => by
                by_cases e : j = l
                · subst e; exact he
                · exact HR2.out j (by omega)), _, rfl⟩
              case measure => simp [intOf]; omega
          · go_wp2
            go_roundw
            case rel => exact ⟨k + 1, by omega, by go_num, (fun j hj => by
              by_cases e : j = k
              · subst e; exact ⟨⟨hx1, hx2⟩, fun q hq => HR2.out q (by omega)⟩
              · exact HR.out j (by omega)), _, rfl⟩
            case measure => simp [intOf]; omega
      · have HX := Lib.hid hx
        clear hx
        by_cases hneg : at0 zs k < 0
        · go_wp2
          go_ret
          exact ⟨ret_bool (rightB_false fun hh => HX.out (hh.1 k hlt)).symm, _, rfl⟩
        · have hge : (zs.length : Int) ≤ at0 zs k := by have := HX.out; omega
          go_wp2
          go_ret
          exact ⟨ret_bool (rightB_false fun hh => HX.out (hh.1 k hlt)).symm, _, rfl⟩
    · go_wp2
      go_ret
      exact ⟨ret_bool ((rightB_iff zs).2 ⟨fun j hj => (HR.out j (by omega)).1, fun j hj => (HR.out j (by omega)).2⟩).symm, _, rfl⟩


theorem refIs_yes (a : Option Addr) (n c : Nat) (i : Int) (w : World) (h : 0 ≤ i ∧ i < n) :
    Calls Try.prog 41 #[.slice a n c, .int .i64 i] w fun e w' => e = .returned (.bool true) ∧ ∃ n, w' = w.drewN n :=
  (refIs_any a n c i w).mono fun e w' ⟨he, hw⟩ => ⟨by rw [he]; simp [h], hw⟩
theorem refIs_no (a : Option Addr) (n c : Nat) (i : Int) (w : World) (h : ¬ (0 ≤ i ∧ i < n)) :
    Calls Try.prog 41 #[.slice a n c, .int .i64 i] w fun e w' => e = .returned (.bool false) ∧ ∃ n, w' = w.drewN n :=
  (refIs_any a n c i w).mono fun e w' ⟨he, hw⟩ => ⟨by rw [he]; exact ret_bool (by simpa using h), hw⟩

set_option maxHeartbeats 400000 in
theorem refSwap_any (a : Option Addr) (c : Nat) (zs : List Int) (i : Int) (w : World) (h : IntsAt w a zs) (hn : a = none → c = 0) (hlen : zs.length < 1000000) :
    Calls Try.prog 24 #[.slice a zs.length c, .int .i64 i] w fun e w' => ∃ v, e = .returned v ∧ OwnI w' w.heap.size v (swapZ zs i) ∧ Below w.heap.size w w' := by
  by_cases hin : 0 ≤ i ∧ i + 1 < zs.length
  · obtain ⟨h0, h1⟩ := hin
    obtain ⟨k, rfl⟩ := Int.eq_ofNat_of_zero_le h0
    have hk : k + 1 < zs.length := by omega
    have HF := Lib.hid (swapZ_in hk)
    obtain ⟨b, off, rfl, hc0⟩ := h.cells k (by omega)
    obtain ⟨b', off', hab, hc1⟩ := h.cells (k + 1) hk
    cases hab
    have hb0 : b < w.heap.size := lt_of_cell hc0
    have HI := Lib.hid h
    have hd1 : decide ((k : Int) < (zs.length : Int) - 1) = true := by simp; omega
    clear h hn
    have hbl0 := lt_of_cell hc0
    go_enter Try.func24, Try.ntmps24
    go_wp2_with (first
      | (at_builtin; refine wpList_appAll rfl _ _ rfl w.heap.size w _ [] zs _ _ rfl rfl (ownI_new w w.heap.size (Nat.le_refl _)) (HI.out.below ((Below.refl _ _).alloc (Nat.le_refl _) _)) (by simp; omega) (by simp) ((Below.refl _ _).alloc (Nat.le_refl _) _) (by simp) ?_; intro v1 w1 hown1 hbel1 hsz1 hkb1; obtain ⟨g, cap, rfl, hg1, hg2⟩ := hown1.shape (by simp; omega);
         have q0 := hown1.cell k (by simp; omega);
         have q1 := hown1.cell (k + 1) (by simp; omega);
         have p0 := hown1.frozen k;
         have p1 := hown1.frozen (k + 1);
         have r0 := (hbel1.cell (p := ⟨b, off + k, none⟩) hbl0).trans hc0;
         have r1 := (hbel1.cell (p := ⟨b, off + (k + 1), none⟩) hbl0).trans hc1)
      | (go_at_call 41; refine (refIs_yes _ _ _ _ _ (by omega)).mono ?_; rintro e w' ⟨rfl, n, rfl⟩))
    go_ret
    refine ⟨_, rfl, ?_, ?_⟩
    · rw [HF.out]; exact ((hown1.drewN _).stored k _).stored (k + 1) _
    · exact ((below_drewN hbel1 _).setCell hg1 _).setCell hg1 _
  · have HF := Lib.hid (swapZ_out hin)
    have HI := Lib.hid h
    have HN := Lib.hid hn
    clear h hn
    by_cases hin2 : 0 ≤ i ∧ i < zs.length
    · have hd1 : decide (i < (zs.length : Int) - 1) = false := by simp; omega
      go_enter Try.func24, Try.ntmps24
      go_wp2_with (first
        | (at_builtin; refine wpList_appAll rfl _ _ rfl w.heap.size w _ [] zs _ _ rfl rfl (ownI_new w w.heap.size (Nat.le_refl _)) (HI.out.below ((Below.refl _ _).alloc (Nat.le_refl _) _)) (by simp; omega) (by simp) ((Below.refl _ _).alloc (Nat.le_refl _) _) HN.out ?_; intro v1 w1 hown1 hbel1 hsz1 hkb1)
        | (go_at_call 41; refine (refIs_yes _ _ _ _ _ (by omega)).mono ?_; rintro e w' ⟨rfl, n, rfl⟩))
      go_ret
      refine ⟨_, rfl, ?_, ?_⟩
      · rw [HF.out]; exact hown1.drewN _
      · exact below_drewN hbel1 _
    · go_enter Try.func24, Try.ntmps24
      go_wp2_with (first
        | (at_builtin; refine wpList_appAll rfl _ _ rfl w.heap.size w _ [] zs _ _ rfl rfl (ownI_new w w.heap.size (Nat.le_refl _)) (HI.out.below ((Below.refl _ _).alloc (Nat.le_refl _) _)) (by simp; omega) (by simp) ((Below.refl _ _).alloc (Nat.le_refl _) _) HN.out ?_; intro v1 w1 hown1 hbel1 hsz1 hkb1)
        | (go_at_call 41; refine (refIs_no _ _ _ _ _ (by omega)).mono ?_; rintro e w' ⟨rfl, n, rfl⟩))
      go_ret
      refine ⟨_, rfl, ?_, ?_⟩
      · rw [HF.out]; exact hown1.drewN _
      · exact below_drewN hbel1 _

end Go.Proofs.Ytcembefhfadpbaa
