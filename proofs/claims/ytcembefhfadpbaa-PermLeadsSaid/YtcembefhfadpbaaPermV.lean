/- The walks of package perm: Right, clone, Swap. -/
import Derived.Test.YtcembefhfadpbaaPermW3
namespace Go.Proofs.Ytcembefhfadpbaa
open Go.RowKit

def metB (zs : List Int) (k : Nat) (v : Int) : Bool := decide (∃ j, j < k ∧ at0 zs j = v)
theorem metB_zero (zs : List Int) (v : Int) : metB zs 0 v = false := by simp [metB]
theorem metB_succ_eq (zs : List Int) (k : Nat) : metB zs (k + 1) (at0 zs k) = true := by simp only [metB, decide_eq_true_eq]; exact ⟨k, by omega, rfl⟩
theorem metB_succ_ne (zs : List Int) (k : Nat) (v : Int) (h : at0 zs k ≠ v) : metB zs (k + 1) v = metB zs k v := by
  simp only [metB, decide_eq_decide]
  constructor
  · rintro ⟨j, hj, he⟩
    refine ⟨j, ?_, he⟩
    by_cases e : j = k
    · subst e; exact (h he).elim
    · omega
  · rintro ⟨j, hj, he⟩; exact ⟨j, by omega, he⟩
theorem metB_true {zs : List Int} {k : Nat} {v : Int} (h : metB zs k v = true) : ∃ j, j < k ∧ at0 zs j = v := by simpa [metB] using h
theorem metB_false {zs : List Int} {k : Nat} {v : Int} (h : metB zs k v = false) : ∀ j, j < k → at0 zs j ≠ v := by
  intro j hj he
  have : metB zs k v = true := by simp only [metB, decide_eq_true_eq]; exact ⟨j, hj, he⟩
  rw [h] at this; cases this

/-- The block of the 64 marks. -/
def Marks (w : World) (g : Nat) (zs : List Int) (k base : Nat) : Prop :=
  ∃ cur, w.heap[g]? = some (.cells cur 66 (0, 0)) ∧ cur.size = 64 ∧ ∀ u, u < 64 → cur[u]? = some (.bool (metB zs k ((base + u : Nat) : Int)))
theorem Marks.cell {w : World} {g : Nat} {zs : List Int} {k base : Nat} (h : Marks w g zs k base) (u : Nat) (hu : u < 64) : w.cell? ⟨g, u, none⟩ = some (.bool (metB zs k ((base + u : Nat) : Int))) := by
  obtain ⟨cur, h1, h2, h3⟩ := h
  simp only [World.cell?, h1]; exact h3 u hu
theorem Marks.frozen {w : World} {g : Nat} {zs : List Int} {k base : Nat} (h : Marks w g zs k base) (u : Nat) : w.frozen? ⟨g, u, none⟩ = false := by
  obtain ⟨cur, h1, h2, h3⟩ := h
  simp [World.frozen?, h1]
theorem Marks.step_out {w : World} {g : Nat} {zs : List Int} {k base : Nat} (h : Marks w g zs k base) (hx : ¬ ((base : Int) ≤ at0 zs k ∧ at0 zs k < base + 64)) : Marks w g zs (k + 1) base := by
  obtain ⟨cur, h1, h2, h3⟩ := h
  exact ⟨cur, h1, h2, fun u hu => by rw [metB_succ_ne _ _ _ (by omega)]; exact h3 u hu⟩
theorem Marks.step_in {w : World} {g : Nat} {zs : List Int} {k base u : Nat} (h : Marks w g zs k base) (hx : at0 zs k = ((base + u : Nat) : Int)) (hu : u < 64) :
    Marks (w.setCell ⟨g, u, none⟩ (.bool true)) g zs (k + 1) base := by
  obtain ⟨cur, h1, h2, h3⟩ := h
  refine ⟨cur.setIfInBounds u (.bool true), ?_, by simpa using h2, fun v hv => ?_⟩
  · simp [World.setCell, Array.getElem?_modify, h1]
  · by_cases e : v = u
    · subst e
      rw [Array.getElem?_setIfInBounds_self_of_lt (by omega), ← hx, metB_succ_eq]
    · rw [Array.getElem?_setIfInBounds_ne (by omega), metB_succ_ne _ _ _ (by omega)]; exact h3 v hv
theorem Marks.drewN {w : World} {g : Nat} {zs : List Int} {k base : Nat} (h : Marks w g zs k base) (n : Nat) : Marks (w.drewN n) g zs k base := h
theorem marks_new (w : World) (zs : List Int) (base : Nat) (cs : List Value) (hcs : cs = List.replicate 64 (.bool false)) : Marks (w.alloc (.cells cs.toArray 66)) w.heap.size zs 0 base :=
  ⟨_, heap_alloc_new w _, by simp [hcs], fun u hu => by rw [metB_zero, List.getElem?_toArray, hcs, List.getElem?_replicate, if_pos hu]⟩

def RightTo (zs : List Int) (B : Nat) : Prop :=
  1 ≤ B → (∀ j, j < zs.length → 0 ≤ at0 zs j ∧ at0 zs j < zs.length) ∧ ∀ i, i < zs.length → ∀ l, l < i → at0 zs l = at0 zs i → (B : Int) ≤ at0 zs i
def RightIn (zs : List Int) (B k : Nat) : Prop :=
  (∀ j, j < k → 0 ≤ at0 zs j ∧ at0 zs j < zs.length) ∧ (∀ i, i < k → ∀ l, l < i → at0 zs l = at0 zs i → ¬ ((B : Int) ≤ at0 zs i ∧ at0 zs i < (B : Int) + 64))
theorem rightTo_zero (zs : List Int) : RightTo zs 0 := fun h => by omega
theorem rightIn_zero (zs : List Int) (B : Nat) : RightIn zs B 0 := ⟨by omega, by omega⟩
theorem rightIn_step {zs : List Int} {B k : Nat} (h : RightIn zs B k) (h1 : 0 ≤ at0 zs k) (h2 : at0 zs k < zs.length)
    (h3 : ¬ ((B : Int) ≤ at0 zs k ∧ at0 zs k < (B : Int) + 64) ∨ metB zs k (at0 zs k) = false) : RightIn zs B (k + 1) := by
  refine ⟨fun j hj => ?_, fun i hi l hl he => ?_⟩
  · by_cases e : j = k
    · subst e; exact ⟨h1, h2⟩
    · exact h.1 j (by omega)
  · by_cases e : i = k
    · subst e
      rcases h3 with h3 | h3
      · exact h3
      · exact (metB_false h3 l hl he).elim
    · exact h.2 i (by omega) l hl he
theorem rightTo_step {zs : List Int} {B : Nat} (h : RightTo zs B) (hi : RightIn zs B zs.length) : RightTo zs (B + 64) := by
  refine fun _ => ⟨hi.1, fun i hlt l hl he => ?_⟩
  have h2 := hi.2 i hlt l hl he
  have h3 := (hi.1 i hlt).1
  by_cases hB : 1 ≤ B
  · have := (h hB).2 i hlt l hl he
    omega
  · omega
theorem rightB_of_to {zs : List Int} {B : Nat} (h : RightTo zs B) (hB : zs.length ≤ B) : rightB zs = true := by
  rw [rightB_iff]
  by_cases h0 : 1 ≤ B
  · obtain ⟨h1, h2⟩ := h h0
    exact ⟨h1, fun i hi k hk he => by have := h2 i hi k hk he; have := (h1 i hi).2; omega⟩
  · exact ⟨by omega, by omega⟩
theorem rightB_of_range {zs : List Int} {k : Nat} (hk : k < zs.length) (h : ¬ (0 ≤ at0 zs k ∧ at0 zs k < zs.length)) : rightB zs = false := rightB_false fun hh => h (hh.1 k hk)
theorem rightB_of_met {zs : List Int} {k : Nat} (hk : k < zs.length) (h : metB zs k (at0 zs k) = true) : rightB zs = false := by
  obtain ⟨j, hj, he⟩ := metB_true h
  exact rightB_false fun hh => hh.2 k hk j hj he

set_option maxHeartbeats 400000 in
theorem permRight_any (a : Option Addr) (c : Nat) (zs : List Int) (w : World) (h : IntsAt w a zs) (hlen : zs.length < 1000000) :
    Calls Try.prog 19 #[.slice a zs.length c] w fun e w' => e = .returned (.bool (rightB zs)) ∧ Below w.heap.size w w' := by
  obtain ⟨hl, hc⟩ := h
  have HC1 : Hid (∀ k, k < zs.length → ∃ b off, a = some ⟨b, off, none⟩ ∧ b < w.heap.size ∧ w.cell? ⟨b, off + k, none⟩ = some (.int .i64 (at0 zs k))) := fun k hk => by
    obtain ⟨b, off, h1, h2⟩ := hc k hk
    exact ⟨b, off, h1, lt_of_cell h2, h2⟩
  clear hc
  go_enter Try.func19, Try.ntmps19
  go_wp2
  go_loopw [3] (fun s3 wr => ∃ B : Nat, s3 = .int .i64 B ∧ B ≤ zs.length + 63 ∧ RightTo zs B ∧ Below w.heap.size w wr ∧ w.heap.size ≤ wr.heap.size) (fun i _ => zs.length + 64 - (intOf i).toNat)
  case atStart => exact ⟨0, rfl, by omega, rightTo_zero zs, Below.refl _ _, Nat.le_refl _⟩
  case round =>
    obtain ⟨B, rfl, hB, hrel, hbel, hsz⟩ := hrel
    have HR := Lib.hid hrel
    clear hrel
    by_cases hlt : B < zs.length
    · go_wp2
      obtain ⟨wo, rfl⟩ : ∃ wo : World, wo = wr := ⟨_, rfl⟩
      go_loopw [16] (fun i wi => ∃ k : Nat, k ≤ zs.length ∧ i = .int .i64 k ∧ RightIn zs B k ∧ Marks wi wo.heap.size zs k B ∧ Below w.heap.size w wi ∧ w.heap.size ≤ wi.heap.size) (fun i _ => zs.length - (intOf i).toNat)
      case atStart => exact ⟨0, by omega, rfl, rightIn_zero zs B, marks_new _ _ _ _ rfl, hbel.alloc hsz _, by simp; omega⟩
      case round =>
        obtain ⟨k, hk, rfl, hr1, hm, hbel2, hsz2⟩ := hrel
        have HR1 := Lib.hid hr1
        have HM := Lib.hid hm
        clear hr1 hm
        by_cases hkn : k < zs.length
        · obtain ⟨b, off, rfl, hbw, hcw⟩ := HC1.out k hkn
          have hcell := (hbel2.cell (p := ⟨b, off + k, none⟩) hbw).trans hcw
          clear hcw
          by_cases hx : 0 ≤ at0 zs k ∧ at0 zs k < zs.length
          · obtain ⟨hx1, hx2⟩ := hx
            by_cases hwin : (B : Int) ≤ at0 zs k ∧ at0 zs k < (B : Int) + 64
            · obtain ⟨hwin1, hwin2⟩ := hwin
              have hu64 : ((at0 zs k).toNat - B) < 64 := by omega
              have hu0 : at0 zs k = ((B + ((at0 zs k).toNat - B) : Nat) : Int) := by omega
              have hcm := HM.out.cell _ hu64
              have hfm := HM.out.frozen ((at0 zs k).toNat - B)
              rw [← hu0] at hcm
              have HU := Lib.hid hu0
              generalize hmb : metB zs k (at0 zs k) = mb at hcm
              have HMB := Lib.hid hmb
              clear hmb hu0
              cases mb
              · go_wp2
                go_roundw
                case rel => exact ⟨k + 1, by omega, by go_num, rightIn_step HR1.out hx1 hx2 (.inr HMB.out), HM.out.step_in HU.out hu64, hbel2.setCell hsz _, by simp; omega⟩
                case measure => simp [intOf]; omega
              · go_wp2
                go_ret
                exact ⟨ret_bool (rightB_of_met hkn HMB.out).symm, hbel2⟩
            · have HW := Lib.hid hwin
              by_cases hlo : at0 zs k < (B : Int)
              · clear hwin
                go_wp2
                go_roundw
                case rel => exact ⟨k + 1, by omega, by go_num, rightIn_step HR1.out hx1 hx2 (.inl HW.out), HM.out.step_out HW.out, hbel2, hsz2⟩
                case measure => simp [intOf]; omega
              · have hhi : (B : Int) + 64 ≤ at0 zs k := by omega
                clear hwin
                go_wp2
                go_roundw
                case rel => exact ⟨k + 1, by omega, by go_num, rightIn_step HR1.out hx1 hx2 (.inl HW.out), HM.out.step_out HW.out, hbel2, hsz2⟩
                case measure => simp [intOf]; omega
          · have HX := Lib.hid hx
            by_cases hneg : at0 zs k < 0
            · clear hx
              go_wp2
              go_ret
              exact ⟨ret_bool (rightB_of_range hkn HX.out).symm, hbel2⟩
            · have hge : (zs.length : Int) ≤ at0 zs k := by omega
              clear hx
              go_wp2
              go_ret
              exact ⟨ret_bool (rightB_of_range hkn HX.out).symm, hbel2⟩
        · obtain rfl : k = zs.length := by omega
          go_wp2
          go_roundw
          case rel => exact ⟨B + 64, by go_num, by omega, rightTo_step HR.out HR1.out, hbel2, hsz2⟩
          case measure => simp [intOf]; omega
    · go_wp2
      go_ret
      exact ⟨ret_bool (rightB_of_to HR.out (by omega)).symm, hbel⟩

end Go.Proofs.Ytcembefhfadpbaa
