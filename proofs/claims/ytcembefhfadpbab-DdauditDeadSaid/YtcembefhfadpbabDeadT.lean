/- The library's Sort and Compact, as contracts over own slices. -/
import Derived.Test.YtcembefhfadpbabDeadS
import Derived.Test.YtcembefhfadpbabDeadH
namespace Go.Proofs.Ytcembefhfadpbab
open Go.RowKit
open Go.Sort Go.Lib

theorem sortI_any (w : World) (base : Nat) (v : Value) (zs : List Int) (h : OwnI w base v zs) (hb : base ≤ w.heap.size) (hl : zs.length ≤ 100000) :
    Calls Try.prog 12 #[v] w fun e w' => e = .returned (.tuple #[]) ∧ OwnI w' base v (sortZ zs) ∧ Below base w w' := by
  rcases h.2 with ⟨rfl, h0⟩ | ⟨g, cap, cur, rfl, hg, hh, _⟩
  · have hz : zs = [] := List.eq_nil_of_length_eq_zero h0
    subst hz
    refine (Try.slices_Sort_int_none none 0 w).mono ?_
    rintro e w' ⟨rfl, rfl⟩
    exact ⟨rfl, by simpa [sortZ] using h, Below.refl _ _⟩
  · have hlt : g < w.heap.size := (Array.getElem?_eq_some_iff.1 hh).1
    refine (Try.slices_Sort_int g 0 cap zs w h.holds hlt (by omega)).mono ?_
    rintro e w' ⟨rfl, n, os, rfl⟩
    have h1 : OwnI (Sort.ahead w n) base (.slice (some ⟨g, 0, none⟩) zs.length cap) zs := h
    have hb1 : Below base w (Sort.ahead w n) := below_drewN (Below.refl _ _) n
    exact ⟨rfl, (h1.putRow _ (sortZ_length zs)).grow os, below_grow (below_putRow hb1 hg _) (by rw [size_putRow]; exact hb) os⟩
theorem compactI_any (w : World) (base : Nat) (v : Value) (zs : List Int) (h : OwnI w base v zs) (hb : base ≤ w.heap.size) (hl : zs.length ≤ 100000) (hs : zs.Pairwise (· ≤ ·)) :
    Calls Try.prog 13 #[v] w fun e w' => ∃ v', e = .returned v' ∧ OwnI w' base v' (compact zs) ∧ Below base w w' := by
  rcases h.2 with ⟨rfl, h0⟩ | ⟨g, cap, cur, rfl, hg, hh, hcap, _⟩
  · have hz : zs = [] := List.eq_nil_of_length_eq_zero h0
    subst hz
    refine (Try.slices_Compact_int_empty none 0 w).mono ?_
    rintro e w' ⟨rfl, rfl⟩
    exact ⟨_, rfl, by simpa [compact, compactUpTo] using h, Below.refl _ _⟩
  · refine (Try.slices_Compact_int g 0 cap zs w h.holds (by omega) hcap).mono ?_
    rintro e w' ⟨rfl, q, rfl⟩
    have h1 : OwnI (Sort.ahead w q) base (.slice (some ⟨g, 0, none⟩) zs.length cap) zs := h
    have hb1 : Below base w (Sort.ahead w q) := below_drewN (Below.refl _ _) q
    have hc := compact_len zs
    exact ⟨_, rfl, (h1.putRow (compact zs ++ List.replicate (zs.length - (compact zs).length) 0) (by simp; omega)).cut rfl, below_putRow hb1 hg _⟩
end Go.Proofs.Ytcembefhfadpbab
