/- The library's Sort and Compact at a slice that the caller made itself. -/
import Derived.Test.YtcembefhfadpbabBase
import Derived.Shelf.Sort.Plain
import Derived.Shelf.Slices.In.SortNone
import Derived.Shelf.Slices.CompactI
namespace Go.Proofs.Ytcembefhfadpbab
open Go.RowKit
open Go.Sort Go.Lib

theorem get_bang (zs : List Int) (j : Nat) : zs.toArray[j]! = at0 zs j := by
  simp only [at0, List.getD]
  by_cases h : j < zs.length
  · simp [h]
  · have : zs[j]? = none := List.getElem?_eq_none (by omega)
    simp [this]
theorem sorted_at {zs : List Int} (h : zs.Pairwise (· ≤ ·)) {i j : Nat} (hij : i ≤ j) (hj : j < zs.length) : at0 zs i ≤ at0 zs j := by
  rw [at0_eq hj, at0_eq (by omega)]
  by_cases e : i = j
  · subst e; exact Int.le_refl _
  · exact List.pairwise_iff_getElem.1 h i j (by omega) hj (by omega)
theorem compact_upTo {zs : List Int} (h : zs.Pairwise (· ≤ ·)) : ∀ m, m ≤ zs.length → (compactUpTo zs.toArray m).Pairwise (· < ·) ∧ ∀ x, x ∈ compactUpTo zs.toArray m ↔ ∃ j, j < m ∧ at0 zs j = x
  | 0, _ => ⟨by simp [compactUpTo], fun x => by simp [compactUpTo]⟩
  | m + 1, hm => by
    obtain ⟨h1, h2⟩ := compact_upTo h m (by omega)
    rw [compactUpTo_succ]
    by_cases hk : keeps zs.toArray m = true
    · rw [if_pos hk, get_bang]
      refine ⟨?_, fun x => ?_⟩
      · rw [List.pairwise_append]
        refine ⟨h1, by simp, fun a ha b hb => ?_⟩
        rw [List.mem_singleton] at hb
        subst hb
        obtain ⟨j, hj, rfl⟩ := (h2 a).1 ha
        simp only [keeps, decide_eq_true_eq, get_bang] at hk
        have h3 := sorted_at h (i := j) (j := m - 1) (by omega) (by omega)
        have h4 := sorted_at h (i := m - 1) (j := m) (by omega) (by omega)
        rcases hk with hk | hk
        · omega
        · omega
      · rw [List.mem_append, h2, List.mem_singleton]
        constructor
        · rintro (⟨j, hj, e⟩ | e)
          · exact ⟨j, by omega, e⟩
          · exact ⟨m, by omega, e.symm⟩
        · rintro ⟨j, hj, e⟩
          by_cases hjm : j = m
          · subst hjm; exact .inr e.symm
          · exact .inl ⟨j, by omega, e⟩
    · rw [if_neg hk, List.append_nil]
      refine ⟨h1, fun x => ?_⟩
      rw [h2]
      simp only [keeps, decide_eq_true_eq, get_bang, not_or, Decidable.not_not] at hk
      constructor
      · rintro ⟨j, hj, e⟩; exact ⟨j, by omega, e⟩
      · rintro ⟨j, hj, e⟩
        by_cases hjm : j = m
        · subst hjm; exact ⟨j - 1, by omega, by rw [← hk.2]; exact e⟩
        · exact ⟨j, by omega, e⟩
theorem mem_at0 {zs : List Int} {x : Int} : (∃ j, j < zs.length ∧ at0 zs j = x) ↔ x ∈ zs := by
  constructor
  · rintro ⟨j, hj, rfl⟩; rw [at0_eq hj]; exact List.getElem_mem hj
  · intro h
    obtain ⟨j, hj, rfl⟩ := List.getElem_of_mem h
    exact ⟨j, hj, at0_eq hj⟩
theorem compact_sorted {zs : List Int} (h : zs.Pairwise (· ≤ ·)) : (compact zs).Pairwise (· < ·) ∧ ∀ x, x ∈ compact zs ↔ x ∈ zs := by
  obtain ⟨h1, h2⟩ := compact_upTo h zs.length (Nat.le_refl _)
  exact ⟨h1, fun x => (h2 x).trans mem_at0⟩
theorem compact_len (zs : List Int) : (compact zs).length ≤ zs.length := by
  unfold compact compactUpTo
  rw [List.length_map]
  exact Nat.le_trans (List.length_filter_le _ _) (by simp)
def sortZ (zs : List Int) : List Int := zs.mergeSort fun x y => decide (x ≤ y)
theorem sortZ_sorted (zs : List Int) : (sortZ zs).Pairwise (· ≤ ·) := by
  have := List.pairwise_mergeSort (le := fun x y : Int => decide (x ≤ y)) (by intro a b c h1 h2; simp only [decide_eq_true_eq] at *; omega) (by intro a b; simp only [Bool.or_eq_true, decide_eq_true_eq]; omega) zs
  exact this.imp (by intro a b h; simpa using h)
theorem sortZ_mem (zs : List Int) (x : Int) : x ∈ sortZ zs ↔ x ∈ zs := (List.mergeSort_perm zs _).mem_iff
theorem sortZ_length (zs : List Int) : (sortZ zs).length = zs.length := List.length_mergeSort _

theorem OwnI.holds {w : World} {base g cap n : Nat} {zs : List Int} (h : OwnI w base (.slice (some ⟨g, 0, none⟩) n cap) zs) : Holds (Value.int .i64) w g 0 zs.toArray := by
  intro j hj
  rw [Nat.zero_add, get_bang]
  exact ⟨h.cell j (by simpa using hj), h.frozen j⟩
theorem OwnI.putRow {w : World} {base g cap n : Nat} {zs : List Int} (h : OwnI w base (.slice (some ⟨g, 0, none⟩) n cap) zs) (ys : List Int) (hl : ys.length = zs.length) :
    OwnI (Sort.putRow (Value.int .i64) w g 0 ys.toArray) base (.slice (some ⟨g, 0, none⟩) n cap) ys := by
  have hn : n = zs.length := by
    rcases h.2 with ⟨hv, _⟩ | ⟨_, _, _, hv, _⟩
    · cases hv
    · cases hv; rfl
  subst hn
  rcases h.2 with ⟨hv, _⟩ | ⟨g', cap', cur, hv, hb, hh, h1, h2, h3, h4⟩
  · cases hv
  · cases hv
    refine ⟨by rw [intsV_length]; omega, .inr ⟨g, cap, putCells (Value.int .i64) 0 ys.toArray cur, by rw [hl], hb, ?_, by omega, h2, by simp [putCells, h3], ?_⟩⟩
    · simp only [Sort.putRow, mapBlock, Array.getElem?_modify, if_true, hh]; rfl
    · rw [Nat.mul_one]
      have hc : ys.length ≤ cur.size := by omega
      apply List.ext_getElem?
      intro k
      by_cases hk : k < ys.length
      · rw [List.getElem?_take, if_pos hk, intsV, List.getElem?_map, getElem?_at0 hk]
        simp only [Array.getElem?_toList, putCells, Array.getElem?_mapIdx]
        rw [Array.getElem?_eq_getElem (by omega)]
        simp only [Option.map_some]
        rw [if_pos ⟨by omega, by simp; omega⟩, Nat.sub_zero, get_bang]
      · rw [List.getElem?_eq_none (by simp; omega), List.getElem?_eq_none (by rw [intsV_length]; omega)]
theorem OwnI.cut {w : World} {base g cap n m : Nat} {zs ys : List Int} (h : OwnI w base (.slice (some ⟨g, 0, none⟩) n cap) (ys ++ zs)) (hm : m = ys.length) : OwnI w base (.slice (some ⟨g, 0, none⟩) m cap) ys := by
  subst hm
  rcases h.2 with ⟨hv, _⟩ | ⟨g', cap', cur, hv, hb, hh, h1, h2, h3, h4⟩
  · cases hv
  · cases hv
    refine ⟨by rw [intsV_length]; omega, .inr ⟨g, cap, cur, rfl, hb, hh, by simp at h1; omega, h2, h3, ?_⟩⟩
    have : (cur.toList.take ((ys ++ zs).length * 1)).take (ys.length * 1) = (intsV (ys ++ zs)).take (ys.length * 1) := by rw [h4]
    rw [List.take_take] at this
    have e : min (ys.length * 1) ((ys ++ zs).length * 1) = ys.length * 1 := by simp
    rw [e] at this
    rw [this, intsV, List.map_append, Nat.mul_one, List.take_left' (by simp)]; rfl
theorem OwnI.grow {w : World} {base : Nat} {v : Value} {zs : List Int} (h : OwnI w base v zs) (os : Array Obj) : OwnI (Sort.grow w os) base v zs :=
  h.keep (row := none) (fun k hk _ => heap_grow_old w os hk) (fun k _ => by simp)
theorem below_putRow {w0 w : World} {base g : Nat} (h : Below base w0 w) (hg : base ≤ g) (d : Array Int) : Below base w0 (Sort.putRow (Value.int .i64) w g 0 d) := by
  refine ⟨h.os, h.tape, h.output, by rw [size_putRow]; exact h.size, fun k hk => ?_⟩
  have hne : g ≠ k := by omega
  simp only [Sort.putRow, mapBlock, Array.getElem?_modify, if_neg hne]
  exact h.block k hk
theorem below_grow {w0 w : World} {base : Nat} (h : Below base w0 w) (hb : base ≤ w.heap.size) (os : Array Obj) : Below base w0 (Sort.grow w os) :=
  ⟨h.os, h.tape, h.output, by rw [size_grow]; have := h.size; omega, fun k hk => (heap_grow_old w os (by omega)).trans (h.block k hk)⟩
end Go.Proofs.Ytcembefhfadpbab
