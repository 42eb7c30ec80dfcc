/- The law DdauditBroken. -/
import Derived.Test.YtcembefhfadpbaaAudE
import Derived.Test.YtcembefhfadpbaaRow
import Derived.Test.YtcembefhfadpbaaAlt
import Derived.Deep.CutBlock
import Derived.Deep.DeepCutAuto
namespace Go.Proofs.Ytcembefhfadpbaa
open Go.RowKit
open Go.Maps

theorem nodesF_mem {order : List Int} {l : List Nd} {m i : Nat} {x : Int × Int} (hi : i < m) (h : x ∈ nodeF order l i) : x ∈ nodesF order l m := by
  unfold nodesF
  exact List.mem_flatMap.2 ⟨i, List.mem_range.2 hi, h⟩
theorem twice_mem {order : List Int} {l : List Nd} {k : Nat} (hk : k < l.length) : (2, (nd l k).id) ∈ nodesF order (l ++ [nd l k]) (l ++ [nd l k]).length := by
  refine nodesF_mem (i := l.length) (by simp) ?_
  have e1 : nd (l ++ [nd l k]) l.length = nd l k := by rw [nd_eq (by simp)]; simp
  have e2 : nd (l ++ [nd l k]) k = nd l k := by rw [nd_eq (by simp; omega), List.getElem_append_left hk, nd_eq hk]
  have ht : twB (l ++ [nd l k]) l.length = true := by
    unfold twB
    simp only [decide_eq_true_eq]
    exact ⟨k, hk, .inl (by rw [e1, e2])⟩
  unfold nodeF
  rw [ht, e1]
  simp [fl]
theorem same_mem {order : List Int} {n : Nd} (h : n.lo = n.hi) : (3, n.id) ∈ nodesF order [n] [n].length := by
  refine nodesF_mem (i := 0) (by simp) ?_
  have e1 : nd [n] 0 = n := rfl
  unfold nodeF
  rw [e1]
  simp [fl, h]

def ndV (n : Nd) : List Value := [.int .i64 n.id, .int .i64 n.v, .int .i64 n.lo, .int .i64 n.hi, .int .i64 n.refs]
theorem ndV_length (n : Nd) : (ndV n).length = 5 := rfl
theorem ndV_one (l : List Nd) : ∀ u ∈ l.flatMap ndV, u.oneCell' = true := by
  intro u hu
  obtain ⟨n, _, hn⟩ := List.mem_flatMap.1 hu
  simp [ndV] at hn
  rcases hn with rfl | rfl | rfl | rfl | rfl <;> rfl
theorem infoNd : (Try.prog.info? 34).map (fun i => (i.zero, i.size, i.bytes)) = some (some (.agg #[.int .i64 0, .int .i64 0, .int .i64 0, .int .i64 0, .int .i64 0]), 5, 40) := by kernel_rfl
/-- The cells of a list of nodes, flat. -/
theorem NodesAt.flat {w : World} {b off : Nat} {l : List Nd} (h : NodesAt w (some ⟨b, off, none⟩) l) : ∀ j u, (l.flatMap ndV)[j]? = some u → w.cell? ((⟨b, off, none⟩ : Addr).add j) = some u := by
  intro j u hu
  have hl : (l.flatMap ndV).length = l.length * 5 := flat_length ndV 5 ndV_length l
  have hj : j < l.length * 5 := by
    rcases Nat.lt_or_ge j (l.length * 5) with h' | h'
    · exact h'
    · rw [List.getElem?_eq_none (by omega)] at hu; cases hu
  have hk : j / 5 < l.length := by omega
  have e := flat_get ndV 5 ndV_length l (j / 5) (j % 5) (nd l (j / 5)) (by rw [nd_eq hk]; exact List.getElem?_eq_getElem hk) (by omega)
  rw [show j / 5 * 5 + j % 5 = j by omega, hu] at e
  obtain ⟨b', off', hab, c0, c1, c2, c3, c4⟩ := h.cells (j / 5) hk
  cases hab
  have hadd : (⟨b, off, none⟩ : Addr).add j = ⟨b, off + j, none⟩ := by unfold Addr.add; split <;> simp_all
  rw [hadd]
  have hm : j % 5 = 0 ∨ j % 5 = 1 ∨ j % 5 = 2 ∨ j % 5 = 3 ∨ j % 5 = 4 := by omega
  rcases hm with hm | hm | hm | hm | hm <;> rw [hm] at e <;> simp [ndV] at e <;> subst e
  · rw [show off + j = off + j / 5 * 5 by omega]; exact c0
  · rw [show off + j = off + j / 5 * 5 + 1 by omega]; exact c1
  · rw [show off + j = off + j / 5 * 5 + 2 by omega]; exact c2
  · rw [show off + j = off + j / 5 * 5 + 3 by omega]; exact c3
  · rw [show off + j = off + j / 5 * 5 + 4 by omega]; exact c4
theorem nodesAt_of_row {o : Own} {w : World} {r : Role} {g cap m : Nat} {l : List Nd} (h : RowR o w r 34 5 (.slice (some ⟨g, 0, none⟩) m cap) l.length (l.flatMap ndV)) (hok : ∀ k, k < l.length → NdOk (nd l k)) (hl : l.length ≤ 9223372036854775807) :
    NodesAt w (some ⟨g, 0, none⟩) l := by
  refine ⟨hl, hok, fun k hk => ⟨g, 0, rfl, ?_⟩⟩
  have hlen : (l.flatMap ndV).length = l.length * 5 := flat_length ndV 5 ndV_length l
  have e := fun j (hj : j < 5) => (h.cell (k * 5 + j) (by rw [hlen]; omega)).trans (flat_get ndV 5 ndV_length l k j (nd l k) (by rw [nd_eq hk]; exact List.getElem?_eq_getElem hk) hj)
  simp only [Nat.zero_add]
  exact ⟨e 0 (by omega), e 1 (by omega), e 2 (by omega), e 3 (by omega), e 4 (by omega)⟩

theorem Chg.above {R : Role → Prop} {o o' : Own} {w W W' : World} {B : Nat} (h : Chg R o o' W W') (hb : Below B w W) (ho : ∀ g r, o g = some r → B ≤ g) (hB : B ≤ W.heap.size) : Below B w W' ∧ ∀ g r, o' g = some r → B ≤ g := by
  refine ⟨hb.trans ⟨h.os, h.tape, h.output, h.size, fun k hk => h.block k (by omega) fun r hr => by have := ho k r hr; omega⟩, fun g r hr => ?_⟩
  by_cases e : o' g = o g
  · rw [e] at hr; exact ho g r hr
  · have := (h.new g e).1; omega
/-- The first append: all nodes of the list. -/
theorem app_list {w W : World} {o : Own} {v : Value} {l : List Nd} {b off c : Nat} (ty : TypeId) (h : RowR o W .slots 34 5 v 0 []) (hlt : OwnLt o W) (hb : Below w.heap.size w W) (ho : ∀ g r, o g = some r → w.heap.size ≤ g)
    (hn : NodesAt w (some ⟨b, off, none⟩) l) (hl : l.length ≤ 1000) :
    ∃ v' W' o', (Builtin.append_ #[23, 23] ty #[v, .slice (some ⟨b, off, none⟩) l.length c]).run Try.prog W = .ok v' W' ∧ RowR o' W' .slots 34 5 v' l.length (l.flatMap ndV) ∧ OwnLt o' W' ∧
      Below w.heap.size w W' ∧ (∀ g r, o' g = some r → w.heap.size ≤ g) ∧ Chg (· = .slots) o o' W W' := by
  obtain ⟨i, hi, hz, hsize, hby⟩ := info_parts infoNd
  have hnW := hn.below hb
  obtain ⟨v', W', o', h1, h2, h3, h4⟩ := h.append (P := Try.prog) hlt 23 ty i _ 40 Try.underlying23 hi hz hsize hby rfl (by decide) ⟨b, off, none⟩ l.length c (l.flatMap ndV) (flat_length ndV 5 ndV_length l) hnW.flat (ndV_one l) (by unfold maxLen; omega) (by omega)
  have ha := h3.above hb ho hb.size
  simp only [Nat.zero_add, List.nil_append] at h2
  exact ⟨v', W', o', h1, h2, h4, ha.1, ha.2, h3⟩
/-- The second: one node more. -/
theorem app_one {w W : World} {o : Own} {v : Value} {l : List Nd} {n : Nd} {N : Nat} (ty : TypeId) (h : RowR o W .slots 34 5 v l.length (l.flatMap ndV)) (hlt : OwnLt o W) (hb : Below w.heap.size w W) (ho : ∀ g r, o g = some r → w.heap.size ≤ g)
    (hN : W.heap[N]? = some (.cells (ndV n).toArray 34 (0, 0))) (hl : l.length ≤ 1000) :
    ∃ g cap W' o', (Builtin.append_ #[23, 23] ty #[v, .slice (some ⟨N, 0, none⟩) 1 1]).run Try.prog W = .ok (.slice (some ⟨g, 0, none⟩) (l.length + 1) cap) W' ∧
      RowR o' W' .slots 34 5 (.slice (some ⟨g, 0, none⟩) (l.length + 1) cap) (l ++ [n]).length ((l ++ [n]).flatMap ndV) ∧ Below w.heap.size w W' := by
  obtain ⟨i, hi, hz, hsize, hby⟩ := info_parts infoNd
  have hcell : ∀ j u, (ndV n)[j]? = some u → W.cell? ((⟨N, 0, none⟩ : Addr).add j) = some u := by
    intro j u hu
    have hadd : (⟨N, 0, none⟩ : Addr).add j = ⟨N, j, none⟩ := by unfold Addr.add; split <;> simp_all
    rw [hadd, cell_of_row _ _ _ _ _ _ hN]; simpa using hu
  obtain ⟨v', W', o', h1, h2, h3, h4⟩ := h.append (P := Try.prog) hlt 23 ty i _ 40 Try.underlying23 hi hz hsize hby rfl (by decide) ⟨N, 0, none⟩ 1 1 (ndV n) rfl hcell (by have := ndV_one [n]; simpa using this) (by unfold maxLen; omega) (by omega)
  obtain ⟨g, cap, rfl, _⟩ := h2.shape (by omega)
  refine ⟨g, cap, W', o', h1, ?_, (h3.above hb ho hb.size).1⟩
  simpa using h2
theorem OwnLt.none' {o : Own} {w : World} (h : OwnLt o w) {b : Nat} (hb : w.heap.size ≤ b) : o b = Option.none := by
  cases e : o b with
  | none => rfl
  | some r => have := h b r e; omega
theorem row_empty (W : World) : RowR (ownAt (fun _ => none) W.heap.size .slots) (W.alloc (.cells #[] 34)) .slots 34 5 (.slice (some ⟨W.heap.size, 0, none⟩) 0 0) 0 [] ∧ OwnLt (ownAt (fun _ => none) W.heap.size .slots) (W.alloc (.cells #[] 34)) := by
  refine ⟨⟨by simp, .inr ⟨W.heap.size, 0, #[], rfl, ownAt_same _ _ _, heap_alloc_new W _, by omega, by omega, by simp, by simp⟩⟩, ?_⟩
  exact OwnLt.allocR (o := fun _ => none) (fun k r h => by cases h) _ _
theorem own_empty {w W : World} (h : w.heap.size ≤ W.heap.size) : ∀ g r, (ownAt (fun _ => none) W.heap.size .slots : Own) g = some r → w.heap.size ≤ g := by
  intro g r hg
  unfold ownAt at hg
  split at hg
  · omega
  · cases hg

/-- Is x among the first j? -/
def memB (fs : List (Int × Int)) (x : Int × Int) (j : Nat) : Bool := decide (x ∈ fs.take j)
theorem memB_succ {fs : List (Int × Int)} {x : Int × Int} {j : Nat} (hj : j < fs.length) : memB fs x (j + 1) = (memB fs x j || ((f0 fs j).1 == x.1 && (f0 fs j).2 == x.2)) := by
  have e : f0 fs j = fs[j] := by simp [f0, List.getD, hj]
  unfold memB
  rw [List.take_add_one, List.getElem?_eq_getElem hj, e]
  obtain ⟨x1, x2⟩ := x
  rcases hy : fs[j] with ⟨y1, y2⟩
  simp only [Option.toList_some, List.mem_append, List.mem_singleton, Prod.mk.injEq, Bool.decide_or]
  congr 1
  rw [Bool.eq_iff_iff]
  simp
  constructor
  · rintro ⟨a, b⟩; exact ⟨a.symm, b.symm⟩
  · rintro ⟨a, b⟩; exact ⟨a.symm, b.symm⟩
theorem memB_all {fs : List (Int × Int)} {x : Int × Int} (h : x ∈ fs) : memB fs x fs.length = true := by simp [memB, h]
theorem memB_zero (fs : List (Int × Int)) (x : Int × Int) : memB fs x 0 = false := by simp [memB]
theorem nodesAt_one {w : World} {N : Nat} {n : Nd} {T : TypeId} (h : w.heap[N]? = some (.cells #[.int .i64 n.id, .int .i64 n.v, .int .i64 n.lo, .int .i64 n.hi, .int .i64 n.refs] T (0, 0))) (hok : NdOk n) : NodesAt w (some ⟨N, 0, none⟩) [n] := by
  refine ⟨by simp, fun j hj => ?_, fun j hj => ⟨N, 0, rfl, ?_⟩⟩
  · obtain rfl : j = 0 := by simpa using hj
    exact hok
  · obtain rfl : j = 0 := by simpa using hj
    simp only [Nat.zero_mul, Nat.add_zero, Nat.zero_add]
    exact ⟨by rw [cell_of_row _ _ _ _ _ _ h]; rfl, by rw [cell_of_row _ _ _ _ _ _ h]; rfl, by rw [cell_of_row _ _ _ _ _ _ h]; rfl, by rw [cell_of_row _ _ _ _ _ _ h]; rfl, by rw [cell_of_row _ _ _ _ _ _ h]; rfl⟩

set_option maxRecDepth 100000 in
set_option maxHeartbeats 1600000 in
theorem broken_any (a a' : Option Addr) (c c' : Nat) (order : List Int) (l : List Nd) (at_ : Int) (w : World) (ho : IntsAt w a order) (hn : NodesAt w a' l) (hat : in64 at_) :
    Calls Try.prog 4 #[.slice a order.length c, .slice a' l.length c', .int .i64 at_] w fun e w' => e = .returned (.bool true) ∧ Below w.heap.size w w' := by
  obtain ⟨hat1, hat2⟩ := hat
  have HO := Lib.hid ho
  have HN := Lib.hid hn
  have hol := ho.len
  have hnl := hn.len
  clear ho hn
  by_cases hbad : l.length = 0 ∨ 30 < l.length ∨ at_ < 0 ∨ (l.length : Int) ≤ at_
  · by_cases h1 : l.length = 0
    · have h1' : ((l.length : Int) == 0) = true := by simp [h1]
      have HL := Lib.hid h1
      clear hbad h1
      go_enter Try.func4, Try.ntmps4
      go_wp2_with fail
      refine (lives25 _).mono ?_
      rintro e w1 ⟨rfl, hb⟩
      go_wp2_with fail
      go_ret
      exact ⟨rfl, hb⟩
    · have h1' : ((l.length : Int) == 0) = false := by simp; intro h; exact h1 (by simp [h])
      by_cases h2 : 30 < l.length
      · have h2' : (30 : Int) < l.length := by omega
        clear hbad h1
        go_enter Try.func4, Try.ntmps4
        go_wp2_with fail
        refine (lives25 _).mono ?_
        rintro e w1 ⟨rfl, hb⟩
        go_wp2_with fail
        go_ret
        exact ⟨rfl, hb⟩
      · have h2' : ¬ (30 : Int) < l.length := by omega
        by_cases h3 : at_ < 0
        · clear hbad h1
          go_enter Try.func4, Try.ntmps4
          go_wp2_with fail
          refine (lives25 _).mono ?_
          rintro e w1 ⟨rfl, hb⟩
          go_wp2_with fail
          go_ret
          exact ⟨rfl, hb⟩
        · have h4 : (l.length : Int) ≤ at_ := by omega
          clear hbad h1
          go_enter Try.func4, Try.ntmps4
          go_wp2_with fail
          refine (lives25 _).mono ?_
          rintro e w1 ⟨rfl, hb⟩
          go_wp2_with fail
          go_ret
          exact ⟨rfl, hb⟩
  · have h2 : ¬ (30 : Int) < l.length := by omega
    have h3 : ¬ at_ < 0 := by omega
    have h4 : ¬ (l.length : Int) ≤ at_ := by omega
    have h5 : at_ < l.length := by omega
    have h1' : ((l.length : Int) == 0) = false := by simp; intro h; exact hbad (.inl (by simp [h]))
    obtain ⟨k, rfl⟩ := Int.eq_ofNat_of_zero_le (show 0 ≤ at_ by omega)
    have hkl : k < l.length := by omega
    clear hbad
    obtain ⟨bb, off, rfl, c0, c1, c2, c3, c4⟩ := HN.out.cells k hkl
    have hok := HN.out.ok
    have hokk := hok k hkl
    obtain ⟨n, hnn⟩ : ∃ n, nd l k = n := ⟨_, rfl⟩
    rw [hnn] at c0 c1 c2 c3 c4 hokk
    have HOK := Lib.hid hok
    have HOKK := Lib.hid hokk
    have HNN := Lib.hid hnn
    clear hok hokk hnn
    have hok2 : ∀ j, j < (l ++ [n]).length → NdOk (nd (l ++ [n]) j) := by
      intro j hj
      rcases Nat.lt_or_ge j l.length with h' | h'
      · have : nd (l ++ [n]) j = nd l j := by rw [nd_eq hj, List.getElem_append_left h', nd_eq h']
        rw [this]; exact HOK.out j h'
      · have : nd (l ++ [n]) j = n := by
          have e : j = l.length := by simp at hj; omega
          subst e
          rw [nd_eq hj]; simp
        rw [this]; exact HOKK.out
    have HOK2 := Lib.hid hok2
    clear hok2
    go_enter Try.func4, Try.ntmps4
    go_upto_region 3 with fail
    go_cut [7] (fun s7 wx => ∃ g cap, s7 = .slice (some ⟨g, 0, none⟩) (l.length + 1) cap ∧ Below w.heap.size w wx ∧ NodesAt wx (some ⟨g, 0, none⟩) (l ++ [n]))
    case first =>
      rename_i hmet
      have HMET := Lib.hid hmet
      clear hmet
      have hk1 : (k : Int) < l.length := by omega
      refine wp_region_left (fun W => Below w.heap.size w W) 10 (by kernel_rfl) (below_draw w 1) ?_
      refine left_readE 1 rfl rfl (by kernel_rfl) ?_
      apply Exists.intro
      refine ⟨fun w' hw => ?_, ?_⟩
      · have e0 := (hw.cell (p := ⟨bb, off + k * 5, none⟩) (lt_of_cell c0)).trans c0
        have e1 := (hw.cell (p := ⟨bb, off + k * 5 + 1, none⟩) (lt_of_cell c1)).trans c1
        have e2 := (hw.cell (p := ⟨bb, off + k * 5 + 2, none⟩) (lt_of_cell c2)).trans c2
        have e3 := (hw.cell (p := ⟨bb, off + k * 5 + 3, none⟩) (lt_of_cell c3)).trans c3
        have e4 := (hw.cell (p := ⟨bb, off + k * 5 + 4, none⟩) (lt_of_cell c4)).trans c4
        go_simp
        rfl
      simp only [Act.put, List.setIfInBounds_toArray, List.set_cons_zero, List.set_cons_succ]
      refine left_readE 3 rfl rfl (by kernel_rfl) ?_
      apply Exists.intro
      refine ⟨fun w' hw => ?_, ?_⟩
      · have e0 := (hw.cell (p := ⟨bb, off + k * 5, none⟩) (lt_of_cell c0)).trans c0
        have e1 := (hw.cell (p := ⟨bb, off + k * 5 + 1, none⟩) (lt_of_cell c1)).trans c1
        have e2 := (hw.cell (p := ⟨bb, off + k * 5 + 2, none⟩) (lt_of_cell c2)).trans c2
        have e3 := (hw.cell (p := ⟨bb, off + k * 5 + 3, none⟩) (lt_of_cell c3)).trans c3
        have e4 := (hw.cell (p := ⟨bb, off + k * 5 + 4, none⟩) (lt_of_cell c4)).trans c4
        go_simp
        rfl
      simp only [Act.put, List.setIfInBounds_toArray, List.set_cons_zero, List.set_cons_succ]
      refine left_readE 4 rfl rfl (by kernel_rfl) ?_
      apply Exists.intro
      refine ⟨fun w' hw => ?_, ?_⟩
      · have e0 := (hw.cell (p := ⟨bb, off + k * 5, none⟩) (lt_of_cell c0)).trans c0
        have e1 := (hw.cell (p := ⟨bb, off + k * 5 + 1, none⟩) (lt_of_cell c1)).trans c1
        have e2 := (hw.cell (p := ⟨bb, off + k * 5 + 2, none⟩) (lt_of_cell c2)).trans c2
        have e3 := (hw.cell (p := ⟨bb, off + k * 5 + 3, none⟩) (lt_of_cell c3)).trans c3
        have e4 := (hw.cell (p := ⟨bb, off + k * 5 + 4, none⟩) (lt_of_cell c4)).trans c4
        go_simp
        rfl
      simp only [Act.put, List.setIfInBounds_toArray, List.set_cons_zero, List.set_cons_succ]
      refine left_readE 5 rfl rfl (by kernel_rfl) ?_
      apply Exists.intro
      refine ⟨fun w' hw => ?_, ?_⟩
      · have e0 := (hw.cell (p := ⟨bb, off + k * 5, none⟩) (lt_of_cell c0)).trans c0
        have e1 := (hw.cell (p := ⟨bb, off + k * 5 + 1, none⟩) (lt_of_cell c1)).trans c1
        have e2 := (hw.cell (p := ⟨bb, off + k * 5 + 2, none⟩) (lt_of_cell c2)).trans c2
        have e3 := (hw.cell (p := ⟨bb, off + k * 5 + 3, none⟩) (lt_of_cell c3)).trans c3
        have e4 := (hw.cell (p := ⟨bb, off + k * 5 + 4, none⟩) (lt_of_cell c4)).trans c4
        go_simp
        rfl
      simp only [Act.put, List.setIfInBounds_toArray, List.set_cons_zero, List.set_cons_succ]
      refine left_readE 6 rfl rfl (by kernel_rfl) ?_
      apply Exists.intro
      refine ⟨fun w' hw => ?_, ?_⟩
      · have e0 := (hw.cell (p := ⟨bb, off + k * 5, none⟩) (lt_of_cell c0)).trans c0
        have e1 := (hw.cell (p := ⟨bb, off + k * 5 + 1, none⟩) (lt_of_cell c1)).trans c1
        have e2 := (hw.cell (p := ⟨bb, off + k * 5 + 2, none⟩) (lt_of_cell c2)).trans c2
        have e3 := (hw.cell (p := ⟨bb, off + k * 5 + 3, none⟩) (lt_of_cell c3)).trans c3
        have e4 := (hw.cell (p := ⟨bb, off + k * 5 + 4, none⟩) (lt_of_cell c4)).trans c4
        go_simp
        rfl
      simp only [Act.put, List.setIfInBounds_toArray, List.set_cons_zero, List.set_cons_succ]
      refine left_alts [0, 7] (by kernel_rfl) (fun i hi hS o ho => ?_)
      simp only [List.mem_cons, List.not_mem_nil, or_false] at hi
      rcases hi with rfl | rfl
      · simp only [List.getElem?_cons_zero, List.getElem?_cons_succ, Option.some.injEq] at ho
        subst ho
        refine ⟨rfl, ?_⟩
        have hsE := below_new1 w.drew (.cells #[] 34)
        have hbE : Below w.heap.size w (w.drew.alloc (.cells #[] 34)) := hS.trans (hsE.mono hS.size)
        refine oper_value (v := .slice (some ⟨w.drew.heap.size, 0, none⟩) 0 0) (w' := w.drew.alloc (.cells #[] 34)) (by go_simp) ⟨hbE, ?_⟩
        simp only [Act.put, List.setIfInBounds_toArray, List.set_cons_zero, List.set_cons_succ]
        obtain ⟨hrE, hlE⟩ := row_empty w.drew
        have hoE := own_empty (w := w) (W := w.drew) hS.size
        clear hsE
        refine left_alts [2, 7] (by kernel_rfl) (fun i hi hS o ho => ?_)
        simp only [List.mem_cons, List.not_mem_nil, or_false] at hi
        rcases hi with rfl | rfl
        · simp only [List.getElem?_cons_zero, List.getElem?_cons_succ, Option.some.injEq] at ho
          subst ho
          refine ⟨rfl, ?_⟩
          obtain ⟨v2, W2, o2, hrun2, hrow2, hlt2, hb2, ho2, hc2⟩ := app_list (w := w) (W := (w.drew.alloc (.cells #[] 34))) (c := c') 23 hrE hlE hS hoE HN.out (by omega)
          refine oper_value (exec_append rfl rfl rfl hrun2) ⟨hb2, ?_⟩
          simp only [Act.put, List.setIfInBounds_toArray, List.set_cons_zero, List.set_cons_succ]
          refine left_alts [7] (by kernel_rfl) (fun i hi hS o ho => ?_)
          simp only [List.mem_cons, List.not_mem_nil, or_false] at hi
          subst hi
          simp only [List.getElem?_cons_zero, List.getElem?_cons_succ, Option.some.injEq] at ho
          subst ho
          refine ⟨rfl, ?_⟩
          have hbN : Below w.heap.size w (W2.alloc (.cells #[.int .i64 n.id, .int .i64 n.v, .int .i64 n.lo, .int .i64 n.hi, .int .i64 n.refs] 34)) := hS.trans ((below_new1 W2 _).mono hS.size)
          refine oper_value (v := .slice (some ⟨W2.heap.size, 0, none⟩) 1 1) (w' := W2.alloc (.cells #[.int .i64 n.id, .int .i64 n.v, .int .i64 n.lo, .int .i64 n.hi, .int .i64 n.refs] 34)) (by go_simp) ⟨hbN, ?_⟩
          simp only [Act.put, List.setIfInBounds_toArray, List.set_cons_zero, List.set_cons_succ]
          refine left_alts [8] (by kernel_rfl) (fun i hi hS o ho => ?_)
          simp only [List.mem_cons, List.not_mem_nil, or_false] at hi
          subst hi
          simp only [List.getElem?_cons_zero, List.getElem?_cons_succ, Option.some.injEq] at ho
          subst ho
          refine ⟨rfl, ?_⟩
          have hk2 := below_new1 W2 (.cells #[.int .i64 n.id, .int .i64 n.v, .int .i64 n.lo, .int .i64 n.hi, .int .i64 n.refs] 34)
          obtain ⟨g4, k4, W4, o4, hrun4, hrow4, hb4⟩ := app_one (w := w) (W := (W2.alloc (.cells #[.int .i64 n.id, .int .i64 n.v, .int .i64 n.lo, .int .i64 n.hi, .int .i64 n.refs] 34))) (n := n) 23 (hrow2.keep (fun g hg => hk2.block g (hlt2 g _ hg)) (fun _ h => h)) (hlt2.mono hk2.size) hS ho2 (heap_alloc_new W2 _) (by omega)
          refine oper_value (exec_append rfl rfl rfl hrun4) ⟨hb4, ?_⟩
          simp only [Act.put, List.setIfInBounds_toArray, List.set_cons_zero, List.set_cons_succ]
          refine left_readE 9 rfl rfl (by kernel_rfl) ?_
          apply Exists.intro
          refine ⟨fun w' hw => ?_, ?_⟩
          · go_simp
            rfl
          simp only [Act.put, List.setIfInBounds_toArray, List.set_cons_zero, List.set_cons_succ]
          refine left_end (by kernel_rfl) ?_
          refine HMET.out _ _ ?_
          go_meet
          exact ⟨g4, k4, rfl, hb4, nodesAt_of_row hrow4 HOK2.out (by simp; omega)⟩
        · simp only [List.getElem?_cons_zero, List.getElem?_cons_succ, Option.some.injEq] at ho
          subst ho
          refine ⟨rfl, ?_⟩
          have hbN : Below w.heap.size w ((w.drew.alloc (.cells #[] 34)).alloc (.cells #[.int .i64 n.id, .int .i64 n.v, .int .i64 n.lo, .int .i64 n.hi, .int .i64 n.refs] 34)) := hS.trans ((below_new1 (w.drew.alloc (.cells #[] 34)) _).mono hS.size)
          refine oper_value (v := .slice (some ⟨(w.drew.alloc (.cells #[] 34)).heap.size, 0, none⟩) 1 1) (w' := (w.drew.alloc (.cells #[] 34)).alloc (.cells #[.int .i64 n.id, .int .i64 n.v, .int .i64 n.lo, .int .i64 n.hi, .int .i64 n.refs] 34)) (by go_simp) ⟨hbN, ?_⟩
          simp only [Act.put, List.setIfInBounds_toArray, List.set_cons_zero, List.set_cons_succ]
          have hk1' := below_new1 (w.drew.alloc (.cells #[] 34)) (.cells #[.int .i64 n.id, .int .i64 n.v, .int .i64 n.lo, .int .i64 n.hi, .int .i64 n.refs] 34)
          have hrE' := hrE.keep (fun g hg => hk1'.block g (hlE g _ hg)) (fun _ h => h)
          have hlE' := hlE.mono hk1'.size
          refine left_alts [2] (by kernel_rfl) (fun i hi hS o ho => ?_)
          simp only [List.mem_cons, List.not_mem_nil, or_false] at hi
          subst hi
          simp only [List.getElem?_cons_zero, List.getElem?_cons_succ, Option.some.injEq] at ho
          subst ho
          refine ⟨rfl, ?_⟩
          obtain ⟨v2, W2, o2, hrun2, hrow2, hlt2, hb2, ho2, hc2⟩ := app_list (w := w) (W := ((w.drew.alloc (.cells #[] 34)).alloc (.cells #[.int .i64 n.id, .int .i64 n.v, .int .i64 n.lo, .int .i64 n.hi, .int .i64 n.refs] 34))) (c := c') 23 hrE' hlE' hS hoE HN.out (by omega)
          refine oper_value (exec_append rfl rfl rfl hrun2) ⟨hb2, ?_⟩
          simp only [Act.put, List.setIfInBounds_toArray, List.set_cons_zero, List.set_cons_succ]
          refine left_alts [8] (by kernel_rfl) (fun i hi hS o ho => ?_)
          simp only [List.mem_cons, List.not_mem_nil, or_false] at hi
          subst hi
          simp only [List.getElem?_cons_zero, List.getElem?_cons_succ, Option.some.injEq] at ho
          subst ho
          refine ⟨rfl, ?_⟩
          obtain ⟨g4, k4, W4, o4, hrun4, hrow4, hb4⟩ := app_one (w := w) (W := W2) (n := n) 23 hrow2 hlt2 hS ho2 ((hc2.alien (b := (w.drew.alloc (.cells #[] 34)).heap.size) (by simp) (hlE.none' (Nat.le_refl _))).trans (heap_alloc_new (w.drew.alloc (.cells #[] 34)) (.cells #[.int .i64 n.id, .int .i64 n.v, .int .i64 n.lo, .int .i64 n.hi, .int .i64 n.refs] 34))) (by omega)
          refine oper_value (exec_append rfl rfl rfl hrun4) ⟨hb4, ?_⟩
          simp only [Act.put, List.setIfInBounds_toArray, List.set_cons_zero, List.set_cons_succ]
          refine left_readE 9 rfl rfl (by kernel_rfl) ?_
          apply Exists.intro
          refine ⟨fun w' hw => ?_, ?_⟩
          · go_simp
            rfl
          simp only [Act.put, List.setIfInBounds_toArray, List.set_cons_zero, List.set_cons_succ]
          refine left_end (by kernel_rfl) ?_
          refine HMET.out _ _ ?_
          go_meet
          exact ⟨g4, k4, rfl, hb4, nodesAt_of_row hrow4 HOK2.out (by simp; omega)⟩
      · simp only [List.getElem?_cons_zero, List.getElem?_cons_succ, Option.some.injEq] at ho
        subst ho
        refine ⟨rfl, ?_⟩
        have hbN : Below w.heap.size w (w.drew.alloc (.cells #[.int .i64 n.id, .int .i64 n.v, .int .i64 n.lo, .int .i64 n.hi, .int .i64 n.refs] 34)) := hS.trans ((below_new1 w.drew _).mono hS.size)
        refine oper_value (v := .slice (some ⟨w.drew.heap.size, 0, none⟩) 1 1) (w' := w.drew.alloc (.cells #[.int .i64 n.id, .int .i64 n.v, .int .i64 n.lo, .int .i64 n.hi, .int .i64 n.refs] 34)) (by go_simp) ⟨hbN, ?_⟩
        simp only [Act.put, List.setIfInBounds_toArray, List.set_cons_zero, List.set_cons_succ]
        refine left_alts [0] (by kernel_rfl) (fun i hi hS o ho => ?_)
        simp only [List.mem_cons, List.not_mem_nil, or_false] at hi
        subst hi
        simp only [List.getElem?_cons_zero, List.getElem?_cons_succ, Option.some.injEq] at ho
        subst ho
        refine ⟨rfl, ?_⟩
        have hsE := below_new1 (w.drew.alloc (.cells #[.int .i64 n.id, .int .i64 n.v, .int .i64 n.lo, .int .i64 n.hi, .int .i64 n.refs] 34)) (.cells #[] 34)
        have hbE : Below w.heap.size w ((w.drew.alloc (.cells #[.int .i64 n.id, .int .i64 n.v, .int .i64 n.lo, .int .i64 n.hi, .int .i64 n.refs] 34)).alloc (.cells #[] 34)) := hS.trans (hsE.mono hS.size)
        refine oper_value (v := .slice (some ⟨(w.drew.alloc (.cells #[.int .i64 n.id, .int .i64 n.v, .int .i64 n.lo, .int .i64 n.hi, .int .i64 n.refs] 34)).heap.size, 0, none⟩) 0 0) (w' := (w.drew.alloc (.cells #[.int .i64 n.id, .int .i64 n.v, .int .i64 n.lo, .int .i64 n.hi, .int .i64 n.refs] 34)).alloc (.cells #[] 34)) (by go_simp) ⟨hbE, ?_⟩
        simp only [Act.put, List.setIfInBounds_toArray, List.set_cons_zero, List.set_cons_succ]
        obtain ⟨hrE, hlE⟩ := row_empty (w.drew.alloc (.cells #[.int .i64 n.id, .int .i64 n.v, .int .i64 n.lo, .int .i64 n.hi, .int .i64 n.refs] 34))
        have hoE := own_empty (w := w) (W := (w.drew.alloc (.cells #[.int .i64 n.id, .int .i64 n.v, .int .i64 n.lo, .int .i64 n.hi, .int .i64 n.refs] 34))) hS.size
        clear hsE
        refine left_alts [2] (by kernel_rfl) (fun i hi hS o ho => ?_)
        simp only [List.mem_cons, List.not_mem_nil, or_false] at hi
        subst hi
        simp only [List.getElem?_cons_zero, List.getElem?_cons_succ, Option.some.injEq] at ho
        subst ho
        refine ⟨rfl, ?_⟩
        obtain ⟨v2, W2, o2, hrun2, hrow2, hlt2, hb2, ho2, hc2⟩ := app_list (w := w) (W := ((w.drew.alloc (.cells #[.int .i64 n.id, .int .i64 n.v, .int .i64 n.lo, .int .i64 n.hi, .int .i64 n.refs] 34)).alloc (.cells #[] 34))) (c := c') 23 hrE hlE hS hoE HN.out (by omega)
        refine oper_value (exec_append rfl rfl rfl hrun2) ⟨hb2, ?_⟩
        simp only [Act.put, List.setIfInBounds_toArray, List.set_cons_zero, List.set_cons_succ]
        refine left_alts [8] (by kernel_rfl) (fun i hi hS o ho => ?_)
        simp only [List.mem_cons, List.not_mem_nil, or_false] at hi
        subst hi
        simp only [List.getElem?_cons_zero, List.getElem?_cons_succ, Option.some.injEq] at ho
        subst ho
        refine ⟨rfl, ?_⟩
        obtain ⟨g4, k4, W4, o4, hrun4, hrow4, hb4⟩ := app_one (w := w) (W := W2) (n := n) 23 hrow2 hlt2 hS ho2 ((hc2.alien (b := w.drew.heap.size) (by simp; omega) (by simp [ownAt])).trans ((Go.heap_alloc_old (w.drew.alloc (.cells #[.int .i64 n.id, .int .i64 n.v, .int .i64 n.lo, .int .i64 n.hi, .int .i64 n.refs] 34)) _ (by simp)).trans (heap_alloc_new w.drew (.cells #[.int .i64 n.id, .int .i64 n.v, .int .i64 n.lo, .int .i64 n.hi, .int .i64 n.refs] 34)))) (by omega)
        refine oper_value (exec_append rfl rfl rfl hrun4) ⟨hb4, ?_⟩
        simp only [Act.put, List.setIfInBounds_toArray, List.set_cons_zero, List.set_cons_succ]
        refine left_readE 9 rfl rfl (by kernel_rfl) ?_
        apply Exists.intro
        refine ⟨fun w' hw => ?_, ?_⟩
        · go_simp
          rfl
        simp only [Act.put, List.setIfInBounds_toArray, List.set_cons_zero, List.set_cons_succ]
        refine left_end (by kernel_rfl) ?_
        refine HMET.out _ _ ?_
        go_meet
        exact ⟨g4, k4, rfl, hb4, nodesAt_of_row hrow4 HOK2.out (by simp; omega)⟩
    case rest =>
      obtain ⟨g, cap, rfl, hb1, hnm⟩ := hcut
      rename World => w1
      have hd0 := (hb1.cell (p := ⟨bb, off + k * 5, none⟩) (lt_of_cell c0)).trans c0
      have hd1 := (hb1.cell (p := ⟨bb, off + k * 5 + 1, none⟩) (lt_of_cell c1)).trans c1
      have hd2 := (hb1.cell (p := ⟨bb, off + k * 5 + 2, none⟩) (lt_of_cell c2)).trans c2
      have hd3 := (hb1.cell (p := ⟨bb, off + k * 5 + 3, none⟩) (lt_of_cell c3)).trans c3
      have hd4 := (hb1.cell (p := ⟨bb, off + k * 5 + 4, none⟩) (lt_of_cell c4)).trans c4
      have HC := Lib.hid (⟨hd0, hd1, hd2, hd3, hd4⟩ : _ ∧ _ ∧ _ ∧ _ ∧ _)
      have hcall := nodes_any a (some ⟨g, 0, none⟩) c cap order (l ++ [n]) w1 (HO.out.below hb1) hnm (by simp; omega)
      have hmem := twice_mem (order := order) hkl
      rw [HNN.out] at hmem
      rw [show (l ++ [n]).length = l.length + 1 by simp] at hcall hmem
      obtain ⟨fs, hfs⟩ : ∃ fs, nodesF order (l ++ [n]) (l.length + 1) = fs := ⟨_, rfl⟩
      have hfl : fs.length ≤ 5 * (l.length + 1) := by rw [← hfs]; exact nodesF_length _ _ _
      rw [hfs] at hcall hmem
      have HMEM := Lib.hid hmem
      have HB1 := Lib.hid hb1
      have HCALL := Lib.hid hcall
      have hk1 : (k : Int) < l.length := by omega
      clear hb1 hnm hcall hmem hfs c0 c1 c2 c3 c4 hd0 hd1 hd2 hd3 hd4
      go_wp2_with fail
      refine HCALL.out.mono ?_
      rintro x w2 ⟨v1, rfl, hown1, hb2⟩
      have hs1 := hown1.fslice
      have hbw2 := HB1.out.trans (hb2.mono HB1.out.size)
      obtain ⟨d0, d1, d2, d3, d4⟩ := HC.out
      have e0 := (hb2.cell (p := ⟨bb, off + k * 5, none⟩) (lt_of_cell d0)).trans d0
      have e1 := (hb2.cell (p := ⟨bb, off + k * 5 + 1, none⟩) (lt_of_cell d1)).trans d1
      have e2 := (hb2.cell (p := ⟨bb, off + k * 5 + 2, none⟩) (lt_of_cell d2)).trans d2
      have e3 := (hb2.cell (p := ⟨bb, off + k * 5 + 3, none⟩) (lt_of_cell d3)).trans d3
      have e4 := (hb2.cell (p := ⟨bb, off + k * 5 + 4, none⟩) (lt_of_cell d4)).trans d4
      have HS1 := Lib.hid hs1
      have HB2 := Lib.hid hbw2
      clear hown1 hb2 hs1 hbw2 HC d0 d1 d2 d3 d4 HCALL
      go_wp2_with fail
      obtain ⟨W, hW⟩ : ∃ W, W = ((w2.alloc (.cells #[.int .i64 n.id, .int .i64 n.v, .int .i64 n.hi, .int .i64 n.hi, .int .i64 n.refs] 34)).alloc (.cells #[.int .i64 n.id, .int .i64 n.v, .int .i64 n.hi, .int .i64 n.hi, .int .i64 n.refs] 34)) := ⟨_, rfl⟩
      have hbW : Below w2.heap.size w2 W := by rw [hW]; exact (below_new1 w2 _).alloc (by simp) _
      have hxb : W.heap[w2.heap.size]? = some (.cells #[.int .i64 n.id, .int .i64 n.v, .int .i64 n.hi, .int .i64 n.hi, .int .i64 n.refs] 34 (0, 0)) := by rw [hW, Go.heap_alloc_old _ _ (by simp)]; exact heap_alloc_new w2 _
      have hyb : W.heap[w2.heap.size + 1]? = some (.cells #[.int .i64 n.id, .int .i64 n.v, .int .i64 n.hi, .int .i64 n.hi, .int .i64 n.refs] 34 (0, 0)) := by
        rw [hW]
        have := heap_alloc_new (w2.alloc (.cells #[.int .i64 n.id, .int .i64 n.v, .int .i64 n.hi, .int .i64 n.hi, .int .i64 n.refs] 34)) (.cells #[.int .i64 n.id, .int .i64 n.v, .int .i64 n.hi, .int .i64 n.hi, .int .i64 n.refs] 34)
        rw [World.size_alloc] at this
        exact this
      have hlW : w2.heap.size < W.heap.size := (Array.getElem?_eq_some_iff.1 hxb).1
      have hone := nodesAt_one (n := ⟨n.id, n.v, n.hi, n.hi, n.refs⟩) hyb ⟨HOKK.out.id, HOKK.out.v, HOKK.out.hi, HOKK.out.hi⟩
      have hmem3 := same_mem (order := order) (n := ⟨n.id, n.v, n.hi, n.hi, n.refs⟩) rfl
      have hcall := nodes_any a (some ⟨w2.heap.size + 1, 0, none⟩) c 1 order [⟨n.id, n.v, n.hi, n.hi, n.refs⟩] W (HO.out.below (HB2.out.trans (hbW.mono HB2.out.size))) hone (by simp)
      rw [show ([⟨n.id, n.v, n.hi, n.hi, n.refs⟩] : List Nd).length = 1 from rfl] at hcall hmem3
      obtain ⟨fs3, hfs3⟩ : ∃ fs, nodesF order [⟨n.id, n.v, n.hi, n.hi, n.refs⟩] 1 = fs := ⟨_, rfl⟩
      have hfl3 : fs3.length ≤ 5 * 1 := by rw [← hfs3]; exact nodesF_length _ _ _
      rw [hfs3] at hcall hmem3
      rw [← hW]
      have HMEM3 := Lib.hid hmem3
      have HBW := Lib.hid hbW
      have HXB := Lib.hid hxb
      have HLW := Lib.hid hlW
      clear hW hbW hxb hyb hone hmem3 hfs3 hlW
      refine hcall.mono ?_
      rintro x w3 ⟨v3, rfl, hown3, hb3⟩
      have hs3 := hown3.fslice
      have hb3' : Below w2.heap.size w2 w3 := HBW.out.trans (hb3.mono HBW.out.size)
      have hx3 := (hb3.block _ HLW.out).trans HXB.out
      obtain ⟨xb, hxb⟩ : ∃ xb, xb = w2.heap.size := ⟨_, rfl⟩
      rw [← hxb] at hx3 ⊢
      have hs1 := HS1.out.below hb3'
      have g0 := (hb3'.cell (p := ⟨bb, off + k * 5, none⟩) (lt_of_cell e0)).trans e0
      have HB3 := Lib.hid (HB2.out.trans (hb3'.mono HB2.out.size))
      have HX3 := Lib.hid hx3
      have HG0 := Lib.hid g0
      clear hcall hown3 hb3 hb3' hx3 hxb HBW HXB HLW HB2 HS1 e0 e1 e2 e3 e4 g0
      obtain ⟨a1, c1, rfl, hc1⟩ := hs1
      obtain ⟨a3, c3, rfl, hc3⟩ := hs3
      have HC1 := Lib.hid hc1
      have HC3 := Lib.hid hc3
      clear hc1 hc3
      have heq := run_eqlFD
      go_wp2_with fail
      go_loopw [11, 61] (fun t i wx => ∃ j : Nat, j ≤ fs.length ∧ i = .int .i64 j ∧ t = .bool (memB fs (2, n.id) j) ∧ Below w3.heap.size w3 wx) (fun _ i _ => fs.length - (intOf i).toNat)
      case atStart => exact ⟨0, Nat.zero_le _, rfl, by rw [memB_zero], Below.refl _ _⟩
      case round =>
        obtain ⟨j, hj, rfl, rfl, hbr⟩ := hrel
        have HBR := Lib.hid hbr
        by_cases hlt : j < fs.length
        · obtain ⟨b1, rfl, p1, p2⟩ := HC1.out j hlt
          have hsucc := memB_succ (x := (2, n.id)) hlt
          obtain ⟨x, hx⟩ : ∃ x, f0 fs j = x := ⟨_, rfl⟩
          rw [hx] at p1 p2 hsucc
          have q1 := (hbr.cell (p := ⟨b1, j * 2, none⟩) (lt_of_cell p1)).trans p1
          have q2 := (hbr.cell (p := ⟨b1, j * 2 + 1, none⟩) (lt_of_cell p2)).trans p2
          have q3 := (hbr.cell (p := ⟨bb, off + k * 5, none⟩) (lt_of_cell HG0.out)).trans HG0.out
          obtain ⟨B, hB⟩ : ∃ B, memB fs (2, n.id) j = B := ⟨_, rfl⟩
          rw [hB] at hsucc ⊢
          have HSU := Lib.hid hsucc
          have HLT := Lib.hid hlt
          have lb : bb < wr.heap.size := lt_of_cell q3
          have lb1 : b1 < wr.heap.size := lt_of_cell q1
          have q3' : (wr.alloc (.cells #[.int .i64 x.1, .int .i64 x.2] 31)).cell? ⟨bb, off + k * 5, none⟩ = some (.int .i64 n.id) := ((below_new1 wr _).cell (p := ⟨bb, off + k * 5, none⟩) lb).trans q3
          clear hx hB hsucc hbr p1 p2 q3
          cases B with
          | true =>
            go_wp2_with fail
            go_quiet (fail)
            go_wp2_with fail
            go_roundw
            case rel => exact ⟨j + 1, HLT.out, by go_num, by rw [HSU.out]; rfl, by first | exact below_drewN (HBR.out.alloc HBR.out.size _) _ | exact HBR.out.alloc HBR.out.size _⟩
            case measure => have := HLT.out; simp [intOf]; omega
          | false =>
            go_wp2_with fail
            go_quiet (fail)
            go_wp2_with fail
            go_roundw
            case rel => exact ⟨j + 1, HLT.out, by go_num, by rw [HSU.out]; rfl, by first | exact below_drewN (HBR.out.alloc HBR.out.size _) _ | exact HBR.out.alloc HBR.out.size _⟩
            case measure => have := HLT.out; simp [intOf]; omega
        · obtain rfl : j = fs.length := by omega
          rw [memB_all HMEM.out]
          obtain ⟨x0, x1, x2, x3, x4, fx⟩ : wr.cell? ⟨xb, 0, none⟩ = some (.int .i64 n.id) ∧ wr.cell? ⟨xb, 1, none⟩ = some (.int .i64 n.v) ∧ wr.cell? ⟨xb, 2, none⟩ = some (.int .i64 n.hi) ∧ wr.cell? ⟨xb, 3, none⟩ = some (.int .i64 n.hi) ∧ wr.cell? ⟨xb, 4, none⟩ = some (.int .i64 n.refs) ∧ True := by
            have hx := (hbr.block xb (Array.getElem?_eq_some_iff.1 HX3.out).1).trans HX3.out
            exact ⟨by rw [cell_of_row _ _ _ _ _ _ hx]; rfl, by rw [cell_of_row _ _ _ _ _ _ hx]; rfl, by rw [cell_of_row _ _ _ _ _ _ hx]; rfl, by rw [cell_of_row _ _ _ _ _ _ hx]; rfl, by rw [cell_of_row _ _ _ _ _ _ hx]; rfl, trivial⟩
          have HX0 := Lib.hid x0
          clear hbr x0 x1 x2 x3 x4 fx
          rename World => w4
          go_wp2_with fail
          go_loopw [12, 79] (fun t i wx => ∃ j : Nat, j ≤ fs3.length ∧ i = .int .i64 j ∧ t = .bool (memB fs3 (3, n.id) j) ∧ Below w4.heap.size w4 wx) (fun _ i _ => fs3.length - (intOf i).toNat)
          case atStart => exact ⟨0, Nat.zero_le _, rfl, by rw [memB_zero], Below.refl _ _⟩
          case round =>
            obtain ⟨j, hj, rfl, rfl, hbr2⟩ := hrel
            have HBR2 := Lib.hid hbr2
            by_cases hlt : j < fs3.length
            · obtain ⟨b1, rfl, p1, p2⟩ := HC3.out j hlt
              have hsucc := memB_succ (x := (3, n.id)) hlt
              obtain ⟨x, hx⟩ : ∃ x, f0 fs3 j = x := ⟨_, rfl⟩
              rw [hx] at p1 p2 hsucc
              have q1' := (HBR.out.cell (p := ⟨b1, j * 2, none⟩) (lt_of_cell p1)).trans p1
              have q2' := (HBR.out.cell (p := ⟨b1, j * 2 + 1, none⟩) (lt_of_cell p2)).trans p2
              have q1 := (hbr2.cell (p := ⟨b1, j * 2, none⟩) (lt_of_cell q1')).trans q1'
              have q2 := (hbr2.cell (p := ⟨b1, j * 2 + 1, none⟩) (lt_of_cell q2')).trans q2'
              have q3 := (hbr2.cell (p := ⟨xb, 0, none⟩) (lt_of_cell HX0.out)).trans HX0.out
              obtain ⟨B, hB⟩ : ∃ B, memB fs3 (3, n.id) j = B := ⟨_, rfl⟩
              rw [hB] at hsucc ⊢
              have HSU := Lib.hid hsucc
              have HLT := Lib.hid hlt
              have lb : xb < wr.heap.size := lt_of_cell q3
              have lb1 : b1 < wr.heap.size := lt_of_cell q1
              have q3' : (wr.alloc (.cells #[.int .i64 x.1, .int .i64 x.2] 31)).cell? ⟨xb, 0, none⟩ = some (.int .i64 n.id) := ((below_new1 wr _).cell (p := ⟨xb, 0, none⟩) lb).trans q3
              clear hx hB hsucc hbr2 p1 p2 q3 q1' q2'
              cases B with
              | true =>
                go_wp2_with fail
                go_roundw
                case rel => exact ⟨j + 1, HLT.out, by go_num, by rw [HSU.out]; rfl, by first | exact below_drewN (HBR2.out.alloc HBR2.out.size _) _ | exact HBR2.out.alloc HBR2.out.size _⟩
                case measure => have := HLT.out; simp [intOf]; omega
              | false =>
                go_wp2_with fail
                go_roundw
                case rel => exact ⟨j + 1, HLT.out, by go_num, by rw [HSU.out]; rfl, by first | exact below_drewN (HBR2.out.alloc HBR2.out.size _) _ | exact HBR2.out.alloc HBR2.out.size _⟩
                case measure => have := HLT.out; simp [intOf]; omega
            · obtain rfl : j = fs3.length := by omega
              rw [memB_all HMEM3.out]
              clear hbr2
              go_wp2_with fail
              refine (lives25 _).mono ?_
              rintro e w9 ⟨rfl, hb9⟩
              go_wp2_with fail
              go_ret
              have h1 := HB3.out.trans (HBR.out.mono HB3.out.size)
              have h2 := h1.trans (HBR2.out.mono h1.size)
              exact ⟨rfl, h2.trans (hb9.mono h2.size)⟩
end Go.Proofs.Ytcembefhfadpbaa
