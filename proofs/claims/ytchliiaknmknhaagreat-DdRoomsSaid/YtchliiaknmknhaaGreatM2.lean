/- Several texts in one file. The node pool in memory, and the walks of its methods. The node pool: taking a fresh slot, a full pool, giving back, a new pool. The node pool: giving a slot back; a new pool. -/
import Derived.Test.YtchliiaknmknhaaGreatM1
import Derived.Deep.CutBlock
import Derived.Deep.DeepCutAuto
set_option linter.unusedSimpArgs false
set_option linter.unusedVariables false
set_option linter.unusedSectionVars false
set_option linter.unnecessarySimpa false

-- Pool
namespace Go.Proofs.YtchliiaknmknhaaGreat
open Go.RowKit

structure RN where
  id : Nat
  v : Nat
  lo : Nat
  hi : Nat
  refs : Nat
def rn0 : RN := ⟨0, 0, 0, 0, 0⟩
def nat64 (n : Nat) : Value := .int .i64 n
def rnV (n : RN) : List Value := [.int .i64 n.id, .int .i64 n.v, .int .i64 n.lo, .int .i64 n.hi, .int .i64 n.refs]
theorem rnV_length (n : RN) : (rnV n).length = 5 := rfl
def rnAgg (n : RN) : Value := .agg #[.int .i64 n.id, .int .i64 n.v, .int .i64 n.lo, .int .i64 n.hi, .int .i64 n.refs]

structure PoolD where
  room : Nat
  at_ : List RN
  taken : List Bool
  free : List Nat
  many : Nat
def PoolD.tk (p : PoolD) (i : Nat) : Bool := p.taken.getD i false
def PoolD.nd (p : PoolD) (i : Nat) : RN := p.at_.getD i rn0
def PoolD.get (p : PoolD) (i : Nat) : Option RN := if p.tk i = true then some (p.nd i) else none

structure PoolAt (o : Own) (w : World) (pb : Nat) (p : PoolD) : Prop where
  own : o pb = some .pool
  blk : ∃ vs vt vf, w.heap[pb]? = some (.cells #[.int .i64 p.room, vs, vt, vf, .int .i64 p.many] 190 (0, 0)) ∧
    RowR o w .slots 157 5 vs p.at_.length (p.at_.flatMap rnV) ∧ RowR o w .taken 4 1 vt p.taken.length (p.taken.map Value.bool) ∧
    RowR o w .free 3 1 vf p.free.length (p.free.map nat64)
  len : p.taken.length = p.at_.length
  room : p.room ≤ 1048576
  top : p.at_.length ≤ p.room + 1
  zero : p.tk 0 = false
  pos : 0 < p.at_.length
  id : ∀ i, p.tk i = true → (p.nd i).id = i
  many : p.many + p.free.length + 1 = p.at_.length
  nodup : p.free.Nodup
  free : ∀ i, i ∈ p.free → 0 < i ∧ i < p.at_.length ∧ p.tk i = false
  cnt : (p.many : Int) = sumTo p.at_.length (fun i => if p.tk i = true then 1 else 0)

theorem heap_setCell_same {w : World} {g k : Nat} {cur : Array Value} {e : TypeId} {fr : Nat × Nat} (h : w.heap[g]? = some (.cells cur e fr)) (u : Value) : (w.setCell ⟨g, k, none⟩ u).heap[g]? = some (.cells (cur.setIfInBounds k u) e fr) := by
  simp only [World.setCell, Array.getElem?_modify, if_true, h]; rfl
theorem heap_setCell_ne {w : World} {p : Addr} {g : Nat} (h : g ≠ p.block) (u : Value) : (w.setCell p u).heap[g]? = w.heap[g]? := Below.heap_setCell _ _ _ _ h

theorem PoolAt.keep {o o' : Own} {w w' : World} {pb : Nat} {p : PoolD} (h : PoolAt o w pb p) (hk : ∀ g r, o g = some r → (r = .pool ∨ r = .slots ∨ r = .taken ∨ r = .free) → w'.heap[g]? = w.heap[g]?) (ho : ∀ g r, o g = some r → o' g = some r) : PoolAt o' w' pb p := by
  obtain ⟨vs, vt, vf, h1, h2, h3, h4⟩ := h.blk
  exact ⟨ho _ _ h.own, ⟨vs, vt, vf, (hk _ _ h.own (.inl rfl)).trans h1, h2.keep (fun g hg => hk g _ hg (.inr (.inl rfl))) (fun g hg => ho g _ hg), h3.keep (fun g hg => hk g _ hg (.inr (.inr (.inl rfl)))) (fun g hg => ho g _ hg),
    h4.keep (fun g hg => hk g _ hg (.inr (.inr (.inr rfl)))) (fun g hg => ho g _ hg)⟩, h.len, h.room, h.top, h.zero, h.pos, h.id, h.many, h.nodup, h.free, h.cnt⟩
theorem RowR.drew {o : Own} {w : World} {r : Role} {e : TypeId} {size : Nat} {v : Value} {n : Nat} {xs : List Value} (h : RowR o w r e size v n xs) : RowR o w.drew r e size v n xs := ⟨h.len, h.ex⟩
theorem Chg.drew {R : Role → Prop} {o o' : Own} {w w' : World} (h : Chg R o o' w w') : Chg R o o' w w'.drew := ⟨h.os, h.tape, h.output, h.size, h.block, h.ext, h.new⟩
theorem PoolAt.drew {o : Own} {w : World} {pb : Nat} {p : PoolD} (h : PoolAt o w pb p) : PoolAt o w.drew pb p := h.keep (fun _ _ _ _ => rfl) (fun _ _ h => h)
theorem PoolAt.chg {R : Role → Prop} {o o' : Own} {w w' : World} {pb : Nat} {p : PoolD} (h : PoolAt o w pb p) (hc : Chg R o o' w w') (hlt : OwnLt o w) (h1 : ¬ R .pool) (h2 : ¬ R .slots) (h3 : ¬ R .taken) (h4 : ¬ R .free) : PoolAt o' w' pb p :=
  h.keep (fun g r hg hr => hc.same hlt hg (by rcases hr with rfl | rfl | rfl | rfl <;> assumption)) hc.ext
theorem PoolAt.below {o : Own} {w w' : World} {pb : Nat} {p : PoolD} (h : PoolAt o w pb p) (hb : Below w.heap.size w w') (hlt : OwnLt o w) : PoolAt o w' pb p :=
  h.keep (fun g r hg _ => hb.block g (hlt g r hg)) (fun _ _ h => h)
/-- The fields of the pool. -/
theorem PoolAt.cells {o : Own} {w : World} {pb : Nat} {p : PoolD} (h : PoolAt o w pb p) : ∃ vs vt vf, w.cell? ⟨pb, 0, none⟩ = some (.int .i64 p.room) ∧ w.cell? ⟨pb, 1, none⟩ = some vs ∧ w.cell? ⟨pb, 2, none⟩ = some vt ∧ w.cell? ⟨pb, 3, none⟩ = some vf ∧
    w.cell? ⟨pb, 4, none⟩ = some (.int .i64 p.many) ∧ RowR o w .slots 157 5 vs p.at_.length (p.at_.flatMap rnV) ∧ RowR o w .taken 4 1 vt p.taken.length (p.taken.map Value.bool) ∧
    RowR o w .free 3 1 vf p.free.length (p.free.map nat64) := by
  obtain ⟨vs, vt, vf, h1, h2, h3, h4⟩ := h.blk
  exact ⟨vs, vt, vf, by rw [cell_of_row w pb 0 _ _ _ h1]; rfl, by rw [cell_of_row w pb 1 _ _ _ h1]; rfl, by rw [cell_of_row w pb 2 _ _ _ h1]; rfl, by rw [cell_of_row w pb 3 _ _ _ h1]; rfl, by rw [cell_of_row w pb 4 _ _ _ h1]; rfl, h2, h3, h4⟩
theorem PoolAt.frozen {o : Own} {w : World} {pb : Nat} {p : PoolD} (h : PoolAt o w pb p) (k : Nat) : w.frozen? ⟨pb, k, none⟩ = false := by
  obtain ⟨vs, vt, vf, h1, _⟩ := h.blk
  simp [World.frozen?, h1]
theorem PoolAt.tk_lt {o : Own} {w : World} {pb : Nat} {p : PoolD} (h : PoolAt o w pb p) {i : Nat} (hi : p.tk i = true) : 0 < i ∧ i < p.at_.length := by
  constructor
  · rcases Nat.eq_zero_or_pos i with rfl | h0
    · rw [h.zero] at hi; cases hi
    · exact h0
  · rcases Nat.lt_or_ge i p.at_.length with h' | h'
    · exact h'
    · rw [← h.len] at h'
      simp [PoolD.tk, List.getD, List.getElem?_eq_none h'] at hi
/-- The cells of the flags. -/
theorem PoolAt.flag {o : Own} {w : World} {g cap m : Nat} {p : PoolD} (h : RowR o w .taken 4 1 (.slice (some ⟨g, 0, none⟩) m cap) p.taken.length (p.taken.map Value.bool)) {k : Nat} (hk : k < p.taken.length) : w.cell? ⟨g, k, none⟩ = some (.bool (p.tk k)) := by
  rw [h.cell k (by simpa using hk)]
  simp [PoolD.tk, List.getD, hk]
theorem PoolAt.node {o : Own} {w : World} {g cap m : Nat} {p : PoolD} (h : RowR o w .slots 157 5 (.slice (some ⟨g, 0, none⟩) m cap) p.at_.length (p.at_.flatMap rnV)) {k : Nat} (hk : k < p.at_.length) :
    w.cell? ⟨g, k * 5, none⟩ = some (.int .i64 (p.nd k).id) ∧ w.cell? ⟨g, k * 5 + 1, none⟩ = some (.int .i64 (p.nd k).v) ∧ w.cell? ⟨g, k * 5 + 2, none⟩ = some (.int .i64 (p.nd k).lo) ∧
    w.cell? ⟨g, k * 5 + 3, none⟩ = some (.int .i64 (p.nd k).hi) ∧ w.cell? ⟨g, k * 5 + 4, none⟩ = some (.int .i64 (p.nd k).refs) := by
  have hx : p.at_[k]? = some (p.nd k) := by simp [PoolD.nd, List.getD, hk]
  have hl : (p.at_.flatMap rnV).length = p.at_.length * 5 := flat_length rnV 5 rnV_length _
  have e := fun j (hj : j < 5) => (h.cell (k * 5 + j) (by rw [hl]; omega)).trans (flat_get rnV 5 rnV_length p.at_ k j _ hx hj)
  exact ⟨e 0 (by omega), e 1 (by omega), e 2 (by omega), e 3 (by omega), e 4 (by omega)⟩

set_option maxHeartbeats 400000 in
theorem poolLen_any (o : Own) (pb : Nat) (p : PoolD) (w : World) (h : PoolAt o w pb p) :
    Calls Tryz.prog 117 #[.pointer (some ⟨pb, 0, none⟩)] w fun x w' => x = .returned (.int .i64 p.many) ∧ w = w' := by
  obtain ⟨vs, vt, vf, c0, c1, c2, c3, c4, _⟩ := h.cells
  go_enter Tryz.func117, Tryz.ntmps117
  go_wp2
  go_ret
  exact ⟨rfl, rfl⟩
theorem poolRoom_any (o : Own) (pb : Nat) (p : PoolD) (w : World) (h : PoolAt o w pb p) :
    Calls Tryz.prog 145 #[.pointer (some ⟨pb, 0, none⟩)] w fun x w' => x = .returned (.int .i64 p.room) ∧ w = w' := by
  obtain ⟨vs, vt, vf, c0, c1, c2, c3, c4, _⟩ := h.cells
  go_enter Tryz.func145, Tryz.ntmps145
  go_wp2
  go_ret
  exact ⟨rfl, rfl⟩
set_option maxHeartbeats 400000 in
theorem poolIs_any (o : Own) (pb : Nat) (p : PoolD) (i : Nat) (w : World) (h : PoolAt o w pb p) :
    Calls Tryz.prog 153 #[.pointer (some ⟨pb, 0, none⟩), .int .i64 i] w fun x w' => x = .returned (.bool (p.tk i)) ∧ w = w' := by
  obtain ⟨vs, vt, vf, c0, c1, c2, c3, c4, hs, ht, _⟩ := h.cells
  have hpos := h.pos
  obtain ⟨gs, cs, rfl, _⟩ := hs.shape hpos
  obtain ⟨gt, ct, rfl, _⟩ := ht.shape (by rw [h.len]; exact hpos)
  have htop := h.top
  have hroom := h.room
  have hlen := h.len
  rw [hlen] at c2
  by_cases h0 : 0 < i
  · have h0' : (0 : Int) < i := by omega
    by_cases h1 : i < p.at_.length
    · have h1' : (i : Int) < p.at_.length := by omega
      have c5 := PoolAt.flag ht (k := i) (by omega)
      obtain ⟨b, hb⟩ : ∃ b, p.tk i = b := ⟨_, rfl⟩
      rw [hb] at c5
      rw [hb]
      clear hlen hb ht hs
      go_enter Tryz.func153, Tryz.ntmps153
      go_wp2
      go_ret
      exact ⟨rfl, rfl⟩
    · have h1' : ¬ (i : Int) < p.at_.length := by omega
      have HX : Hid (p.tk i = false) := by
        show _ = _
        cases e : p.tk i with
        | false => rfl
        | true => exact absurd (h.tk_lt e).2 h1
      clear hlen ht hs
      go_enter Tryz.func153, Tryz.ntmps153
      go_wp2
      go_ret
      exact ⟨ret_bool HX.out.symm, rfl⟩
  · obtain rfl : i = 0 := by omega
    have HX := Lib.hid h.zero
    clear hlen ht hs
    go_enter Tryz.func153, Tryz.ntmps153
    go_wp2
    go_ret
    exact ⟨ret_bool HX.out.symm, rfl⟩

theorem flat_set {α : Type} (f : α → List Value) (s : Nat) (hf : ∀ x, (f x).length = s) : ∀ (l : List α) (k : Nat) (y : α), k < l.length → (l.set k y).flatMap f = (l.flatMap f).take (k * s) ++ f y ++ (l.flatMap f).drop (k * s + s)
  | [], k, y, h => by simp at h
  | x :: l, 0, y, _ => by
    simp only [List.set_cons_zero, List.flatMap_cons, Nat.zero_mul, List.take_zero, List.nil_append, Nat.zero_add]
    rw [List.drop_append, List.drop_of_length_le (l := f x) (by simp [hf]), hf]; simp
  | x :: l, k + 1, y, h => by
    simp only [List.set_cons_succ, List.flatMap_cons]
    rw [flat_set f s hf l k y (by simpa using h), show (k + 1) * s = s + k * s by rw [Nat.add_mul]; omega]
    rw [List.take_append, hf, List.take_of_length_le (l := f x) (by rw [hf]; omega), show s + k * s - s = k * s by omega]
    rw [List.drop_append, hf, List.drop_of_length_le (l := f x) (by rw [hf]; omega), show s + k * s + s - s = k * s + s by omega]
    simp [List.append_assoc]
theorem set_five (xs : List Value) (k : Nat) (a b c d e : Value) (h : k + 5 ≤ xs.length) : ((((xs.set k a).set (k + 1) b).set (k + 2) c).set (k + 3) d).set (k + 4) e = xs.take k ++ [a, b, c, d, e] ++ xs.drop (k + 5) := by
  apply List.ext_getElem?
  intro i
  simp only [List.getElem?_set, List.length_set]
  by_cases h0 : i < k
  · rw [List.getElem?_append_left (by simp; omega), List.getElem?_append_left (by simp; omega), List.getElem?_take, if_pos h0]
    rw [if_neg (by omega), if_neg (by omega), if_neg (by omega), if_neg (by omega), if_neg (by omega)]
  · by_cases h1 : i < k + 5
    · rw [List.getElem?_append_left (by simp; omega), List.getElem?_append_right (by simp; omega)]
      have hl : (xs.take k).length = k := by simp; omega
      rw [hl]
      have : i = k ∨ i = k + 1 ∨ i = k + 2 ∨ i = k + 3 ∨ i = k + 4 := by omega
      rcases this with rfl | rfl | rfl | rfl | rfl
      · simp; omega
      · simp; omega
      · simp; omega
      · simp; omega
      · simp; omega
    · rw [if_neg (by omega), if_neg (by omega), if_neg (by omega), if_neg (by omega), if_neg (by omega)]
      rw [List.getElem?_append_right (by simp; omega)]
      simp only [List.length_append, List.length_take, List.length_cons, List.length_nil, List.getElem?_drop]
      congr 1; omega
/-- The world behind a store of a node. -/
def set5 (w : World) (g k : Nat) (n : RN) : World :=
  ((((w.setCell ⟨g, k * 5, none⟩ (.int .i64 n.id)).setCell ⟨g, k * 5 + 1, none⟩ (.int .i64 n.v)).setCell ⟨g, k * 5 + 2, none⟩ (.int .i64 n.lo)).setCell ⟨g, k * 5 + 3, none⟩ (.int .i64 n.hi)).setCell ⟨g, k * 5 + 4, none⟩ (.int .i64 n.refs)
theorem rowR_set5 {o : Own} {w : World} {g cap m : Nat} {l : List RN} {k : Nat} (h : RowR o w .slots 157 5 (.slice (some ⟨g, 0, none⟩) m cap) l.length (l.flatMap rnV)) (hk : k < l.length) (n : RN) :
    RowR o (set5 w g k n) .slots 157 5 (.slice (some ⟨g, 0, none⟩) m cap) (l.set k n).length ((l.set k n).flatMap rnV) := by
  have h5 := ((((h.stored (k * 5) (.int .i64 n.id)).stored (k * 5 + 1) (.int .i64 n.v)).stored (k * 5 + 2) (.int .i64 n.lo)).stored (k * 5 + 3) (.int .i64 n.hi)).stored (k * 5 + 4) (.int .i64 n.refs)
  rw [List.length_set]
  have hl : (l.flatMap rnV).length = l.length * 5 := flat_length rnV 5 rnV_length _
  rw [set_five _ _ _ _ _ _ _ (by rw [hl]; omega)] at h5
  rw [flat_set rnV 5 rnV_length l k n hk]
  exact h5
theorem set5_chg {R : Role → Prop} {o o' : Own} {w0 w : World} {g k : Nat} {n : RN} (h : Chg R o o' w0 w) (hg : o' g = some .slots) (hR : R .slots) : Chg R o o' w0 (set5 w g k n) :=
  ((((h.setCell (p := ⟨g, k * 5, none⟩) hg hR _).setCell (p := ⟨g, k * 5 + 1, none⟩) hg hR _).setCell (p := ⟨g, k * 5 + 2, none⟩) hg hR _).setCell (p := ⟨g, k * 5 + 3, none⟩) hg hR _).setCell (p := ⟨g, k * 5 + 4, none⟩) hg hR _
theorem set5_heap {w : World} {g k : Nat} {n : RN} {b : Nat} (hb : b ≠ g) : (set5 w g k n).heap[b]? = w.heap[b]? := by
  unfold set5
  rw [heap_setCell_ne hb, heap_setCell_ne hb, heap_setCell_ne hb, heap_setCell_ne hb, heap_setCell_ne hb]

theorem nd_set {p : PoolD} {k : Nat} {n : RN} (hk : k < p.at_.length) (i : Nat) : ({ p with at_ := p.at_.set k n } : PoolD).nd i = if i = k then n else p.nd i := by
  unfold PoolD.nd
  dsimp only
  by_cases e : i = k
  · subst e; simp [List.getD, hk]
  · simp only [List.getD, List.getElem?_set, if_neg (Ne.symm e), if_neg e]

/-- The pool behind a change of one node. -/
def PoolD.setNd (p : PoolD) (k : Nat) (n : RN) : PoolD := { p with at_ := p.at_.set k n }
theorem PoolD.setNd_get {p : PoolD} {k : Nat} {n : RN} (hk : k < p.at_.length) (ht : p.tk k = true) (i : Nat) : (p.setNd k n).get i = if i = k then some n else p.get i := by
  unfold PoolD.get
  have : (p.setNd k n).tk i = p.tk i := rfl
  rw [this, show (p.setNd k n).nd i = if i = k then n else p.nd i from nd_set hk i]
  by_cases e : i = k
  · subst e; simp [ht]
  · simp [e]
theorem PoolAt.setNd {o : Own} {w : World} {pb g cap m : Nat} {p : PoolD} (h : PoolAt o w pb p) (hlt : OwnLt o w) {vs : Value} (hc : w.cell? ⟨pb, 1, none⟩ = some vs) (hv : vs = .slice (some ⟨g, 0, none⟩) m cap) {k : Nat} {n : RN} (hk : p.tk k = true) (hn : n.id = k) :
    PoolAt o (set5 w g k n) pb (p.setNd k n) := by
  subst hv
  obtain ⟨vs, vt, vf, h1, h2, h3, h4⟩ := h.blk
  have e1 : vs = .slice (some ⟨g, 0, none⟩) m cap := by
    rw [cell_of_row w pb 1 _ _ _ h1] at hc
    simpa using hc
  subst e1
  have hg := h2.owner
  obtain ⟨_, hkl⟩ := h.tk_lt hk
  have hne : ∀ {b r}, o b = some r → r ≠ .slots → b ≠ g := fun hb hr e => by subst e; rw [hg] at hb; cases hb; exact hr rfl
  refine ⟨h.own, ⟨_, vt, vf, (set5_heap (hne h.own (by simp))).trans h1, rowR_set5 h2 hkl n, h3.keep (fun b hb => set5_heap (hne hb (by simp))) (fun _ h => h), h4.keep (fun b hb => set5_heap (hne hb (by simp))) (fun _ h => h)⟩, ?_, h.room, ?_, h.zero, ?_, ?_, ?_, h.nodup, ?_, ?_⟩
  · simp only [PoolD.setNd, List.length_set]; exact h.len
  · simp only [PoolD.setNd, List.length_set]; exact h.top
  · simp only [PoolD.setNd, List.length_set]; exact h.pos
  · intro i hi
    rw [show (p.setNd k n).nd i = if i = k then n else p.nd i from nd_set hkl i]
    split
    · rename_i e; rw [e]; exact hn
    · exact h.id i hi
  · simp only [PoolD.setNd, List.length_set]; exact h.many
  · simp only [PoolD.setNd, List.length_set]; exact h.free
  · simp only [PoolD.setNd, List.length_set]; exact h.cnt

set_option maxHeartbeats 400000 in
theorem poolAt_yes (o : Own) (pb : Nat) (p : PoolD) (i : Nat) (w : World) (h : PoolAt o w pb p) (hlt : OwnLt o w) (hi : p.tk i = true) :
    Calls Tryz.prog 123 #[.pointer (some ⟨pb, 0, none⟩), .int .i64 i] w fun x w' => x = .returned (.tuple #[rnAgg (p.nd i), .bool true]) ∧ Below w.heap.size w w' := by
  obtain ⟨vs, vt, vf, c0, c1, c2, c3, c4, hs, ht, _⟩ := h.cells
  have hpos := h.pos
  obtain ⟨gs, cs, rfl, _⟩ := hs.shape hpos
  have htop := h.top
  have hroom := h.room
  obtain ⟨h0, h1⟩ := h.tk_lt hi
  have h1' : (i : Int) < p.at_.length := by omega
  obtain ⟨d0, d1, d2, d3, d4⟩ := PoolAt.node hs (k := i) h1
  obtain ⟨n, hn⟩ : ∃ n, p.nd i = n := ⟨_, rfl⟩
  rw [hn] at d0 d1 d2 d3 d4
  rw [hn]
  have HH := Lib.hid (h.below (below_new1 w (.cells #[.int .i64 0, .int .i64 0, .int .i64 0, .int .i64 0, .int .i64 0] 157)) hlt)
  have HI := Lib.hid hi
  have l0 : pb < w.heap.size := lt_of_cell c1
  have l1 : gs < w.heap.size := lt_of_cell d0
  clear hn hs ht h hi hlt
  go_enter Tryz.func123, Tryz.ntmps123
  go_wp2_with fail
  refine (poolIs_any o pb p i _ HH.out).mono ?_
  rintro x w' ⟨rfl, rfl⟩
  rw [HI.out]
  go_wp2_with fail
  exact bodyPost_ret (v := .tuple #[rnAgg n, .bool true]) (by simp [results, Tryz.results123, go_sem, rnAgg]) rfl ⟨rfl, below_new1 w _⟩
set_option maxHeartbeats 400000 in
theorem poolAt_no (o : Own) (pb : Nat) (p : PoolD) (i : Nat) (w : World) (h : PoolAt o w pb p) (hlt : OwnLt o w) (hi : p.tk i = false) :
    Calls Tryz.prog 123 #[.pointer (some ⟨pb, 0, none⟩), .int .i64 i] w fun x w' => x = .returned (.tuple #[rnAgg rn0, .bool false]) ∧ Below w.heap.size w w' := by
  have HH := Lib.hid (h.below (below_new1 w (.cells #[.int .i64 0, .int .i64 0, .int .i64 0, .int .i64 0, .int .i64 0] 157)) hlt)
  have HI := Lib.hid hi
  clear h hi hlt
  go_enter Tryz.func123, Tryz.ntmps123
  go_wp2_with fail
  refine (poolIs_any o pb p i _ HH.out).mono ?_
  rintro x w' ⟨rfl, rfl⟩
  rw [HI.out]
  go_wp2_with fail
  exact bodyPost_ret (v := .tuple #[rnAgg rn0, .bool false]) (by simp [results, Tryz.results123, go_sem, rnAgg, rn0]) rfl ⟨rfl, below_new1 w _⟩

set_option maxRecDepth 100000 in
set_option maxHeartbeats 800000 in
theorem poolSet_any (o : Own) (pb : Nat) (p : PoolD) (n : RN) (w : World) (h : PoolAt o w pb p) (hlt : OwnLt o w) (hi : p.tk n.id = true) :
    Calls Tryz.prog 140 #[.pointer (some ⟨pb, 0, none⟩), rnAgg n] w fun x w' => x = .returned (.int .i64 0) ∧ PoolAt o w' pb (p.setNd n.id n) ∧ Chg (· = .slots) o o w w' ∧ OwnLt o w' := by
  obtain ⟨vs, vt, vf, c0, c1, c2, c3, c4, hs, ht, _⟩ := h.cells
  have hpos := h.pos
  obtain ⟨gs, cs, rfl, hog, _⟩ := hs.shape hpos
  have htop := h.top
  have hroom := h.room
  obtain ⟨h0, h1⟩ := h.tk_lt hi
  have h1' : (n.id : Int) < p.at_.length := by omega
  obtain ⟨W, hW⟩ : ∃ W, W = w.alloc (.cells #[.int .i64 n.id, .int .i64 n.v, .int .i64 n.lo, .int .i64 n.hi, .int .i64 n.refs] 157) := ⟨_, rfl⟩
  have hbW : Below w.heap.size w W := by rw [hW]; exact below_new1 w _
  have hPW := h.below hbW hlt
  have hltW : OwnLt o W := hlt.mono hbW.size
  obtain ⟨b, hb⟩ : ∃ b, b = w.heap.size := ⟨_, rfl⟩
  have b0 : W.cell? ⟨b, 0, none⟩ = some (.int .i64 n.id) := by rw [hW, hb]; simp
  have b1 : W.cell? ⟨b, 1, none⟩ = some (.int .i64 n.v) := by rw [hW, hb]; simp
  have b2 : W.cell? ⟨b, 2, none⟩ = some (.int .i64 n.lo) := by rw [hW, hb]; simp
  have b3 : W.cell? ⟨b, 3, none⟩ = some (.int .i64 n.hi) := by rw [hW, hb]; simp
  have b4 : W.cell? ⟨b, 4, none⟩ = some (.int .i64 n.refs) := by rw [hW, hb]; simp
  have e1 : W.cell? ⟨pb, 1, none⟩ = some (.slice (some ⟨gs, 0, none⟩) p.at_.length cs) := (hbW.cell (p := ⟨pb, 1, none⟩) (lt_of_cell c1)).trans c1
  have hd := PoolAt.node (hs.keep (fun g hg => hbW.block g (hlt g _ hg)) (fun _ h => h)) (k := n.id) h1
  obtain ⟨d0, d1, d2, d3, d4⟩ := hd
  have f0 : ∀ k, W.frozen? ⟨gs, k, none⟩ = false := (hs.keep (fun g hg => hbW.block g (hlt g _ hg)) (fun _ h => h)).frozen
  have HC : Hid (Chg (· = .slots) o o w W) := by show Chg _ _ _ _ _; rw [hW]; exact (Chg.refl _ _ _).alloc _
  have HP := Lib.hid hPW
  have HL := Lib.hid hltW
  have HI := Lib.hid hi
  have HO := Lib.hid hog
  have HE := Lib.hid e1
  have HW := Lib.hid hW
  have HB := Lib.hid hb
  clear hs ht h hi hlt hog c0 c1 c2 c3 c4 hbW hPW hltW hW hb
  unfold rnAgg
  go_enter Tryz.func140, Tryz.ntmps140
  go_wp2_with (fail)
  rw [← HW.out, ← HB.out]
  go_wp2_with (fail)
  refine (poolIs_any o pb p n.id _ HP.out).mono ?_
  rintro x w' ⟨rfl, rfl⟩
  rw [HI.out]
  go_wp2_with fail
  refine wp_region_mix (fun w' => w' = W.drew) true 8 [(0, false), (1, false), (2, false), (3, false), (4, false), (5, false), (6, false), (7, false), (8, true)] (by kernel_rfl) (by kernel_rfl) rfl ?_
  simp only [planned, List.map_cons, List.map_nil, List.getElem?_cons_succ, List.getElem?_cons_zero]
  iterate 8
    refine mix_readE rfl ?_
    apply Exists.intro
    refine ⟨fun w' hw => ?_, ?_⟩
    · subst hw
      go_simp
      rfl
    simp only [Act.put, List.setIfInBounds_toArray, List.set_cons_zero, List.set_cons_succ]
  refine mix_last rfl (fun K hK => ?_)
  unfold Oper.wp
  go_simp
  refine hK _ _ (np_normal ?_)
  go_wp2_with fail
  go_ret
  exact ⟨rfl, (HP.out.setNd HL.out HE.out rfl HI.out rfl).drew, (set5_chg HC.out HO.out rfl).drew, HL.out.mono (by simp [set5, World.setCell])⟩

/-! Take. -/
def PoolD.reuse (p : PoolD) (id : Nat) (n : RN) : PoolD := { p with at_ := p.at_.set id { n with id := id }, taken := p.taken.set id true, free := p.free.dropLast, many := p.many + 1 }
def PoolD.fresh (p : PoolD) (n : RN) : PoolD := { p with at_ := p.at_ ++ [{ n with id := p.at_.length }], taken := p.taken ++ [true], many := p.many + 1 }
theorem tk_setT {l : List Bool} {k : Nat} {b : Bool} (hk : k < l.length) (i : Nat) : (l.set k b).getD i false = if i = k then b else l.getD i false := by
  by_cases e : i = k
  · subst e; simp [List.getD, hk]
  · simp only [List.getD, List.getElem?_set, if_neg (Ne.symm e), if_neg e]
theorem PoolD.reuse_get {p : PoolD} {id : Nat} {n : RN} (h1 : id < p.at_.length) (h2 : id < p.taken.length) (i : Nat) : (p.reuse id n).get i = if i = id then some { n with id := id } else p.get i := by
  unfold PoolD.get
  have e1 : (p.reuse id n).tk i = if i = id then true else p.tk i := tk_setT h2 i
  have e2 : (p.reuse id n).nd i = if i = id then { n with id := id } else p.nd i := nd_set h1 i
  rw [e1, e2]
  by_cases e : i = id <;> simp [e]
theorem PoolD.fresh_get {p : PoolD} {n : RN} (hl : p.taken.length = p.at_.length) (i : Nat) : (p.fresh n).get i = if i = p.at_.length then some { n with id := p.at_.length } else p.get i := by
  unfold PoolD.get PoolD.tk PoolD.nd PoolD.fresh
  dsimp only
  rcases Nat.lt_trichotomy i p.at_.length with h | h | h
  · have hne : i ≠ p.at_.length := by omega
    simp [List.getD, List.getElem?_append_left, h, hl, hne]
  · subst h
    simp [List.getD, List.getElem?_append_right, hl]
  · have hne : i ≠ p.at_.length := by omega
    have h1 : p.at_.length ≤ i := by omega
    have h2 : p.taken.length ≤ i := by omega
    have h3 : i - p.at_.length ≠ 0 := by omega
    simp [List.getD, List.getElem?_append_right, h1, hl, hne, List.getElem?_eq_none, h3]

theorem PoolAt.freeCell {o : Own} {w : World} {g cap m : Nat} {p : PoolD} (h : RowR o w .free 3 1 (.slice (some ⟨g, 0, none⟩) m cap) p.free.length (p.free.map nat64)) {k : Nat} {x : Nat} (hk : p.free[k]? = some x) : w.cell? ⟨g, k, none⟩ = some (.int .i64 x) := by
  have hl : k < p.free.length := by
    rcases Nat.lt_or_ge k p.free.length with h' | h'
    · exact h'
    · rw [List.getElem?_eq_none h'] at hk; cases hk
  rw [h.cell k (by simpa using hl), List.getElem?_map, hk]; rfl

theorem drop_last_snoc {fs : List Nat} {id : Nat} : (fs ++ [id]).dropLast = fs := by simp
theorem PoolD.reuse_tk {p : PoolD} {id : Nat} {n : RN} (h : id < p.taken.length) (i : Nat) : (p.reuse id n).tk i = if i = id then true else p.tk i := tk_setT h i
theorem PoolAt.toReuse {o : Own} {w W : World} {pb gs gt gf cs ct cf : Nat} {p : PoolD} (h : PoolAt o w pb p) (hlt : OwnLt o w) {fs : List Nat} {id : Nat} {n : RN} (hf : p.free = fs ++ [id])
    (c1 : w.cell? ⟨pb, 1, none⟩ = some (.slice (some ⟨gs, 0, none⟩) p.at_.length cs)) (c2 : w.cell? ⟨pb, 2, none⟩ = some (.slice (some ⟨gt, 0, none⟩) p.at_.length ct)) (c3 : w.cell? ⟨pb, 3, none⟩ = some (.slice (some ⟨gf, 0, none⟩) (fs.length + 1) cf))
    (hcf : fs.length + 1 ≤ cf) (hW : Below w.heap.size (w.setCell ⟨pb, 3, none⟩ (.slice (some ⟨gf, 0, none⟩) fs.length fs.length)) W) :
    PoolAt o (((set5 W gs id { n with id := id }).setCell ⟨gt, id, none⟩ (.bool true)).setCell ⟨pb, 4, none⟩ (.int .i64 ((p.many + 1 : Nat) : Int))) pb (p.reuse id n) ∧
    Chg (fun r => r = .pool ∨ r = .slots ∨ r = .taken ∨ r = .free) o o w (((set5 W gs id { n with id := id }).setCell ⟨gt, id, none⟩ (.bool true)).setCell ⟨pb, 4, none⟩ (.int .i64 ((p.many + 1 : Nat) : Int))) := by
  obtain ⟨vs, vt, vf, h1, h2, h3, h4⟩ := h.blk
  have e1 : vs = .slice (some ⟨gs, 0, none⟩) p.at_.length cs := by rw [cell_of_row w pb 1 _ _ _ h1] at c1; simpa using c1
  have e2 : vt = .slice (some ⟨gt, 0, none⟩) p.at_.length ct := by rw [cell_of_row w pb 2 _ _ _ h1] at c2; simpa using c2
  have e3 : vf = .slice (some ⟨gf, 0, none⟩) (fs.length + 1) cf := by rw [cell_of_row w pb 3 _ _ _ h1] at c3; simpa using c3
  subst e1 e2 e3
  have os := h2.owner
  have ot := h3.owner
  have of := h4.owner
  have ne : ∀ {a b r q}, o a = some r → o b = some q → r ≠ q → a ≠ b := fun ha hb hr e => by subst e; rw [ha] at hb; cases hb; exact hr rfl
  obtain ⟨i0, i1, i2⟩ := h.free id (by rw [hf]; simp)
  have old : ∀ g r, o g = some r → g ≠ pb → W.heap[g]? = w.heap[g]? := fun g r hg hne => (hW.block g (hlt g r hg)).trans (heap_setCell_ne hne _)
  have hpb : W.heap[pb]? = some (.cells #[.int .i64 p.room, .slice (some ⟨gs, 0, none⟩) p.at_.length cs, .slice (some ⟨gt, 0, none⟩) p.at_.length ct, .slice (some ⟨gf, 0, none⟩) fs.length fs.length, .int .i64 p.many] 190 (0, 0)) :=
    (hW.block pb (hlt pb _ h.own)).trans (heap_setCell_same h1 _)
  have hs2 : RowR o W .slots 157 5 (.slice (some ⟨gs, 0, none⟩) p.at_.length cs) p.at_.length (p.at_.flatMap rnV) := h2.keep (fun g hg => old g _ hg (ne hg h.own (by simp))) (fun _ h => h)
  have ht2 : RowR o W .taken 4 1 (.slice (some ⟨gt, 0, none⟩) p.at_.length ct) p.taken.length (p.taken.map Value.bool) := h3.keep (fun g hg => old g _ hg (ne hg h.own (by simp))) (fun _ h => h)
  have hf2 : RowR o W .free 3 1 (.slice (some ⟨gf, 0, none⟩) fs.length fs.length) fs.length (fs.map nat64) := by
    have := (h4.keep (w' := W) (o' := o) (fun g hg => old g _ hg (ne hg h.own (by simp))) (fun _ h => h)).shrink (m' := fs.length) (cap' := fs.length) (by rw [hf]; simp) (by omega) (Nat.le_refl _)
    rw [hf, List.map_append, Nat.mul_one, List.take_left' (by simp)] at this
    exact this
  refine ⟨⟨h.own, ⟨.slice (some ⟨gs, 0, none⟩) p.at_.length cs, .slice (some ⟨gt, 0, none⟩) p.at_.length ct, .slice (some ⟨gf, 0, none⟩) fs.length fs.length, ?_, ?_, ?_, ?_⟩, ?_, h.room, ?_, ?_, ?_, ?_, ?_, ?_, ?_, ?_⟩, ?_⟩
  · have e : ((set5 W gs id { n with id := id }).setCell ⟨gt, id, none⟩ (.bool true)).heap[pb]? = W.heap[pb]? := (heap_setCell_ne (ne h.own ot (by simp)) _).trans (set5_heap (ne h.own os (by simp)))
    exact heap_setCell_same (e.trans hpb) _
  · exact ((rowR_set5 hs2 i1 _).setCell_other (p := ⟨gt, id, none⟩) (by rw [ot]; simp) _).setCell_other (p := ⟨pb, 4, none⟩) (by rw [h.own]; simp) _
  · have a1 := (ht2.keep (w' := set5 W gs id { n with id := id }) (o' := o) (fun g hg => set5_heap (ne hg os (by simp))) (fun _ h => h)).stored id (.bool true)
    have a2 := a1.setCell_other (p := ⟨pb, 4, none⟩) (by rw [h.own]; simp) (.int .i64 ((p.many + 1 : Nat) : Int))
    simp only [PoolD.reuse, List.length_set, List.map_set]
    exact a2
  · have a1 := ((hf2.keep (w' := set5 W gs id { n with id := id }) (o' := o) (fun g hg => set5_heap (ne hg os (by simp))) (fun _ h => h)).setCell_other (p := ⟨gt, id, none⟩) (by rw [ot]; simp) (.bool true)).setCell_other (p := ⟨pb, 4, none⟩) (by rw [h.own]; simp) (.int .i64 ((p.many + 1 : Nat) : Int))
    simp only [PoolD.reuse, hf, drop_last_snoc]
    exact a1
  · simp only [PoolD.reuse, List.length_set]; exact h.len
  · simp only [PoolD.reuse, List.length_set]; exact h.top
  · rw [PoolD.reuse_tk (by rw [h.len]; exact i1), if_neg (by omega)]; exact h.zero
  · simp only [PoolD.reuse, List.length_set]; exact h.pos
  · intro i hi
    rw [PoolD.reuse_tk (by rw [h.len]; exact i1)] at hi
    rw [show (p.reuse id n).nd i = if i = id then { n with id := id } else p.nd i from nd_set i1 i]
    split
    · rename_i e; exact e.symm
    · rename_i e; rw [if_neg e] at hi; exact h.id i hi
  · have := h.many
    simp only [PoolD.reuse, List.length_set, hf, drop_last_snoc] at *
    simp at this; omega
  · have := h.nodup
    simp only [PoolD.reuse, hf, drop_last_snoc] at *
    exact (List.nodup_append.1 this).1
  · intro i hi
    have hn := h.nodup
    simp only [PoolD.reuse, hf, drop_last_snoc] at hi hn
    have hne : i ≠ id := by
      rintro rfl
      exact (List.nodup_append.1 hn).2.2 i hi i (by simp) rfl
    have := h.free i (by rw [hf]; simp [hi])
    rw [PoolD.reuse_tk (by rw [h.len]; exact i1), if_neg hne]
    simp only [PoolD.reuse, List.length_set]; exact this
  · have hc := h.cnt
    have : sumTo (p.reuse id n).at_.length (fun i => if (p.reuse id n).tk i = true then 1 else 0) = sumTo p.at_.length (fun i => if p.tk i = true then 1 else 0) + ((if (p.reuse id n).tk id = true then 1 else 0) - (if p.tk id = true then 1 else 0)) := by
      have hl : (p.reuse id n).at_.length = p.at_.length := by simp [PoolD.reuse]
      rw [hl]
      refine sumTo_upd (fun i hi => ?_) _ i1
      rw [PoolD.reuse_tk (by rw [h.len]; exact i1), if_neg hi]
    rw [this, PoolD.reuse_tk (by rw [h.len]; exact i1), if_pos rfl, i2, ← hc]
    simp [PoolD.reuse]
  · have c0 : Chg (fun r => r = .pool ∨ r = .slots ∨ r = .taken ∨ r = .free) o o w W :=
      ((Chg.refl _ o w).setCell (p := ⟨pb, 3, none⟩) h.own (.inl rfl) _).trans (Chg.of_below (by simpa [World.setCell] using hW) _ _)
    exact ((set5_chg c0 os (.inr (.inl rfl))).setCell (p := ⟨gt, id, none⟩) ot (.inr (.inr (.inl rfl))) _).setCell (p := ⟨pb, 4, none⟩) h.own (.inl rfl) _
set_option maxRecDepth 100000 in
set_option maxHeartbeats 1600000 in
theorem poolTake_reuse (o : Own) (pb : Nat) (p : PoolD) (n : RN) (fs : List Nat) (id : Nat) (w : World) (h : PoolAt o w pb p) (hlt : OwnLt o w) (hf : p.free = fs ++ [id]) :
    Calls Tryz.prog 154 #[.pointer (some ⟨pb, 0, none⟩), rnAgg n] w fun x w' => x = .returned (.tuple #[.int .i64 id, .int .i64 0]) ∧ PoolAt o w' pb (p.reuse id n) ∧ Chg (fun r => r = .pool ∨ r = .slots ∨ r = .taken ∨ r = .free) o o w w' ∧ OwnLt o w' := by
  obtain ⟨vs, vt, vf, c0, c1, c2, c3, c4, hs, ht, hff⟩ := h.cells
  have hpos := h.pos
  obtain ⟨gs, cs, rfl, hogs, _⟩ := hs.shape hpos
  obtain ⟨gt, ct, rfl, hogt, _⟩ := ht.shape (by rw [h.len]; exact hpos)
  obtain ⟨gf, cf, rfl, hogf, hcf, hcm⟩ := hff.shape (by rw [hf]; simp)
  have htop := h.top
  have hroom := h.room
  have hmany := h.many
  have hmem := h.free id (by rw [hf]; simp)
  obtain ⟨i0, i1, i2⟩ := hmem
  have hfl : p.free.length = fs.length + 1 := by rw [hf]; simp
  have d := PoolAt.freeCell hff (k := fs.length) (x := id) (by rw [hf]; simp)
  have f3 := h.frozen 3
  have f4 := h.frozen 4
  have fs0 := hs.frozen
  have ft0 := ht.frozen id
  have n0 := PoolAt.node hs (k := id) i1
  obtain ⟨n0, n1, n2, n3, n4⟩ := n0
  have t0 := PoolAt.flag ht (k := id) (by rw [h.len]; exact i1)
  rw [hfl] at c3 hcf
  rw [h.len] at c2
  have lpb : pb < w.heap.size := lt_of_cell c0
  have lgs : gs < w.heap.size := lt_of_cell n0
  have lgt : gt < w.heap.size := lt_of_cell t0
  have lgf : gf < w.heap.size := lt_of_cell d
  have i1' : (id : Int) < p.at_.length := by omega
  have nes : pb ≠ gs := by rintro rfl; rw [h.own] at hogs; cases hogs
  have net : pb ≠ gt := by rintro rfl; rw [h.own] at hogt; cases hogt
  have nef : pb ≠ gf := by rintro rfl; rw [h.own] at hogf; cases hogf
  have nst : gs ≠ gt := by rintro rfl; rw [hogs] at hogt; cases hogt
  have HH := Lib.hid h
  have HL := Lib.hid hlt
  have HF := Lib.hid hf
  unfold maxLen at hcm
  clear h hlt hf hs ht hff hfl hmany i2 hogs hogt hogf
  unfold rnAgg
  go_enter Tryz.func154, Tryz.ntmps154
  go_wp2_with (fail)
  obtain ⟨W1, hW1⟩ : ∃ W1, W1 = (w.setCell ⟨pb, 3, none⟩ (.slice (some ⟨gf, 0, none⟩) fs.length fs.length)).alloc (.cells #[.int .i64 id, .int .i64 n.v, .int .i64 n.lo, .int .i64 n.hi, .int .i64 n.refs] 157) := ⟨_, rfl⟩
  obtain ⟨b, hb⟩ : ∃ b, b = w.heap.size := ⟨_, rfl⟩
  rw [← hW1, ← hb]
  have hbW : Below w.heap.size (w.setCell ⟨pb, 3, none⟩ (.slice (some ⟨gf, 0, none⟩) fs.length fs.length)) W1 := by rw [hW1]; exact (Below.refl _ _).alloc (by simp [World.setCell]) _
  have hfin := fun W (hW : Below w.heap.size W1 W) => HH.out.toReuse HL.out HF.out (n := n) (W := W) c1 c2 c3 hcf (hbW.trans hW)
  have hB : W1.heap[b]? = some (.cells #[.int .i64 id, .int .i64 n.v, .int .i64 n.lo, .int .i64 n.hi, .int .i64 n.refs] 157 (0, 0)) := by
    rw [hW1, hb]
    have := heap_alloc_new (w.setCell ⟨pb, 3, none⟩ (.slice (some ⟨gf, 0, none⟩) fs.length fs.length)) (.cells #[.int .i64 id, .int .i64 n.v, .int .i64 n.lo, .int .i64 n.hi, .int .i64 n.refs] 157)
    rw [show (w.setCell ⟨pb, 3, none⟩ (.slice (some ⟨gf, 0, none⟩) fs.length fs.length)).heap.size = w.heap.size by simp [World.setCell]] at this
    exact this
  have b0 : W1.cell? ⟨b, 0, none⟩ = some (.int .i64 id) := by rw [cell_of_row W1 b 0 _ _ _ hB]; rfl
  have b1 : W1.cell? ⟨b, 1, none⟩ = some (.int .i64 n.v) := by rw [cell_of_row W1 b 1 _ _ _ hB]; rfl
  have b2 : W1.cell? ⟨b, 2, none⟩ = some (.int .i64 n.lo) := by rw [cell_of_row W1 b 2 _ _ _ hB]; rfl
  have b3 : W1.cell? ⟨b, 3, none⟩ = some (.int .i64 n.hi) := by rw [cell_of_row W1 b 3 _ _ _ hB]; rfl
  have b4 : W1.cell? ⟨b, 4, none⟩ = some (.int .i64 n.refs) := by rw [cell_of_row W1 b 4 _ _ _ hB]; rfl
  have old : ∀ g k, g < w.heap.size → (g ≠ pb ∨ k ≠ 3) → W1.cell? ⟨g, k, none⟩ = w.cell? ⟨g, k, none⟩ := by
    intro g k hg hne
    refine (hbW.cell (p := ⟨g, k, none⟩) hg).trans ?_
    exact World.cell?_setCell_other w _ _ _ (by intro e; cases e; simp at hne)
  have oldf : ∀ g k, g < w.heap.size → g ≠ pb → W1.frozen? ⟨g, k, none⟩ = w.frozen? ⟨g, k, none⟩ := by
    intro g k hg hne
    refine (hbW.frozen (p := ⟨g, k, none⟩) hg).trans ?_
    exact World.frozen?_setCell _ _ _ _
  have p1 := (old pb 1 lpb (.inr (by omega))).trans c1
  have p2 := (old pb 2 lpb (.inr (by omega))).trans c2
  have p4 := (old pb 4 lpb (.inr (by omega))).trans c4
  have q0 := (old gs (id * 5) lgs (.inl (Ne.symm nes))).trans n0
  have q1 := (old gs (id * 5 + 1) lgs (.inl (Ne.symm nes))).trans n1
  have q2 := (old gs (id * 5 + 2) lgs (.inl (Ne.symm nes))).trans n2
  have q3 := (old gs (id * 5 + 3) lgs (.inl (Ne.symm nes))).trans n3
  have q4 := (old gs (id * 5 + 4) lgs (.inl (Ne.symm nes))).trans n4
  have qt := (old gt id lgt (.inl (Ne.symm net))).trans t0
  have g0 : ∀ k, W1.frozen? ⟨gs, k, none⟩ = false := fun k => (oldf gs k lgs (Ne.symm nes)).trans (fs0 k)
  have g1 : W1.frozen? ⟨gt, id, none⟩ = false := (oldf gt id lgt (Ne.symm net)).trans ft0
  have g2 : W1.frozen? ⟨pb, 4, none⟩ = false := by
    refine (hbW.frozen (p := ⟨pb, 4, none⟩) lpb).trans ?_
    rw [World.frozen?_setCell]; exact f4
  have nbs : b ≠ gs := by omega
  have HS : Hid (∀ W : World, (∀ g, g ≠ gs → W.heap[g]? = W1.heap[g]?) → W.cell? ⟨pb, 1, none⟩ = some (.slice (some ⟨gs, 0, none⟩) p.at_.length cs) ∧ W.cell? ⟨pb, 2, none⟩ = some (.slice (some ⟨gt, 0, none⟩) p.at_.length ct) ∧
      W.cell? ⟨b, 0, none⟩ = some (.int .i64 id) ∧ W.cell? ⟨b, 1, none⟩ = some (.int .i64 n.v) ∧ W.cell? ⟨b, 2, none⟩ = some (.int .i64 n.lo) ∧ W.cell? ⟨b, 3, none⟩ = some (.int .i64 n.hi) ∧ W.cell? ⟨b, 4, none⟩ = some (.int .i64 n.refs)) := by
    show ∀ _, _
    intro W hW
    have a := fun g k (hg : g ≠ gs) => World.cell?_of_block (w := W1) (w' := W) (a := ⟨g, k, none⟩) (hW g hg)
    exact ⟨(a pb 1 nes).trans p1, (a pb 2 nes).trans p2, (a b 0 nbs).trans b0, (a b 1 nbs).trans b1, (a b 2 nbs).trans b2, (a b 3 nbs).trans b3, (a b 4 nbs).trans b4⟩
  have HFIN := Lib.hid hfin
  have HLT : Hid (OwnLt o W1) := by show OwnLt _ _; exact HL.out.mono (by have := hbW.size; simpa [World.setCell] using this)
  have hmax : p.many < 1048577 := by have := HH.out.many; omega
  have hmx : (p.many : Int) + 1 < 9223372036854775807 := by omega
  clear hfin old oldf hbW hW1 hb hB n0 n1 n2 n3 n4 t0 c0 c1 c2 c3 c4 d f3 f4 fs0 ft0
  refine wp_region_mix (fun W : World => W.cell? ⟨pb, 1, none⟩ = some (.slice (some ⟨gs, 0, none⟩) p.at_.length cs) ∧ W.cell? ⟨pb, 2, none⟩ = some (.slice (some ⟨gt, 0, none⟩) p.at_.length ct) ∧
      W.cell? ⟨b, 0, none⟩ = some (.int .i64 id) ∧ W.cell? ⟨b, 1, none⟩ = some (.int .i64 n.v) ∧ W.cell? ⟨b, 2, none⟩ = some (.int .i64 n.lo) ∧ W.cell? ⟨b, 3, none⟩ = some (.int .i64 n.hi) ∧ W.cell? ⟨b, 4, none⟩ = some (.int .i64 n.refs)) true 14
    [(0, false), (1, false), (2, false), (3, false), (4, false), (5, false), (6, false), (7, false), (8, false), (9, false), (10, false), (11, false), (12, true), (13, false), (14, true)] (by kernel_rfl) (by kernel_rfl) (HS.out _ (fun _ _ => rfl)) ?_
  simp only [planned, List.map_cons, List.map_nil, List.getElem?_cons_succ, List.getElem?_cons_zero]
  iterate 12
    refine mix_readE rfl ?_
    apply Exists.intro
    refine ⟨fun w' hw => ?_, ?_⟩
    · obtain ⟨h1, h2, h3, h4, h5, h6, h7⟩ := hw
      go_simp
      rfl
    simp only [Act.put, List.setIfInBounds_toArray, List.set_cons_zero, List.set_cons_succ]
  refine mix_eff rfl (fun K hK => ?_)
  unfold Oper.wp
  go_simp
  refine hK _ _ (HS.out _ (fun g hg => set5_heap (w := W1) (n := ⟨id, n.v, n.lo, n.hi, n.refs⟩) hg)) ?_
  iterate 1
    refine mix_readE rfl ?_
    apply Exists.intro
    refine ⟨fun w' hw => ?_, ?_⟩
    · obtain ⟨h1, h2, h3, h4, h5, h6, h7⟩ := hw
      go_simp
      rfl
    simp only [Act.put, List.setIfInBounds_toArray, List.set_cons_zero, List.set_cons_succ]
  refine mix_last rfl (fun K hK => ?_)
  unfold Oper.wp
  go_simp
  refine hK _ _ (np_normal ?_)
  go_wp2_with fail
  go_ret2
  have hfin := HFIN.out W1 (Below.refl _ _)
  rw [show ((p.many + 1 : Nat) : Int) = (p.many : Int) + 1 by omega] at hfin
  exact ⟨rfl, hfin.1.drew, hfin.2.drew, HLT.out.mono (by simp [World.setCell])⟩
end Go.Proofs.YtchliiaknmknhaaGreat

-- Pool2
namespace Go.Proofs.YtchliiaknmknhaaGreat
open Go.RowKit

set_option maxRecDepth 100000 in
set_option maxHeartbeats 1600000 in
theorem poolTake_full (o : Own) (pb : Nat) (p : PoolD) (n : RN) (w : World) (h : PoolAt o w pb p) (hf : p.free = []) (hfull : p.room < p.at_.length) :
    Calls Tryz.prog 154 #[.pointer (some ⟨pb, 0, none⟩), rnAgg n] w fun x w' => x = .returned (.tuple #[.int .i64 0, .int .i64 7]) ∧ Below w.heap.size w w' := by
  obtain ⟨vs, vt, vf, c0, c1, c2, c3, c4, hs, ht, hff⟩ := h.cells
  obtain ⟨gs, cs, rfl, _⟩ := hs.shape h.pos
  obtain ⟨af, cf, rfl, _⟩ := hff.slice
  rw [hf] at c3
  have hfull' : (p.room : Int) < p.at_.length := by omega
  have lpb : pb < w.heap.size := lt_of_cell c0
  have htop := h.top
  have hroom := h.room
  clear hs ht hff h hf
  unfold rnAgg
  go_enter Tryz.func154, Tryz.ntmps154
  go_wp2_with (fail)
  go_quiet (fail)
  go_wp2_with (fail)
  go_ret2
  exact ⟨rfl, by first | exact below_new1 w _ | exact below_newdraw w _ _⟩


theorem cells5 {w : World} {g : Nat} {a b c d e : Value} {T : TypeId} (h : w.heap[g]? = some (.cells #[a, b, c, d, e] T (0, 0))) : w.cell? ⟨g, 0, none⟩ = some a ∧ w.cell? ⟨g, 1, none⟩ = some b ∧ w.cell? ⟨g, 2, none⟩ = some c ∧ w.cell? ⟨g, 3, none⟩ = some d ∧ w.cell? ⟨g, 4, none⟩ = some e ∧ (∀ k, w.frozen? ⟨g, k, none⟩ = false) :=
  ⟨by rw [cell_of_row w g 0 _ _ _ h]; rfl, by rw [cell_of_row w g 1 _ _ _ h]; rfl, by rw [cell_of_row w g 2 _ _ _ h]; rfl, by rw [cell_of_row w g 3 _ _ _ h]; rfl, by rw [cell_of_row w g 4 _ _ _ h]; rfl, fun k => by simp [World.frozen?, h]⟩
theorem OwnLt.none {o : Own} {w : World} (h : OwnLt o w) {b : Nat} (hb : w.heap.size ≤ b) : o b = Option.none := by
  cases e : o b with
  | none => rfl
  | some r => have := h b r e; omega
theorem RowR.below {o : Own} {w w' : World} {r : Role} {e : TypeId} {size : Nat} {v : Value} {n : Nat} {xs : List Value} (h : RowR o w r e size v n xs) (hlt : OwnLt o w) (hb : Below w.heap.size w w') : RowR o w' r e size v n xs :=
  h.keep (fun g hg => hb.block g (hlt g r hg)) (fun _ h => h)
theorem cells_new5 (w : World) (a b c d e : Value) (t : TypeId) : ∀ j u, [a, b, c, d, e][j]? = some u → (w.alloc (.cells #[a, b, c, d, e] t)).cell? ((⟨w.heap.size, 0, none⟩ : Addr).add j) = some u := by
  intro j u hj
  match j, hj with
  | 0, hj => simp at hj; subst hj; simp [Addr.add]
  | 1, hj => simp at hj; subst hj; simp [Addr.add]
  | 2, hj => simp at hj; subst hj; simp [Addr.add]
  | 3, hj => simp at hj; subst hj; simp [Addr.add]
  | 4, hj => simp at hj; subst hj; simp [Addr.add]
  | j + 5, hj => simp at hj
theorem infoNode : (Tryz.prog.info? 157).map (fun i => (i.zero, i.size, i.bytes)) = some (some (.agg #[.int .i64 0, .int .i64 0, .int .i64 0, .int .i64 0, .int .i64 0]), 5, 40) := by kernel_rfl
theorem infoBool : (Tryz.prog.info? 4).map (fun i => (i.zero, i.size, i.bytes)) = some (some (.bool false), 1, 1) := by kernel_rfl

/-- Grown by one slot, which is then filled. -/
theorem PoolAt.toFresh {o o' : Own} {w W : World} {pb gs gt cs ct : Nat} {p : PoolD} (h : PoolAt o w pb p) {n : RN} (hf : p.free = []) (hr : p.at_.length ≤ p.room) (hopb : o' pb = some .pool) {vf : Value}
    (hpb : W.heap[pb]? = some (.cells #[.int .i64 p.room, .slice (some ⟨gs, 0, none⟩) (p.at_.length + 1) cs, .slice (some ⟨gt, 0, none⟩) (p.at_.length + 1) ct, vf, .int .i64 p.many] 190 (0, 0)))
    (h2 : RowR o' W .slots 157 5 (.slice (some ⟨gs, 0, none⟩) (p.at_.length + 1) cs) (p.at_.length + 1) ((p.at_ ++ [rn0]).flatMap rnV))
    (h3 : RowR o' W .taken 4 1 (.slice (some ⟨gt, 0, none⟩) (p.at_.length + 1) ct) (p.at_.length + 1) ((p.taken ++ [false]).map Value.bool))
    (h4 : RowR o' W .free 3 1 vf p.free.length (p.free.map nat64)) :
    PoolAt o' (((set5 W gs p.at_.length { n with id := p.at_.length }).setCell ⟨gt, p.at_.length, none⟩ (.bool true)).setCell ⟨pb, 4, none⟩ (.int .i64 ((p.many + 1 : Nat) : Int))) pb (p.fresh n) ∧
    Chg (fun r => r = .pool ∨ r = .slots ∨ r = .taken ∨ r = .free) o' o' W (((set5 W gs p.at_.length { n with id := p.at_.length }).setCell ⟨gt, p.at_.length, none⟩ (.bool true)).setCell ⟨pb, 4, none⟩ (.int .i64 ((p.many + 1 : Nat) : Int))) := by
  have os := h2.owner
  have ot := h3.owner
  have ne : ∀ {a b r q}, o' a = some r → o' b = some q → r ≠ q → a ≠ b := fun ha hb hr e => by subst e; rw [ha] at hb; cases hb; exact hr rfl
  have hl : p.taken.length = p.at_.length := h.len
  have hset : (p.at_ ++ [rn0]).set p.at_.length { n with id := p.at_.length } = p.at_ ++ [{ n with id := p.at_.length }] := by
    rw [List.set_append_right _ _ (Nat.le_refl _)]; simp
  have hget : ∀ i, (p.fresh n).tk i = (p.tk i || i == p.at_.length) := by
    intro i
    unfold PoolD.tk PoolD.fresh
    dsimp only
    rcases Nat.lt_trichotomy i p.taken.length with h' | h' | h'
    · have hne : i ≠ p.at_.length := by omega
      simp [List.getD, List.getElem?_append_left, h', hne]
    · subst h'; simp [List.getD, hl]
    · have hne : i ≠ p.at_.length := by omega
      have h1 : i - p.taken.length ≠ 0 := by omega
      have h0 : p.taken.length ≤ i := by omega
      simp [List.getD, List.getElem?_append_right, h0, hne, h1]
  have hnd : ∀ i, i ≠ p.at_.length → (p.fresh n).nd i = p.nd i := by
    intro i hi
    unfold PoolD.nd PoolD.fresh
    dsimp only
    rcases Nat.lt_or_ge i p.at_.length with h' | h'
    · simp [List.getD, List.getElem?_append_left, h']
    · have h1 : i - p.at_.length ≠ 0 := by omega
      simp [List.getD, List.getElem?_append_right, h', h1]
  refine ⟨⟨hopb, ⟨.slice (some ⟨gs, 0, none⟩) (p.at_.length + 1) cs, .slice (some ⟨gt, 0, none⟩) (p.at_.length + 1) ct, vf, ?_, ?_, ?_, ?_⟩, ?_, h.room, ?_, ?_, ?_, ?_, ?_, ?_, ?_, ?_⟩, ?_⟩
  · have e : ((set5 W gs p.at_.length { n with id := p.at_.length }).setCell ⟨gt, p.at_.length, none⟩ (.bool true)).heap[pb]? = W.heap[pb]? := (heap_setCell_ne (ne hopb ot (by simp)) _).trans (set5_heap (ne hopb os (by simp)))
    exact heap_setCell_same (e.trans hpb) _
  · have a0 := rowR_set5 (l := p.at_ ++ [rn0]) (by simpa using h2) (k := p.at_.length) (by simp) { n with id := p.at_.length }
    have a1 := (a0.setCell_other (p := ⟨gt, p.at_.length, none⟩) (by rw [ot]; simp) (.bool true)).setCell_other (p := ⟨pb, 4, none⟩) (by rw [hopb]; simp) (.int .i64 ((p.many + 1 : Nat) : Int))
    rw [hset] at a1
    simpa [PoolD.fresh] using a1
  · have a1 := (h3.keep (w' := set5 W gs p.at_.length { n with id := p.at_.length }) (o' := o') (fun g hg => set5_heap (ne hg os (by simp))) (fun _ h => h)).stored p.at_.length (.bool true)
    have a2 := a1.setCell_other (p := ⟨pb, 4, none⟩) (by rw [hopb]; simp) (.int .i64 ((p.many + 1 : Nat) : Int))
    rw [← hl, List.map_append, List.set_append_right _ _ (by simp)] at a2
    simp only [PoolD.fresh, List.length_append, List.length_singleton, List.map_append]
    simpa [hl] using a2
  · exact ((h4.keep (w' := set5 W gs p.at_.length { n with id := p.at_.length }) (o' := o') (fun g hg => set5_heap (ne hg os (by simp))) (fun _ h => h)).setCell_other (p := ⟨gt, p.at_.length, none⟩) (by rw [ot]; simp) (.bool true)).setCell_other (p := ⟨pb, 4, none⟩) (by rw [hopb]; simp) (.int .i64 ((p.many + 1 : Nat) : Int))
  · simp [PoolD.fresh, hl]
  · simp only [PoolD.fresh, List.length_append, List.length_singleton]; omega
  · rw [hget]; have := h.pos; simp [h.zero]; omega
  · simp [PoolD.fresh]
  · intro i hi
    by_cases e : i = p.at_.length
    · subst e; simp [PoolD.nd, PoolD.fresh, List.getD]
    · rw [hnd i e]; rw [hget] at hi; simp [e] at hi; exact h.id i hi
  · have := h.many; simp only [PoolD.fresh, List.length_append, List.length_singleton]; omega
  · exact h.nodup
  · intro i hi
    have : i ∈ p.free := hi
    rw [hf] at this; cases this
  · have e1 : (p.fresh n).at_.length = p.at_.length + 1 := by simp [PoolD.fresh]
    have hne1 : ∀ i, i < p.at_.length → (if (p.fresh n).tk i = true then (1 : Int) else 0) = if p.tk i = true then 1 else 0 := by
      intro i hi
      have hne : (i == p.at_.length) = false := by simp; omega
      rw [hget, hne]; simp
    rw [e1, sumTo, sumTo_congr (g := fun i => if p.tk i = true then 1 else 0) p.at_.length hne1, ← h.cnt, hget]
    simp [PoolD.fresh]
  · exact ((set5_chg (Chg.refl _ _ _) os (.inr (.inl rfl))).setCell (p := ⟨gt, p.at_.length, none⟩) ot (.inr (.inr (.inl rfl))) _).setCell (p := ⟨pb, 4, none⟩) hopb (.inl rfl) _

/-- append of one element laid in a new block, as an equation. -/
theorem run_appOne (T e ty : TypeId) (size bytes : Nat) (z : Value) (hT : Tryz.prog.underlying T = some (.slice e)) (he : (Tryz.prog.info? e).map (fun i => (i.zero, i.size, i.bytes)) = some (some z, size, bytes)) (hzs : z.cells.size = size) (hsz : 0 < size)
    {wr : World} {o : Own} {r : Role} {v : Value} {n : Nat} {xs : List Value} (news : Array Value) (hl : news.size = size) (h1 : ∀ u ∈ news.toList, u.oneCell' = true) (h : RowR o wr r e size v n xs) (hlt : OwnLt o wr) (hn : n < 1000000000) (hb : bytes ≤ 10000) :
    ∃ g cap w' o', (Builtin.append_ #[T, T] ty #[v, .slice (some ⟨wr.heap.size, 0, none⟩) 1 1]).run Tryz.prog (wr.alloc (.cells news e)) = .ok (.slice (some ⟨g, 0, none⟩) (n + 1) cap) w' ∧
      RowR o' w' r e size (.slice (some ⟨g, 0, none⟩) (n + 1) cap) (n + 1) (xs ++ news.toList) ∧ Chg (· = r) o o' wr w' ∧ OwnLt o' w' := by
  obtain ⟨i, hi, hz, hsize, hby⟩ := info_parts he
  have hbl : Below wr.heap.size wr (wr.alloc (.cells news e)) := below_new1 _ _
  have hRow : RowR o (wr.alloc (.cells news e)) r e size v n xs := h.keep (fun g hg => hbl.block g (hlt g r hg)) (fun _ h => h)
  have hcell : ∀ j u, news.toList[j]? = some u → (wr.alloc (.cells news e)).cell? ((⟨wr.heap.size, 0, none⟩ : Addr).add j) = some u := by
    intro j u hu
    have hadd : (⟨wr.heap.size, 0, none⟩ : Addr).add j = ⟨wr.heap.size, j, none⟩ := by unfold Addr.add; split <;> simp_all
    rw [hadd, cell_of_row _ _ _ _ _ _ (heap_alloc_new wr _)]
    simpa using hu
  have hnb : (n + 1) * bytes ≤ 140737488355328 := Nat.le_trans (Nat.mul_le_mul (show n + 1 ≤ 1000000000 by omega) hb) (by decide)
  obtain ⟨v', w', o', a0, a1, a2, a3⟩ := hRow.append (P := Tryz.prog) (hlt.mono hbl.size) T ty i z bytes hT hi hz hsize hby hzs hsz ⟨wr.heap.size, 0, none⟩ 1 1 news.toList (by simpa using hl) hcell h1 (by unfold maxLen; omega) hnb
  obtain ⟨g, cap, rfl, _⟩ := a1.shape (by omega)
  exact ⟨g, cap, w', o', a0, a1, (Chg.of_below hbl _ _).trans a2, a3⟩

/-- append of one element, laid in a new block. -/
theorem wpList_appOne (T e : TypeId) (size bytes : Nat) (z : Value) (hT : Tryz.prog.underlying T = some (.slice e)) (he : (Tryz.prog.info? e).map (fun i => (i.zero, i.size, i.bytes)) = some (some z, size, bytes)) (hzs : z.cells.size = size) (hsz : 0 < size)
    {wr : World} {ops : Array Oper} {rest : List Oper} {op : Oper} {a : Act} {Q : Exit → Act → World → Prop} {W : World} (hgd : op.guard = none) (s x : Operand)
    (hop : op.op = .call { callee := .builtin .append, args := #[s, x], argTypes := #[T, T] })
    {o : Own} {r : Role} {v : Value} {n : Nat} {xs : List Value} (hs : a.eval s = v) {N : Nat} (hx : a.eval x = .slice (some ⟨N, 0, none⟩) 1 1) {news : Array Value}
    (hW : W = wr.alloc (.cells news e)) (hN : N = wr.heap.size) (hl : news.size = size) (h1 : ∀ u ∈ news.toList, u.oneCell' = true) (h : RowR o wr r e size v n xs) (hlt : OwnLt o wr) (hn : n < 1000000000) (hb : bytes ≤ 10000)
    (hK : ∀ g cap w' o', RowR o' w' r e size (.slice (some ⟨g, 0, none⟩) (n + 1) cap) (n + 1) (xs ++ news.toList) → Chg (· = r) o o' wr w' → OwnLt o' w' → wpList Tryz.prog ops Q rest (a.put op.dst (.slice (some ⟨g, 0, none⟩) (n + 1) cap)) w') : wpList Tryz.prog ops Q (op :: rest) a W := by
  subst hN; subst hW
  obtain ⟨g, cap, w', o', hr, h2, h3, h4⟩ := run_appOne T e op.type size bytes z hT he hzs hsz news hl h1 h hlt hn hb
  refine wpList_plain hgd fun K hKK => ?_
  unfold Oper.wp execOp
  simp only [hop, resolve, invoke, builtin, Sem.run_bind, Sem.run_pure, Result.andThen_ok, List.map_toArray, List.map_cons, List.map_nil, hs, hx, hr]
  exact hKK _ _ (hK g cap w' o' h2 h3 h4)
/-- Between the steps of a growing pool: the pool's fields, the box of the new node, the rows. -/
structure TakeS (o : Own) (w : World) (p : PoolD) (n : RN) (b pb : Nat) (vs vt vf : Value) (nl nt : Nat) (xs : List Value) (bs : List Value) (o1 : Own) (wx : World) : Prop where
  fpb : wx.heap[pb]? = some (.cells #[.int .i64 p.room, vs, vt, vf, .int .i64 p.many] 190 (0, 0))
  box : wx.heap[b]? = some (.cells #[.int .i64 n.id, .int .i64 n.v, .int .i64 n.lo, .int .i64 n.hi, .int .i64 n.refs] 157 (0, 0))
  slots : RowR o1 wx .slots 157 5 vs nl xs
  taken : RowR o1 wx .taken 4 1 vt nt bs
  free : RowR o1 wx .free 3 1 vf p.free.length (p.free.map nat64)
  chg : Chg (fun r => r = .pool ∨ r = .slots ∨ r = .taken ∨ r = .free) o o1 w wx
  lt : OwnLt o1 wx
  ob : o1 b = none
  op : o1 pb = some .pool
theorem TakeS.grown1 {o : Own} {w : World} {p : PoolD} {n : RN} {b pb : Nat} {vs vt vf vs' : Value} {nl nt nl' : Nat} {xs bs xs' : List Value} {o1 o2 : Own} {wx wy : World} (h : TakeS o w p n b pb vs vt vf nl nt xs bs o1 wx)
    (hr : RowR o2 wy .slots 157 5 vs' nl' xs') (hc : Chg (· = .slots) o1 o2 wx wy) (hl : OwnLt o2 wy) : TakeS o w p n b pb vs' vt vf nl' nt xs' bs o2 (wy.setCell ⟨pb, 1, none⟩ vs') := by
  have hop := hc.ext _ _ h.op
  have hlb : b < wx.heap.size := (Array.getElem?_eq_some_iff.1 h.box).1
  have hbn := hc.alien' hlb h.ob
  have npb : b ≠ pb := by intro e; have h1 := h.op; rw [← e, h.ob] at h1; cases h1
  exact ⟨heap_setCell_same ((hc.same h.lt h.op (by simp)).trans h.fpb) _, (heap_setCell_ne npb _).trans ((hc.alien hlb h.ob).trans h.box), hr.setCell_other (by rw [hop]; simp) _, (h.taken.chg hc h.lt (by simp)).setCell_other (by rw [hop]; simp) _,
    (h.free.chg hc h.lt (by simp)).setCell_other (by rw [hop]; simp) _, (h.chg.trans (hc.mono fun r e => .inr (.inl e))).setCell (p := ⟨pb, 1, none⟩) hop (.inl rfl) _, hl.mono (by simp [World.setCell]), hbn, hop⟩
theorem TakeS.grown2 {o : Own} {w : World} {p : PoolD} {n : RN} {b pb : Nat} {vs vt vf vt' : Value} {nl nt nt' : Nat} {xs bs bs' : List Value} {o1 o2 : Own} {wx wy : World} (h : TakeS o w p n b pb vs vt vf nl nt xs bs o1 wx)
    (hr : RowR o2 wy .taken 4 1 vt' nt' bs') (hc : Chg (· = .taken) o1 o2 wx wy) (hl : OwnLt o2 wy) : TakeS o w p n b pb vs vt' vf nl nt' xs bs' o2 (wy.setCell ⟨pb, 2, none⟩ vt') := by
  have hop := hc.ext _ _ h.op
  have hlb : b < wx.heap.size := (Array.getElem?_eq_some_iff.1 h.box).1
  have hbn := hc.alien' hlb h.ob
  have npb : b ≠ pb := by intro e; have h1 := h.op; rw [← e, h.ob] at h1; cases h1
  exact ⟨heap_setCell_same ((hc.same h.lt h.op (by simp)).trans h.fpb) _, (heap_setCell_ne npb _).trans ((hc.alien hlb h.ob).trans h.box), (h.slots.chg hc h.lt (by simp)).setCell_other (by rw [hop]; simp) _, hr.setCell_other (by rw [hop]; simp) _,
    (h.free.chg hc h.lt (by simp)).setCell_other (by rw [hop]; simp) _, (h.chg.trans (hc.mono fun r e => .inr (.inr (.inl e)))).setCell (p := ⟨pb, 2, none⟩) hop (.inl rfl) _, hl.mono (by simp [World.setCell]), hbn, hop⟩
set_option maxRecDepth 100000 in
set_option maxHeartbeats 1600000 in
theorem poolTake_fresh (o : Own) (pb : Nat) (p : PoolD) (n : RN) (w : World) (h : PoolAt o w pb p) (hlt : OwnLt o w) (hf : p.free = []) (hroom1 : p.at_.length ≤ p.room) :
    Calls Tryz.prog 154 #[.pointer (some ⟨pb, 0, none⟩), rnAgg n] w fun x w' => x = .returned (.tuple #[.int .i64 p.at_.length, .int .i64 0]) ∧ ∃ o', PoolAt o' w' pb (p.fresh n) ∧ Chg (fun r => r = .pool ∨ r = .slots ∨ r = .taken ∨ r = .free) o o' w w' ∧ OwnLt o' w' := by
  have hpb0 := h.blk
  obtain ⟨vs, vt, vf, hpb, hs, ht, hff⟩ := hpb0
  obtain ⟨gs, cs, rfl, hogs, _⟩ := hs.shape h.pos
  obtain ⟨gt, ct, rfl, hogt, _⟩ := ht.shape (by rw [h.len]; exact h.pos)
  obtain ⟨af, cf, rfl, _⟩ := hff.slice
  rw [h.len, hf] at hpb
  rw [h.len] at ht
  obtain ⟨c0, c1, c2, c3, c4, f0⟩ := cells5 hpb
  have hroom' : ¬ (p.room : Int) < p.at_.length := by omega
  have lpb : pb < w.heap.size := lt_of_cell c0
  have htop := h.top
  have hroom := h.room
  have HH := Lib.hid h
  have HL := Lib.hid hlt
  have HS := Lib.hid hs
  have HT := Lib.hid ht
  have HF := Lib.hid hff
  have HOP := Lib.hid h.own
  have HFF := Lib.hid hf
  have HLEN := Lib.hid h.len
  have HPB := Lib.hid hpb
  obtain ⟨in_, hin, hinz, hins, hinb⟩ := info_parts infoNode
  obtain ⟨ib, hib, hibz, hibs, hibb⟩ := info_parts infoBool
  have HIN := Lib.hid (⟨hin, hinz, hins, hinb⟩ : _ ∧ _ ∧ _ ∧ _)
  have HIB := Lib.hid (⟨hib, hibz, hibs, hibb⟩ : _ ∧ _ ∧ _ ∧ _)
  clear hs ht hff h hf hlt hogs hogt hpb hin hinz hins hinb hib hibz hibs hibb
  unfold rnAgg
  go_enter Tryz.func154, Tryz.ntmps154
  go_wp2_with (fail)
  go_quiet (fail)
  have hbw : Below w.heap.size w ((w.alloc (.cells #[.int .i64 n.id, .int .i64 n.v, .int .i64 n.lo, .int .i64 n.hi, .int .i64 n.refs] 157)).drewN nq) := below_newdraw w nq _
  have hbx : ((w.alloc (.cells #[.int .i64 n.id, .int .i64 n.v, .int .i64 n.lo, .int .i64 n.hi, .int .i64 n.refs] 157)).drewN nq).heap[w.heap.size]? = some (.cells #[.int .i64 n.id, .int .i64 n.v, .int .i64 n.lo, .int .i64 n.hi, .int .i64 n.refs] 157 (0, 0)) := heap_alloc_new w _
  have hwz : ((w.alloc (.cells #[.int .i64 n.id, .int .i64 n.v, .int .i64 n.lo, .int .i64 n.hi, .int .i64 n.refs] 157)).drewN nq).heap.size = w.heap.size + 1 := by simp
  obtain ⟨wq, hwq⟩ : ∃ wq, wq = (w.alloc (.cells #[.int .i64 n.id, .int .i64 n.v, .int .i64 n.lo, .int .i64 n.hi, .int .i64 n.refs] 157)).drewN nq := ⟨_, rfl⟩
  rw [← hwq] at hbw hbx hwz ⊢
  obtain ⟨b, hb⟩ : ∃ b, b = w.heap.size := ⟨_, rfl⟩
  rw [← hb] at hbx hwz ⊢
  have hS : TakeS o w p n b pb (.slice (some ⟨gs, 0, none⟩) p.at_.length cs) (.slice (some ⟨gt, 0, none⟩) p.at_.length ct) (.slice af 0 cf) p.at_.length p.at_.length (p.at_.flatMap rnV) (p.taken.map Value.bool) o wq :=
    ⟨(hbw.block pb lpb).trans HPB.out, hbx, HS.out.below HL.out hbw, HT.out.below HL.out hbw, by have := HF.out.below HL.out hbw; rw [HFF.out] at this ⊢; exact this, (Chg.of_below hbw _ _), HL.out.mono hbw.size, HL.out.none (by omega), HOP.out⟩
  have HSS := Lib.hid hS
  have HB := Lib.hid hb
  clear c0 c1 c2 c3 c4 f0 hwq hS hb hbx hbw hwz lpb
  obtain ⟨c0, c1, c2, c3, c4, f0⟩ := cells5 HSS.out.fpb
  have lpb : pb < wq.heap.size := lt_of_cell c0
  go_upto_region 10 with fail
  go_cut [4] (fun s4 wx => s4 = .int .i64 p.at_.length ∧ ∃ g1 k1 o1, TakeS o w p n b pb (.slice (some ⟨g1, 0, none⟩) (p.at_.length + 1) k1) (.slice (some ⟨gt, 0, none⟩) p.at_.length ct) (.slice af 0 cf) (p.at_.length + 1) p.at_.length (p.at_.flatMap rnV ++ [.int .i64 0, .int .i64 0, .int .i64 0, .int .i64 0, .int .i64 0]) (p.taken.map Value.bool) o1 wx)
  case first =>
    go_wp2_with (at_builtin
                 refine wpList_appOne 186 157 5 40 _ Tryz.underlying186 infoNode rfl (by decide) rfl _ _ rfl rfl rfl rfl (by simp) rfl (by decide) HSS.out.slots HSS.out.lt (by omega) (by decide) ?_
                 intro g1 k1 w1 o1 hr1 hc1 hl1
                 obtain ⟨q0, q1, q2, q3, q4, fq⟩ := cells5 ((hc1.same HSS.out.lt HSS.out.op (by simp)).trans HSS.out.fpb)
                 have HR1 := Lib.hid hr1
                 have HC1 := Lib.hid hc1
                 have HL1 := Lib.hid hl1
                 clear hr1 hc1 hl1 c0 c1 c2 c3 c4 f0)
    go_meet
    exact ⟨rfl, g1, k1, o1, HSS.out.grown1 HR1.out HC1.out HL1.out⟩
  case rest =>
    obtain ⟨rfl, g1, k1, o1, hS⟩ := hcut
    clear c0 c1 c2 c3 c4 f0 lpb HSS
    rename World => wr
    have HSS := Lib.hid hS
    obtain ⟨c0, c1, c2, c3, c4, f0⟩ := cells5 hS.fpb
    have lpb : pb < wr.heap.size := lt_of_cell c0
    clear hS
    go_upto_region 11 with fail
    go_cut [4] (fun s4 wx => s4 = .int .i64 p.at_.length ∧ ∃ g1 k1 g2 k2 o1, TakeS o w p n b pb (.slice (some ⟨g1, 0, none⟩) (p.at_.length + 1) k1) (.slice (some ⟨g2, 0, none⟩) (p.at_.length + 1) k2) (.slice af 0 cf) (p.at_.length + 1) (p.at_.length + 1) (p.at_.flatMap rnV ++ [.int .i64 0, .int .i64 0, .int .i64 0, .int .i64 0, .int .i64 0]) (p.taken.map Value.bool ++ [.bool false]) o1 wx)
    case first =>
      go_wp2_with (at_builtin
                   refine wpList_appOne 36 4 1 1 _ Tryz.underlying36 infoBool rfl (by decide) rfl _ _ rfl rfl rfl rfl (by simp) rfl (by decide) HSS.out.taken HSS.out.lt (by omega) (by decide) ?_
                   intro g2 k2 w2 o2 hr1 hc1 hl1
                   obtain ⟨q0, q1, q2, q3, q4, fq⟩ := cells5 ((hc1.same HSS.out.lt HSS.out.op (by simp)).trans HSS.out.fpb)
                   have HR1 := Lib.hid hr1
                   have HC1 := Lib.hid hc1
                   have HL1 := Lib.hid hl1
                   clear hr1 hc1 hl1 c0 c1 c2 c3 c4 f0)
      go_meet
      exact ⟨rfl, g1, k1, g2, k2, o2, HSS.out.grown2 HR1.out HC1.out HL1.out⟩
    case rest =>
      obtain ⟨rfl, g1, k1, g2, k2, o1, hS⟩ := hcut
      clear c0 c1 c2 c3 c4 f0 lpb HSS
      rename World => w3
      have HSS := Lib.hid hS
      obtain ⟨c0, c1, c2, c3, c4, f0⟩ := cells5 hS.fpb
      obtain ⟨b0, b1, b2, b3, b4, fb⟩ := cells5 hS.box
      have lpb : pb < w3.heap.size := lt_of_cell c0
      have lb : b < w3.heap.size := lt_of_cell b0
      have npb : pb ≠ b := by intro e; have h1 := hS.op; rw [e, hS.ob] at h1; cases h1
      clear hS
      go_upto_region 13 with fail
      obtain ⟨W1, hW1⟩ : ∃ W1, W1 = w3.setCell ⟨b, 0, none⟩ (.int .i64 p.at_.length) := ⟨_, rfl⟩
      rw [← hW1]
      have hbox : W1.heap[b]? = some (.cells #[.int .i64 p.at_.length, .int .i64 n.v, .int .i64 n.lo, .int .i64 n.hi, .int .i64 n.refs] 157 (0, 0)) := by rw [hW1]; exact heap_setCell_same HSS.out.box _
      have hpb1 := (heap_setCell_ne (p := ⟨b, 0, none⟩) npb (.int .i64 p.at_.length : Value)).trans HSS.out.fpb
      rw [← hW1] at hpb1
      have hc1 : Chg (fun r => r = .pool ∨ r = .slots ∨ r = .taken ∨ r = .free) o o1 w W1 := by
        rw [hW1]; exact HSS.out.chg.setCell_new (p := ⟨b, 0, none⟩) (by rw [HB.out]; exact Nat.le_refl _) _
      have hbo : ∀ r, o1 (⟨b, 0, none⟩ : Addr).block ≠ some r := by intro r e; rw [show o1 (⟨b, 0, none⟩ : Addr).block = o1 b from rfl, HSS.out.ob] at e; cases e
      have hs1 : RowR o1 W1 .slots 157 5 (.slice (some ⟨g1, 0, none⟩) (p.at_.length + 1) k1) (p.at_.length + 1) ((p.at_ ++ [rn0]).flatMap rnV) := by
        rw [hW1, List.flatMap_append]; exact HSS.out.slots.setCell_other (hbo _) _
      have ht1 : RowR o1 W1 .taken 4 1 (.slice (some ⟨g2, 0, none⟩) (p.at_.length + 1) k2) (p.at_.length + 1) ((p.taken ++ [false]).map Value.bool) := by
        rw [hW1, List.map_append]; exact HSS.out.taken.setCell_other (hbo _) _
      have hf1 : RowR o1 W1 .free 3 1 (.slice af 0 cf) p.free.length (p.free.map nat64) := by rw [hW1]; exact HSS.out.free.setCell_other (hbo _) _
      have hl1 : OwnLt o1 W1 := by rw [hW1]; exact HSS.out.lt.mono (by simp [World.setCell])
      have hfin := HH.out.toFresh (n := n) HFF.out hroom1 HSS.out.op hpb1 hs1 ht1 hf1
      have ne : ∀ {a b r q}, o1 a = some r → o1 b = some q → r ≠ q → a ≠ b := fun ha hb hr e => by subst e; rw [ha] at hb; cases hb; exact hr rfl
      have nps : pb ≠ g1 := ne HSS.out.op hs1.owner (by simp)
      have npt : pb ≠ g2 := ne HSS.out.op ht1.owner (by simp)
      have nst : g1 ≠ g2 := ne hs1.owner ht1.owner (by simp)
      have nbs : b ≠ g1 := by intro e; have h1 := hs1.owner; rw [← e, HSS.out.ob] at h1; cases h1
      obtain ⟨s0, s1, s2, s3, s4⟩ := PoolAt.node (p := { p with at_ := p.at_ ++ [rn0] }) (k := p.at_.length) (by simpa using hs1) (by simp)
      have fg1 := hs1.frozen
      have t0 := PoolAt.flag (p := { p with taken := p.taken ++ [false] }) (k := p.at_.length) (by simpa [HLEN.out] using ht1) (by simp [HLEN.out])
      have fg2 := ht1.frozen p.at_.length
      clear c0 c1 c2 c3 c4 f0 b0 b1 b2 b3 b4 fb lpb lb ne
      obtain ⟨c0, c1, c2, c3, c4, f0⟩ := cells5 hpb1
      obtain ⟨b0, b1, b2, b3, b4, fb⟩ := cells5 hbox
      have HS2 : Hid (∀ W : World, (∀ g, g ≠ g1 → W.heap[g]? = W1.heap[g]?) → W.cell? ⟨pb, 1, none⟩ = some (.slice (some ⟨g1, 0, none⟩) (p.at_.length + 1) k1) ∧ W.cell? ⟨pb, 2, none⟩ = some (.slice (some ⟨g2, 0, none⟩) (p.at_.length + 1) k2) ∧
          W.cell? ⟨b, 0, none⟩ = some (.int .i64 p.at_.length) ∧ W.cell? ⟨b, 1, none⟩ = some (.int .i64 n.v) ∧ W.cell? ⟨b, 2, none⟩ = some (.int .i64 n.lo) ∧ W.cell? ⟨b, 3, none⟩ = some (.int .i64 n.hi) ∧ W.cell? ⟨b, 4, none⟩ = some (.int .i64 n.refs)) := by
        show ∀ _, _
        intro W hW
        have a := fun g k (hg : g ≠ g1) => World.cell?_of_block (w := W1) (w' := W) (a := ⟨g, k, none⟩) (hW g hg)
        exact ⟨(a pb 1 nps).trans c1, (a pb 2 nps).trans c2, (a b 0 nbs).trans b0, (a b 1 nbs).trans b1, (a b 2 nbs).trans b2, (a b 3 nbs).trans b3, (a b 4 nbs).trans b4⟩
      have HFIN := Lib.hid hfin
      have HC1 := Lib.hid hc1
      have HL1 := Lib.hid hl1
      have hmx : (p.many : Int) + 1 < 9223372036854775807 := by have := HH.out.many; omega
      have hil : (p.at_.length : Int) < (p.at_.length : Int) + 1 := by omega
      clear hfin hc1 hl1 hs1 ht1 hf1 hbox hpb1 hbo hW1 c0 c1 c2 c3 b0 b1 b2 b3 b4 fb HSS
      refine wp_region_mix (fun W : World => W.cell? ⟨pb, 1, none⟩ = some (.slice (some ⟨g1, 0, none⟩) (p.at_.length + 1) k1) ∧ W.cell? ⟨pb, 2, none⟩ = some (.slice (some ⟨g2, 0, none⟩) (p.at_.length + 1) k2) ∧
          W.cell? ⟨b, 0, none⟩ = some (.int .i64 p.at_.length) ∧ W.cell? ⟨b, 1, none⟩ = some (.int .i64 n.v) ∧ W.cell? ⟨b, 2, none⟩ = some (.int .i64 n.lo) ∧ W.cell? ⟨b, 3, none⟩ = some (.int .i64 n.hi) ∧ W.cell? ⟨b, 4, none⟩ = some (.int .i64 n.refs)) true 14
        [(0, false), (1, false), (2, false), (3, false), (4, false), (5, false), (6, false), (7, false), (8, false), (9, false), (10, false), (11, false), (12, true), (13, false), (14, true)] (by kernel_rfl) (by kernel_rfl) (HS2.out _ (fun _ _ => rfl)) ?_
      simp only [planned, List.map_cons, List.map_nil, List.getElem?_cons_succ, List.getElem?_cons_zero]
      iterate 12
        refine mix_readE rfl ?_
        apply Exists.intro
        refine ⟨fun w' hw => ?_, ?_⟩
        · obtain ⟨h1, h2, h3, h4, h5, h6, h7⟩ := hw
          go_simp
          rfl
        simp only [Act.put, List.setIfInBounds_toArray, List.set_cons_zero, List.set_cons_succ]
      refine mix_eff rfl (fun K hK => ?_)
      unfold Oper.wp
      go_simp
      refine hK _ _ (HS2.out _ (fun g hg => set5_heap (w := W1) (n := ⟨p.at_.length, n.v, n.lo, n.hi, n.refs⟩) hg)) ?_
      iterate 1
        refine mix_readE rfl ?_
        apply Exists.intro
        refine ⟨fun w' hw => ?_, ?_⟩
        · obtain ⟨h1, h2, h3, h4, h5, h6, h7⟩ := hw
          go_simp
          rfl
        simp only [Act.put, List.setIfInBounds_toArray, List.set_cons_zero, List.set_cons_succ]
      refine mix_last rfl (fun K hK => ?_)
      unfold Oper.wp
      go_simp
      refine hK _ _ (np_normal ?_)
      go_wp2_with fail
      go_ret2
      have hfin := HFIN.out
      rw [show ((p.many + 1 : Nat) : Int) = (p.many : Int) + 1 by omega] at hfin
      exact ⟨rfl, o1, hfin.1.drew, (HC1.out.trans hfin.2).drew, HL1.out.mono (by simp [World.setCell])⟩
end Go.Proofs.YtchliiaknmknhaaGreat

-- Pool3
namespace Go.Proofs.YtchliiaknmknhaaGreat
open Go.RowKit

theorem store_ok {P : Program} {w : World} {g k : Nat} {v u : Value} (hc : w.cell? ⟨g, k, none⟩ = some u) (hf : w.frozen? ⟨g, k, none⟩ = false) (h1 : v.oneCell' = true) : (store ⟨g, k, none⟩ v).run P w = .ok () (w.setCell ⟨g, k, none⟩ v) := by
  rw [run_store P w _ v _ h1, hc]
  simp [hf]
theorem cell_ex {w : World} {p q : Addr} {v u : Value} (h : w.cell? q = some u) : ∃ u', (w.setCell p v).cell? q = some u' := by
  by_cases e : p = q
  · subst e; exact ⟨v, World.cell?_setCell_same' _ _ _ (by rw [h]; rfl)⟩
  · exact ⟨u, by rw [World.cell?_setCell_other w p q v e]; exact h⟩
theorem sizeNode : (Tryz.prog.info? 157).map (fun i => i.size) = some 5 := by kernel_rfl
theorem run_storeNode {w : World} {g k : Nat} (f : ∀ j, w.frozen? ⟨g, j, none⟩ = false) {u0 u1 u2 u3 u4 : Value} (c0 : w.cell? ⟨g, k * 5, none⟩ = some u0) (c1 : w.cell? ⟨g, k * 5 + 1, none⟩ = some u1) (c2 : w.cell? ⟨g, k * 5 + 2, none⟩ = some u2) (c3 : w.cell? ⟨g, k * 5 + 3, none⟩ = some u3) (c4 : w.cell? ⟨g, k * 5 + 4, none⟩ = some u4) (a b c d e : Int) :
    (Instr.storeAt 157 (.pointer (some ⟨g, k * 5, none⟩)) (.agg #[.int .i64 a, .int .i64 b, .int .i64 c, .int .i64 d, .int .i64 e])).run Tryz.prog w =
      .ok () (((((w.setCell ⟨g, k * 5, none⟩ (.int .i64 a)).setCell ⟨g, k * 5 + 1, none⟩ (.int .i64 b)).setCell ⟨g, k * 5 + 2, none⟩ (.int .i64 c)).setCell ⟨g, k * 5 + 3, none⟩ (.int .i64 d)).setCell ⟨g, k * 5 + 4, none⟩ (.int .i64 e)) := by
  have s := sizeNode
  have hadd : ∀ j, (⟨g, k * 5, none⟩ : Addr).add j = ⟨g, k * 5 + j, none⟩ := fun j => by unfold Addr.add; split <;> simp_all
  have hsa : (Instr.sureAddr (Value.pointer (some ⟨g, k * 5, none⟩))).run Tryz.prog w = .ok ⟨g, k * 5, none⟩ w := rfl
  cases hi : Tryz.prog.info? 157 with
  | none => rw [hi] at s; cases s
  | some i =>
    rw [hi] at s
    simp only [Option.map_some, Option.some.injEq] at s
    have fz : ∀ (w' : World) p v j, (w'.setCell p v).frozen? ⟨g, j, none⟩ = w'.frozen? ⟨g, j, none⟩ := fun w' p v j => World.frozen?_setCell _ _ _ _
    obtain ⟨v1, e1⟩ := cell_ex (p := ⟨g, k * 5, none⟩) (v := .int .i64 a) c1
    obtain ⟨v2, e2⟩ := cell_ex (p := ⟨g, k * 5, none⟩) (v := .int .i64 a) c2
    obtain ⟨v2, e2⟩ := cell_ex (p := ⟨g, k * 5 + 1, none⟩) (v := .int .i64 b) e2
    obtain ⟨v3, e3⟩ := cell_ex (p := ⟨g, k * 5, none⟩) (v := .int .i64 a) c3
    obtain ⟨v3, e3⟩ := cell_ex (p := ⟨g, k * 5 + 1, none⟩) (v := .int .i64 b) e3
    obtain ⟨v3, e3⟩ := cell_ex (p := ⟨g, k * 5 + 2, none⟩) (v := .int .i64 c) e3
    obtain ⟨v4, e4⟩ := cell_ex (p := ⟨g, k * 5, none⟩) (v := .int .i64 a) c4
    obtain ⟨v4, e4⟩ := cell_ex (p := ⟨g, k * 5 + 1, none⟩) (v := .int .i64 b) e4
    obtain ⟨v4, e4⟩ := cell_ex (p := ⟨g, k * 5 + 2, none⟩) (v := .int .i64 c) e4
    obtain ⟨v4, e4⟩ := cell_ex (p := ⟨g, k * 5 + 3, none⟩) (v := .int .i64 d) e4
    have s0 := store_ok (P := Tryz.prog) (v := .int .i64 a) c0 (f _) rfl
    have s1 := store_ok (P := Tryz.prog) (v := .int .i64 b) e1 (by rw [fz]; exact f _) rfl
    have s2 := store_ok (P := Tryz.prog) (v := .int .i64 c) e2 (by rw [fz, fz]; exact f _) rfl
    have s3 := store_ok (P := Tryz.prog) (v := .int .i64 d) e3 (by rw [fz, fz, fz]; exact f _) rfl
    have s4 := store_ok (P := Tryz.prog) (v := .int .i64 e) e4 (by rw [fz, fz, fz, fz]; exact f _) rfl
    simp only [Instr.storeAt, Sem.run_bind, hsa, Result.andThen_ok]
    simp [storeVar, sizeOf, typeInfo, hi, s, Value.cells, storeCells, hadd, s0, s1, s2, s3, s4]

theorem run_storeOne {P : Program} {w : World} {T : TypeId} (hs : (P.info? T).map (fun i => i.size) = some 1) {g k : Nat} {u v : Value} (hc : w.cell? ⟨g, k, none⟩ = some u) (hf : w.frozen? ⟨g, k, none⟩ = false) (h1 : v.oneCell' = true) (hv : v.cells = #[v]) :
    (Instr.storeAt T (.pointer (some ⟨g, k, none⟩)) v).run P w = .ok () (w.setCell ⟨g, k, none⟩ v) := by
  have hsa : (Instr.sureAddr (Value.pointer (some ⟨g, k, none⟩))).run P w = .ok ⟨g, k, none⟩ w := rfl
  have hadd : (⟨g, k, none⟩ : Addr).add 0 = ⟨g, k, none⟩ := by simp [Addr.add]
  cases hi : P.info? T with
  | none => rw [hi] at hs; cases hs
  | some i =>
    rw [hi] at hs
    simp only [Option.map_some, Option.some.injEq] at hs
    have s0 := store_ok (P := P) hc hf h1
    simp only [Instr.storeAt, Sem.run_bind, hsa, Result.andThen_ok]
    simp [storeVar, sizeOf, typeInfo, hi, hs, hv, storeCells, hadd, s0]
theorem sizeBool : (Tryz.prog.info? 4).map (fun i => i.size) = some 1 := by kernel_rfl
theorem exec_store {P : Program} {o : Oper} {a : Act} {w w' : World} {t : TypeId} {s x : Operand} (ho : o.op = .store t s x) (hr : (Instr.storeAt t (a.eval s) (a.eval x)).run P w = .ok () w') : (execOp a.eval o).run P w = .ok .skip w' := by
  unfold execOp
  simp [ho, hr]
/-- A store in a planned region, by its own equation. -/
theorem mix_store {P : Program} {ops : Array Oper} {S : World → Prop} {Q : Exit → Act → World → Prop} {last : Bool} {o : Oper} {r : List (Option Oper × Bool)} {a : Act} {w w' : World} {t : TypeId} {s x : Operand} (hg : o.guard = none) (ho : o.op = .store t s x)
    (hr : (Instr.storeAt t (a.eval s) (a.eval x)).run P w = .ok () w') (hS : S w') (h : wpMix P ops Q S last r (a.put o.dst undef) w') : wpMix P ops Q S last ((some o, true) :: r) a w := by
  refine mix_eff hg fun K hK => ?_
  unfold Oper.wp
  rw [exec_store ho hr]
  exact hK _ _ hS h
theorem mix_storeLast {P : Program} {ops : Array Oper} {S : World → Prop} {Q : Exit → Act → World → Prop} {o : Oper} {a : Act} {w w' : World} {t : TypeId} {s x : Operand} (hg : o.guard = none) (ho : o.op = .store t s x)
    (hr : (Instr.storeAt t (a.eval s) (a.eval x)).run P w = .ok () w') (h : Q .normal (a.put o.dst undef) w') : wpMix P ops (NP Q) S true [(some o, true)] a w := by
  refine mix_last hg fun K hK => ?_
  unfold Oper.wp
  rw [exec_store ho hr]
  exact hK _ _ (np_normal h)

def PoolD.give (p : PoolD) (id : Nat) : PoolD := { p with at_ := p.at_.set id rn0, taken := p.taken.set id false, free := p.free ++ [id], many := p.many - 1 }
theorem PoolD.give_get {p : PoolD} {id : Nat} (h2 : id < p.taken.length) (h1 : id < p.at_.length) (i : Nat) : (p.give id).get i = if i = id then none else p.get i := by
  unfold PoolD.get
  have e1 : (p.give id).tk i = if i = id then false else p.tk i := tk_setT h2 i
  have e2 : (p.give id).nd i = if i = id then rn0 else p.nd i := nd_set h1 i
  rw [e1, e2]
  by_cases e : i = id <;> simp [e]
theorem sumTo_pos {f : Nat → Int} {k j : Nat} (h : ∀ i, i < k → 0 ≤ f i) (hj : j < k) (hp : 1 ≤ f j) : 1 ≤ sumTo k f := Int.le_trans hp (sumTo_ge k h hj)
theorem PoolAt.many_pos {o : Own} {w : World} {pb : Nat} {p : PoolD} (h : PoolAt o w pb p) {id : Nat} (hi : p.tk id = true) : 0 < p.many := by
  have := h.cnt
  have h2 : 1 ≤ sumTo p.at_.length (fun i => if p.tk i = true then (1 : Int) else 0) := sumTo_pos (fun i _ => by split <;> omega) (h.tk_lt hi).2 (by simp [hi])
  omega
/-- The pool from its parts behind a give. -/
theorem PoolAt.toGive {o o1 : Own} {w W : World} {pb : Nat} {p : PoolD} (h : PoolAt o w pb p) {id : Nat} (hi : p.tk id = true) {vs vt vf : Value} (hop : o1 pb = some .pool)
    (hpb : W.heap[pb]? = some (.cells #[.int .i64 p.room, vs, vt, vf, .int .i64 ((p.many - 1 : Nat) : Int)] 190 (0, 0)))
    (h2 : RowR o1 W .slots 157 5 vs p.at_.length ((p.at_.set id rn0).flatMap rnV)) (h3 : RowR o1 W .taken 4 1 vt p.at_.length ((p.taken.set id false).map Value.bool))
    (h4 : RowR o1 W .free 3 1 vf (p.free.length + 1) ((p.free ++ [id]).map nat64)) : PoolAt o1 W pb (p.give id) := by
  obtain ⟨i0, i1⟩ := h.tk_lt hi
  have i2 : id < p.taken.length := by rw [h.len]; exact i1
  have tk : ∀ i, (p.give id).tk i = if i = id then false else p.tk i := fun i => tk_setT i2 i
  have nd : ∀ i, (p.give id).nd i = if i = id then rn0 else p.nd i := fun i => nd_set i1 i
  have hmp := h.many_pos hi
  have hm := h.many
  refine ⟨hop, ⟨vs, vt, vf, hpb, ?_, ?_, ?_⟩, ?_, h.room, ?_, ?_, ?_, ?_, ?_, ?_, ?_, ?_⟩
  · simpa [PoolD.give] using h2
  · simpa [PoolD.give, h.len] using h3
  · simpa [PoolD.give] using h4
  · simp [PoolD.give, h.len]
  · have := h.top; simpa [PoolD.give] using this
  · rw [tk, if_neg (by omega)]; exact h.zero
  · have := h.pos; simpa [PoolD.give] using this
  · intro i hi'
    rw [tk] at hi'
    rw [nd]
    by_cases e : i = id
    · rw [if_pos e] at hi'; cases hi'
    · rw [if_neg e] at hi' ⊢; exact h.id i hi'
  · simp only [PoolD.give, List.length_append, List.length_singleton, List.length_set]; omega
  · refine List.nodup_append.2 ⟨h.nodup, by simp, ?_⟩
    intro x hx y hy e
    simp at hy
    subst hy; subst e
    have := (h.free _ hx).2.2
    rw [hi] at this; cases this
  · intro i hi'
    rw [tk]
    simp only [PoolD.give, List.mem_append, List.mem_singleton, List.length_set] at hi' ⊢
    rcases hi' with hi' | rfl
    · have := h.free i hi'
      refine ⟨this.1, this.2.1, ?_⟩
      split
      · rfl
      · exact this.2.2
    · exact ⟨i0, i1, by simp⟩
  · have hc := h.cnt
    have : sumTo (p.give id).at_.length (fun i => if (p.give id).tk i = true then 1 else 0) = sumTo p.at_.length (fun i => if p.tk i = true then 1 else 0) + ((if (p.give id).tk id = true then 1 else 0) - (if p.tk id = true then 1 else 0)) := by
      have hl : (p.give id).at_.length = p.at_.length := by simp [PoolD.give]
      rw [hl]
      refine sumTo_upd (fun i hi => ?_) _ i1
      rw [tk, if_neg hi]
    rw [this, tk, if_pos rfl, hi, ← hc]
    simp [PoolD.give]; omega
set_option maxRecDepth 100000 in
set_option maxHeartbeats 1600000 in
theorem poolGive_any (o : Own) (pb : Nat) (p : PoolD) (id : Nat) (w : World) (h : PoolAt o w pb p) (hlt : OwnLt o w) (hi : p.tk id = true) :
    Calls Tryz.prog 144 #[.pointer (some ⟨pb, 0, none⟩), .int .i64 id] w fun x w' => x = .returned (.int .i64 0) ∧ ∃ o', PoolAt o' w' pb (p.give id) ∧ Chg (fun r => r = .pool ∨ r = .slots ∨ r = .taken ∨ r = .free) o o' w w' ∧ OwnLt o' w' := by
  obtain ⟨vs, vt, vf, hpb, hs, ht, hff⟩ := h.blk
  obtain ⟨gs, cs, rfl, hogs, _⟩ := hs.shape h.pos
  obtain ⟨gt, ct, rfl, hogt, _⟩ := ht.shape (by rw [h.len]; exact h.pos)
  obtain ⟨af, cf, rfl, _⟩ := hff.slice
  rw [h.len] at hpb ht
  obtain ⟨c0, c1, c2, c3, c4, f0⟩ := cells5 hpb
  obtain ⟨i0, i1⟩ := h.tk_lt hi
  have i1' : (id : Int) < p.at_.length := by omega
  have htop := h.top
  have hroom := h.room
  obtain ⟨n0, n1, n2, n3, n4⟩ := PoolAt.node hs (k := id) i1
  have ht' := ht
  rw [← h.len] at ht'
  have t0 := PoolAt.flag ht' (k := id) (by rw [h.len]; exact i1)
  have fs0 := hs.frozen
  have ft0 := ht.frozen id
  have ne : ∀ {a b r q}, o a = some r → o b = some q → r ≠ q → a ≠ b := fun ha hb hr e => by subst e; rw [ha] at hb; cases hb; exact hr rfl
  have nps : pb ≠ gs := ne h.own hogs (by simp)
  have npt : pb ≠ gt := ne h.own hogt (by simp)
  have nst : gs ≠ gt := ne hogs hogt (by simp)
  have hmp := h.many_pos hi
  have hmm := h.many
  -- the state behind the two stores
  obtain ⟨W2, hW2⟩ : ∃ W2, W2 = (set5 w.drew gs id rn0).setCell ⟨gt, id, none⟩ (.bool false) := ⟨_, rfl⟩
  have hpb2 : W2.heap[pb]? = some (.cells #[.int .i64 p.room, .slice (some ⟨gs, 0, none⟩) p.at_.length cs, .slice (some ⟨gt, 0, none⟩) p.at_.length ct, .slice af p.free.length cf, .int .i64 p.many] 190 (0, 0)) := by
    rw [hW2, heap_setCell_ne (p := ⟨gt, id, none⟩) npt, set5_heap nps]; exact hpb
  have hs2 : RowR o W2 .slots 157 5 (.slice (some ⟨gs, 0, none⟩) p.at_.length cs) p.at_.length ((p.at_.set id rn0).flatMap rnV) := by
    have := (rowR_set5 hs.drew i1 rn0).setCell_other (p := ⟨gt, id, none⟩) (by rw [hogt]; simp) (.bool false)
    rw [List.length_set] at this
    rw [hW2]; exact this
  have ht2 : RowR o W2 .taken 4 1 (.slice (some ⟨gt, 0, none⟩) p.at_.length ct) p.at_.length ((p.taken.set id false).map Value.bool) := by
    have := (ht.drew.keep (w' := set5 w.drew gs id rn0) (o' := o) (fun g hg => set5_heap (ne hg hogs (by simp))) (fun _ h => h)).stored id (.bool false)
    rw [hW2, List.map_set]; exact this
  have hf2 : RowR o W2 .free 3 1 (.slice af p.free.length cf) p.free.length (p.free.map nat64) := by
    rw [hW2]
    exact ((hff.drew.keep (w' := set5 w.drew gs id rn0) (o' := o) (fun g hg => set5_heap (ne hg hogs (by simp))) (fun _ h => h)).setCell_other (p := ⟨gt, id, none⟩) (by rw [hogt]; simp) (.bool false))
  have hl2 : OwnLt o W2 := by rw [hW2]; exact hlt.mono (by simp [set5, World.setCell])
  have hc2 : Chg (fun r => r = .pool ∨ r = .slots ∨ r = .taken ∨ r = .free) o o w W2 := by
    rw [hW2]; exact ((set5_chg (Chg.refl _ _ _).drew hogs (.inr (.inl rfl))).setCell (p := ⟨gt, id, none⟩) hogt (.inr (.inr (.inl rfl))) _)
  have HH := Lib.hid h
  have HI := Lib.hid hi
  have HW2 := Lib.hid hW2
  have HPB2 := Lib.hid hpb2
  have HS2 := Lib.hid hs2
  have HT2 := Lib.hid ht2
  have HF2 := Lib.hid hf2
  have HL2 := Lib.hid hl2
  have HC2 := Lib.hid hc2
  have HOP := Lib.hid h.own
  clear hs ht ht' hff h hlt hi hogs hogt hpb ne hW2 hpb2 hs2 ht2 hf2 hl2 hc2 hmm
  have HSX : Hid (∀ W : World, (∀ g, g ≠ gs → W.heap[g]? = w.heap[g]?) → W.cell? ⟨pb, 1, none⟩ = some (.slice (some ⟨gs, 0, none⟩) p.at_.length cs) ∧ W.cell? ⟨pb, 2, none⟩ = some (.slice (some ⟨gt, 0, none⟩) p.at_.length ct)) := by
    show ∀ _, _
    intro W hW
    have a := fun g k (hg : g ≠ gs) => World.cell?_of_block (w := w) (w' := W) (a := ⟨g, k, none⟩) (hW g hg)
    exact ⟨(a pb 1 nps).trans c1, (a pb 2 nps).trans c2⟩
  go_enter Tryz.func144, Tryz.ntmps144
  go_wp2_with (fail)
  refine (poolIs_any o pb p id _ HH.out).mono ?_
  rintro x w' ⟨rfl, rfl⟩
  rw [HI.out]
  go_upto_region 3 with fail
  refine wp_region_mix (fun W : World => W.cell? ⟨pb, 1, none⟩ = some (.slice (some ⟨gs, 0, none⟩) p.at_.length cs) ∧ W.cell? ⟨pb, 2, none⟩ = some (.slice (some ⟨gt, 0, none⟩) p.at_.length ct)) true 14
    [(0, false), (1, false), (2, false), (3, false), (4, false), (5, false), (6, false), (7, false), (8, false), (9, false), (10, false), (11, false), (12, true), (13, false), (14, true)] (by kernel_rfl) (by kernel_rfl) (HSX.out _ (fun _ _ => rfl)) ?_
  simp only [planned, List.map_cons, List.map_nil, List.getElem?_cons_succ, List.getElem?_cons_zero]
  iterate 12
    refine mix_readE rfl ?_
    apply Exists.intro
    refine ⟨fun w' hw => ?_, ?_⟩
    · obtain ⟨h1, h2⟩ := hw
      go_simp
      rfl
    simp only [Act.put, List.setIfInBounds_toArray, List.set_cons_zero, List.set_cons_succ]
  refine mix_store rfl rfl (run_storeNode (w := w.drew) fs0 n0 n1 n2 n3 n4 0 0 0 0 0) (HSX.out _ (fun g hg => set5_heap (w := w.drew) (n := rn0) (k := id) hg)) ?_
  simp only [Act.put, List.setIfInBounds_toArray, List.set_cons_zero, List.set_cons_succ]
  iterate 1
    refine mix_readE rfl ?_
    apply Exists.intro
    refine ⟨fun w' hw => ?_, ?_⟩
    · obtain ⟨h1, h2⟩ := hw
      go_simp
      rfl
    simp only [Act.put, List.setIfInBounds_toArray, List.set_cons_zero, List.set_cons_succ]
  refine mix_storeLast (w' := (set5 w.drew gs id rn0).setCell ⟨gt, id, none⟩ (.bool false)) rfl rfl (run_storeOne sizeBool ((World.cell?_of_block (w := w.drew) (w' := set5 w.drew gs id rn0) (a := ⟨gt, id, none⟩) (set5_heap (Ne.symm nst))).trans t0) ((World.frozen?_of_block (w := w.drew) (w' := set5 w.drew gs id rn0) (a := ⟨gt, id, none⟩) (set5_heap (Ne.symm nst))).trans ft0) rfl rfl) ?_
  rw [← HW2.out]
  simp only [Act.put, List.setIfInBounds_toArray, List.set_cons_zero, List.set_cons_succ]
  clear c0 c1 c2 c3 c4 f0 n0 n1 n2 n3 n4 t0 fs0 ft0 HSX
  obtain ⟨c0, c1, c2, c3, c4, f0⟩ := cells5 HPB2.out
  have lpb : pb < W2.heap.size := lt_of_cell c0
  have hfl : p.free.length < 1000000000 := by have := HH.out.many; omega
  go_upto_region 4 with fail
  go_cut [4] (fun s4 wx => s4 = .int .i64 0 ∧ ∃ gf kf o1, wx.heap[pb]? = some (.cells #[.int .i64 p.room, .slice (some ⟨gs, 0, none⟩) p.at_.length cs, .slice (some ⟨gt, 0, none⟩) p.at_.length ct, .slice (some ⟨gf, 0, none⟩) (p.free.length + 1) kf, .int .i64 p.many] 190 (0, 0)) ∧
    RowR o1 wx .slots 157 5 (.slice (some ⟨gs, 0, none⟩) p.at_.length cs) p.at_.length ((p.at_.set id rn0).flatMap rnV) ∧ RowR o1 wx .taken 4 1 (.slice (some ⟨gt, 0, none⟩) p.at_.length ct) p.at_.length ((p.taken.set id false).map Value.bool) ∧
    RowR o1 wx .free 3 1 (.slice (some ⟨gf, 0, none⟩) (p.free.length + 1) kf) (p.free.length + 1) ((p.free ++ [id]).map nat64) ∧ o1 pb = some .pool ∧ Chg (fun r => r = .pool ∨ r = .slots ∨ r = .taken ∨ r = .free) o o1 w wx ∧ OwnLt o1 wx)
  case first =>
    go_wp2_with (at_builtin
                 refine wpList_appOne 22 3 1 8 _ Tryz.underlying22 infoInt rfl (by decide) rfl _ _ rfl rfl rfl rfl (by simp) rfl (fun u hu => by simp at hu; subst hu; rfl) HF2.out HL2.out hfl (by decide) ?_
                 intro g1 k1 w1 o1 hr1 hc1 hl1
                 have hpb1 := (hc1.same HL2.out HOP.out (by simp)).trans HPB2.out
                 obtain ⟨q0, q1, q2, q3, q4, fq⟩ := cells5 hpb1
                 have HPB1 := Lib.hid hpb1
                 have HR1 := Lib.hid hr1
                 have HC1 := Lib.hid hc1
                 have HL1 := Lib.hid hl1
                 clear hr1 hc1 hl1 hpb1 c0 c1 c2 c3 c4 f0)
    go_meet
    have hop := HC1.out.ext _ _ HOP.out
    refine ⟨rfl, g1, k1, o1, heap_setCell_same HPB1.out _, (HS2.out.chg HC1.out HL2.out (by simp)).setCell_other (by rw [hop]; simp) _, (HT2.out.chg HC1.out HL2.out (by simp)).setCell_other (by rw [hop]; simp) _, ?_, hop, (HC2.out.trans (HC1.out.mono fun r e => .inr (.inr (.inr e)))).setCell (p := ⟨pb, 3, none⟩) hop (.inl rfl) _, HL1.out.mono (by simp [World.setCell])⟩
    rw [List.map_append]
    exact HR1.out.setCell_other (by rw [hop]; simp) _
  case rest =>
    obtain ⟨rfl, gf, kf, o1, hpb3, hs3, ht3, hf3, hop3, hc3, hl3⟩ := hcut
    clear c0 c1 c2 c3 c4 f0 lpb
    rename World => w3
    obtain ⟨c0, c1, c2, c3, c4, f0⟩ := cells5 hpb3
    have hmx : (p.many : Int) < 9223372036854775807 := by have := HH.out.many; omega
    have hmp' : (1 : Int) ≤ p.many := by omega
    have HP3 := Lib.hid hpb3
    have HS3 := Lib.hid hs3
    have HT3 := Lib.hid ht3
    have HF3 := Lib.hid hf3
    have HO3 := Lib.hid hop3
    have HC3 := Lib.hid hc3
    have HL3 := Lib.hid hl3
    clear hpb3 hs3 ht3 hf3 hop3 hc3 hl3
    go_wp2_with fail
    go_ret
    refine ⟨rfl, o1, HH.out.toGive HI.out HO3.out ?_ (HS3.out.setCell_other (by rw [HO3.out]; simp) _) (HT3.out.setCell_other (by rw [HO3.out]; simp) _) (HF3.out.setCell_other (by rw [HO3.out]; simp) _), HC3.out.setCell (p := ⟨pb, 4, none⟩) HO3.out (.inl rfl) _, HL3.out.mono (by simp [World.setCell])⟩
    rw [show ((p.many - 1 : Nat) : Int) = (p.many : Int) - 1 by omega]
    exact heap_setCell_same HP3.out _
end Go.Proofs.YtchliiaknmknhaaGreat
