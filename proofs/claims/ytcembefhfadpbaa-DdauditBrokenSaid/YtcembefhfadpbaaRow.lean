/- Memory that a data structure owns: every block has a role; rows of cells; what a step may change. -/
import Derived.Test.YtcembefhfadpbaaBase
namespace Go.Proofs.Ytcembefhfadpbaa
open Go.RowKit

inductive Role where
  | man | store | levels | vars | level | pool | slots | taken | free | tabs | tab (v : Nat) | tmap (v : Nat) | counts | memo | entries | handles | waits
  deriving DecidableEq
abbrev Own := Nat → Option Role
def OwnLt (o : Own) (w : World) : Prop := ∀ k r, o k = some r → k < w.heap.size

/-- w' is w but for blocks whose role is in R; roles are given to new blocks alone. -/
structure Chg (R : Role → Prop) (o o' : Own) (w w' : World) : Prop where
  os : w'.os = w.os
  tape : w'.tape = w.tape
  output : w'.output = w.output
  size : w.heap.size ≤ w'.heap.size
  block : ∀ k, k < w.heap.size → (∀ r, o k = some r → ¬ R r) → w'.heap[k]? = w.heap[k]?
  ext : ∀ k r, o k = some r → o' k = some r
  new : ∀ k, o' k ≠ o k → w.heap.size ≤ k ∧ ∃ r, o' k = some r ∧ R r

section
variable {R R' : Role → Prop} {o o' o'' : Own} {w w' w'' : World} {r : Role}

theorem Chg.refl (R : Role → Prop) (o : Own) (w : World) : Chg R o o w w := ⟨rfl, rfl, rfl, Nat.le_refl _, fun _ _ _ => rfl, fun _ _ h => h, fun _ h => (h rfl).elim⟩
theorem Chg.trans (h : Chg R o o' w w') (h' : Chg R o' o'' w' w'') : Chg R o o'' w w'' := by
  refine ⟨h'.os.trans h.os, h'.tape.trans h.tape, h'.output.trans h.output, Nat.le_trans h.size h'.size, fun k hk hr => ?_, fun k r hr => h'.ext k r (h.ext k r hr), fun k hk => ?_⟩
  · have hlt : k < w'.heap.size := Nat.lt_of_lt_of_le hk h.size
    refine (h'.block k hlt fun q hq => ?_).trans (h.block k hk hr)
    by_cases e : o' k = o k
    · rw [e] at hq; exact hr q hq
    · have := (h.new k e).1; omega
  · by_cases e : o'' k = o' k
    · rw [e] at hk ⊢; exact h.new k hk
    · have := h'.new k e
      exact ⟨Nat.le_trans h.size this.1, this.2⟩
theorem Chg.mono (h : Chg R o o' w w') (hR : ∀ r, R r → R' r) : Chg R' o o' w w' :=
  ⟨h.os, h.tape, h.output, h.size, fun k hk hr => h.block k hk fun r hr' hh => hr r hr' (hR r hh), h.ext, fun k hk => ⟨(h.new k hk).1, (h.new k hk).2.imp fun r hh => ⟨hh.1, hR r hh.2⟩⟩⟩
theorem Chg.drewN (h : Chg R o o' w w') (n : Nat) : Chg R o o' w (w'.drewN n) := ⟨h.os, h.tape, h.output, h.size, h.block, h.ext, h.new⟩
theorem Chg.alloc (h : Chg R o o' w w') (ob : Obj) : Chg R o o' w (w'.alloc ob) :=
  ⟨h.os, h.tape, h.output, by simp; have := h.size; omega, fun k hk hr => (Go.heap_alloc_old w' ob (Nat.lt_of_lt_of_le hk h.size)).trans (h.block k hk hr), h.ext, h.new⟩
theorem Chg.setCell (h : Chg R o o' w w') {p : Addr} {r : Role} (hp : o' p.block = some r) (hr : R r) (u : Value) : Chg R o o' w (w'.setCell p u) := by
  refine ⟨h.os, h.tape, h.output, by simp [World.setCell]; exact h.size, fun k hk hk' => ?_, h.ext, h.new⟩
  have hne : k ≠ p.block := by
    rintro rfl
    by_cases e : o' p.block = o p.block
    · rw [e] at hp; exact hk' r hp hr
    · have := (h.new _ e).1; omega
  rw [Below.heap_setCell _ _ _ _ hne]; exact h.block k hk hk'
/-- A store into a block that is no one's. -/
theorem Chg.setCell_new (h : Chg R o o' w w') {p : Addr} (hp : w.heap.size ≤ p.block) (u : Value) : Chg R o o' w (w'.setCell p u) := by
  refine ⟨h.os, h.tape, h.output, by simp [World.setCell]; exact h.size, fun k hk hk' => ?_, h.ext, h.new⟩
  rw [Below.heap_setCell _ _ _ _ (by omega)]; exact h.block k hk hk'
theorem Chg.of_below (hb : Below w.heap.size w w') (R : Role → Prop) (o : Own) : Chg R o o w w' :=
  ⟨hb.os, hb.tape, hb.output, hb.size, fun k hk _ => hb.block k hk, fun _ _ h => h, fun _ h => (h rfl).elim⟩
def ownAt (o : Own) (b : Nat) (r : Role) : Own := fun k => if k = b then some r else o k
theorem ownAt_same (o : Own) (b : Nat) (r : Role) : ownAt o b r b = some r := by simp [ownAt]
theorem ownAt_old {b k : Nat} {q : Role} (hlt : OwnLt o w) (hb : w.heap.size ≤ b) (h : o k = some q) : ownAt o b r k = some q := by
  have := hlt k q h
  simp only [ownAt, if_neg (show k ≠ b by omega)]; exact h
/-- A new block of a role. -/
theorem Chg.allocR (h : Chg R o o' w w') (hlt : OwnLt o' w') (ob : Obj) (hr : R r) : Chg R o (ownAt o' w'.heap.size r) w (w'.alloc ob) := by
  have h2 := h.alloc ob
  refine ⟨h2.os, h2.tape, h2.output, h2.size, h2.block, fun k q hq => ownAt_old hlt (Nat.le_refl _) (h.ext k q hq), fun k hk => ?_⟩
  by_cases e : k = w'.heap.size
  · subst e; exact ⟨h.size, r, ownAt_same _ _ _, hr⟩
  · simp only [ownAt, if_neg e] at hk ⊢; exact h.new k hk
theorem OwnLt.allocR (h : OwnLt o w) (ob : Obj) (r : Role) : OwnLt (ownAt o w.heap.size r) (w.alloc ob) := by
  intro k q hq
  simp only [World.size_alloc]
  by_cases e : k = w.heap.size
  · omega
  · simp only [ownAt, if_neg e] at hq; have := h k q hq; omega
theorem OwnLt.mono (h : OwnLt o w) (hs : w.heap.size ≤ w'.heap.size) : OwnLt o w' := fun k r hr => Nat.lt_of_lt_of_le (h k r hr) hs
theorem Chg.grown (h : Chg R o o' w w') {row : Option Nat} (hg : w'.grownBy w'' row) (hrow : ∀ g, row = some g → ∃ r, o' g = some r ∧ R r) : Chg R o o' w w'' := by
  refine h.trans ⟨hg.os, hg.tape, hg.output, hg.size, fun k hk hr => hg.block k hk fun e => ?_, fun _ _ h => h, fun _ h => (h rfl).elim⟩
  obtain ⟨r, h1, h2⟩ := hrow k e.symm
  exact hr r h1 h2
/-- A block of another role stands as it stood. -/
theorem Chg.same (h : Chg R o o' w w') (hlt : OwnLt o w) {b : Nat} {r : Role} (hb : o b = some r) (hr : ¬ R r) : w'.heap[b]? = w.heap[b]? :=
  h.block b (hlt b r hb) fun q hq => by rw [hb] at hq; cases hq; exact hr
theorem Chg.alien (h : Chg R o o' w w') {b : Nat} (hlt : b < w.heap.size) (hb : o b = none) : w'.heap[b]? = w.heap[b]? :=
  h.block b hlt fun q hq => by rw [hb] at hq; cases hq
theorem Chg.alien' (h : Chg R o o' w w') {b : Nat} (hlt : b < w.heap.size) (hb : o b = none) : o' b = none := by
  by_cases e : o' b = o b
  · rw [e]; exact hb
  · have := (h.new b e).1; omega
theorem Chg.cell (h : Chg R o o' w w') {p : Addr} {v : Value} (hc : w.cell? p = some v) (hb : o p.block = none) : w'.cell? p = some v :=
  (World.cell?_of_block (w := w) (h.alien (World.block_lt_of_cell? w p hc) hb)).trans hc
theorem Chg.cellR (h : Chg R o o' w w') {p : Addr} {v : Value} (hc : w.cell? p = some v) {r : Role} (hb : o p.block = some r) (hr : ¬ R r) : w'.cell? p = some v :=
  (World.cell?_of_block (w := w) (h.block p.block (World.block_lt_of_cell? w p hc) fun q hq => by rw [hb] at hq; cases hq; exact hr)).trans hc

/-- A slice value whose row has role r: n elements of size cells each. -/
structure RowR (o : Own) (w : World) (r : Role) (e : TypeId) (size : Nat) (v : Value) (n : Nat) (xs : List Value) : Prop where
  len : xs.length = n * size
  ex : (v = .slice none 0 0 ∧ n = 0) ∨ ∃ g cap cur, v = .slice (some ⟨g, 0, none⟩) n cap ∧ o g = some r ∧ w.heap[g]? = some (.cells cur e (0, 0)) ∧ n ≤ cap ∧ cap ≤ maxLen ∧ cap * size ≤ cur.size ∧ cur.toList.take (n * size) = xs

variable {e : TypeId} {size : Nat} {v : Value} {n : Nat} {xs : List Value}
theorem RowR.nil (o : Own) (w : World) (r : Role) (e : TypeId) (size : Nat) : RowR o w r e size (.slice none 0 0) 0 [] := ⟨by simp, .inl ⟨rfl, rfl⟩⟩
theorem RowR.keep (h : RowR o w r e size v n xs) (hk : ∀ g, o g = some r → w'.heap[g]? = w.heap[g]?) (ho : ∀ g, o g = some r → o' g = some r) : RowR o' w' r e size v n xs := by
  refine ⟨h.len, h.ex.imp id ?_⟩
  rintro ⟨g, cap, cur, h1, h2, h3, rest⟩
  exact ⟨g, cap, cur, h1, ho g h2, (hk g h2).trans h3, rest⟩
theorem RowR.chg (h : RowR o w r e size v n xs) (hc : Chg R o o' w w') (hlt : OwnLt o w) (hr : ¬ R r) : RowR o' w' r e size v n xs :=
  h.keep (fun g hg => hc.same hlt hg hr) (fun g hg => hc.ext g r hg)
theorem RowR.shape (h : RowR o w r e size v n xs) (hn : 0 < n) : ∃ g cap, v = .slice (some ⟨g, 0, none⟩) n cap ∧ o g = some r ∧ n ≤ cap ∧ cap ≤ maxLen := by
  rcases h.ex with ⟨_, h0⟩ | ⟨g, cap, cur, h1, h2, _, h3, h4, _⟩
  · omega
  · exact ⟨g, cap, h1, h2, h3, h4⟩
theorem RowR.slice (h : RowR o w r e size v n xs) : ∃ a cap, v = .slice a n cap ∧ n ≤ cap ∧ cap ≤ maxLen ∧ (a = none → cap = 0) ∧ (∀ x, a = some x → ∃ g, x = ⟨g, 0, none⟩ ∧ o g = some r) := by
  rcases h.ex with ⟨h1, h0⟩ | ⟨g, cap, cur, h1, h2, _, h3, h4, _⟩
  · exact ⟨none, 0, by rw [h1, h0], by omega, by omega, fun _ => rfl, by simp⟩
  · exact ⟨_, cap, h1, h3, h4, by simp, fun x hx => ⟨g, by cases hx; rfl, h2⟩⟩
theorem RowR.cell {g cap m : Nat} (h : RowR o w r e size (.slice (some ⟨g, 0, none⟩) m cap) n xs) (k : Nat) (hk : k < xs.length) : w.cell? ⟨g, k, none⟩ = xs[k]? := by
  rcases h.ex with ⟨h1, _⟩ | ⟨g', cap', cur, h1, _, h3, _, _, h4, h5⟩
  · cases h1
  · cases h1
    rw [cell_of_row w g k cur e (0, 0) h3]
    have : xs[k]? = (cur.toList.take (n * size))[k]? := by rw [h5]
    rw [this, List.getElem?_take, if_pos (by rw [← h.len]; exact hk)]
    simp
theorem RowR.frozen {g cap m : Nat} (h : RowR o w r e size (.slice (some ⟨g, 0, none⟩) m cap) n xs) (k : Nat) : w.frozen? ⟨g, k, none⟩ = false := by
  rcases h.ex with ⟨h1, _⟩ | ⟨g', cap', cur, h1, _, h3, _⟩
  · cases h1
  · cases h1; simp [World.frozen?, h3]
theorem RowR.owner {g cap m : Nat} (h : RowR o w r e size (.slice (some ⟨g, 0, none⟩) m cap) n xs) : o g = some r := by
  rcases h.ex with ⟨h1, _⟩ | ⟨g', cap', cur, h1, h2, _⟩
  · cases h1
  · cases h1; exact h2
theorem RowR.lens {a : Option Addr} {cap m : Nat} (h : RowR o w r e size (.slice a m cap) n xs) : m = n := by
  rcases h.ex with ⟨h1, h0⟩ | ⟨g', cap', cur, h1, _⟩
  · cases h1; exact h0.symm
  · cases h1; rfl
theorem RowR.stored {g cap m : Nat} (h : RowR o w r e size (.slice (some ⟨g, 0, none⟩) m cap) n xs) (k : Nat) (u : Value) :
    RowR o (w.setCell ⟨g, k, none⟩ u) r e size (.slice (some ⟨g, 0, none⟩) m cap) n (xs.set k u) := by
  refine ⟨by rw [List.length_set]; exact h.len, ?_⟩
  rcases h.ex with ⟨h1, _⟩ | ⟨g', cap', cur, h1, h2, h3, h4, h5, h6, h7⟩
  · cases h1
  · cases h1
    refine .inr ⟨g, cap, cur.setIfInBounds k u, rfl, h2, ?_, h4, h5, by simpa using h6, ?_⟩
    · simp only [World.setCell, Array.getElem?_modify, if_true, h3]; rfl
    · rw [Array.toList_setIfInBounds, List.take_set, h7]
theorem RowR.setCell_other (h : RowR o w r e size v n xs) {p : Addr} (hp : o p.block ≠ some r) (u : Value) : RowR o (w.setCell p u) r e size v n xs :=
  h.keep (fun g hg => Below.heap_setCell _ _ _ _ (by rintro rfl; exact hp hg)) (fun _ h => h)
/-- A shorter row, with less room. -/
theorem RowR.shrink {g cap m m' cap' : Nat} (h : RowR o w r e size (.slice (some ⟨g, 0, none⟩) m cap) n xs) (hm : m' ≤ n) (hc : cap' ≤ cap) (hmc : m' ≤ cap') :
    RowR o w r e size (.slice (some ⟨g, 0, none⟩) m' cap') m' (xs.take (m' * size)) := by
  have hmn : m' * size ≤ n * size := Nat.mul_le_mul_right _ hm
  refine ⟨by rw [List.length_take, h.len]; omega, ?_⟩
  rcases h.ex with ⟨h1, _⟩ | ⟨g', cap0, cur, h1, h2, h3, h4, h5, h6, h7⟩
  · cases h1
  · cases h1
    refine .inr ⟨g, cap', cur, rfl, h2, h3, hmc, by omega, Nat.le_trans (Nat.mul_le_mul_right _ hc) h6, ?_⟩
    rw [← h7, List.take_take]; congr 1; omega

variable {P : Program}
/-- append, as an equation: the row keeps its role. -/
theorem RowR.append (h : RowR o w r e size v n xs) (hlt : OwnLt o w) (t ty : TypeId) (i : TypeInfo) (z : Value) (bytes : Nat) (ht : P.underlying t = some (.slice e)) (hi : P.info? e = some i) (hz : i.zero = some z)
    (hsize : i.size = size) (hby : i.bytes = bytes) (hzs : z.cells.size = size) (hsz : 0 < size)
    (a : Addr) (m c : Nat) (news : List Value) (hl : news.length = m * size) (hnews : ∀ j u, news[j]? = some u → w.cell? (a.add j) = some u) (h1 : ∀ u ∈ news, u.oneCell' = true)
    (h63 : n + m ≤ maxLen) (hbytes : (n + m) * bytes ≤ 140737488355328) :
    ∃ v' w' o', (Builtin.append_ #[t, t] ty #[v, .slice (some a) m c]).run P w = .ok v' w' ∧ RowR o' w' r e size v' (n + m) (xs ++ news) ∧ Chg (· = r) o o' w w' ∧ OwnLt o' w' := by
  subst hsize
  subst hby
  have hsmall : n + m ≤ 9223372036854775807 := by simp only [maxLen] at h63; omega
  have hlen : (xs ++ news).length = (n + m) * i.size := by rw [List.length_append, h.len, hl, Nat.add_mul]
  have grown : ∀ (old : Nat),
      RowR (ownAt o w.heap.size r) (w.drew.alloc (.cells (xs.toArray ++ news.toArray ++ Builtin.zeroCells z.cells (grownCap w (n + m) old e - (n + m))) e)) r e i.size
        (.slice (some ⟨w.heap.size, 0, none⟩) (n + m) (grownCap w (n + m) old e)) (n + m) (xs ++ news) ∧
      Chg (· = r) o (ownAt o w.heap.size r) w (w.drew.alloc (.cells (xs.toArray ++ news.toArray ++ Builtin.zeroCells z.cells (grownCap w (n + m) old e - (n + m))) e)) ∧
      OwnLt (ownAt o w.heap.size r) (w.drew.alloc (.cells (xs.toArray ++ news.toArray ++ Builtin.zeroCells z.cells (grownCap w (n + m) old e - (n + m))) e)) := by
    intro old
    have hge := grownCap_ge w (n + m) old e
    have hcm : grownCap w (n + m) old e ≤ maxLen := grownCap_le_maxLen w (n + m) old e h63
    refine ⟨⟨hlen, .inr ⟨w.heap.size, _, _, rfl, ownAt_same _ _ _, heap_alloc_new w.drew _, hge, hcm, ?_, ?_⟩⟩, (((Chg.refl (· = r) o w).drewN 1).allocR (w' := w.drewN 1) hlt _ rfl), OwnLt.allocR (w := w.drewN 1) hlt _ r⟩
    · simp only [Array.size_append, List.size_toArray, size_zeroCells, hzs, h.len, hl, ← Nat.add_mul]
      exact Nat.mul_le_mul_right _ (by omega)
    · simp only [Array.toList_append, List.append_assoc]
      rw [← List.append_assoc, ← hlen]
      exact List.take_left
  rcases h.ex with ⟨rfl, rfl⟩ | ⟨g, cap, cur, rfl, hog, hg, hnc, hcm, hcs, htake⟩
  · have hx : xs = [] := List.eq_nil_of_length_eq_zero (by simpa using h.len)
    subst hx
    by_cases hm : m = 0
    · subst hm
      have hn : news = [] := List.eq_nil_of_length_eq_zero (by simpa using hl)
      subst hn
      refine ⟨.slice none 0 0, w, o, ?_, RowR.nil o w r e i.size, Chg.refl _ _ _, hlt⟩
      simp [Builtin.append_, run_underlying ht, sizeOf, typeInfo, hi, Builtin.lenOf, Builtin.firstCells, loadCells, loadCellsFrom]
    · have hr := run_append_nil (P := P) w t ty e i z ht hi hz a m c news hl hnews (by omega) (by omega) (by have hb := hbytes; simp only [Nat.zero_add] at hb; omega)
      have hgr := grown 0
      simp only [Nat.zero_add, List.nil_append, Array.empty_append] at hgr ⊢
      exact ⟨_, _, _, hr, hgr⟩
  · by_cases hroom : n + m ≤ cap
    · have hfit : n * i.size + news.length ≤ cur.size := by rw [hl, ← Nat.add_mul]; exact Nat.le_trans (Nat.mul_le_mul_right _ hroom) hcs
      have hr := run_append_room (P := P) w t ty e i ht hi g n cap cur hg a m c news hl hnews h1 hroom hfit
      refine ⟨_, _, o, hr, ⟨hlen, .inr ⟨g, cap, _, rfl, hog, setRow_heap w g cur _ e _ hg, hroom, hcm, ?_, ?_⟩⟩, ⟨rfl, rfl, rfl, by simp, fun k _ hk => setRow_other w g k _ (by rintro rfl; exact hk r hog rfl), fun _ _ h => h, fun _ h => (h rfl).elim⟩, fun k q hq => by have := hlt k q hq; simpa using this⟩
      · simp only [List.size_toArray, List.length_append, List.length_take, List.length_drop, Array.length_toList]
        omega
      · rw [htake, ← hlen]
        exact List.take_left
    · have holds : ∀ j u, xs[j]? = some u → w.cell? ((⟨g, 0, none⟩ : Addr).add j) = some u := by
        intro j u hu
        have hadd : (⟨g, 0, none⟩ : Addr).add j = ⟨g, j, none⟩ := by unfold Addr.add; split <;> simp_all
        have hj : j < xs.length := by
          rcases Nat.lt_or_ge j xs.length with h' | h'
          · exact h'
          · rw [List.getElem?_eq_none h'] at hu; cases hu
        rw [hadd, h.cell j hj]; exact hu
      have hr := run_append_grow (P := P) w t ty e i z ht hi hz ⟨g, 0, none⟩ n cap xs h.len holds a m c news hl hnews (by omega) (by omega) (growslice_fits (by omega) hbytes)
      have hgr := grown cap
      exact ⟨_, _, _, hr, hgr⟩
/-- append of an empty source. -/
theorem RowR.append_none (h : RowR o w r e size v n xs) (t ty : TypeId) (i : TypeInfo) (ht : P.underlying t = some (.slice e)) (hi : P.info? e = some i) (c : Nat) :
    (Builtin.append_ #[t, t] ty #[v, .slice none 0 c]).run P w = .ok v w := by
  obtain ⟨a, cap, rfl, hn, _, hnone, _⟩ := h.slice
  cases a with
  | none =>
    have := hnone rfl
    have h0 : n = 0 := by omega
    subst h0; subst this
    simp [Builtin.append_, run_underlying ht, sizeOf, typeInfo, hi, Builtin.lenOf, Builtin.firstCells, loadCells, loadCellsFrom]
  | some ad => simp [Builtin.append_, run_underlying ht, sizeOf, typeInfo, hi, Builtin.lenOf, hn, Builtin.firstCells, storeCells]

/-- append at the operation, the source read from memory. -/
theorem wpList_appR {ops : Array Oper} {rest : List Oper} {op : Oper} {a : Act} {Q : Exit → Act → World → Prop} (hgd : op.guard = none) (s x : Operand) (t : TypeId)
    (hop : op.op = .call { callee := .builtin .append, args := #[s, x], argTypes := #[t, t] })
    (h : RowR o w r e size v n xs) (hlt : OwnLt o w) (i : TypeInfo) (z : Value) (bytes : Nat) (ht : P.underlying t = some (.slice e)) (hi : P.info? e = some i) (hz : i.zero = some z)
    (hsize : i.size = size) (hby : i.bytes = bytes) (hzs : z.cells.size = size) (hsz : 0 < size) (hs : a.eval s = v)
    (ad : Addr) (m c : Nat) (news : List Value) (hx : a.eval x = .slice (some ad) m c) (hl : news.length = m * size) (hnews : ∀ j u, news[j]? = some u → w.cell? (ad.add j) = some u) (h1 : ∀ u ∈ news, u.oneCell' = true)
    (h63 : n + m ≤ maxLen) (hbytes : (n + m) * bytes ≤ 140737488355328)
    (hK : ∀ v' w' o', RowR o' w' r e size v' (n + m) (xs ++ news) → Chg (· = r) o o' w w' → OwnLt o' w' → wpList P ops Q rest (a.put op.dst v') w') : wpList P ops Q (op :: rest) a w := by
  refine wpList_plain hgd fun K hKK => ?_
  obtain ⟨v', w', o', hr, h2, h3, h4⟩ := h.append (P := P) hlt t op.type i z bytes ht hi hz hsize hby hzs hsz ad m c news hl hnews h1 h63 hbytes
  unfold Oper.wp execOp
  simp only [hop, resolve, invoke, builtin, Sem.run_bind, Sem.run_pure, Result.andThen_ok, List.map_toArray, List.map_cons, List.map_nil, hs, hx, hr]
  exact hKK _ _ (hK v' w' o' h2 h3 h4)
end

/-- Lists laid flat. -/
theorem flat_length {α : Type} (f : α → List Value) (s : Nat) (hf : ∀ x, (f x).length = s) : ∀ (l : List α), (l.flatMap f).length = l.length * s
  | [] => by simp
  | x :: l => by rw [List.flatMap_cons, List.length_append, hf, flat_length f s hf l, List.length_cons, Nat.add_mul]; omega
theorem flat_get {α : Type} (f : α → List Value) (s : Nat) (hf : ∀ x, (f x).length = s) : ∀ (l : List α) (k j : Nat) (x : α), l[k]? = some x → j < s → (l.flatMap f)[k * s + j]? = (f x)[j]?
  | [], k, j, x, h, _ => by simp at h
  | y :: l, 0, j, x, h, hj => by
    simp at h; subst h
    rw [List.flatMap_cons, List.getElem?_append_left (by rw [hf]; omega)]; congr 1; omega
  | y :: l, k + 1, j, x, h, hj => by
    simp at h
    rw [List.flatMap_cons, List.getElem?_append_right (by rw [hf, Nat.add_mul]; omega), hf, ← flat_get f s hf l k j x h hj]; congr 1; rw [Nat.add_mul]; omega
theorem flat_take {α : Type} (f : α → List Value) (s : Nat) (hf : ∀ x, (f x).length = s) : ∀ (l : List α) (k : Nat), (l.flatMap f).take (k * s) = (l.take k).flatMap f
  | [], k => by simp
  | y :: l, 0 => by simp
  | y :: l, k + 1 => by
    rw [List.flatMap_cons, List.take_succ_cons, List.flatMap_cons, Nat.add_mul, List.take_append, hf]
    rw [List.take_of_length_le (by rw [hf]; omega), show k * s + 1 * s - s = k * s by omega, flat_take f s hf l k]
end Go.Proofs.Ytcembefhfadpbaa
