/- Several texts in one file. Small words shared by the walks: a slice that reads as a list of integers, results, worlds. Plain functions on lists of integers: what the functions of the order packages compute, and their laws; no program in sight. Memory that a data structure owns: every block has a role; rows of cells; what a step may change. Boolean functions and decision diagrams with complement edges: the functions of the nodes determine the edges. Plain mathematics. Exchanging two adjacent levels of a decision diagram in place. Plain mathematics. Reference counts of a decision diagram: references from outside plus edges from live nodes. Plain mathematics. Edges: the small functions of package edge, and what if-then-else may say at once. A region that draws its order: reads taken first, everything else in its forced order; guarded operations are walked without parting. Drawn regions in which more than one order stays open: step by step. Maps in memory, read as lists of keys and values: lookup, store, delete, len; over any program and any lawful key. Right of the reference 13: whether a list is a permutation. perm.Ident (the same walk as in XPermV2), and its row with a role. -/
import Derived.Test.YtchliiaknmknhaaGreatRows
import Derived.WalkKit
import Derived.WalkSpells
import Derived.WalkLawsBesides
import Derived.Lib.Hide
import Derived.BigQuiet
import Derived.Deep.QuietTactic
import Derived.Deep.LoopGhost
import Derived.Deep.RegionWith
import Derived.Laws.CopyOwn
import Derived.Laws.AppendOwnNone
import Derived.Maps.AppendAt
import Derived.OwnWalk
import Derived.Laws.Bits64
import Derived.OrdersHeld
import Derived.KernelRfl
import Derived.MapKept
import Derived.ChangeKeysEq
import Derived.Maps.OwnSet
set_option linter.unusedSimpArgs false
set_option linter.unusedVariables false
set_option linter.unusedSectionVars false
set_option linter.unnecessarySimpa false

-- Base
namespace Go.Proofs.YtchliiaknmknhaaGreat
open Go.RowKit
open Go.Maps

theorem ret_i64 {a b : Int} (h : a = b) : Ending.returned (.int .i64 a) = .returned (.int .i64 b) := by rw [h]
theorem ret_bool {a b : Bool} (h : a = b) : Ending.returned (.bool a) = .returned (.bool b) := by rw [h]

theorem below_drewN {B : Nat} {a w : World} (h : Below B a w) (n : Nat) : Below B a (w.drewN n) := Go.below_drewN h n

/-- The element at place k (0 behind the end): behind a plain name, so that the walk's simp leaves it alone. -/
def at0 (zs : List Int) (k : Nat) : Int := zs.getD k 0
theorem at0_eq {zs : List Int} {k : Nat} (h : k < zs.length) : at0 zs k = zs[k] := by simp [at0, List.getD, h]
theorem getElem?_at0 {zs : List Int} {k : Nat} (h : k < zs.length) : zs[k]? = some (at0 zs k) := by rw [at0_eq h]; exact List.getElem?_eq_getElem h

/-- A slice's address and its elements' cells. -/
structure CellsAt (w : World) (a : Option Addr) (cs : List Value) : Prop where
  cells : ∀ k, k < cs.length → ∃ b off, a = some ⟨b, off, none⟩ ∧ w.cell? ⟨b, off + k, none⟩ = cs[k]?

def intsV (zs : List Int) : List Value := zs.map (Value.int .i64)
theorem intsV_length (zs : List Int) : (intsV zs).length = zs.length := by simp [intsV]

structure IntsAt (w : World) (a : Option Addr) (zs : List Int) : Prop where
  len : zs.length ≤ 9223372036854775807
  cells : ∀ k, k < zs.length → ∃ b off, a = some ⟨b, off, none⟩ ∧ w.cell? ⟨b, off + k, none⟩ = some (.int .i64 (at0 zs k))

theorem lt_of_cell {w : World} {p : Addr} {v : Value} (h : w.cell? p = some v) : p.block < w.heap.size := World.block_lt_of_cell? w p h

theorem IntsAt.below {w w' : World} {a : Option Addr} {zs : List Int} (h : IntsAt w a zs) (hb : Below w.heap.size w w') : IntsAt w' a zs :=
  ⟨h.len, fun k hk => by
    obtain ⟨b, off, rfl, hc⟩ := h.cells k hk
    exact ⟨b, off, rfl, by rw [hb.cell (p := ⟨b, off + k, none⟩) (lt_of_cell hc)]; exact hc⟩⟩

/-- The result of a call: a slice that reads as zs. -/
def SliceOf (w : World) (v : Value) (zs : List Int) : Prop := ∃ a c, v = .slice a zs.length c ∧ IntsAt w a zs

theorem intsAt_of_owns {w : World} {base e n : Nat} {a : Option Addr} {c : Nat} {zs : List Int} (hl : zs.length ≤ 9223372036854775807)
    (h : w.ownsRow base e 1 (.slice a n c) n (intsV zs)) : IntsAt w a zs := by
  refine ⟨hl, fun k hk => ?_⟩
  rcases h.2 with ⟨hv, h0⟩ | ⟨g, cap, cur, hv, _⟩
  · have := h.1; rw [intsV_length] at this; omega
  · simp only [Value.slice.injEq] at hv
    obtain ⟨rfl, _, rfl⟩ := hv
    refine ⟨g, 0, rfl, ?_⟩
    have h1 := h.1
    rw [intsV_length] at h1
    have := h.cellAt k (by omega)
    rw [Nat.zero_add, this, intsV, List.getElem?_map, getElem?_at0 hk]; rfl

theorem sliceOf_of_owns {w : World} {base e : Nat} {v : Value} {zs : List Int} (hl : zs.length ≤ 9223372036854775807)
    (h : w.ownsRow base e 1 v zs.length (intsV zs)) : SliceOf w v zs := by
  rcases h.2 with ⟨rfl, h0⟩ | ⟨g, cap, cur, rfl, _⟩
  · have : zs = [] := List.eq_nil_of_length_eq_zero h0
    subst this
    exact ⟨none, 0, rfl, by simp, by simp⟩
  · exact ⟨_, _, rfl, intsAt_of_owns hl h⟩


/-- A slice of integers that the call itself made. -/
def OwnI (w : World) (base : Nat) (v : Value) (zs : List Int) : Prop := w.ownsRow base 3 1 v zs.length (intsV zs)

theorem OwnI.alloc {w : World} {base : Nat} {v : Value} {zs : List Int} (h : OwnI w base v zs) (o : Obj) : OwnI (w.alloc o) base v zs := World.ownsRow.alloc h o
theorem OwnI.drewN {w : World} {base : Nat} {v : Value} {zs : List Int} (h : OwnI w base v zs) (n : Nat) : OwnI (w.drewN n) base v zs := h
theorem OwnI.below {w w' : World} {base : Nat} {v : Value} {zs : List Int} (h : OwnI w base v zs) (hb : Below w.heap.size w w') : OwnI w' base v zs := by
  refine World.ownsRow.kept (row := none) h ⟨hb.os, hb.tape, hb.output, hb.size, fun k hk _ => hb.block k hk⟩ ?_
  cases v.ownBlock <;> simp
theorem OwnI.lt {w : World} {base : Nat} {v : Value} {zs : List Int} (h : OwnI w base v zs) : ∀ k, v.ownBlock = some k → base ≤ k ∧ k < w.heap.size := World.ownsRow.lt h
theorem OwnI.sliceOf {w : World} {base : Nat} {v : Value} {zs : List Int} (h : OwnI w base v zs) (hl : zs.length ≤ 9223372036854775807) : SliceOf w v zs := sliceOf_of_owns hl h
theorem ownI_new (w : World) (base : Nat) (hb : base ≤ w.heap.size) : OwnI (w.alloc (.cells #[] 3)) base (.slice (some ⟨w.heap.size, 0, none⟩) 0 0) [] :=
  World.ownsRow_made w #[] 0 hb (by unfold maxLen; omega) (by simp)
theorem ownI_nil (w : World) (base : Nat) : OwnI w base (.slice none 0 0) [] := World.ownsRow_nil w base 3 1

/-- Every old block but one row is as it was. -/
def KeepBut (row : Option Nat) (w w' : World) : Prop := ∀ k, k < w.heap.size → some k ≠ row → w'.heap[k]? = w.heap[k]?
theorem keepBut_of_grown {row : Option Nat} {w w' : World} {o : Obj} (h : (w.alloc o).grownBy w' row) : KeepBut row w w' := fun k hk hne => by
  rw [h.block k (by simp; omega) hne, Go.heap_alloc_old w o hk]
theorem keepBut_of_grown0 {row : Option Nat} {w w' : World} (h : w.grownBy w' row) : KeepBut row w w' := fun k hk hne => h.block k hk hne
theorem keepBut_refl (row : Option Nat) (w : World) : KeepBut row w w := fun _ _ _ => rfl
theorem IntsAt.keep {row : Option Nat} {w w' : World} {a : Option Addr} {zs : List Int} (h : IntsAt w a zs) (hk : KeepBut row w w') (hne : ∀ x, a = some x → some x.block ≠ row) : IntsAt w' a zs :=
  ⟨h.len, fun k hk' => by
    obtain ⟨b, off, rfl, hc⟩ := h.cells k hk'
    exact ⟨b, off, rfl, (World.cell?_of_block (w := w) (a := ⟨b, off + k, none⟩) (hk b (lt_of_cell hc) (hne _ rfl))).trans hc⟩⟩
theorem OwnI.keep {row : Option Nat} {w w' : World} {base : Nat} {v : Value} {zs : List Int} (h : OwnI w base v zs) (hk : KeepBut row w w') (hne : ∀ k, v.ownBlock = some k → some k ≠ row) : OwnI w' base v zs := by
  refine ⟨h.1, ?_⟩
  rcases h.2 with hn | ⟨g, cap, cur, rfl, hb, hgg, rest⟩
  · exact .inl hn
  · refine .inr ⟨g, cap, cur, rfl, hb, ?_, rest⟩
    rw [hk g (Array.getElem?_eq_some_iff.1 hgg).1 (hne g rfl)]
    exact hgg

/-- Behind an append: every old block but the slice's own is as it was; the new slice lies in the old one's block, or in a new one. -/
structure KeepApp (v v' : Value) (w w' : World) : Prop where
  keep : KeepBut v.ownBlock w w'
  loc : v'.ownBlock = v.ownBlock ∨ ∃ k, v'.ownBlock = some k ∧ w.heap.size ≤ k
theorem KeepApp.ne {v v' : Value} {w w' : World} (h : KeepApp v v' w w') {g : Nat} (hne : v.ownBlock ≠ some g) (hg : g < w.heap.size) : v'.ownBlock ≠ some g := by
  rcases h.loc with e | ⟨k, e, hk⟩
  · rw [e]; exact hne
  · rw [e]; intro hh; cases hh; omega

theorem infoInt : (Tryz.prog.info? 3).map (fun i => (i.zero, i.size, i.bytes)) = some (some (.int .i64 0), 1, 8) := by kernel_rfl

theorem wpList_app1 (wr : World) {ops : Array Oper} {rest : List Oper} {o : Oper} {a : Act} {Q : Exit → Act → World → Prop} {W : World} (hgd : o.guard = none) (s x : Operand)
    (ho : o.op = .call { callee := .builtin .append, args := #[s, x], argTypes := #[22, 22] })
    (base : Nat) (w0 : World) (v : Value) (zs : List Int) (y : Int) (hs : a.eval s = v) {N : Nat} (hx : a.eval x = .slice (some ⟨N, 0, none⟩) 1 1)
    (hW : W = wr.alloc (.cells #[.int .i64 y] 3)) (hN : N = wr.heap.size)
    (hown : OwnI wr base v zs) (hlen : zs.length < 1099511627776) (hbase : base ≤ wr.heap.size) (hb : Below base w0 wr)
    (h : ∀ v' w', OwnI w' base v' (zs ++ [y]) → Below base w0 w' → base ≤ w'.heap.size → KeepApp v v' wr w' → wpList Tryz.prog ops Q rest (a.put o.dst v') w') :
    wpList Tryz.prog ops Q (o :: rest) a W := by
  obtain ⟨i, hi, hz, hsz, hby⟩ := info_parts infoInt
  subst hN; subst hW
  refine wpList_append_own_at (w := wr.alloc (.cells #[.int .i64 y] 3)) hgd s x 22 ho base 3 i (.int .i64 0) 1 8 Tryz.underlying22 hi hz hsz hby rfl (by decide)
    v zs.length (intsV zs) hs (hown.alloc _) ⟨wr.heap.size, 0, none⟩ 1 1 [.int .i64 y] hx rfl (cell_one_new _ _ _) (ints_oneCell .i64 [y]) (by unfold maxLen; omega) (by omega) (by simp; omega) ?_
  intro v' w' h1 h2 _ hloc
  refine h v' w' ?_ ?_ ?_ ⟨keepBut_of_grown h2, hloc.imp id fun e => ⟨_, e, by simp⟩⟩
  · unfold OwnI
    have e1 : (zs ++ [y]).length = zs.length + 1 := by simp
    have e2 : intsV (zs ++ [y]) = intsV zs ++ [.int .i64 y] := by simp [intsV]
    rw [e1, e2]; exact h1
  · exact (hb.alloc hbase _).grown h2 (by simp; omega) (fun k hk => (hown.lt k hk).1)
  · have := h2.size; simp at this; omega

theorem wpList_appAll {ops : Array Oper} {rest : List Oper} {o : Oper} {a : Act} {Q : Exit → Act → World → Prop} {wr : World} (hgd : o.guard = none) (s x : Operand)
    (ho : o.op = .call { callee := .builtin .append, args := #[s, x], argTypes := #[22, 22] })
    (base : Nat) (w0 : World) (v : Value) (zs ys : List Int) (ao : Option Addr) (c : Nat) (hs : a.eval s = v) (hx : a.eval x = .slice ao ys.length c)
    (hown : OwnI wr base v zs) (hys : IntsAt wr ao ys) (hlen : zs.length + ys.length < 1099511627776) (hbase : base ≤ wr.heap.size) (hb : Below base w0 wr)
    (hnil : ao = none → c = 0)
    (h : ∀ v' w', OwnI w' base v' (zs ++ ys) → Below base w0 w' → base ≤ w'.heap.size → KeepApp v v' wr w' → wpList Tryz.prog ops Q rest (a.put o.dst v') w') :
    wpList Tryz.prog ops Q (o :: rest) a wr := by
  obtain ⟨i, hi, hz, hsz, hby⟩ := info_parts infoInt
  cases ao with
  | none =>
    have h0 : ys = [] := by
      apply List.eq_nil_of_length_eq_zero
      rcases Nat.eq_zero_or_pos ys.length with h0 | h0
      · exact h0
      · obtain ⟨b, off, hh, _⟩ := hys.cells 0 h0; cases hh
    subst h0
    obtain rfl := hnil rfl
    refine wpList_append_own_none (w := wr) hgd s x 22 ho base 3 i 1 Tryz.underlying22 hi v zs.length (intsV zs) hs hown hx ?_
    exact h v wr (by simpa using hown) hb hbase ⟨keepBut_refl _ _, .inl rfl⟩
  | some ad =>
    refine wpList_append_own_at (w := wr) hgd s x 22 ho base 3 i (.int .i64 0) 1 8 Tryz.underlying22 hi hz hsz hby rfl (by decide)
      v zs.length (intsV zs) hs hown ad ys.length c (intsV ys) hx (by simp [intsV]) ?_ (ints_oneCell .i64 ys) (by unfold maxLen; omega) (by omega) hbase ?_
    · intro j u hj
      have hlt : j < ys.length := by
        rcases Nat.lt_or_ge j ys.length with h' | h'
        · exact h'
        · simp [intsV, List.getElem?_eq_none h'] at hj
      obtain ⟨b, off, hab, hc⟩ := hys.cells j hlt
      cases hab
      simp [intsV, getElem?_at0 hlt] at hj
      subst hj
      have hadd : (⟨b, off, none⟩ : Addr).add j = ⟨b, off + j, none⟩ := by unfold Addr.add; split <;> simp_all
      rw [hadd]; exact hc
    · intro v' w' h1 h2 _ hloc
      refine h v' w' ?_ ?_ ?_ ⟨keepBut_of_grown0 h2, hloc.imp id fun e => ⟨_, e, Nat.le_refl _⟩⟩
      · unfold OwnI
        have e1 : (zs ++ ys).length = zs.length + ys.length := by simp
        have e2 : intsV (zs ++ ys) = intsV zs ++ intsV ys := by simp [intsV]
        rw [e1, e2]; exact h1
      · exact hb.grown h2 hbase (fun k hk => (hown.lt k hk).1)
      · have := h2.size; omega

theorem OwnI.shape {w : World} {base : Nat} {v : Value} {zs : List Int} (h : OwnI w base v zs) (hp : 0 < zs.length) :
    ∃ g cap, v = .slice (some ⟨g, 0, none⟩) zs.length cap ∧ base ≤ g ∧ g < w.heap.size := by
  rcases h.2 with ⟨_, h0⟩ | ⟨g, cap, cur, hv, hg, hh, _⟩
  · omega
  · exact ⟨g, cap, hv, hg, (Array.getElem?_eq_some_iff.1 hh).1⟩
theorem OwnI.cell {w : World} {base g cap n : Nat} {zs : List Int} (h : OwnI w base (.slice (some ⟨g, 0, none⟩) n cap) zs) (k : Nat) (hk : k < zs.length) :
    w.cell? ⟨g, k, none⟩ = some (.int .i64 (at0 zs k)) := by
  have hn : n = zs.length := by
    rcases h.2 with ⟨hv, _⟩ | ⟨_, _, _, hv, _⟩
    · cases hv
    · cases hv; rfl
  subst hn
  have := World.ownsRow.cellAt h k (by omega)
  rw [this, intsV, List.getElem?_map, getElem?_at0 hk]; rfl
theorem OwnI.frozen {w : World} {base g cap n : Nat} {zs : List Int} (h : OwnI w base (.slice (some ⟨g, 0, none⟩) n cap) zs) (k : Nat) :
    w.frozen? ⟨g, k, none⟩ = false := by
  rcases h.2 with ⟨hv, _⟩ | ⟨_, _, _, hv, _⟩
  · cases hv
  · cases hv; exact World.ownsRow.frozenAt h k
theorem OwnI.stored {w : World} {base g cap n : Nat} {zs : List Int} (h : OwnI w base (.slice (some ⟨g, 0, none⟩) n cap) zs) (k : Nat) (y : Int) :
    OwnI (w.setCell ⟨g, k, none⟩ (.int .i64 y)) base (.slice (some ⟨g, 0, none⟩) n cap) (zs.set k y) := by
  rcases h.2 with ⟨hv, _⟩ | ⟨_, _, _, hv, _⟩
  · cases hv
  · cases hv
    have := (World.ownsRow.stored h k (.int .i64 y)).1
    unfold OwnI
    rw [List.length_set]
    have e : intsV (zs.set k y) = (intsV zs).set k (.int .i64 y) := by simp [intsV, List.map_set]
    rw [e]; exact this
theorem OwnI.setCell_other {w : World} {base : Nat} {v : Value} {zs : List Int} (h : OwnI w base v zs) {a : Addr} (ha : v.ownBlock ≠ some a.block) (u : Value) : OwnI (w.setCell a u) base v zs := ownsRow_setCell_other h ha u
theorem cell_setCell_ne {w : World} {g o : Nat} {v u : Value} {b q : Nat} (h : w.cell? ⟨b, q, none⟩ = some u) (hne : g ≠ b ∨ o ≠ q) : (w.setCell ⟨g, o, none⟩ v).cell? ⟨b, q, none⟩ = some u := by
  rw [World.cell?_setCell_other w ⟨g, o, none⟩ ⟨b, q, none⟩ v (by intro e; cases e; simp at hne)]; exact h

/-- A value that is a slice and reads as zs (a nil slice has no capacity). -/
def SliceIs (w : World) (v : Value) (zs : List Int) : Prop := ∃ a c, v = .slice a zs.length c ∧ IntsAt w a zs ∧ (a = none → c = 0)
theorem SliceIs.below {w w' : World} {v : Value} {zs : List Int} (h : SliceIs w v zs) (hb : Below w.heap.size w w') : SliceIs w' v zs := by
  obtain ⟨a, c, rfl, h1, h2⟩ := h
  exact ⟨a, c, rfl, h1.below hb, h2⟩
theorem SliceIs.keep {row : Option Nat} {w w' : World} {v : Value} {zs : List Int} (h : SliceIs w v zs) (hk : KeepBut row w w') (hne : ∀ k, v.ownBlock = some k → some k ≠ row) : SliceIs w' v zs := by
  obtain ⟨a, c, rfl, h1, h2⟩ := h
  exact ⟨a, c, rfl, h1.keep hk (fun x hx => hne x.block (by subst hx; rfl)), h2⟩
theorem OwnI.sliceIs {w : World} {base : Nat} {v : Value} {zs : List Int} (h : OwnI w base v zs) (hl : zs.length ≤ 9223372036854775807) : SliceIs w v zs := by
  obtain ⟨a, c, rfl, h1⟩ := h.sliceOf hl
  refine ⟨a, c, rfl, h1, fun e => ?_⟩
  subst e
  rcases h.2 with ⟨hv, h0⟩ | ⟨g, cap, cur, hv, _⟩
  · simp only [Value.slice.injEq] at hv; exact hv.2.2
  · simp only [Value.slice.injEq] at hv; cases hv.1

theorem below_new1 (w : World) (o : Obj) : Below w.heap.size w (w.alloc o) := (Below.refl _ _).alloc (Nat.le_refl _) _
theorem below_draw (w : World) (n : Nat) : Below w.heap.size w (w.drewN n) := below_drewN (Below.refl _ _) _
theorem below_drawnew (w : World) (n : Nat) (o : Obj) : Below w.heap.size w ((w.drewN n).alloc o) := (below_draw w n).alloc (Nat.le_refl _) _
theorem below_newdraw (w : World) (n : Nat) (o : Obj) : Below w.heap.size w ((w.alloc o).drewN n) := below_drewN (below_new1 w o) _
theorem IntsAt.drewN {w : World} {a : Option Addr} {zs : List Int} (h : IntsAt w a zs) (n : Nat) : IntsAt (w.drewN n) a zs := ⟨h.len, h.cells⟩
theorem SliceIs.drewN {w : World} {v : Value} {zs : List Int} (h : SliceIs w v zs) (n : Nat) : SliceIs (w.drewN n) v zs := by
  obtain ⟨a, c, rfl, h1, h2⟩ := h
  exact ⟨a, c, rfl, h1.drewN n, h2⟩
theorem sliceIs_nil (w : World) : SliceIs w (.slice none 0 0) [] := ⟨none, 0, rfl, ⟨by simp, by simp⟩, fun _ => rfl⟩


/-- A slice of integers that came in, as the row hands it over. -/
theorem sliceIs_of_row {w : World} {a : Option Addr} {len cap : Nat} {zs : List Int}
    (h : (a = none ∧ len = 0 ∧ cap = 0 ∧ zs = []) ∨ ∃ x, a = some x ∧ len ≤ cap ∧ cap ≤ maxLen ∧ zs.length = cap ∧ (∀ i, i < zs.length → w.cell? (x.add i) = some (.int .i64 (zs.getD i 0))) ∧ ∀ n ∈ zs, (Lit.int .i64 n).wf = true) :
    SliceIs w (.slice a len cap) (zs.take len) := by
  rcases h with ⟨rfl, rfl, rfl, rfl⟩ | ⟨x, rfl, hl, hm, hz, hc, _⟩
  · exact sliceIs_nil w
  · have hlen : (zs.take len).length = len := by simp; omega
    refine ⟨some x, cap, by rw [hlen], ⟨by rw [hlen]; unfold maxLen at hm; omega, fun k hk => ?_⟩, by simp⟩
    rw [hlen] at hk
    have h1 := hc k (by omega)
    obtain ⟨b, off, spot⟩ := x
    have hadd : ∀ k, (⟨b, off, spot⟩ : Addr).add k = if k = 0 then ⟨b, off, spot⟩ else ⟨b, off + k, none⟩ := fun k => rfl
    have hsp : spot = none := by
      have h0 := hc 0 (by omega)
      rw [hadd, if_pos rfl] at h0
      cases spot with
      | none => rfl
      | some s =>
        unfold World.cell? at h0
        split at h0 <;> simp at h0
    subst hsp
    refine ⟨b, off, rfl, ?_⟩
    have e : at0 (zs.take len) k = zs.getD k 0 := by simp [at0, List.getD, hk]
    rw [e, ← h1, hadd]
    by_cases h0 : k = 0
    · subst h0; rfl
    · rw [if_neg h0]

end Go.Proofs.YtchliiaknmknhaaGreat

-- PermM
namespace Go.Proofs.YtchliiaknmknhaaGreat

def placeZ (zs : List Int) (x : Int) : Int := match zs.idxOf? x with | some k => k | none => -1

theorem placeZ_found {zs : List Int} {x : Int} {k : Nat} (h : k < zs.length) (hx : at0 zs k = x) (hn : ∀ j, j < k → at0 zs j ≠ x) : placeZ zs x = k := by
  have : zs.idxOf? x = some k := by
    rw [List.idxOf?_eq_some_iff]
    refine ⟨h, by rw [at0_eq h] at hx; exact hx, ?_⟩
    intro j hj
    have := hn j hj
    rw [at0_eq (Nat.lt_trans hj h)] at this
    exact this
  simp [placeZ, this]
theorem placeZ_none {zs : List Int} {x : Int} (hn : ∀ j, j < zs.length → at0 zs j ≠ x) : placeZ zs x = -1 := by
  have : zs.idxOf? x = none := by
    rw [List.idxOf?_eq_none_iff]
    intro hx
    obtain ⟨j, hj, rfl⟩ := List.mem_iff_getElem.1 hx
    exact hn j hj (at0_eq hj)
  simp [placeZ, this]

def rightB (zs : List Int) : Bool := decide ((∀ k, k < zs.length → 0 ≤ at0 zs k ∧ at0 zs k < zs.length) ∧ ∀ i, i < zs.length → ∀ k, k < i → at0 zs k ≠ at0 zs i)

theorem rightB_iff (zs : List Int) : rightB zs = true ↔ (∀ k, k < zs.length → 0 ≤ at0 zs k ∧ at0 zs k < zs.length) ∧ ∀ i, i < zs.length → ∀ k, k < i → at0 zs k ≠ at0 zs i := by simp [rightB]
theorem rightB_false {zs : List Int} (h : ¬ ((∀ k, k < zs.length → 0 ≤ at0 zs k ∧ at0 zs k < zs.length) ∧ ∀ i, i < zs.length → ∀ k, k < i → at0 zs k ≠ at0 zs i)) : rightB zs = false := by
  rw [Bool.eq_false_iff]; intro h'; exact h ((rightB_iff zs).1 h')

theorem eq_of_at0 {xs ys : List Int} (hl : xs.length = ys.length) (h : ∀ k, k < xs.length → at0 xs k = at0 ys k) : xs = ys := by
  apply List.ext_getElem hl
  intro i h1 h2
  have := h i h1
  rwa [at0_eq h1, at0_eq h2] at this


def swapZ (zs : List Int) (i : Int) : List Int :=
  if 0 ≤ i ∧ i + 1 < zs.length then (zs.set i.toNat (at0 zs (i.toNat + 1))).set (i.toNat + 1) (at0 zs i.toNat) else zs
theorem swapZ_length (zs : List Int) (i : Int) : (swapZ zs i).length = zs.length := by unfold swapZ; split <;> simp
theorem swapZ_in {zs : List Int} {k : Nat} (h : k + 1 < zs.length) : swapZ zs (k : Int) = (zs.set k (at0 zs (k + 1))).set (k + 1) (at0 zs k) := by
  unfold swapZ; rw [if_pos (by omega)]; simp
theorem swapZ_out {zs : List Int} {i : Int} (h : ¬ (0 ≤ i ∧ i + 1 < zs.length)) : swapZ zs i = zs := by unfold swapZ; rw [if_neg h]

/-- The numbers 0, 1, .. n-1. -/
def iota (n : Nat) : List Int := (List.range n).map Int.ofNat
theorem iota_length (n : Nat) : (iota n).length = n := by simp [iota]
theorem iota_succ (n : Nat) : iota (n + 1) = iota n ++ [(n : Int)] := by simp [iota, List.range_succ]
def identZ (n : Int) : List Int := iota (min n.toNat 64)

def inverseZ (zs : List Int) : List Int := if rightB zs then (iota zs.length).map (placeZ zs) else []


theorem placeZ_lo (zs : List Int) (x : Int) : -1 ≤ placeZ zs x := by unfold placeZ; split <;> omega
theorem placeZ_lt (zs : List Int) (x : Int) : placeZ zs x < max 1 zs.length := by
  unfold placeZ
  split
  · rename_i k hk
    rw [List.idxOf?_eq_some_iff] at hk
    obtain ⟨h, _⟩ := hk
    omega
  · omega
theorem iota_map_succ (f : Int → Int) (n : Nat) : (iota (n + 1)).map f = (iota n).map f ++ [f n] := by simp [iota_succ]

/-- Move the element at i+d down to i by adjacent exchanges: the list, and the places of the exchanges. -/
def bub (zs : List Int) (i : Nat) : Nat → List Int × List Int
  | 0 => (zs, [])
  | d + 1 => ((bub (swapZ zs ((i + d : Nat) : Int)) i d).1, ((i + d : Nat) : Int) :: (bub (swapZ zs ((i + d : Nat) : Int)) i d).2)
theorem bub_length1 (i d : Nat) : ∀ zs : List Int, (bub zs i d).1.length = zs.length := by
  induction d with
  | zero => intro zs; rfl
  | succ d ih => intro zs; simp only [bub]; rw [ih, swapZ_length]
theorem bub_length2 (i d : Nat) : ∀ zs : List Int, (bub zs i d).2.length = d := by
  induction d with
  | zero => intro zs; rfl
  | succ d ih => intro zs; simp only [bub, List.length_cons]; rw [ih]

def bubTo (zs : List Int) (x : Int) (i : Nat) : List Int × List Int := bub zs i (placeZ zs x - i).toNat
/-- The exchanges that lead from an order to another. -/
def stepsZ : List Int → List Int → Nat → List Int
  | _, [], _ => []
  | now, b :: bs, i => (bubTo now b i).2 ++ stepsZ (bubTo now b i).1 bs (i + 1)
theorem stepsZ_nil (now : List Int) (i : Nat) : stepsZ now [] i = [] := rfl
theorem drop_at0 {zs : List Int} {k : Nat} (h : k < zs.length) : zs.drop k = at0 zs k :: zs.drop (k + 1) := by
  rw [List.drop_eq_getElem_cons h, at0_eq h]
theorem stepsZ_drop (now bs : List Int) (k : Nat) (h : k < bs.length) : stepsZ now (bs.drop k) k = (bubTo now (at0 bs k) k).2 ++ stepsZ (bubTo now (at0 bs k) k).1 (bs.drop (k + 1)) (k + 1) := by
  rw [drop_at0 h]; rfl
def stepsOf (a b : List Int) : List Int := if rightB a = true ∧ rightB b = true ∧ a.length = b.length then stepsZ a b 0 else []
def stepsErr (a b : List Int) : Int := if rightB a = true ∧ rightB b = true then (if a.length = b.length then 0 else 3) else 1

end Go.Proofs.YtchliiaknmknhaaGreat

-- Row
namespace Go.Proofs.YtchliiaknmknhaaGreat
open Go.RowKit

inductive Role where
  | man | store | levels | vars | level | pool | slots | taken | free | tabs | tab (v : Nat) | tmap (v : Nat) | counts | memo | entries | handles | waits
  deriving DecidableEq
abbrev Own := Nat → Option Role
def OwnLt (o : Own) (w : World) : Prop := ∀ k r, o k = some r → k < w.heap.size

/-- w' is w but for blocks whose role is in R; roles are given to new blocks alone. -/
structure Chg (R : Role → Prop) (o o' : Own) (w w' : World) : Prop where
  os : w'.os = w.os
  tape : w'.tape = w.tape
  output : w'.output = w.output
  size : w.heap.size ≤ w'.heap.size
  block : ∀ k, k < w.heap.size → (∀ r, o k = some r → ¬ R r) → w'.heap[k]? = w.heap[k]?
  ext : ∀ k r, o k = some r → o' k = some r
  new : ∀ k, o' k ≠ o k → w.heap.size ≤ k ∧ ∃ r, o' k = some r ∧ R r

section
variable {R R' : Role → Prop} {o o' o'' : Own} {w w' w'' : World} {r : Role}

theorem Chg.refl (R : Role → Prop) (o : Own) (w : World) : Chg R o o w w := ⟨rfl, rfl, rfl, Nat.le_refl _, fun _ _ _ => rfl, fun _ _ h => h, fun _ h => (h rfl).elim⟩
theorem Chg.trans (h : Chg R o o' w w') (h' : Chg R o' o'' w' w'') : Chg R o o'' w w'' := by
  refine ⟨h'.os.trans h.os, h'.tape.trans h.tape, h'.output.trans h.output, Nat.le_trans h.size h'.size, fun k hk hr => ?_, fun k r hr => h'.ext k r (h.ext k r hr), fun k hk => ?_⟩
  · have hlt : k < w'.heap.size := Nat.lt_of_lt_of_le hk h.size
    refine (h'.block k hlt fun q hq => ?_).trans (h.block k hk hr)
    by_cases e : o' k = o k
    · rw [e] at hq; exact hr q hq
    · have := (h.new k e).1; omega
  · by_cases e : o'' k = o' k
    · rw [e] at hk ⊢; exact h.new k hk
    · have := h'.new k e
      exact ⟨Nat.le_trans h.size this.1, this.2⟩
theorem Chg.mono (h : Chg R o o' w w') (hR : ∀ r, R r → R' r) : Chg R' o o' w w' :=
  ⟨h.os, h.tape, h.output, h.size, fun k hk hr => h.block k hk fun r hr' hh => hr r hr' (hR r hh), h.ext, fun k hk => ⟨(h.new k hk).1, (h.new k hk).2.imp fun r hh => ⟨hh.1, hR r hh.2⟩⟩⟩
theorem Chg.drewN (h : Chg R o o' w w') (n : Nat) : Chg R o o' w (w'.drewN n) := ⟨h.os, h.tape, h.output, h.size, h.block, h.ext, h.new⟩
theorem Chg.alloc (h : Chg R o o' w w') (ob : Obj) : Chg R o o' w (w'.alloc ob) :=
  ⟨h.os, h.tape, h.output, by simp; have := h.size; omega, fun k hk hr => (Go.heap_alloc_old w' ob (Nat.lt_of_lt_of_le hk h.size)).trans (h.block k hk hr), h.ext, h.new⟩
theorem Chg.setCell (h : Chg R o o' w w') {p : Addr} {r : Role} (hp : o' p.block = some r) (hr : R r) (u : Value) : Chg R o o' w (w'.setCell p u) := by
  refine ⟨h.os, h.tape, h.output, by simp [World.setCell]; exact h.size, fun k hk hk' => ?_, h.ext, h.new⟩
  have hne : k ≠ p.block := by
    rintro rfl
    by_cases e : o' p.block = o p.block
    · rw [e] at hp; exact hk' r hp hr
    · have := (h.new _ e).1; omega
  rw [Below.heap_setCell _ _ _ _ hne]; exact h.block k hk hk'
/-- A store into a block that is no one's. -/
theorem Chg.setCell_new (h : Chg R o o' w w') {p : Addr} (hp : w.heap.size ≤ p.block) (u : Value) : Chg R o o' w (w'.setCell p u) := by
  refine ⟨h.os, h.tape, h.output, by simp [World.setCell]; exact h.size, fun k hk hk' => ?_, h.ext, h.new⟩
  rw [Below.heap_setCell _ _ _ _ (by omega)]; exact h.block k hk hk'
theorem Chg.of_below (hb : Below w.heap.size w w') (R : Role → Prop) (o : Own) : Chg R o o w w' :=
  ⟨hb.os, hb.tape, hb.output, hb.size, fun k hk _ => hb.block k hk, fun _ _ h => h, fun _ h => (h rfl).elim⟩
def ownAt (o : Own) (b : Nat) (r : Role) : Own := fun k => if k = b then some r else o k
theorem ownAt_same (o : Own) (b : Nat) (r : Role) : ownAt o b r b = some r := by simp [ownAt]
theorem ownAt_old {b k : Nat} {q : Role} (hlt : OwnLt o w) (hb : w.heap.size ≤ b) (h : o k = some q) : ownAt o b r k = some q := by
  have := hlt k q h
  simp only [ownAt, if_neg (show k ≠ b by omega)]; exact h
/-- A new block of a role. -/
theorem Chg.allocR (h : Chg R o o' w w') (hlt : OwnLt o' w') (ob : Obj) (hr : R r) : Chg R o (ownAt o' w'.heap.size r) w (w'.alloc ob) := by
  have h2 := h.alloc ob
  refine ⟨h2.os, h2.tape, h2.output, h2.size, h2.block, fun k q hq => ownAt_old hlt (Nat.le_refl _) (h.ext k q hq), fun k hk => ?_⟩
  by_cases e : k = w'.heap.size
  · subst e; exact ⟨h.size, r, ownAt_same _ _ _, hr⟩
  · simp only [ownAt, if_neg e] at hk ⊢; exact h.new k hk
theorem OwnLt.allocR (h : OwnLt o w) (ob : Obj) (r : Role) : OwnLt (ownAt o w.heap.size r) (w.alloc ob) := by
  intro k q hq
  simp only [World.size_alloc]
  by_cases e : k = w.heap.size
  · omega
  · simp only [ownAt, if_neg e] at hq; have := h k q hq; omega
theorem OwnLt.mono (h : OwnLt o w) (hs : w.heap.size ≤ w'.heap.size) : OwnLt o w' := fun k r hr => Nat.lt_of_lt_of_le (h k r hr) hs
theorem Chg.grown (h : Chg R o o' w w') {row : Option Nat} (hg : w'.grownBy w'' row) (hrow : ∀ g, row = some g → ∃ r, o' g = some r ∧ R r) : Chg R o o' w w'' := by
  refine h.trans ⟨hg.os, hg.tape, hg.output, hg.size, fun k hk hr => hg.block k hk fun e => ?_, fun _ _ h => h, fun _ h => (h rfl).elim⟩
  obtain ⟨r, h1, h2⟩ := hrow k e.symm
  exact hr r h1 h2
/-- A block of another role stands as it stood. -/
theorem Chg.same (h : Chg R o o' w w') (hlt : OwnLt o w) {b : Nat} {r : Role} (hb : o b = some r) (hr : ¬ R r) : w'.heap[b]? = w.heap[b]? :=
  h.block b (hlt b r hb) fun q hq => by rw [hb] at hq; cases hq; exact hr
theorem Chg.alien (h : Chg R o o' w w') {b : Nat} (hlt : b < w.heap.size) (hb : o b = none) : w'.heap[b]? = w.heap[b]? :=
  h.block b hlt fun q hq => by rw [hb] at hq; cases hq
theorem Chg.alien' (h : Chg R o o' w w') {b : Nat} (hlt : b < w.heap.size) (hb : o b = none) : o' b = none := by
  by_cases e : o' b = o b
  · rw [e]; exact hb
  · have := (h.new b e).1; omega
theorem Chg.cell (h : Chg R o o' w w') {p : Addr} {v : Value} (hc : w.cell? p = some v) (hb : o p.block = none) : w'.cell? p = some v :=
  (World.cell?_of_block (w := w) (h.alien (World.block_lt_of_cell? w p hc) hb)).trans hc
theorem Chg.cellR (h : Chg R o o' w w') {p : Addr} {v : Value} (hc : w.cell? p = some v) {r : Role} (hb : o p.block = some r) (hr : ¬ R r) : w'.cell? p = some v :=
  (World.cell?_of_block (w := w) (h.block p.block (World.block_lt_of_cell? w p hc) fun q hq => by rw [hb] at hq; cases hq; exact hr)).trans hc

/-- A slice value whose row has role r: n elements of size cells each. -/
structure RowR (o : Own) (w : World) (r : Role) (e : TypeId) (size : Nat) (v : Value) (n : Nat) (xs : List Value) : Prop where
  len : xs.length = n * size
  ex : (v = .slice none 0 0 ∧ n = 0) ∨ ∃ g cap cur, v = .slice (some ⟨g, 0, none⟩) n cap ∧ o g = some r ∧ w.heap[g]? = some (.cells cur e (0, 0)) ∧ n ≤ cap ∧ cap ≤ maxLen ∧ cap * size ≤ cur.size ∧ cur.toList.take (n * size) = xs

variable {e : TypeId} {size : Nat} {v : Value} {n : Nat} {xs : List Value}
theorem RowR.nil (o : Own) (w : World) (r : Role) (e : TypeId) (size : Nat) : RowR o w r e size (.slice none 0 0) 0 [] := ⟨by simp, .inl ⟨rfl, rfl⟩⟩
theorem RowR.keep (h : RowR o w r e size v n xs) (hk : ∀ g, o g = some r → w'.heap[g]? = w.heap[g]?) (ho : ∀ g, o g = some r → o' g = some r) : RowR o' w' r e size v n xs := by
  refine ⟨h.len, h.ex.imp id ?_⟩
  rintro ⟨g, cap, cur, h1, h2, h3, rest⟩
  exact ⟨g, cap, cur, h1, ho g h2, (hk g h2).trans h3, rest⟩
theorem RowR.chg (h : RowR o w r e size v n xs) (hc : Chg R o o' w w') (hlt : OwnLt o w) (hr : ¬ R r) : RowR o' w' r e size v n xs :=
  h.keep (fun g hg => hc.same hlt hg hr) (fun g hg => hc.ext g r hg)
theorem RowR.shape (h : RowR o w r e size v n xs) (hn : 0 < n) : ∃ g cap, v = .slice (some ⟨g, 0, none⟩) n cap ∧ o g = some r ∧ n ≤ cap ∧ cap ≤ maxLen := by
  rcases h.ex with ⟨_, h0⟩ | ⟨g, cap, cur, h1, h2, _, h3, h4, _⟩
  · omega
  · exact ⟨g, cap, h1, h2, h3, h4⟩
theorem RowR.slice (h : RowR o w r e size v n xs) : ∃ a cap, v = .slice a n cap ∧ n ≤ cap ∧ cap ≤ maxLen ∧ (a = none → cap = 0) ∧ (∀ x, a = some x → ∃ g, x = ⟨g, 0, none⟩ ∧ o g = some r) := by
  rcases h.ex with ⟨h1, h0⟩ | ⟨g, cap, cur, h1, h2, _, h3, h4, _⟩
  · exact ⟨none, 0, by rw [h1, h0], by omega, by omega, fun _ => rfl, by simp⟩
  · exact ⟨_, cap, h1, h3, h4, by simp, fun x hx => ⟨g, by cases hx; rfl, h2⟩⟩
theorem RowR.cell {g cap m : Nat} (h : RowR o w r e size (.slice (some ⟨g, 0, none⟩) m cap) n xs) (k : Nat) (hk : k < xs.length) : w.cell? ⟨g, k, none⟩ = xs[k]? := by
  rcases h.ex with ⟨h1, _⟩ | ⟨g', cap', cur, h1, _, h3, _, _, h4, h5⟩
  · cases h1
  · cases h1
    rw [cell_of_row w g k cur e (0, 0) h3]
    have : xs[k]? = (cur.toList.take (n * size))[k]? := by rw [h5]
    rw [this, List.getElem?_take, if_pos (by rw [← h.len]; exact hk)]
    simp
theorem RowR.frozen {g cap m : Nat} (h : RowR o w r e size (.slice (some ⟨g, 0, none⟩) m cap) n xs) (k : Nat) : w.frozen? ⟨g, k, none⟩ = false := by
  rcases h.ex with ⟨h1, _⟩ | ⟨g', cap', cur, h1, _, h3, _⟩
  · cases h1
  · cases h1; simp [World.frozen?, h3]
theorem RowR.owner {g cap m : Nat} (h : RowR o w r e size (.slice (some ⟨g, 0, none⟩) m cap) n xs) : o g = some r := by
  rcases h.ex with ⟨h1, _⟩ | ⟨g', cap', cur, h1, h2, _⟩
  · cases h1
  · cases h1; exact h2
theorem RowR.lens {a : Option Addr} {cap m : Nat} (h : RowR o w r e size (.slice a m cap) n xs) : m = n := by
  rcases h.ex with ⟨h1, h0⟩ | ⟨g', cap', cur, h1, _⟩
  · cases h1; exact h0.symm
  · cases h1; rfl
theorem RowR.stored {g cap m : Nat} (h : RowR o w r e size (.slice (some ⟨g, 0, none⟩) m cap) n xs) (k : Nat) (u : Value) :
    RowR o (w.setCell ⟨g, k, none⟩ u) r e size (.slice (some ⟨g, 0, none⟩) m cap) n (xs.set k u) := by
  refine ⟨by rw [List.length_set]; exact h.len, ?_⟩
  rcases h.ex with ⟨h1, _⟩ | ⟨g', cap', cur, h1, h2, h3, h4, h5, h6, h7⟩
  · cases h1
  · cases h1
    refine .inr ⟨g, cap, cur.setIfInBounds k u, rfl, h2, ?_, h4, h5, by simpa using h6, ?_⟩
    · simp only [World.setCell, Array.getElem?_modify, if_true, h3]; rfl
    · rw [Array.toList_setIfInBounds, List.take_set, h7]
theorem RowR.setCell_other (h : RowR o w r e size v n xs) {p : Addr} (hp : o p.block ≠ some r) (u : Value) : RowR o (w.setCell p u) r e size v n xs :=
  h.keep (fun g hg => Below.heap_setCell _ _ _ _ (by rintro rfl; exact hp hg)) (fun _ h => h)
/-- A shorter row, with less room. -/
theorem RowR.shrink {g cap m m' cap' : Nat} (h : RowR o w r e size (.slice (some ⟨g, 0, none⟩) m cap) n xs) (hm : m' ≤ n) (hc : cap' ≤ cap) (hmc : m' ≤ cap') :
    RowR o w r e size (.slice (some ⟨g, 0, none⟩) m' cap') m' (xs.take (m' * size)) := by
  have hmn : m' * size ≤ n * size := Nat.mul_le_mul_right _ hm
  refine ⟨by rw [List.length_take, h.len]; omega, ?_⟩
  rcases h.ex with ⟨h1, _⟩ | ⟨g', cap0, cur, h1, h2, h3, h4, h5, h6, h7⟩
  · cases h1
  · cases h1
    refine .inr ⟨g, cap', cur, rfl, h2, h3, hmc, by omega, Nat.le_trans (Nat.mul_le_mul_right _ hc) h6, ?_⟩
    rw [← h7, List.take_take]; congr 1; omega

variable {P : Program}
/-- append, as an equation: the row keeps its role. -/
theorem RowR.append (h : RowR o w r e size v n xs) (hlt : OwnLt o w) (t ty : TypeId) (i : TypeInfo) (z : Value) (bytes : Nat) (ht : P.underlying t = some (.slice e)) (hi : P.info? e = some i) (hz : i.zero = some z)
    (hsize : i.size = size) (hby : i.bytes = bytes) (hzs : z.cells.size = size) (hsz : 0 < size)
    (a : Addr) (m c : Nat) (news : List Value) (hl : news.length = m * size) (hnews : ∀ j u, news[j]? = some u → w.cell? (a.add j) = some u) (h1 : ∀ u ∈ news, u.oneCell' = true)
    (h63 : n + m ≤ maxLen) (hbytes : (n + m) * bytes ≤ 140737488355328) :
    ∃ v' w' o', (Builtin.append_ #[t, t] ty #[v, .slice (some a) m c]).run P w = .ok v' w' ∧ RowR o' w' r e size v' (n + m) (xs ++ news) ∧ Chg (· = r) o o' w w' ∧ OwnLt o' w' := by
  subst hsize
  subst hby
  have hsmall : n + m ≤ 9223372036854775807 := by simp only [maxLen] at h63; omega
  have hlen : (xs ++ news).length = (n + m) * i.size := by rw [List.length_append, h.len, hl, Nat.add_mul]
  have grown : ∀ (old : Nat),
      RowR (ownAt o w.heap.size r) (w.drew.alloc (.cells (xs.toArray ++ news.toArray ++ Builtin.zeroCells z.cells (grownCap w (n + m) old e - (n + m))) e)) r e i.size
        (.slice (some ⟨w.heap.size, 0, none⟩) (n + m) (grownCap w (n + m) old e)) (n + m) (xs ++ news) ∧
      Chg (· = r) o (ownAt o w.heap.size r) w (w.drew.alloc (.cells (xs.toArray ++ news.toArray ++ Builtin.zeroCells z.cells (grownCap w (n + m) old e - (n + m))) e)) ∧
      OwnLt (ownAt o w.heap.size r) (w.drew.alloc (.cells (xs.toArray ++ news.toArray ++ Builtin.zeroCells z.cells (grownCap w (n + m) old e - (n + m))) e)) := by
    intro old
    have hge := grownCap_ge w (n + m) old e
    have hcm : grownCap w (n + m) old e ≤ maxLen := grownCap_le_maxLen w (n + m) old e h63
    refine ⟨⟨hlen, .inr ⟨w.heap.size, _, _, rfl, ownAt_same _ _ _, heap_alloc_new w.drew _, hge, hcm, ?_, ?_⟩⟩, (((Chg.refl (· = r) o w).drewN 1).allocR (w' := w.drewN 1) hlt _ rfl), OwnLt.allocR (w := w.drewN 1) hlt _ r⟩
    · simp only [Array.size_append, List.size_toArray, size_zeroCells, hzs, h.len, hl, ← Nat.add_mul]
      exact Nat.mul_le_mul_right _ (by omega)
    · simp only [Array.toList_append, List.append_assoc]
      rw [← List.append_assoc, ← hlen]
      exact List.take_left
  rcases h.ex with ⟨rfl, rfl⟩ | ⟨g, cap, cur, rfl, hog, hg, hnc, hcm, hcs, htake⟩
  · have hx : xs = [] := List.eq_nil_of_length_eq_zero (by simpa using h.len)
    subst hx
    by_cases hm : m = 0
    · subst hm
      have hn : news = [] := List.eq_nil_of_length_eq_zero (by simpa using hl)
      subst hn
      refine ⟨.slice none 0 0, w, o, ?_, RowR.nil o w r e i.size, Chg.refl _ _ _, hlt⟩
      simp [Builtin.append_, run_underlying ht, sizeOf, typeInfo, hi, Builtin.lenOf, Builtin.firstCells, loadCells, loadCellsFrom]
    · have hr := run_append_nil (P := P) w t ty e i z ht hi hz a m c news hl hnews (by omega) (by omega) (by have hb := hbytes; simp only [Nat.zero_add] at hb; omega)
      have hgr := grown 0
      simp only [Nat.zero_add, List.nil_append, Array.empty_append] at hgr ⊢
      exact ⟨_, _, _, hr, hgr⟩
  · by_cases hroom : n + m ≤ cap
    · have hfit : n * i.size + news.length ≤ cur.size := by rw [hl, ← Nat.add_mul]; exact Nat.le_trans (Nat.mul_le_mul_right _ hroom) hcs
      have hr := run_append_room (P := P) w t ty e i ht hi g n cap cur hg a m c news hl hnews h1 hroom hfit
      refine ⟨_, _, o, hr, ⟨hlen, .inr ⟨g, cap, _, rfl, hog, setRow_heap w g cur _ e _ hg, hroom, hcm, ?_, ?_⟩⟩, ⟨rfl, rfl, rfl, by simp, fun k _ hk => setRow_other w g k _ (by rintro rfl; exact hk r hog rfl), fun _ _ h => h, fun _ h => (h rfl).elim⟩, fun k q hq => by have := hlt k q hq; simpa using this⟩
      · simp only [List.size_toArray, List.length_append, List.length_take, List.length_drop, Array.length_toList]
        omega
      · rw [htake, ← hlen]
        exact List.take_left
    · have holds : ∀ j u, xs[j]? = some u → w.cell? ((⟨g, 0, none⟩ : Addr).add j) = some u := by
        intro j u hu
        have hadd : (⟨g, 0, none⟩ : Addr).add j = ⟨g, j, none⟩ := by unfold Addr.add; split <;> simp_all
        have hj : j < xs.length := by
          rcases Nat.lt_or_ge j xs.length with h' | h'
          · exact h'
          · rw [List.getElem?_eq_none h'] at hu; cases hu
        rw [hadd, h.cell j hj]; exact hu
      have hr := run_append_grow (P := P) w t ty e i z ht hi hz ⟨g, 0, none⟩ n cap xs h.len holds a m c news hl hnews (by omega) (by omega) (growslice_fits (by omega) hbytes)
      have hgr := grown cap
      exact ⟨_, _, _, hr, hgr⟩
/-- append of an empty source. -/
theorem RowR.append_none (h : RowR o w r e size v n xs) (t ty : TypeId) (i : TypeInfo) (ht : P.underlying t = some (.slice e)) (hi : P.info? e = some i) (c : Nat) :
    (Builtin.append_ #[t, t] ty #[v, .slice none 0 c]).run P w = .ok v w := by
  obtain ⟨a, cap, rfl, hn, _, hnone, _⟩ := h.slice
  cases a with
  | none =>
    have := hnone rfl
    have h0 : n = 0 := by omega
    subst h0; subst this
    simp [Builtin.append_, run_underlying ht, sizeOf, typeInfo, hi, Builtin.lenOf, Builtin.firstCells, loadCells, loadCellsFrom]
  | some ad => simp [Builtin.append_, run_underlying ht, sizeOf, typeInfo, hi, Builtin.lenOf, hn, Builtin.firstCells, storeCells]

/-- append at the operation, the source read from memory. -/
theorem wpList_appR {ops : Array Oper} {rest : List Oper} {op : Oper} {a : Act} {Q : Exit → Act → World → Prop} (hgd : op.guard = none) (s x : Operand) (t : TypeId)
    (hop : op.op = .call { callee := .builtin .append, args := #[s, x], argTypes := #[t, t] })
    (h : RowR o w r e size v n xs) (hlt : OwnLt o w) (i : TypeInfo) (z : Value) (bytes : Nat) (ht : P.underlying t = some (.slice e)) (hi : P.info? e = some i) (hz : i.zero = some z)
    (hsize : i.size = size) (hby : i.bytes = bytes) (hzs : z.cells.size = size) (hsz : 0 < size) (hs : a.eval s = v)
    (ad : Addr) (m c : Nat) (news : List Value) (hx : a.eval x = .slice (some ad) m c) (hl : news.length = m * size) (hnews : ∀ j u, news[j]? = some u → w.cell? (ad.add j) = some u) (h1 : ∀ u ∈ news, u.oneCell' = true)
    (h63 : n + m ≤ maxLen) (hbytes : (n + m) * bytes ≤ 140737488355328)
    (hK : ∀ v' w' o', RowR o' w' r e size v' (n + m) (xs ++ news) → Chg (· = r) o o' w w' → OwnLt o' w' → wpList P ops Q rest (a.put op.dst v') w') : wpList P ops Q (op :: rest) a w := by
  refine wpList_plain hgd fun K hKK => ?_
  obtain ⟨v', w', o', hr, h2, h3, h4⟩ := h.append (P := P) hlt t op.type i z bytes ht hi hz hsize hby hzs hsz ad m c news hl hnews h1 h63 hbytes
  unfold Oper.wp execOp
  simp only [hop, resolve, invoke, builtin, Sem.run_bind, Sem.run_pure, Result.andThen_ok, List.map_toArray, List.map_cons, List.map_nil, hs, hx, hr]
  exact hKK _ _ (hK v' w' o' h2 h3 h4)
end

/-- Lists laid flat. -/
theorem flat_length {α : Type} (f : α → List Value) (s : Nat) (hf : ∀ x, (f x).length = s) : ∀ (l : List α), (l.flatMap f).length = l.length * s
  | [] => by simp
  | x :: l => by rw [List.flatMap_cons, List.length_append, hf, flat_length f s hf l, List.length_cons, Nat.add_mul]; omega
theorem flat_get {α : Type} (f : α → List Value) (s : Nat) (hf : ∀ x, (f x).length = s) : ∀ (l : List α) (k j : Nat) (x : α), l[k]? = some x → j < s → (l.flatMap f)[k * s + j]? = (f x)[j]?
  | [], k, j, x, h, _ => by simp at h
  | y :: l, 0, j, x, h, hj => by
    simp at h; subst h
    rw [List.flatMap_cons, List.getElem?_append_left (by rw [hf]; omega)]; congr 1; omega
  | y :: l, k + 1, j, x, h, hj => by
    simp at h
    rw [List.flatMap_cons, List.getElem?_append_right (by rw [hf, Nat.add_mul]; omega), hf, ← flat_get f s hf l k j x h hj]; congr 1; rw [Nat.add_mul]; omega
theorem flat_take {α : Type} (f : α → List Value) (s : Nat) (hf : ∀ x, (f x).length = s) : ∀ (l : List α) (k : Nat), (l.flatMap f).take (k * s) = (l.take k).flatMap f
  | [], k => by simp
  | y :: l, 0 => by simp
  | y :: l, k + 1 => by
    rw [List.flatMap_cons, List.take_succ_cons, List.flatMap_cons, Nat.add_mul, List.take_append, hf]
    rw [List.take_of_length_le (by rw [hf]; omega), show k * s + 1 * s - s = k * s by omega, flat_take f s hf l k]
end Go.Proofs.YtchliiaknmknhaaGreat

-- Bdd
namespace Go.Proofs.YtchliiaknmknhaaGreat

abbrev BF := (Nat → Bool) → Bool
structure BN where
  v : Nat
  lo : Nat
  hi : Nat
/-- The function of an edge, V giving the functions of the nodes. -/
def ef (V : Nat → BF) (e : Nat) : BF := fun ρ => (e % 2 == 1) != V (e / 2) ρ
def iteF (v : Nat) (h l : BF) : BF := fun ρ => if ρ v then h ρ else l ρ
def okE (nodes : Nat → Option BN) (e : Nat) : Prop := e / 2 = 0 ∨ ∃ b, nodes (e / 2) = some b
/-- The level of an edge: n at the constants. -/
def lvE (n : Nat) (lev : Nat → Nat) (nodes : Nat → Option BN) (e : Nat) : Nat :=
  match nodes (e / 2) with
  | some b => lev b.v
  | none => n

structure Dag (n : Nat) (lev : Nat → Nat) (nodes : Nat → Option BN) (V : Nat → BF) : Prop where
  one : ∀ ρ, V 0 ρ = true
  none0 : nodes 0 = none
  var : ∀ id b, nodes id = some b → b.v < n
  inj : ∀ u v, u < n → v < n → lev u = lev v → u = v
  lt : ∀ v, v < n → lev v < n
  okLo : ∀ id b, nodes id = some b → okE nodes b.lo
  okHi : ∀ id b, nodes id = some b → okE nodes b.hi
  lvLo : ∀ id b, nodes id = some b → lev b.v < lvE n lev nodes b.lo
  lvHi : ∀ id b, nodes id = some b → lev b.v < lvE n lev nodes b.hi
  reg : ∀ id b, nodes id = some b → b.hi % 2 = 0
  ne : ∀ id b, nodes id = some b → b.lo ≠ b.hi
  uniq : ∀ id id' b, nodes id = some b → nodes id' = some b → id = id'
  eqn : ∀ id b, nodes id = some b → V id = iteF b.v (ef V b.hi) (ef V b.lo)

section
variable {n : Nat} {lev : Nat → Nat} {nodes : Nat → Option BN} {V : Nat → BF}

theorem ef_not (V : Nat → BF) (e : Nat) (ρ : Nat → Bool) : ef V (e ^^^ 1) ρ = !ef V e ρ := by
  have h1 : (e ^^^ 1) / 2 = e / 2 := by
    have := Nat.shiftRight_xor_distrib (a := e) (b := 1) (i := 1)
    simpa [Nat.shiftRight_eq_div_pow] using this
  have h2 : (e ^^^ 1) % 2 = 1 - e % 2 := by
    have := Nat.xor_mod_two_pow (a := e) (b := 1) (n := 1)
    simp at this
    rw [this]
    rcases Nat.mod_two_eq_zero_or_one e with h | h <;> rw [h] <;> rfl
  unfold ef
  rw [h1, h2]
  rcases Nat.mod_two_eq_zero_or_one e with h | h <;> rw [h] <;> simp

theorem Dag.lvE_le (h : Dag n lev nodes V) (e : Nat) : lvE n lev nodes e ≤ n := by
  unfold lvE
  split
  · rename_i b hb; exact Nat.le_of_lt (h.lt _ (h.var _ _ hb))
  · exact Nat.le_refl _

/-- An edge's function hangs on no variable above its level. -/
theorem Dag.indep (h : Dag n lev nodes V) : ∀ (k e : Nat), n - lvE n lev nodes e ≤ k → okE nodes e → ∀ ρ ρ' : Nat → Bool, (∀ v, v < n → lvE n lev nodes e ≤ lev v → ρ v = ρ' v) → ef V e ρ = ef V e ρ' := by
  intro k
  induction k with
  | zero =>
    intro e hk ho ρ ρ' _
    have h0 : e / 2 = 0 := by
      rcases ho with ho | ⟨b, hb⟩
      · exact ho
      · exfalso
        have h1 := h.lt _ (h.var _ _ hb)
        simp only [lvE, hb] at hk
        omega
    simp only [ef, h0, h.one]
  | succ k ih =>
    intro e hk ho ρ ρ' hag
    rcases ho with ho | ⟨b, hb⟩
    · simp only [ef, ho, h.one]
    · have hl : lvE n lev nodes e = lev b.v := by simp only [lvE, hb]
      rw [hl] at hk hag
      have hv := h.var _ _ hb
      have e1 : ρ b.v = ρ' b.v := hag _ hv (Nat.le_refl _)
      have e2 : ef V b.hi ρ = ef V b.hi ρ' := ih b.hi (by have := h.lvHi _ _ hb; omega) (h.okHi _ _ hb) ρ ρ' (fun v hv' hle => hag v hv' (by have := h.lvHi _ _ hb; omega))
      have e3 : ef V b.lo ρ = ef V b.lo ρ' := ih b.lo (by have := h.lvLo _ _ hb; omega) (h.okLo _ _ hb) ρ ρ' (fun v hv' hle => hag v hv' (by have := h.lvLo _ _ hb; omega))
      have : V (e / 2) ρ = V (e / 2) ρ' := by rw [h.eqn _ _ hb]; simp only [iteF, e1, e2, e3]
      simp only [ef, this]

/-- At the assignment that says yes to all, a node's function is true. -/
theorem Dag.top (h : Dag n lev nodes V) : ∀ (k id : Nat), n - lvE n lev nodes (2 * id) ≤ k → (id = 0 ∨ ∃ b, nodes id = some b) → V id (fun _ => true) = true := by
  intro k
  induction k with
  | zero =>
    intro id hk ho
    rcases ho with rfl | ⟨b, hb⟩
    · exact h.one _
    · exfalso
      have h1 := h.lt _ (h.var _ _ hb)
      have : 2 * id / 2 = id := by omega
      simp only [lvE, this, hb] at hk
      omega
  | succ k ih =>
    intro id hk ho
    rcases ho with rfl | ⟨b, hb⟩
    · exact h.one _
    · have h2 : 2 * id / 2 = id := by omega
      have hr := h.reg _ _ hb
      have hd : 2 * (b.hi / 2) = b.hi := by omega
      simp only [lvE, h2, hb] at hk
      have hl := h.lvHi _ _ hb
      have := ih (b.hi / 2) (by rw [hd]; omega) (h.okHi _ _ hb)
      rw [h.eqn _ _ hb]
      simp only [iteF, if_true, ef, hr, this]
      rfl

def upd (ρ : Nat → Bool) (v : Nat) (x : Bool) : Nat → Bool := fun u => if u = v then x else ρ u
theorem upd_same (ρ : Nat → Bool) (v : Nat) (x : Bool) : upd ρ v x v = x := by simp [upd]
theorem upd_other (ρ : Nat → Bool) {v u : Nat} (x : Bool) (h : u ≠ v) : upd ρ v x u = ρ u := by simp [upd, h]

/-- An edge below the level of v: its function does not hang on v. -/
theorem Dag.indep_var (h : Dag n lev nodes V) {e v : Nat} (ho : okE nodes e) (hl : lev v < lvE n lev nodes e) (ρ : Nat → Bool) (x : Bool) : ef V e (upd ρ v x) = ef V e ρ :=
  h.indep _ e (Nat.le_refl _) ho _ _ fun u _ hle => upd_other ρ x (by rintro rfl; omega)
theorem Dag.cofs (h : Dag n lev nodes V) {id : Nat} {b : BN} (hb : nodes id = some b) (ρ : Nat → Bool) : V id (upd ρ b.v true) = ef V b.hi ρ ∧ V id (upd ρ b.v false) = ef V b.lo ρ := by
  rw [h.eqn _ _ hb]
  simp only [iteF, upd_same, if_true, h.indep_var (h.okHi _ _ hb) (h.lvHi _ _ hb), h.indep_var (h.okLo _ _ hb) (h.lvLo _ _ hb)]
  simp

theorem okE_two {id : Nat} {b : BN} (h : nodes id = some b) : okE nodes (2 * id) := .inr ⟨b, by rw [show 2 * id / 2 = id from by omega]; exact h⟩
theorem Dag.canonK (h : Dag n lev nodes V) : ∀ (k e e' : Nat), n - lvE n lev nodes e ≤ k → n - lvE n lev nodes e' ≤ k → okE nodes e → okE nodes e' → ef V e = ef V e' → e = e' := by
  intro k
  induction k with
  | zero =>
    intro e e' hk hk' ho ho' heq
    have z : ∀ e, n - lvE n lev nodes e ≤ 0 → okE nodes e → e / 2 = 0 := by
      intro e hk ho
      rcases ho with ho | ⟨b, hb⟩
      · exact ho
      · exfalso
        have h1 := h.lt _ (h.var _ _ hb)
        simp only [lvE, hb] at hk
        omega
    have h1 := z e hk ho
    have h2 := z e' hk' ho'
    have := congrFun heq (fun _ => true)
    simp only [ef, h1, h2, h.one] at this
    have hp : e % 2 = e' % 2 := by
      rcases Nat.mod_two_eq_zero_or_one e with a | a <;> rcases Nat.mod_two_eq_zero_or_one e' with b | b <;> rw [a, b] at this <;> first | omega | simp at this
    omega
  | succ k ih =>
    intro e e' hk hk' ho ho' heq
    have t : ∀ e, okE nodes e → V (e / 2) (fun _ => true) = true := fun e ho => h.top _ _ (Nat.le_refl _) ho
    have hp : e % 2 = e' % 2 := by
      have := congrFun heq (fun _ => true)
      simp only [ef, t e ho, t e' ho'] at this
      rcases Nat.mod_two_eq_zero_or_one e with a | a <;> rcases Nat.mod_two_eq_zero_or_one e' with b | b <;> rw [a, b] at this <;> first | omega | simp at this
    have hV : V (e / 2) = V (e' / 2) := by
      funext ρ
      have := congrFun heq ρ
      simp only [ef, hp] at this
      revert this
      cases V (e / 2) ρ <;> cases V (e' / 2) ρ <;> cases (e' % 2 == 1) <;> simp
    -- a node whose function does not hang on its own variable
    have nohang : ∀ (id : Nat) (b : BN), nodes id = some b → n - lev b.v ≤ k + 1 → ¬ (∀ ρ x, V id (upd ρ b.v x) = V id ρ) := by
      intro id b hb hkb hno
      refine h.ne _ _ hb (ih b.lo b.hi (by have := h.lvLo _ _ hb; omega) (by have := h.lvHi _ _ hb; omega) (h.okLo _ _ hb) (h.okHi _ _ hb) ?_)
      funext ρ
      have := h.cofs hb ρ
      rw [← this.1, ← this.2, hno, hno]
    have key : e / 2 = e' / 2 := by
      rcases ho with h0 | ⟨b, hb⟩
      · rcases ho' with h0' | ⟨b', hb'⟩
        · omega
        · exfalso
          simp only [lvE, hb'] at hk'
          refine nohang _ _ hb' hk' fun ρ x => ?_
          rw [← hV, h0, h.one, h.one]
      · rcases ho' with h0' | ⟨b', hb'⟩
        · exfalso
          simp only [lvE, hb] at hk
          refine nohang _ _ hb hk fun ρ x => ?_
          rw [hV, h0', h.one, h.one]
        · have hl : lvE n lev nodes (2 * (e / 2)) = lev b.v := by
            have : 2 * (e / 2) / 2 = e / 2 := by omega
            simp only [lvE, this, hb]
          have hl' : lvE n lev nodes (2 * (e' / 2)) = lev b'.v := by
            have : 2 * (e' / 2) / 2 = e' / 2 := by omega
            simp only [lvE, this, hb']
          have V2 : ∀ id, ef V (2 * id) = V id := by
            intro id; funext ρ
            have h1 : 2 * id / 2 = id := by omega
            have h2 : 2 * id % 2 = 0 := by omega
            simp [ef, h1, h2]
          simp only [lvE, hb] at hk
          simp only [lvE, hb'] at hk'
          rcases Nat.lt_trichotomy (lev b.v) (lev b'.v) with hlt | heqv | hgt
          · exfalso
            refine nohang _ _ hb hk fun ρ x => ?_
            have := h.indep_var (e := 2 * (e' / 2)) (v := b.v) (okE_two hb') (by rw [hl']; exact hlt) ρ x
            rw [V2] at this
            rw [hV]; exact this
          · have hvv : b.v = b'.v := h.inj _ _ (h.var _ _ hb) (h.var _ _ hb') heqv
            have hlo : b.lo = b'.lo := by
              refine ih _ _ (by have := h.lvLo _ _ hb; omega) (by have := h.lvLo _ _ hb'; omega) (h.okLo _ _ hb) (h.okLo _ _ hb') ?_
              funext ρ
              rw [← (h.cofs hb ρ).2, ← (h.cofs hb' ρ).2, hV, hvv]
            have hhi : b.hi = b'.hi := by
              refine ih _ _ (by have := h.lvHi _ _ hb; omega) (by have := h.lvHi _ _ hb'; omega) (h.okHi _ _ hb) (h.okHi _ _ hb') ?_
              funext ρ
              rw [← (h.cofs hb ρ).1, ← (h.cofs hb' ρ).1, hV, hvv]
            have : b = b' := by cases b; cases b'; simp_all
            subst this
            exact h.uniq _ _ _ hb hb'
          · exfalso
            refine nohang _ _ hb' hk' fun ρ x => ?_
            have := h.indep_var (e := 2 * (e / 2)) (v := b'.v) (okE_two hb) (by rw [hl]; exact hgt) ρ x
            rw [V2] at this
            rw [← hV]; exact this
    omega
/-- Edges with one function are one. -/
theorem Dag.canon (h : Dag n lev nodes V) {e e' : Nat} (ho : okE nodes e) (ho' : okE nodes e') (heq : ef V e = ef V e') : e = e' :=
  h.canonK n e e' (by omega) (by omega) ho ho' heq
theorem Dag.canon_iff (h : Dag n lev nodes V) {e e' : Nat} (ho : okE nodes e) (ho' : okE nodes e') : ef V e = ef V e' ↔ e = e' :=
  ⟨h.canon ho ho', fun e => by rw [e]⟩

theorem Dag.ef0 (h : Dag n lev nodes V) : ef V 0 = fun _ => true := by funext ρ; simp [ef, h.one]
theorem Dag.ef1 (h : Dag n lev nodes V) : ef V 1 = fun _ => false := by funext ρ; simp [ef, h.one]
theorem okE_zero : okE nodes 0 := .inl rfl
theorem okE_one : okE nodes 1 := .inl rfl
theorem okE_xor {e : Nat} (h : okE nodes e) : okE nodes (e ^^^ 1) := by
  have h1 : (e ^^^ 1) / 2 = e / 2 := by
    have := Nat.shiftRight_xor_distrib (a := e) (b := 1) (i := 1)
    simpa [Nat.shiftRight_eq_div_pow] using this
  unfold okE at h ⊢
  rw [h1]; exact h

/-! A new node. -/
def addN (nodes : Nat → Option BN) (id : Nat) (b : BN) : Nat → Option BN := fun i => if i = id then some b else nodes i
def addV (V : Nat → BF) (id : Nat) (b : BN) : Nat → BF := fun i => if i = id then iteF b.v (ef V b.hi) (ef V b.lo) else V i
theorem addN_same (id : Nat) (b : BN) : addN nodes id b id = some b := by simp [addN]
theorem addN_other {i id : Nat} (b : BN) (h : i ≠ id) : addN nodes id b i = nodes i := by simp [addN, h]
theorem addN_old {i id : Nat} {b x : BN} (hf : nodes id = none) (h : nodes i = some x) : addN nodes id b i = some x := by
  rw [addN_other _ (by rintro rfl; rw [hf] at h; cases h)]; exact h
theorem okE_add {id : Nat} {b : BN} {e : Nat} (hf : nodes id = none) (h : okE nodes e) : okE (addN nodes id b) e := by
  rcases h with h | ⟨x, h⟩
  · exact .inl h
  · exact .inr ⟨x, addN_old hf h⟩
theorem lvE_add {id : Nat} {b : BN} {e : Nat} (hf : nodes id = none) (hid : id ≠ 0) (h : okE nodes e) : lvE n lev (addN nodes id b) e = lvE n lev nodes e := by
  unfold lvE
  rcases h with h | ⟨x, h⟩
  · rw [h, addN_other _ (Ne.symm hid)]
  · rw [addN_old hf h, h]
theorem ef_add {id : Nat} {b : BN} {e : Nat} (hf : nodes id = none) (hid : id ≠ 0) (h : okE nodes e) : ef (addV V id b) e = ef V e := by
  have : e / 2 ≠ id := by
    rcases h with h | ⟨x, h⟩
    · omega
    · rintro rfl; rw [hf] at h; cases h
  funext ρ
  simp only [ef, addV, if_neg this]
theorem Dag.add (h : Dag n lev nodes V) {id : Nat} {b : BN} (hf : nodes id = none) (hid : id ≠ 0) (hv : b.v < n) (hlo : okE nodes b.lo) (hhi : okE nodes b.hi)
    (llo : lev b.v < lvE n lev nodes b.lo) (lhi : lev b.v < lvE n lev nodes b.hi) (hr : b.hi % 2 = 0) (hne : b.lo ≠ b.hi) (hnew : ∀ i, nodes i ≠ some b) :
    Dag n lev (addN nodes id b) (addV V id b) := by
  have cs : ∀ i x, addN nodes id b i = some x → (i = id ∧ x = b) ∨ (i ≠ id ∧ nodes i = some x) := by
    intro i x hx
    by_cases e : i = id
    · subst e; rw [addN_same] at hx; exact .inl ⟨rfl, (Option.some.inj hx).symm⟩
    · rw [addN_other _ e] at hx; exact .inr ⟨e, hx⟩
  have L : ∀ e, okE nodes e → lvE n lev (addN nodes id b) e = lvE n lev nodes e := fun e ho => lvE_add hf hid ho
  have F : ∀ e, okE nodes e → ef (addV V id b) e = ef V e := fun e ho => ef_add hf hid ho
  refine ⟨fun ρ => ?_, ?_, ?_, h.inj, h.lt, ?_, ?_, ?_, ?_, ?_, ?_, ?_, ?_⟩
  · simp only [addV, if_neg (Ne.symm hid), h.one]
  · rw [addN_other _ (Ne.symm hid)]; exact h.none0
  · intro i x hx
    rcases cs i x hx with ⟨_, rfl⟩ | ⟨_, hx⟩
    · exact hv
    · exact h.var _ _ hx
  · intro i x hx
    rcases cs i x hx with ⟨_, rfl⟩ | ⟨_, hx⟩
    · exact okE_add hf hlo
    · exact okE_add hf (h.okLo _ _ hx)
  · intro i x hx
    rcases cs i x hx with ⟨_, rfl⟩ | ⟨_, hx⟩
    · exact okE_add hf hhi
    · exact okE_add hf (h.okHi _ _ hx)
  · intro i x hx
    rcases cs i x hx with ⟨_, rfl⟩ | ⟨_, hx⟩
    · rw [L _ hlo]; exact llo
    · rw [L _ (h.okLo _ _ hx)]; exact h.lvLo _ _ hx
  · intro i x hx
    rcases cs i x hx with ⟨_, rfl⟩ | ⟨_, hx⟩
    · rw [L _ hhi]; exact lhi
    · rw [L _ (h.okHi _ _ hx)]; exact h.lvHi _ _ hx
  · intro i x hx
    rcases cs i x hx with ⟨_, rfl⟩ | ⟨_, hx⟩
    · exact hr
    · exact h.reg _ _ hx
  · intro i x hx
    rcases cs i x hx with ⟨_, rfl⟩ | ⟨_, hx⟩
    · exact hne
    · exact h.ne _ _ hx
  · intro i j x hx hy
    rcases cs i x hx with ⟨e1, e⟩ | ⟨_, hx'⟩
    · rcases cs j x hy with ⟨e2, _⟩ | ⟨_, hy'⟩
      · rw [e1, e2]
      · subst e; exact absurd hy' (hnew _)
    · rcases cs j x hy with ⟨_, e⟩ | ⟨_, hy'⟩
      · subst e; exact absurd hx' (hnew _)
      · exact h.uniq _ _ _ hx' hy'
  · intro i x hx
    rcases cs i x hx with ⟨rfl, rfl⟩ | ⟨hne', hx⟩
    · rw [F _ hlo, F _ hhi]; simp only [addV, if_true]
    · rw [F _ (h.okLo _ _ hx), F _ (h.okHi _ _ hx)]
      simp only [addV, if_neg hne']; exact h.eqn _ _ hx

/-! Fewer nodes. -/
theorem Dag.restrict (h : Dag n lev nodes V) (nodes' : Nat → Option BN) (hsub : ∀ i b, nodes' i = some b → nodes i = some b)
    (hlo : ∀ i b, nodes' i = some b → okE nodes' b.lo ∧ okE nodes' b.hi) : Dag n lev nodes' V := by
  have h0 : nodes' 0 = none := by
    cases e : nodes' 0 with
    | none => rfl
    | some b => have := hsub _ _ e; rw [h.none0] at this; cases this
  have L : ∀ e, okE nodes' e → lvE n lev nodes' e = lvE n lev nodes e := by
    intro e ho
    unfold lvE
    rcases ho with ho | ⟨x, ho⟩
    · rw [ho, h0, h.none0]
    · rw [ho, hsub _ _ ho]
  exact ⟨h.one, h0, fun i b hb => h.var i b (hsub _ _ hb), h.inj, h.lt, fun i b hb => (hlo i b hb).1, fun i b hb => (hlo i b hb).2,
    fun i b hb => by rw [L _ (hlo i b hb).1]; exact h.lvLo i b (hsub _ _ hb), fun i b hb => by rw [L _ (hlo i b hb).2]; exact h.lvHi i b (hsub _ _ hb),
    fun i b hb => h.reg i b (hsub _ _ hb), fun i b hb => h.ne i b (hsub _ _ hb), fun i j b hi hj => h.uniq i j b (hsub _ _ hi) (hsub _ _ hj), fun i b hb => h.eqn i b (hsub _ _ hb)⟩
end
end Go.Proofs.YtchliiaknmknhaaGreat

-- Swap
namespace Go.Proofs.YtchliiaknmknhaaGreat

section
variable {n : Nat} {lev : Nat → Nat} {N0 : Nat → Option BN} {V0 : Nat → BF} {x y : Nat}

def swLev (lev : Nat → Nat) (x y : Nat) : Nat → Nat := fun v => if v = x then lev y else if v = y then lev x else lev v
/-- An edge to a node of y. -/
def isV (N : Nat → Option BN) (y e : Nat) : Prop := ∃ c, N (e / 2) = some c ∧ c.v = y
/-- The nodes of x that hang on y. -/
def Turns (N : Nat → Option BN) (x y : Nat) (i : Nat) : Prop := ∃ b, N i = some b ∧ b.v = x ∧ (isV N y b.lo ∨ isV N y b.hi)
/-- An edge below both levels. -/
def lowE (n : Nat) (lev : Nat → Nat) (N : Nat → Option BN) (y e : Nat) : Prop := okE N e ∧ lev y < lvE n lev N e
/-- An edge below y once the levels are exchanged. -/
def midE (n : Nat) (lev : Nat → Nat) (N0 N : Nat → Option BN) (x y e : Nat) : Prop := lowE n lev N0 y e ∨ ∃ c, N (e / 2) = some c ∧ c.v = x ∧ ¬ Turns N0 x y (e / 2)

structure MidSw (n : Nat) (lev : Nat → Nat) (N0 : Nat → Option BN) (V0 : Nat → BF) (x y : Nat) (done : Nat → Prop) (N : Nat → Option BN) (V : Nat → BF) : Prop where
  n0 : N 0 = none
  ext : ∀ i, (i = 0 ∨ ∃ b, N0 i = some b) → V i = V0 i
  keep : ∀ i b, N0 i = some b → ¬ done i → N i = some b
  fresh : ∀ i b, N i = some b → N0 i = none → b.v = x ∧ lowE n lev N0 y b.lo ∧ lowE n lev N0 y b.hi ∧ b.hi % 2 = 0 ∧ b.lo ≠ b.hi ∧ V i = iteF x (ef V0 b.hi) (ef V0 b.lo)
  dn : ∀ i, done i → Turns N0 x y i ∧ ∃ b, N i = some b ∧ b.v = y ∧ midE n lev N0 N x y b.lo ∧ midE n lev N0 N x y b.hi ∧ b.hi % 2 = 0 ∧ b.lo ≠ b.hi ∧ V0 i = iteF y (ef V b.hi) (ef V b.lo)
  xu : ∀ i j b, N i = some b → N j = some b → b.v = x → ¬ Turns N0 x y i → ¬ Turns N0 x y j → i = j

theorem efExt {V : Nat → BF} (hext : ∀ i, (i = 0 ∨ ∃ b, N0 i = some b) → V i = V0 i) {e : Nat} (h : okE N0 e) : ef V e = ef V0 e := by
  funext ρ
  simp only [ef, hext _ h]

theorem MidSw.start (h : Dag n lev N0 V0) (x y : Nat) : MidSw n lev N0 V0 x y (fun _ => False) N0 V0 :=
  ⟨h.none0, fun _ _ => rfl, fun _ _ h _ => h, fun i b hb hn => by (rw [hn] at hb; cases hb), fun _ h => h.elim, fun i j b hi hj _ _ _ => h.uniq i j b hi hj⟩

variable {done : Nat → Prop} {N : Nat → Option BN} {V : Nat → BF}

theorem MidSw.has (m : MidSw n lev N0 V0 x y done N V) {i : Nat} {b : BN} (hb : N0 i = some b) : ∃ b', N i = some b' := by
  by_cases hd : done i
  · obtain ⟨_, b', hb', _⟩ := m.dn i hd; exact ⟨b', hb'⟩
  · exact ⟨b, m.keep i b hb hd⟩

/-- A new node of x. -/
theorem MidSw.add (m : MidSw n lev N0 V0 x y done N V) {id : Nat} {b : BN} (hf : N id = none) (hid : id ≠ 0) (hv : b.v = x)
    (hlo : lowE n lev N0 y b.lo) (hhi : lowE n lev N0 y b.hi) (hr : b.hi % 2 = 0) (hne : b.lo ≠ b.hi) (hnew : ∀ i, ¬ Turns N0 x y i → N i ≠ some b) :
    MidSw n lev N0 V0 x y done (addN N id b) (addV V id b) := by
  have hf0 : N0 id = none := by
    cases e : N0 id with
    | none => rfl
    | some c => obtain ⟨b', hb'⟩ := m.has e; rw [hf] at hb'; cases hb'
  have ne0 : ∀ i, (i = 0 ∨ ∃ b, N0 i = some b) → i ≠ id := by
    rintro i (rfl | ⟨c, hc⟩)
    · exact Ne.symm hid
    · rintro rfl; rw [hf0] at hc; cases hc
  have cs : ∀ i c, addN N id b i = some c → (i = id ∧ c = b) ∨ (i ≠ id ∧ N i = some c) := by
    intro i c hx
    by_cases e : i = id
    · subst e; rw [addN_same] at hx; exact .inl ⟨rfl, (Option.some.inj hx).symm⟩
    · rw [addN_other _ e] at hx; exact .inr ⟨e, hx⟩
  have hext : ∀ i, (i = 0 ∨ ∃ b, N0 i = some b) → addV V id b i = V0 i := fun i hi => by
    simp only [addV, if_neg (ne0 i hi)]; exact m.ext i hi
  refine ⟨by rw [addN_other _ (Ne.symm hid)]; exact m.n0, hext, ?_, ?_, ?_, ?_⟩
  · intro i c hc hd
    rw [addN_other _ (ne0 i (.inr ⟨c, hc⟩))]; exact m.keep i c hc hd
  · intro i c hc hn
    rcases cs i c hc with ⟨e1, e2⟩ | ⟨hne', hc'⟩
    · subst e1; subst e2
      exact ⟨hv, hlo, hhi, hr, hne, by simp only [addV, if_true, hv, efExt m.ext hlo.1, efExt m.ext hhi.1]⟩
    · obtain ⟨h1, h2, h3, h4, h5, h6⟩ := m.fresh i c hc' hn
      exact ⟨h1, h2, h3, h4, h5, by simp only [addV, if_neg hne']; exact h6⟩
  · intro i hd
    obtain ⟨hT, c, hc, h1, h2, h3, h4, h5, h6⟩ := m.dn i hd
    have hmid : ∀ e, midE n lev N0 N x y e → midE n lev N0 (addN N id b) x y e ∧ ef (addV V id b) e = ef V e := by
      rintro e (hl | ⟨d, hd1, hd2, hd3⟩)
      · exact ⟨.inl hl, by rw [efExt hext hl.1, efExt m.ext hl.1]⟩
      · have hne' : e / 2 ≠ id := by rintro e'; rw [e', hf] at hd1; cases hd1
        refine ⟨.inr ⟨d, by rw [addN_other _ hne']; exact hd1, hd2, hd3⟩, ?_⟩
        funext ρ; simp only [ef, addV, if_neg hne']
    have hii : i ≠ id := ne0 i (.inr (by obtain ⟨q, hq, _⟩ := hT; exact ⟨q, hq⟩))
    exact ⟨hT, c, by rw [addN_other _ hii]; exact hc, h1, (hmid _ h2).1, (hmid _ h3).1, h4, h5, by rw [(hmid _ h2).2, (hmid _ h3).2]; exact h6⟩
  · intro i j c hi hj hcx ti tj
    rcases cs i c hi with ⟨e1, e2⟩ | ⟨_, hi'⟩
    · rcases cs j c hj with ⟨e3, _⟩ | ⟨_, hj'⟩
      · rw [e1, e3]
      · subst e2; exact absurd hj' (hnew j tj)
    · rcases cs j c hj with ⟨_, e2⟩ | ⟨_, hj'⟩
      · subst e2; exact absurd hi' (hnew i ti)
      · exact m.xu i j c hi' hj' hcx ti tj

def setN (N : Nat → Option BN) (i : Nat) (b : BN) : Nat → Option BN := fun j => if j = i then some b else N j

/-- One of the nodes that hang on y is turned. -/
theorem MidSw.turn (m : MidSw n lev N0 V0 x y done N V) (hxy : x ≠ y) {i lo hi : Nat} (hT : Turns N0 x y i) (hlo : midE n lev N0 N x y lo) (hhi : midE n lev N0 N x y hi) (hr : hi % 2 = 0) (hne : lo ≠ hi)
    (hV : V0 i = iteF y (ef V hi) (ef V lo)) : MidSw n lev N0 V0 x y (fun j => done j ∨ j = i) (setN N i ⟨y, lo, hi⟩) V := by
  obtain ⟨b0, hb0, hbx, hby⟩ := hT
  have hT : Turns N0 x y i := ⟨b0, hb0, hbx, hby⟩
  have hi0 : i ≠ 0 := by
    rintro rfl
    obtain ⟨b', hb'⟩ := m.has hb0
    rw [m.n0] at hb'; cases hb'
  have cs : ∀ j c, setN N i ⟨y, lo, hi⟩ j = some c → (j = i ∧ c = ⟨y, lo, hi⟩) ∨ (j ≠ i ∧ N j = some c) := by
    intro j c hx
    by_cases e : j = i
    · subst e; simp only [setN, if_true, Option.some.injEq] at hx; exact .inl ⟨rfl, hx.symm⟩
    · simp only [setN, if_neg e] at hx; exact .inr ⟨e, hx⟩
  have hmid : ∀ e, midE n lev N0 N x y e → midE n lev N0 (setN N i ⟨y, lo, hi⟩) x y e := by
    rintro e (hl | ⟨d, hd1, hd2, hd3⟩)
    · exact .inl hl
    · have hne' : e / 2 ≠ i := by rintro e'; rw [e'] at hd3; exact hd3 hT
      exact .inr ⟨d, by simp only [setN, if_neg hne']; exact hd1, hd2, hd3⟩
  refine ⟨by simp only [setN, if_neg (Ne.symm hi0)]; exact m.n0, m.ext, ?_, ?_, ?_, ?_⟩
  · intro j c hc hd
    have hji : j ≠ i := fun e => hd (.inr e)
    simp only [setN, if_neg hji]
    exact m.keep j c hc (fun h => hd (.inl h))
  · intro j c hc hn
    rcases cs j c hc with ⟨e1, _⟩ | ⟨_, hc'⟩
    · subst e1; rw [hb0] at hn; cases hn
    · exact m.fresh j c hc' hn
  · intro j hd
    by_cases e : j = i
    · subst e
      exact ⟨hT, ⟨y, lo, hi⟩, by simp only [setN, if_true], rfl, hmid _ hlo, hmid _ hhi, hr, hne, hV⟩
    · obtain ⟨hTj, c, hc, h1, h2, h3, h4, h5, h6⟩ := m.dn j (hd.resolve_right e)
      exact ⟨hTj, c, by simp only [setN, if_neg e]; exact hc, h1, hmid _ h2, hmid _ h3, h4, h5, h6⟩
  · intro j k c hj hk hcx tj tk
    rcases cs j c hj with ⟨e1, e2⟩ | ⟨_, hj'⟩
    · subst e2; exact absurd hcx.symm hxy
    · rcases cs k c hk with ⟨e1, e2⟩ | ⟨_, hk'⟩
      · subst e2; exact absurd hcx.symm hxy
      · exact m.xu j k c hj' hk' hcx tj tk

theorem swLev_x (lev : Nat → Nat) (x y : Nat) : swLev lev x y x = lev y := by simp [swLev]
theorem swLev_y (lev : Nat → Nat) {x y : Nat} (h : x ≠ y) : swLev lev x y y = lev x := by simp [swLev, Ne.symm h]
theorem swLev_o (lev : Nat → Nat) {x y v : Nat} (hx : v ≠ x) (hy : v ≠ y) : swLev lev x y v = lev v := by simp [swLev, hx, hy]

theorem lowE_some {e : Nat} (hxl : lev x < lev y) (hl : lowE n lev N0 y e) {c : BN} (hc : N0 (e / 2) = some c) : c.v ≠ x ∧ c.v ≠ y := by
  have := hl.2
  simp only [lvE, hc] at this
  exact ⟨by rintro e; rw [e] at this; omega, by rintro e; rw [e] at this; omega⟩

/-- When all are turned the diagram stands in the new order. -/
theorem MidSw.final (h : Dag n lev N0 V0) (hx : x < n) (hy : y < n) (hl : lev y = lev x + 1) (m : MidSw n lev N0 V0 x y done N V) (hall : ∀ i, Turns N0 x y i → done i) : Dag n (swLev lev x y) N V := by
  have hxy : x ≠ y := by rintro rfl; omega
  have hlt : lev x < lev y := by omega
  -- every node of N is of one of these kinds
  have kinds : ∀ i b, N i = some b → (N0 i = none ∧ b.v = x ∧ lowE n lev N0 y b.lo ∧ lowE n lev N0 y b.hi ∧ b.hi % 2 = 0 ∧ b.lo ≠ b.hi ∧ V i = iteF x (ef V0 b.hi) (ef V0 b.lo)) ∨
      (Turns N0 x y i ∧ b.v = y ∧ midE n lev N0 N x y b.lo ∧ midE n lev N0 N x y b.hi ∧ b.hi % 2 = 0 ∧ b.lo ≠ b.hi ∧ V0 i = iteF y (ef V b.hi) (ef V b.lo)) ∨
      (N0 i = some b ∧ ¬ Turns N0 x y i) := by
    intro i b hb
    cases e : N0 i with
    | none => exact .inl ⟨rfl, m.fresh i b hb e⟩
    | some c =>
      right
      by_cases hd : done i
      · obtain ⟨hT, b', hb', rest⟩ := m.dn i hd
        obtain rfl : b' = b := Option.some.inj (hb'.symm.trans hb)
        exact .inl ⟨hT, rest⟩
      · have := m.keep i c e hd
        obtain rfl : c = b := Option.some.inj (this.symm.trans hb)
        exact .inr ⟨rfl, fun hT => hd (hall i hT)⟩
  -- an old edge below both levels stands as it stood
  have low : ∀ e, lowE n lev N0 y e → okE N e ∧ lvE n (swLev lev x y) N e = lvE n lev N0 e ∧ ef V e = ef V0 e := by
    intro e he
    refine ⟨?_, ?_, efExt m.ext he.1⟩
    · rcases he.1 with h0 | ⟨c, hc⟩
      · exact .inl h0
      · obtain ⟨b', hb'⟩ := m.has hc; exact .inr ⟨b', hb'⟩
    · rcases he.1 with h0 | ⟨c, hc⟩
      · simp only [lvE, h0, m.n0, h.none0]
      · have hcv := lowE_some hlt he hc
        have hnd : ¬ done (e / 2) := fun hd => by
          obtain ⟨⟨q, hq, hqx, _⟩, _⟩ := m.dn _ hd
          rw [hc] at hq; cases hq; exact hcv.1 hqx
        simp only [lvE, m.keep _ _ hc hnd, hc, swLev_o lev hcv.1 hcv.2]
  have mid : ∀ e, midE n lev N0 N x y e → okE N e ∧ lev x < lvE n (swLev lev x y) N e := by
    rintro e (he | ⟨c, hc, hcx, _⟩)
    · obtain ⟨h1, h2, _⟩ := low e he
      exact ⟨h1, by rw [h2]; have := he.2; omega⟩
    · exact ⟨.inr ⟨c, hc⟩, by simp only [lvE, hc, hcx, swLev_x]; omega⟩
  -- an old edge of an old node that was not turned
  have old : ∀ i b e, N0 i = some b → ¬ Turns N0 x y i → (e = b.lo ∨ e = b.hi) → okE N e ∧ swLev lev x y b.v < lvE n (swLev lev x y) N e ∧ ef V e = ef V0 e := by
    intro i b e hb hnT he
    have ho : okE N0 e := by rcases he with rfl | rfl; exact h.okLo _ _ hb; exact h.okHi _ _ hb
    have hlv : lev b.v < lvE n lev N0 e := by rcases he with rfl | rfl; exact h.lvLo _ _ hb; exact h.lvHi _ _ hb
    have hny : b.v = x → ¬ isV N0 y e := fun hbx hiv => hnT ⟨b, hb, hbx, by rcases he with rfl | rfl; exact .inl hiv; exact .inr hiv⟩
    refine ⟨?_, ?_, efExt m.ext ho⟩
    · rcases ho with h0 | ⟨c, hc⟩
      · exact .inl h0
      · obtain ⟨b', hb'⟩ := m.has hc; exact .inr ⟨b', hb'⟩
    · by_cases hbx : b.v = x
      · have hlow : lowE n lev N0 y e := by
          refine ⟨ho, ?_⟩
          rw [hbx] at hlv
          rcases ho with h0 | ⟨c, hc⟩
          · simp only [lvE, h0, h.none0] at hlv ⊢; exact h.lt y hy
          · simp only [lvE, hc] at hlv ⊢
            have : c.v ≠ y := fun e' => hny hbx ⟨c, hc, e'⟩
            have h2 : lev c.v ≠ lev y := fun e' => this (h.inj _ _ (h.var _ _ hc) hy e')
            omega
        rw [(low e hlow).2.1, hbx, swLev_x]; exact hlow.2
      · by_cases hby : b.v = y
        · have hlow : lowE n lev N0 y e := ⟨ho, by rw [hby] at hlv; exact hlv⟩
          rw [(low e hlow).2.1, hby, swLev_y lev hxy]; have := hlow.2; omega
        · rw [swLev_o lev hbx hby]
          rcases ho with h0 | ⟨c, hc⟩
          · simp only [lvE, h0, m.n0]; exact h.lt _ (h.var _ _ hb)
          · simp only [lvE, hc] at hlv
            have hcn := h.var _ _ hc
            by_cases hd : done (e / 2)
            · obtain ⟨⟨q, hq, hqx, _⟩, b', hb', hb'y, _⟩ := m.dn _ hd
              rw [hc] at hq; cases hq
              simp only [lvE, hb', hb'y, swLev_y lev hxy]
              rw [hqx] at hlv; exact hlv
            · simp only [lvE, m.keep _ _ hc hd]
              by_cases hcx : c.v = x
              · rw [hcx, swLev_x]; rw [hcx] at hlv; omega
              · by_cases hcy : c.v = y
                · rw [hcy, swLev_y lev hxy]
                  rw [hcy] at hlv
                  have h2 : lev b.v ≠ lev x := fun e' => hbx (h.inj _ _ (h.var _ _ hb) hx e')
                  omega
                · rw [swLev_o lev hcx hcy]; exact hlv
  refine ⟨fun ρ => by rw [m.ext 0 (.inl rfl)]; exact h.one ρ, m.n0, ?_, ?_, ?_, ?_, ?_, ?_, ?_, ?_, ?_, ?_, ?_⟩
  · intro i b hb
    rcases kinds i b hb with ⟨_, hv, _⟩ | ⟨_, hv, _⟩ | ⟨h0, _⟩
    · rw [hv]; exact hx
    · rw [hv]; exact hy
    · exact h.var _ _ h0
  · intro u v hu hv he
    have hs : ∀ u, u < n → swLev lev x y u = lev (if u = x then y else if u = y then x else u) := by
      intro u _; simp only [swLev]; (split; · rfl); split <;> rfl
    have hb : ∀ u, u < n → (if u = x then y else if u = y then x else u) < n := by
      intro u hu; (split; · exact hy); (split; · exact hx); exact hu
    rw [hs u hu, hs v hv] at he
    have := h.inj _ _ (hb u hu) (hb v hv) he
    by_cases a : u = x
    · rw [if_pos a] at this
      by_cases b : v = x
      · rw [a, b]
      · rw [if_neg b] at this
        by_cases c : v = y
        · rw [if_pos c] at this; exact absurd this.symm hxy
        · rw [if_neg c] at this; exact absurd this.symm c
    · rw [if_neg a] at this
      by_cases b : v = x
      · rw [if_pos b] at this
        by_cases c : u = y
        · rw [if_pos c] at this; exact absurd this hxy
        · rw [if_neg c] at this; exact absurd this c
      · rw [if_neg b] at this
        by_cases c : u = y
        · rw [if_pos c] at this
          by_cases d : v = y
          · rw [c, d]
          · rw [if_neg d] at this; exact absurd this.symm b
        · rw [if_neg c] at this
          by_cases d : v = y
          · rw [if_pos d] at this; exact absurd this a
          · rw [if_neg d] at this; exact this
  · intro v hv
    simp only [swLev]
    split
    · exact h.lt y hy
    · split
      · exact h.lt x hx
      · exact h.lt v hv
  · intro i b hb
    rcases kinds i b hb with ⟨_, _, hlo, _⟩ | ⟨_, _, hlo, _⟩ | ⟨h0, hnT⟩
    · exact (low _ hlo).1
    · exact (mid _ hlo).1
    · exact (old i b b.lo h0 hnT (.inl rfl)).1
  · intro i b hb
    rcases kinds i b hb with ⟨_, _, _, hhi, _⟩ | ⟨_, _, _, hhi, _⟩ | ⟨h0, hnT⟩
    · exact (low _ hhi).1
    · exact (mid _ hhi).1
    · exact (old i b b.hi h0 hnT (.inr rfl)).1
  · intro i b hb
    rcases kinds i b hb with ⟨_, hv, hlo, _⟩ | ⟨_, hv, hlo, _⟩ | ⟨h0, hnT⟩
    · rw [hv, swLev_x, (low _ hlo).2.1]; exact hlo.2
    · rw [hv, swLev_y lev hxy]; exact (mid _ hlo).2
    · exact (old i b b.lo h0 hnT (.inl rfl)).2.1
  · intro i b hb
    rcases kinds i b hb with ⟨_, hv, _, hhi, _⟩ | ⟨_, hv, _, hhi, _⟩ | ⟨h0, hnT⟩
    · rw [hv, swLev_x, (low _ hhi).2.1]; exact hhi.2
    · rw [hv, swLev_y lev hxy]; exact (mid _ hhi).2
    · exact (old i b b.hi h0 hnT (.inr rfl)).2.1
  · intro i b hb
    rcases kinds i b hb with ⟨_, _, _, _, hr, _⟩ | ⟨_, _, _, _, hr, _⟩ | ⟨h0, _⟩
    · exact hr
    · exact hr
    · exact h.reg _ _ h0
  · intro i b hb
    rcases kinds i b hb with ⟨_, _, _, _, _, hne, _⟩ | ⟨_, _, _, _, _, hne, _⟩ | ⟨h0, _⟩
    · exact hne
    · exact hne
    · exact h.ne _ _ h0
  · intro i j b hi hj
    have yFn : ∀ i, N i = some b → b.v = y → (∃ c, N0 i = some c) ∧ V0 i = iteF y (ef V b.hi) (ef V b.lo) := by
      intro i hi hv
      rcases kinds i b hi with ⟨_, hvx, _⟩ | ⟨⟨q, hq, _⟩, _, _, _, _, _, hV⟩ | ⟨h0, hnT⟩
      · rw [hv] at hvx; exact absurd hvx.symm hxy
      · exact ⟨⟨q, hq⟩, hV⟩
      · refine ⟨⟨b, h0⟩, ?_⟩
        rw [(old i b b.lo h0 hnT (.inl rfl)).2.2, (old i b b.hi h0 hnT (.inr rfl)).2.2, ← hv]; exact h.eqn _ _ h0
    have xT : b.v = x → ∀ i, N i = some b → ¬ Turns N0 x y i := by
      intro hv i hi hT
      obtain ⟨_, b', hb', hb'y, _⟩ := m.dn i (hall i hT)
      rw [hi] at hb'; cases hb'
      rw [hv] at hb'y; exact hxy hb'y
    by_cases hvx : b.v = x
    · exact m.xu i j b hi hj hvx (xT hvx i hi) (xT hvx j hj)
    · by_cases hvy : b.v = y
      · obtain ⟨⟨c, hc⟩, e1⟩ := yFn i hi hvy
        obtain ⟨⟨d, hd⟩, e2⟩ := yFn j hj hvy
        have : 2 * i = 2 * j := by
          refine h.canon (okE_two hc) (okE_two hd) ?_
          funext ρ
          have h1 : 2 * i / 2 = i := by omega
          have h2 : 2 * j / 2 = j := by omega
          have h3 : 2 * i % 2 = 0 := by omega
          have h4 : 2 * j % 2 = 0 := by omega
          simp only [ef, h1, h2, h3, h4, e1, e2]
        omega
      · have o : ∀ i, N i = some b → N0 i = some b := by
          intro i hi
          rcases kinds i b hi with ⟨_, hv, _⟩ | ⟨_, hv, _⟩ | ⟨h0, _⟩
          · exact absurd hv hvx
          · exact absurd hv hvy
          · exact h0
        exact h.uniq i j b (o i hi) (o j hj)
  · intro i b hb
    rcases kinds i b hb with ⟨_, hv, hlo, hhi, _, _, hV⟩ | ⟨hT, hv, _, _, _, _, hV⟩ | ⟨h0, hnT⟩
    · rw [hV, hv, (low _ hlo).2.2, (low _ hhi).2.2]
    · obtain ⟨q, hq, _⟩ := hT
      rw [m.ext i (.inr ⟨q, hq⟩), hV, hv]
    · rw [m.ext i (.inr ⟨b, h0⟩), (old i b b.lo h0 hnT (.inl rfl)).2.2, (old i b b.hi h0 hnT (.inr rfl)).2.2]; exact h.eqn _ _ h0
end
end Go.Proofs.YtchliiaknmknhaaGreat

-- Cnt
namespace Go.Proofs.YtchliiaknmknhaaGreat

/-- The sum over the numbers below k. -/
def sumTo : Nat → (Nat → Int) → Int
  | 0, _ => 0
  | k + 1, f => sumTo k f + f k
theorem sumTo_congr {f g : Nat → Int} : ∀ (k : Nat), (∀ i, i < k → f i = g i) → sumTo k f = sumTo k g
  | 0, _ => rfl
  | k + 1, h => by rw [sumTo, sumTo, sumTo_congr k (fun i hi => h i (by omega)), h k (by omega)]
theorem sumTo_zero : ∀ (k : Nat), sumTo k (fun _ => 0) = 0
  | 0 => rfl
  | k + 1 => by rw [sumTo, sumTo_zero k]; rfl
/-- Turning one summand. -/
theorem sumTo_upd {f g : Nat → Int} {j : Nat} (hfg : ∀ i, i ≠ j → g i = f i) : ∀ (k : Nat), j < k → sumTo k g = sumTo k f + (g j - f j)
  | 0, h => by omega
  | k + 1, h => by
    rw [sumTo, sumTo]
    by_cases e : j = k
    · subst e
      rw [sumTo_congr j (fun i hi => hfg i (by omega))]; omega
    · rw [sumTo_upd hfg k (by omega), hfg k (Ne.symm e)]; omega
theorem sumTo_nonneg {f : Nat → Int} : ∀ (k : Nat), (∀ i, i < k → 0 ≤ f i) → 0 ≤ sumTo k f
  | 0, _ => Int.le_refl 0
  | k + 1, h => by rw [sumTo]; have := sumTo_nonneg k (fun i hi => h i (by omega)); have := h k (by omega); omega
theorem sumTo_ge {f : Nat → Int} {j : Nat} : ∀ (k : Nat), (∀ i, i < k → 0 ≤ f i) → j < k → f j ≤ sumTo k f
  | 0, _, h => by omega
  | k + 1, h, hj => by
    rw [sumTo]
    by_cases e : j = k
    · subst e; have := sumTo_nonneg j (fun i hi => h i (by omega)); omega
    · have := sumTo_ge k (fun i hi => h i (by omega)) (j := j) (by omega); have := h k (by omega); omega
theorem sumTo_more {f : Nat → Int} (k : Nat) : ∀ (m : Nat), (∀ i, k ≤ i → f i = 0) → sumTo (k + m) f = sumTo k f
  | 0, _ => rfl
  | m + 1, h => by rw [← Nat.add_assoc, sumTo, sumTo_more k m h, h (k + m) (by omega)]; omega
theorem sumTo_ext {f : Nat → Int} {k k' : Nat} (h : ∀ i, k ≤ i → f i = 0) (hk : k ≤ k') : sumTo k' f = sumTo k f := by
  obtain ⟨m, rfl⟩ := Nat.le.dest hk; exact sumTo_more k m h

/-- Does the edge e lead to node x? -/
def toE (e x : Nat) : Int := if e / 2 = x then 1 else 0
theorem toE_nonneg (e x : Nat) : 0 ≤ toE e x := by unfold toE; split <;> omega
theorem toE_hit (e : Nat) : toE e (e / 2) = 1 := by simp [toE]
def edgesOf (b : BN) (x : Nat) : Int := toE b.lo x + toE b.hi x
/-- What node p, if live, adds to the count of node x. -/
def from1 (N : Nat → Option BN) (c : Nat → Nat) (x p : Nat) : Int :=
  match N p with
  | some b => if 0 < c p then edgesOf b x else 0
  | none => 0
theorem from1_nonneg (N : Nat → Option BN) (c : Nat → Nat) (x p : Nat) : 0 ≤ from1 N c x p := by
  unfold from1 edgesOf
  split
  · rename_i b _; have := toE_nonneg b.lo x; have := toE_nonneg b.hi x; split <;> omega
  · omega
/-- The counts are: what lies outside, and the edges from live nodes. All nodes lie below k. -/
structure Cnt (k : Nat) (N : Nat → Option BN) (c : Nat → Nat) (ext : Nat → Int) : Prop where
  lt : ∀ i b, N i = some b → i < k
  eq : ∀ x b, N x = some b → (c x : Int) = ext x + sumTo k (from1 N c x)

def bump (f : Nat → Int) (x : Nat) (d : Int) : Nat → Int := fun i => if i = x then f i + d else f i
def setC (c : Nat → Nat) (x v : Nat) : Nat → Nat := fun i => if i = x then v else c i
def addE (f : Nat → Int) (e : Nat) (d : Int) : Nat → Int := fun i => f i + d * toE e i

section
variable {k : Nat} {N : Nat → Option BN} {c : Nat → Nat} {ext : Nat → Int}

theorem Cnt.congr (h : Cnt k N c ext) {ext' : Nat → Int} (he : ∀ x b, N x = some b → ext' x = ext x) : Cnt k N c ext' :=
  ⟨h.lt, fun x b hb => by rw [he x b hb]; exact h.eq x b hb⟩
theorem Cnt.weaken (h : Cnt k N c ext) {k' : Nat} (hk : k ≤ k') : Cnt k' N c ext :=
  ⟨fun i b hb => Nat.lt_of_lt_of_le (h.lt i b hb) hk, fun x b hb => by
    rw [h.eq x b hb, sumTo_ext (fun i hi => by
      unfold from1
      cases e : N i with
      | none => rfl
      | some b => have := h.lt i b e; omega) hk]⟩

/-- One reference more to a node that is live. -/
theorem Cnt.moreLive (h : Cnt k N c ext) {x : Nat} (hc : 0 < c x) : Cnt k N (setC c x (c x + 1)) (bump ext x 1) := by
  refine ⟨h.lt, fun z b hb => ?_⟩
  have e1 : sumTo k (from1 N (setC c x (c x + 1)) z) = sumTo k (from1 N c z) := sumTo_congr k fun i _ => by
    unfold from1
    cases N i with
    | none => rfl
    | some b =>
      by_cases e : i = x
      · subst e; simp only [setC, if_true, hc, show 0 < c i + 1 from by omega]
      · simp only [setC, if_neg e]
  rw [e1]
  have := h.eq z b hb
  by_cases e : z = x
  · subst e; simp only [setC, bump, if_true]; omega
  · simp only [setC, bump, if_neg e]; exact this
/-- One reference to a node that was dead: it counts its own edges from now on. -/
theorem Cnt.moreDead (h : Cnt k N c ext) {x : Nat} {b : BN} (hx : N x = some b) (hc : c x = 0) :
    Cnt k N (setC c x 1) (addE (addE (bump ext x 1) b.lo (-1)) b.hi (-1)) := by
  refine ⟨h.lt, fun z b' hb' => ?_⟩
  have e1 : sumTo k (from1 N (setC c x 1) z) = sumTo k (from1 N c z) + (from1 N (setC c x 1) z x - from1 N c z x) := by
    refine sumTo_upd (fun i hi => ?_) k (h.lt x b hx)
    unfold from1
    simp only [setC, if_neg hi]
  have e2 : from1 N (setC c x 1) z x = edgesOf b z := by simp [from1, hx, setC]
  have e3 : from1 N c z x = 0 := by simp [from1, hx, hc]
  rw [e1, e2, e3]
  have := h.eq z b' hb'
  unfold edgesOf
  simp only [addE, bump, setC]
  by_cases e : z = x
  · subst e; simp only [if_true]; omega
  · simp only [if_neg e]; omega
/-- One reference fewer, and still live. -/
theorem Cnt.lessLive (h : Cnt k N c ext) {x : Nat} (hc : 1 < c x) : Cnt k N (setC c x (c x - 1)) (bump ext x (-1)) := by
  refine ⟨h.lt, fun z b hb => ?_⟩
  have e1 : sumTo k (from1 N (setC c x (c x - 1)) z) = sumTo k (from1 N c z) := sumTo_congr k fun i _ => by
    unfold from1
    cases N i with
    | none => rfl
    | some b =>
      by_cases e : i = x
      · subst e; simp only [setC, if_true, show 0 < c i from by omega, show 0 < c i - 1 from by omega]
      · simp only [setC, if_neg e]
  rw [e1]
  have := h.eq z b hb
  by_cases e : z = x
  · subst e; simp only [setC, bump, if_true]; omega
  · simp only [setC, bump, if_neg e]; exact this
/-- The last reference goes. -/
theorem Cnt.lessDies (h : Cnt k N c ext) {x : Nat} {b : BN} (hx : N x = some b) (hc : c x = 1) :
    Cnt k N (setC c x 0) (addE (addE (bump ext x (-1)) b.lo 1) b.hi 1) := by
  refine ⟨h.lt, fun z b' hb' => ?_⟩
  have e1 : sumTo k (from1 N (setC c x 0) z) = sumTo k (from1 N c z) + (from1 N (setC c x 0) z x - from1 N c z x) := by
    refine sumTo_upd (fun i hi => ?_) k (h.lt x b hx)
    unfold from1
    simp only [setC, if_neg hi]
  have e2 : from1 N (setC c x 0) z x = 0 := by simp [from1, hx, setC]
  have e3 : from1 N c z x = edgesOf b z := by simp [from1, hx, hc]
  rw [e1, e2, e3]
  have := h.eq z b' hb'
  unfold edgesOf
  simp only [addE, bump, setC]
  by_cases e : z = x
  · subst e; simp only [if_true]; omega
  · simp only [if_neg e]; omega
/-- A node to which something leads counts at least one. -/
theorem Cnt.pos_of_ext (h : Cnt k N c ext) {x : Nat} {b : BN} (hx : N x = some b) (he : 1 ≤ ext x) : 0 < c x := by
  have := h.eq x b hx
  have h2 : 0 ≤ sumTo k (from1 N c x) := sumTo_nonneg k fun i _ => from1_nonneg N c x i
  omega
theorem Cnt.pos_of_live (h : Cnt k N c ext) {p : Nat} {bp : BN} (hp : N p = some bp) (hc : 0 < c p) {e : Nat} (he : e = bp.lo ∨ e = bp.hi) {b : BN} (hx : N (e / 2) = some b) (h0 : 0 ≤ ext (e / 2)) : 0 < c (e / 2) := by
  have := h.eq _ b hx
  have h2 : from1 N c (e / 2) p ≤ sumTo k (from1 N c (e / 2)) := sumTo_ge k (fun i _ => from1_nonneg N c _ i) (h.lt p bp hp)
  have h3 : 1 ≤ from1 N c (e / 2) p := by
    simp only [from1, hp, hc, if_true, edgesOf]
    have a := toE_nonneg bp.lo (e / 2)
    have b := toE_nonneg bp.hi (e / 2)
    rcases he with rfl | rfl
    · have := toE_hit bp.lo; omega
    · have := toE_hit bp.hi; omega
  omega
/-- The dead nodes go. -/
theorem Cnt.collect (h : Cnt k N c ext) (N' : Nat → Option BN) (hN : ∀ i, N' i = if 0 < c i then N i else none) : Cnt k N' c ext := by
  refine ⟨fun i b hb => ?_, fun x b hb => ?_⟩
  · rw [hN] at hb
    split at hb
    · exact h.lt i b hb
    · cases hb
  · have hb' : N x = some b := by
      rw [hN] at hb
      split at hb
      · exact hb
      · cases hb
    rw [h.eq x b hb']
    congr 1
    refine sumTo_congr k fun i _ => ?_
    unfold from1
    rw [hN]
    by_cases hc : 0 < c i
    · rw [if_pos hc]
    · rw [if_neg hc]
      cases N i with
      | none => rfl
      | some b => simp [hc]
/-- A new node, dead at first, to which nothing leads. -/
theorem Cnt.add (h : Cnt k N c ext) {id : Nat} {b : BN} (hf : N id = none) (hno : ∀ i bi, N i = some bi → bi.lo / 2 ≠ id ∧ bi.hi / 2 ≠ id) (hid : id < k) :
    Cnt k (addN N id b) (setC c id 0) (fun i => if i = id then 0 else ext i) := by
  have hs : ∀ x, sumTo k (from1 (addN N id b) (setC c id 0) x) = sumTo k (from1 N c x) := fun x => sumTo_congr k fun i _ => by
    unfold from1
    by_cases e : i = id
    · subst e; rw [addN_same, hf]; simp [setC]
    · rw [addN_other _ e]; simp only [setC, if_neg e]
  refine ⟨fun i b' hb => ?_, fun x b' hb => ?_⟩
  · by_cases e : i = id
    · rw [e]; exact hid
    · rw [addN_other _ e] at hb; exact h.lt i b' hb
  · rw [hs]
    by_cases e : x = id
    · subst e
      simp only [setC, if_true]
      rw [sumTo_congr k (g := fun _ => 0) (fun i _ => ?_), sumTo_zero]
      · rfl
      · unfold from1
        cases hi : N i with
        | none => rfl
        | some bi =>
          have := hno i bi hi
          simp [edgesOf, toE, this.1, this.2]
    · rw [addN_other _ e] at hb
      simp only [setC, if_neg e]; exact h.eq x b' hb
/-- A live node's edges are turned. -/
theorem Cnt.setLive (h : Cnt k N c ext) {x : Nat} {b b' : BN} (hx : N x = some b) (hc : 0 < c x) :
    Cnt k (fun i => if i = x then some b' else N i) c (addE (addE (addE (addE ext b.lo 1) b.hi 1) b'.lo (-1)) b'.hi (-1)) := by
  refine ⟨fun i b2 hb => ?_, fun z b2 hb => ?_⟩
  · split at hb
    · rename_i e; rw [e]; exact h.lt x b hx
    · exact h.lt i b2 hb
  · have hz : ∃ q, N z = some q := by
      split at hb
      · rename_i e; rw [e]; exact ⟨b, hx⟩
      · exact ⟨b2, hb⟩
    obtain ⟨q, hq⟩ := hz
    have e1 : sumTo k (from1 (fun i => if i = x then some b' else N i) c z) = sumTo k (from1 N c z) + (from1 (fun i => if i = x then some b' else N i) c z x - from1 N c z x) := by
      refine sumTo_upd (fun i hi => ?_) k (h.lt x b hx)
      unfold from1
      simp only [if_neg hi]
    have e2 : from1 (fun i => if i = x then some b' else N i) c z x = edgesOf b' z := by simp [from1, hc]
    have e3 : from1 N c z x = edgesOf b z := by simp [from1, hx, hc]
    rw [e1, e2, e3]
    have := h.eq z q hq
    unfold edgesOf
    simp only [addE]
    omega
end

/-- The number of dead nodes. -/
def dead1 (N : Nat → Option BN) (c : Nat → Nat) (i : Nat) : Int :=
  match N i with
  | some _ => if c i = 0 then 1 else 0
  | none => 0
def deadN (k : Nat) (N : Nat → Option BN) (c : Nat → Nat) : Int := sumTo k (dead1 N c)
theorem dead1_nonneg (N : Nat → Option BN) (c : Nat → Nat) (i : Nat) : 0 ≤ dead1 N c i := by unfold dead1; split <;> first | omega | (split <;> omega)
theorem deadN_setC {k : Nat} {N : Nat → Option BN} {c : Nat → Nat} {x v : Nat} {b : BN} (hx : N x = some b) (hk : x < k) :
    deadN k N (setC c x v) = deadN k N c + ((if v = 0 then 1 else 0) - (if c x = 0 then 1 else 0)) := by
  unfold deadN
  rw [sumTo_upd (f := dead1 N c) (j := x) (fun i hi => ?_) k hk]
  · simp [dead1, hx, setC]
  · unfold dead1; simp only [setC, if_neg hi]
end Go.Proofs.YtchliiaknmknhaaGreat

-- Edge
namespace Go.Proofs.YtchliiaknmknhaaGreat
open Go.RowKit

theorem xor1_half (e : Nat) : (e ^^^ 1) / 2 = e / 2 := by
  have := Nat.shiftRight_xor_distrib (a := e) (b := 1) (i := 1)
  simpa [Nat.shiftRight_eq_div_pow] using this
theorem xor1_lt {e n : Nat} (h : e < 2 * n) : e ^^^ 1 < 2 * n := by have := xor1_half e; omega
theorem bits_xor1 (e : Nat) (he : e < 4611686018427387904) : bits .xor .i64 (e : Int) 1 = ((e ^^^ 1 : Nat) : Int) := by
  have hx : e ^^^ 1 < 4611686018427387904 := xor1_lt (n := 2305843009213693952) (by omega)
  have ea : BitVec.ofInt 64 ((e : Nat) : Int) = BitVec.ofNat 64 e := BitVec.ofInt_ofNat 64 e
  have eb : BitVec.ofInt 64 1 = BitVec.ofNat 64 1 := rfl
  have key : bits .xor .i64 (e : Int) 1 = IntKind.i64.wrap (((BitVec.ofInt 64 ((e : Nat) : Int)) ^^^ (BitVec.ofInt 64 1)).toNat : Nat) := rfl
  rw [key, ea, eb, BitVec.toNat_xor, BitVec.toNat_ofNat, BitVec.toNat_ofNat, Nat.mod_eq_of_lt (by omega), Nat.mod_eq_of_lt (by omega), IntKind.wrap_i64]
  omega

def eMax : Nat := 4611686018427387904
def enot (e : Nat) : Nat := e ^^^ 1
def eflip (e : Nat) (b : Bool) : Nat := if b then enot e else e
def enode (e : Nat) : Nat := e / 2
def eneg (e : Nat) : Bool := e % 2 == 1
theorem enot_lt {e : Nat} (h : e < eMax) : enot e < eMax := xor1_lt (n := 2305843009213693952) h
theorem eflip_lt {e : Nat} {b : Bool} (h : e < eMax) : eflip e b < eMax := by unfold eflip; (split; · exact enot_lt h); exact h
theorem enot_half (e : Nat) : enot e / 2 = e / 2 := xor1_half e
theorem eflip_half (e : Nat) (b : Bool) : eflip e b / 2 = e / 2 := by unfold eflip; (split; · exact enot_half e); rfl
theorem enot_mod (e : Nat) : enot e % 2 = 1 - e % 2 := by
  unfold enot
  have := Nat.xor_mod_two_pow (a := e) (b := 1) (n := 1)
  simp at this
  rw [this]
  rcases Nat.mod_two_eq_zero_or_one e with h | h <;> rw [h] <;> rfl
theorem enot_eq (e : Nat) : enot e = if e % 2 = 0 then e + 1 else e - 1 := by
  have h1 := enot_half e
  have h2 := enot_mod e
  split <;> omega
theorem enot_enot (e : Nat) : enot (enot e) = e := by
  have h1 := enot_eq e
  have h2 := enot_eq (enot e)
  have h3 := enot_mod e
  split at h2 <;> split at h1 <;> omega
theorem ef_enot (V : Nat → BF) (e : Nat) (ρ : Nat → Bool) : ef V (enot e) ρ = !ef V e ρ := ef_not V e ρ
theorem ef_eflip (V : Nat → BF) (e : Nat) (b : Bool) (ρ : Nat → Bool) : ef V (eflip e b) ρ = (b != ef V e ρ) := by
  unfold eflip
  cases b
  · simp
  · simp [ef_enot]
theorem okE_enot {N : Nat → Option BN} {e : Nat} (h : okE N e) : okE N (enot e) := okE_xor h
theorem okE_eflip {N : Nat → Option BN} {e : Nat} {b : Bool} (h : okE N e) : okE N (eflip e b) := by unfold eflip; (split; · exact okE_enot h); exact h

theorem not_any (e : Nat) (w : World) (he : e < eMax) :
    Calls Tryz.prog 102 #[.int .i64 e] w fun x w' => x = .returned (.int .i64 (enot e : Nat)) ∧ w = w' := by
  have hb := bits_xor1 e he
  go_enter Tryz.func102, Tryz.ntmps102
  go_wp2
  go_ret
  exact ⟨rfl, rfl⟩
theorem flip_any (e : Nat) (b : Bool) (w : World) (he : e < eMax) :
    Calls Tryz.prog 93 #[.int .i64 e, .bool b] w fun x w' => x = .returned (.int .i64 (eflip e b : Nat)) ∧ w = w' := by
  cases b
  · go_enter Tryz.func93, Tryz.ntmps93
    go_wp2
    go_ret
    exact ⟨rfl, rfl⟩
  · go_enter Tryz.func93, Tryz.ntmps93
    go_wp2_with fail
    refine (not_any e _ he).mono ?_
    rintro x w' ⟨rfl, rfl⟩
    go_wp2_with fail
    go_ret
    exact ⟨rfl, rfl⟩
theorem node_any (e : Nat) (w : World) (he : e < eMax) :
    Calls Tryz.prog 124 #[.int .i64 e] w fun x w' => x = .returned (.int .i64 (enode e : Nat)) ∧ w = w' := by
  unfold eMax at he
  have hm : max (e : Int) 0 = e := by omega
  have hd : (e : Int).tdiv 2 = (e : Int) / 2 := Int.tdiv_eq_ediv_of_nonneg (by omega)
  have HX : Hid (((enode e : Nat) : Int) = (e : Int) / 2) := by show _ = _; unfold enode; omega
  go_enter Tryz.func124, Tryz.ntmps124
  go_wp2
  go_ret
  exact ⟨ret_i64 HX.out.symm, rfl⟩
theorem neg_any (e : Nat) (w : World) (he : e < eMax) :
    Calls Tryz.prog 132 #[.int .i64 e] w fun x w' => x = .returned (.bool (eneg e)) ∧ w = w' := by
  unfold eMax at he
  by_cases hp : 0 < e
  · have hp' : (0 : Int) < e := by omega
    have hm : (e : Int).tmod 2 = (e : Int) % 2 := Int.tmod_eq_emod_of_nonneg (by omega)
    by_cases h1 : e % 2 = 1
    · have H1 : ((e : Int) % 2 == 1) = true := by simp; omega
      have HX : Hid (eneg e = true) := by show _ = _; simp [eneg, h1]
      clear h1
      go_enter Tryz.func132, Tryz.ntmps132
      go_wp2
      go_ret
      exact ⟨ret_bool HX.out.symm, rfl⟩
    · have H1 : ((e : Int) % 2 == 1) = false := by simp; omega
      have HX : Hid (eneg e = false) := by show _ = _; simp [eneg]; omega
      clear h1
      go_enter Tryz.func132, Tryz.ntmps132
      go_wp2
      go_ret
      exact ⟨ret_bool HX.out.symm, rfl⟩
  · obtain rfl : e = 0 := by omega
    go_enter Tryz.func132, Tryz.ntmps132
    go_wp2
    go_ret
    exact ⟨ret_bool (by decide), rfl⟩
theorem const_any (e : Nat) (w : World) (he : e < eMax) :
    Calls Tryz.prog 107 #[.int .i64 e] w fun x w' => x = .returned (.bool (decide (enode e = 0))) ∧ w = w' := by
  go_enter Tryz.func107, Tryz.ntmps107
  go_wp2_with fail
  refine (node_any e _ he).mono ?_
  rintro x w' ⟨rfl, rfl⟩
  by_cases h : enode e = 0
  · have H : ((enode e : Int) == 0) = true := by simp [h]
    have HX : Hid (decide (enode e = 0) = true) := by show _ = _; simp [h]
    clear h
    go_wp2_with fail
    go_ret
    exact ⟨ret_bool HX.out.symm, rfl⟩
  · have H : ((enode e : Int) == 0) = false := by simp; exact h
    have HX : Hid (decide (enode e = 0) = false) := by show _ = _; simp [h]
    clear h
    go_wp2_with fail
    go_ret
    exact ⟨ret_bool HX.out.symm, rfl⟩
theorem norm_any (lo hi : Nat) (w : World) (hl : lo < eMax) (hh : hi < eMax) :
    Calls Tryz.prog 127 #[.int .i64 lo, .int .i64 hi] w fun x w' => x = .returned (.tuple #[.int .i64 (eflip lo (eneg hi) : Nat), .int .i64 (eflip hi (eneg hi) : Nat), .bool (eneg hi)]) ∧ w = w' := by
  obtain ⟨b, hb⟩ : ∃ b, eneg hi = b := ⟨_, rfl⟩
  rw [hb]
  have HB := Lib.hid hb
  clear hb
  go_enter Tryz.func127, Tryz.ntmps127
  go_wp2_with fail
  refine (neg_any hi _ hh).mono ?_
  rintro x w' ⟨rfl, rfl⟩
  rw [HB.out]
  go_wp2_with fail
  refine (flip_any lo _ _ hl).mono ?_
  rintro x w' ⟨rfl, rfl⟩
  go_wp2_with fail
  refine (flip_any hi _ _ hh).mono ?_
  rintro x w' ⟨rfl, rfl⟩
  go_wp2_with fail
  go_ret3
  exact ⟨rfl, rfl⟩
theorem of_any (id : Nat) (b : Bool) (w : World) (hi : id < 2305843009213693952) :
    Calls Tryz.prog 130 #[.int .i64 id, .bool b] w fun x w' => x = .returned (.int .i64 (eflip (2 * id) b : Nat)) ∧ w = w' := by
  have hm : max (id : Int) 0 = id := by omega
  have he : 2 * id < eMax := by unfold eMax; omega
  have HC : Hid ((2 : Int) * id = ((2 * id : Nat) : Int)) := by show _ = _; omega
  go_enter Tryz.func130, Tryz.ntmps130
  go_wp2_with fail
  rw [HC.out]
  refine (flip_any (2 * id) b _ he).mono ?_
  rintro x w' ⟨rfl, rfl⟩
  go_wp2_with fail
  go_ret
  exact ⟨rfl, rfl⟩
end Go.Proofs.YtchliiaknmknhaaGreat

-- Mix
namespace Go.Proofs.YtchliiaknmknhaaGreat
open Go.RowKit

section
variable {P : Program} {ops : Array Oper} {S : World → Prop} {Q : Exit → Act → World → Prop} {last : Bool}

/-- Does operation j wait for operation i, by however many steps? -/
def reaches (ops : Array Oper) : Nat → Nat → Nat → Bool
  | 0, _, _ => false
  | f + 1, i, j => match ops[j]? with
    | none => false
    | some oj => oj.after.any fun e => Region.binds .any e && (e.on == i || reaches ops f i e.on)

/-- What has come up has had all that it waits for. -/
def Closed (ops : Array Oper) (L : Array Bool) : Prop := ∀ j oj, ops[j]? = some oj → L.getD j false = true → ∀ e ∈ oj.after, Region.binds .any e = true → L.getD e.on false = true
theorem closed_start (n : Nat) : Closed ops (Array.replicate n false) := by
  intro j oj _ h
  rcases Nat.lt_or_ge j n with h' | h' <;> simp [h'] at h
theorem Closed.set {L : Array Bool} (h : Closed ops L) {i : Nat} (hi : i ∈ Region.ready .any ops L) : Closed ops (L.setIfInBounds i true) := by
  obtain ⟨_, oi, hoi, hall⟩ := mem_ready.1 hi
  intro j oj hj hl e he hb
  by_cases hij : i = j
  · subst hij
    obtain rfl : oj = oi := Option.some.inj (hj.symm.trans hoi)
    exact getD_set_true (hall e he hb)
  · rw [getD_set_ne false hij] at hl
    exact getD_set_true (h j oj hj hl e he hb)
theorem reaches_listed {L : Array Bool} (hc : Closed ops L) {i : Nat} : ∀ (f j : Nat), (j ∈ Region.ready .any ops L ∨ L.getD j false = true) → reaches ops f i j = true → L.getD i false = true
  | 0, _, _, h => by simp [reaches] at h
  | f + 1, j, hj, h => by
    unfold reaches at h
    split at h
    · cases h
    · rename_i oj hoj
      obtain ⟨e, he, h2⟩ := Array.any_eq_true'.1 h
      simp only [Bool.and_eq_true, Bool.or_eq_true, beq_iff_eq] at h2
      have hl : L.getD e.on false = true := by
        rcases hj with hj | hj
        · obtain ⟨_, o', ho', hall⟩ := mem_ready.1 hj
          obtain rfl : o' = oj := Option.some.inj (ho'.symm.trans hoj)
          exact hall e he h2.1
        · exact hc j oj hoj hj e he h2.1
      rcases h2.2 with e1 | e1
      · rw [← e1]; exact hl
      · exact reaches_listed hc f e.on (.inr hl) e1
theorem getD_ff {L : Array Bool} {i : Nat} (h : L.getD i true = false) : L.getD i false = false := by
  rcases Nat.lt_or_ge i L.size with h' | h'
  · simp [h'] at h ⊢; exact h
  · simp [Array.getElem?_eq_none h'] at h

/-- Whatever order comes; behind each operation but number m the condition S holds. -/
def wpAnyS (P : Program) (ops : Array Oper) (Q : Exit → Act → World → Prop) (S : World → Prop) (m : Nat) : Nat → Array Bool → Act → World → Prop
  | 0, L, a, w => Region.ready .any ops L = [] ∧ Q .normal a w
  | f + 1, L, a, w => (Region.ready .any ops L = [] → Q .normal a w) ∧
    ∀ i ∈ Region.ready .any ops L, wpOp P ops Q i (fun a' w' => (i = m ∨ S w') ∧ wpAnyS P ops Q S m f (L.setIfInBounds i true) a' w') a w
theorem wpAny_of_S {m : Nat} : ∀ (f : Nat) (L : Array Bool) (a : Act) (w : World), wpAnyS P ops Q S m f L a w → wpAny P .any ops Q f L a w
  | 0, _, _, _, h => h
  | f + 1, _, _, _, h => ⟨h.1, fun i hi => wpOp_mono (fun a' w' h' => wpAny_of_S f _ a' w' h'.2) (h.2 i hi)⟩

/-- A read that may come up now may be taken first. -/
theorem wpAnyS_first {m i : Nat} {oi : Oper} {v : Value} (hi : ops[i]? = some oi) (hs : Region.noSelect ops = true) (hQ : ∀ c (a : Act) d v w, Q (.panic c) (a.put d v) w → Q (.panic c) a w)
    (hm : (decide (ops.size ≤ m) || reaches ops ops.size i m) = true) :
    ∀ (f : Nat) (L : Array Bool) (a : Act) (w : World), Closed ops L →
      (∀ j oj, ops[j]? = some oj → j ≠ i → L.getD j true = false → (∀ e ∈ oj.after, Region.binds .any e = true → e.on ≠ i) → oi.apart ops oj = true) →
      i ∈ Region.ready .any ops L → YieldsIf P ops S oi v a → S w →
      wpAnyS P ops Q S m f (L.setIfInBounds i true) (a.put oi.dst v) w → wpAnyS P ops Q S m (f + 1) L a w := by
  intro f
  induction f with
  | zero =>
    intro L a w _ _ hr hy hS H
    refine ⟨fun h => (by rw [h] at hr; cases hr), fun j hj => ?_⟩
    by_cases hji : j = i
    · subst hji; exact hy.wpOp hi hS ⟨.inr hS, H⟩
    · have := ready_mono hj hji
      rw [H.1] at this
      cases this
  | succ f ih =>
    intro L a w hc hfree hr hy hS H
    refine ⟨fun h => (by rw [h] at hr; cases hr), fun j hj => ?_⟩
    by_cases hji : j = i
    · subst hji; exact hy.wpOp hi hS ⟨.inr hS, H⟩
    · have h1 := H.2 j (ready_mono hj hji)
      obtain ⟨hjun, oj, hoj, hall⟩ := mem_ready.1 hj
      have hiun := getD_ff (mem_ready.1 hr).1
      have hnot : ∀ e ∈ oj.after, Region.binds .any e = true → e.on ≠ i := fun e he hb heq => by
        have h1 := hall e he hb
        rw [heq, hiun] at h1
        cases h1
      have hjm : j ≠ m := by
        rintro rfl
        simp only [Bool.or_eq_true, decide_eq_true_eq] at hm
        rcases hm with hm | hm
        · have := (Array.getElem?_eq_some_iff.1 hoj).1; omega
        · have := reaches_listed hc _ _ (.inl hj) hm
          rw [hiun] at this
          cases this
      have h2 := wpOp_putIf hoj (hfree j oj hoj hji hjun hnot) (fun cs b => Region.noSelect_spec hs i oi cs b hi) (fun cs b => Region.noSelect_spec hs j oj cs b hoj) (fun c a w => hQ c a _ _ w) hy h1
      have hfree' : ∀ k ok, ops[k]? = some ok → k ≠ i → (L.setIfInBounds j true).getD k true = false →
          (∀ e ∈ ok.after, Region.binds .any e = true → e.on ≠ i) → oi.apart ops ok = true := fun k ok hk hki hun hno => by
        refine hfree k ok hk hki ?_ hno
        by_cases hjk : j = k
        · subst hjk; exact hjun
        · rw [getD_set_ne true hjk] at hun; exact hun
      refine wpOp_mono (fun a' w' h3 => ?_) h2
      have hS' := h3.2.1.resolve_left hjm
      refine ⟨.inr hS', ih (L.setIfInBounds j true) a' w' (hc.set hj) hfree' (ready_mono hr (Ne.symm hji)) h3.1 hS' ?_⟩
      rw [Array.setIfInBounds_comm _ _ hji]
      exact h3.2.2

/-- May the order be: 'true': this one alone can come up; 'false': it may be taken first. -/
def mixB (ops : Array Oper) (m : Nat) : List (Nat × Bool) → Array Bool → Bool
  | [], L => (Region.ready .any ops L).isEmpty
  | (i, true) :: r, L => decide (Region.ready .any ops L = [i]) && mixB ops m r (L.setIfInBounds i true)
  | (i, false) :: r, L => (Region.ready .any ops L).contains i && Region.free .any ops L i && (decide (ops.size ≤ m) || reaches ops ops.size i m) && mixB ops m r (L.setIfInBounds i true)

/-- Which operations are not mere reads. -/
def isEff (o : Oper) : Bool :=
  match o.op with
  | .call { callee := .builtin b, .. } => match b with
    | .len => false
    | .cap => false
    | _ => true
  | .call _ => true
  | .alloc .. => true
  | .store .. => true
  | .buildSlice .. => true
  | .mapUpdate .. => true
  | .makeMap .. => true
  | _ => false

/-- The order to walk in: the first read that may be taken first; else what alone can come up. -/
def mixPlan (ops : Array Oper) : Nat → Array Bool → List (Nat × Bool)
  | 0, _ => []
  | f + 1, L =>
    let rs := Region.ready .any ops L
    match rs.find? (fun i => (match ops[i]? with | some o => !isEff o | none => false) && Region.free .any ops L i) with
    | some i => (i, false) :: mixPlan ops f (L.setIfInBounds i true)
    | none => match rs with
      | i :: _ => (i, true) :: mixPlan ops f (L.setIfInBounds i true)
      | [] => []

def wpMix (P : Program) (ops : Array Oper) (Q : Exit → Act → World → Prop) (S : World → Prop) (last : Bool) : List (Option Oper × Bool) → Act → World → Prop
  | [], a, w => Q .normal a w
  | (none, _) :: _, _, _ => False
  | (some o, false) :: r, a, w => ∃ v, YieldsIf P ops S o v a ∧ wpMix P ops Q S last r (a.put o.dst v) w
  | (some o, true) :: r, a, w => if Region.wanted o (yielded ops a.tmps) then o.wp P a w (fun a' w' => ((last && r.isEmpty) = true ∨ S w') ∧ wpMix P ops Q S last r a' w') Q else wpMix P ops Q S last r (a.put o.dst undef) w

/-- The operations in the plan's order. -/
def planned (l : List Oper) (seq : List (Nat × Bool)) : List (Option Oper × Bool) := seq.map fun p => (l[p.1]?, p.2)

theorem wpAnyS_of_mix {l : List Oper} {m : Nat} {last : Bool} (hs : Region.noSelect l.toArray = true) (hQ : ∀ c (a : Act) d v w, Q (.panic c) (a.put d v) w → Q (.panic c) a w) :
    ∀ (seq : List (Nat × Bool)) (L : Array Bool) (a : Act) (w : World), (last = true → (seq.getLast?.map (·.1) = some m ∨ seq = [])) →
    mixB l.toArray m seq L = true → Closed l.toArray L → S w ∨ seq = [] → wpMix P l.toArray Q S last (planned l seq) a w → wpAnyS P l.toArray Q S m seq.length L a w
  | [], L, a, w, _, hB, _, _, h => ⟨by simpa [mixB, List.isEmpty_iff] using hB, h⟩
  | (i, b) :: r, L, a, w, hl, hB, hc, hS, h => by
    have hS0 := hS.resolve_right (by simp)
    have hl' : last = true → (r.getLast?.map (·.1) = some m ∨ r = []) := fun e => by
      cases r with
      | nil => exact .inr rfl
      | cons x r => left; simpa using (hl e).resolve_right (by simp)
    cases hi : l[i]? with
    | none => simp only [planned, List.map_cons, hi, wpMix] at h
    | some o =>
      have hi' : l.toArray[i]? = some o := by simpa using hi
      simp only [planned, List.map_cons, hi] at h
      cases b with
      | false =>
        simp only [mixB, Bool.and_eq_true] at hB
        obtain ⟨⟨⟨hr, hf⟩, hm⟩, hB⟩ := hB
        obtain ⟨v, hy, hn⟩ := h
        have hr' : i ∈ Region.ready .any l.toArray L := by simpa using hr
        exact wpAnyS_first hi' hs hQ hm _ L a w hc (Region.free_spec hi' hf) hr' hy hS0 (wpAnyS_of_mix hs hQ r _ _ w hl' hB (hc.set hr') (.inl hS0) hn)
      | true =>
        simp only [mixB, Bool.and_eq_true, decide_eq_true_eq] at hB
        obtain ⟨hr, hB⟩ := hB
        refine ⟨fun h0 => (by rw [h0] at hr; cases hr), fun j hj => ?_⟩
        have hij : j = i := by rw [hr] at hj; simpa using hj
        subst hij
        simp only [wpMix] at h
        unfold wpOp
        rw [hi']
        by_cases hw : Region.wanted o (yielded l.toArray a.tmps) = true
        · simp only [hw, if_true] at h ⊢
          left
          refine Oper.wp_mono ?_ h
          intro a' w' ⟨h1, h2⟩
          refine ⟨?_, ?_⟩
          · rcases h1 with h1 | h1
            · simp only [Bool.and_eq_true, List.isEmpty_iff, List.map_eq_nil_iff] at h1
              obtain ⟨h1, rfl⟩ := h1
              left
              simpa using (hl h1)
            · exact .inr h1
          · refine wpAnyS_of_mix hs hQ r _ _ w' hl' hB (hc.set hj) ?_ h2
            rcases h1 with h1 | h1
            · simp only [Bool.and_eq_true, List.isEmpty_iff, List.map_eq_nil_iff] at h1
              exact .inr h1.2
            · exact .inl h1
        · simp only [hw] at h ⊢
          exact ⟨.inr hS0, wpAnyS_of_mix hs hQ r _ _ w hl' hB (hc.set hj) (.inl hS0) h⟩

/-- Q, but False at a panic. -/
def NP (Q : Exit → Act → World → Prop) : Exit → Act → World → Prop
  | .panic _, _, _ => False
  | e, a, w => Q e a w
theorem wp_of_np {s : Code} {a : Act} {w : World} (h : s.wp P (NP Q) a w) : s.wp P Q a w :=
  Code.wp_mono (fun e a w h => by cases e <;> first | exact h | exact h.elim) h

theorem wp_region_mix {id : Nat} {a : Act} {w : World} {l : List Oper} (S : World → Prop) (last : Bool) (m : Nat) (seq : List (Nat × Bool)) (hm : P.follows .mixedOrders = true)
    (hB : (Region.noSelect l.toArray && decide (seq.length = l.toArray.size) && (!last || decide (seq.getLast?.map (·.1) = some m)) && mixB l.toArray m seq (Array.replicate l.toArray.size false)) = true)
    (hS : S w.drew) (h : wpMix P l.toArray (NP Q) S last (planned l seq) a w.drew) : (Code.region id l.toArray true).wp P Q a w := by
  simp only [Bool.and_eq_true, decide_eq_true_eq] at hB
  obtain ⟨⟨⟨hs, hlen⟩, hl⟩, hB⟩ := hB
  refine wp_of_np (wp_region_any hm (wpAny_of_S _ _ _ _ ?_ (S := S) (m := m)))
  rw [← hlen]
  refine wpAnyS_of_mix hs (fun _ _ _ _ _ h => h) seq _ _ _ (fun e => ?_) (by rw [hlen]; exact hB) (closed_start _) (.inl hS) h
  subst e
  left
  simpa using hl
theorem np_normal {Q : Exit → Act → World → Prop} {a : Act} {w : World} (h : Q .normal a w) : NP Q .normal a w := h
theorem mix_end {a : Act} {w : World} {ops : Array Oper} (h : Q .normal a w) : wpMix P ops (NP Q) S last [] a w := h

/-! Steps -/
theorem mix_nil {a : Act} {w : World} (h : Q .normal a w) : wpMix P ops Q S last [] a w := h
theorem mix_read {o : Oper} {r : List (Option Oper × Bool)} {a : Act} {w : World} {v : Value} (hg : o.guard = none) (hv : ∀ w, S w → (execOp a.eval o).run P w = .ok (.value v) w)
    (h : wpMix P ops Q S last r (a.put o.dst v) w) : wpMix P ops Q S last ((some o, false) :: r) a w :=
  ⟨v, .inl ⟨by simp [Region.wanted, hg], hv⟩, h⟩
/-- The same, the value behind an existential (so that each step makes its own hole). -/
theorem mix_readE {o : Oper} {r : List (Option Oper × Bool)} {a : Act} {w : World} (hg : o.guard = none)
    (h : ∃ v, (∀ w, S w → (execOp a.eval o).run P w = .ok (.value v) w) ∧ wpMix P ops Q S last r (a.put o.dst v) w) : wpMix P ops Q S last ((some o, false) :: r) a w := by
  obtain ⟨v, h1, h2⟩ := h
  exact mix_read hg h1 h2
theorem mix_readGE {o : Oper} {r : List (Option Oper × Bool)} {a : Act} {w : World} (b : Bool) (hb : Region.wanted o (yielded ops a.tmps) = b)
    (h : ∃ v, (b = true → ∀ w, S w → (execOp a.eval o).run P w = .ok (.value v) w) ∧ wpMix P ops Q S last r (a.put o.dst (if b then v else undef)) w) : wpMix P ops Q S last ((some o, false) :: r) a w := by
  obtain ⟨v, h1, h2⟩ := h
  cases b with
  | true => exact ⟨v, .inl ⟨hb, h1 rfl⟩, h2⟩
  | false => exact ⟨undef, .inr ⟨hb, rfl⟩, h2⟩
theorem mix_readG {o : Oper} {r : List (Option Oper × Bool)} {a : Act} {w : World} {v : Value} (b : Bool) (hb : Region.wanted o (yielded ops a.tmps) = b)
    (hv : b = true → ∀ w, S w → (execOp a.eval o).run P w = .ok (.value v) w) (h : wpMix P ops Q S last r (a.put o.dst (if b then v else undef)) w) : wpMix P ops Q S last ((some o, false) :: r) a w := by
  cases b with
  | true => exact ⟨v, .inl ⟨hb, hv rfl⟩, h⟩
  | false => exact ⟨undef, .inr ⟨hb, rfl⟩, h⟩
theorem mix_call {o : Oper} {r : List (Option Oper × Bool)} {a : Act} {w : World} {v : Value} {f : FuncId} {args : Array Value} (hg : o.guard = none)
    (he : (execOp a.eval o).run P w = .ok (.enter f args) w) (hc : Calls P f args w fun e w' => e = .returned v ∧ S w')
    (h : ∀ w', S w' → wpMix P ops Q S last r (a.put o.dst v) w') : wpMix P ops Q S last ((some o, true) :: r) a w := by
  have hw : Region.wanted o (yielded ops a.tmps) = true := by simp [Region.wanted, hg]
  unfold wpMix
  simp only [hw, if_true, Oper.wp, he, Oper.upon]
  exact hc.mono fun e w' ⟨h1, h2⟩ => by subst h1; exact ⟨.inr h2, h w' h2⟩
theorem mix_callG {o : Oper} {r : List (Option Oper × Bool)} {a : Act} {w : World} {v : Value} {f : FuncId} {args : Array Value} (b : Bool) (hb : Region.wanted o (yielded ops a.tmps) = b) (hS : S w)
    (he : b = true → (execOp a.eval o).run P w = .ok (.enter f args) w) (hc : b = true → Calls P f args w fun e w' => e = .returned v ∧ S w')
    (h : ∀ w', S w' → wpMix P ops Q S last r (a.put o.dst (if b then v else undef)) w') : wpMix P ops Q S last ((some o, true) :: r) a w := by
  unfold wpMix
  cases b with
  | true =>
    simp only [hb, if_true, Oper.wp, he rfl, Oper.upon]
    exact (hc rfl).mono fun e w' ⟨h1, h2⟩ => by subst h1; exact ⟨.inr h2, h w' h2⟩
  | false =>
    simp only [hb]
    exact h w hS
theorem mix_value {o : Oper} {r : List (Option Oper × Bool)} {a : Act} {w w' : World} {v : Value} (hg : o.guard = none)
    (he : (execOp a.eval o).run P w = .ok (.value v) w') (hS : S w') (h : wpMix P ops Q S last r (a.put o.dst v) w') : wpMix P ops Q S last ((some o, true) :: r) a w := by
  have hw : Region.wanted o (yielded ops a.tmps) = true := by simp [Region.wanted, hg]
  unfold wpMix
  simp only [hw, if_true, Oper.wp, he, Oper.upon]
  exact ⟨.inr hS, h⟩
theorem exec_append {o : Oper} {a : Act} {w w' : World} {s x : Operand} {t u : TypeId} {v y v' : Value} (ho : o.op = .call { callee := .builtin .append, args := #[s, x], argTypes := #[t, u] })
    (hs : a.eval s = v) (hx : a.eval x = y) (hr : (Builtin.append_ #[t, u] o.type #[v, y]).run P w = .ok v' w') : (execOp a.eval o).run P w = .ok (.value v') w' := by
  unfold execOp
  simp only [ho, resolve, invoke, builtin, Sem.run_bind, Sem.run_pure, Result.andThen_ok, List.map_toArray, List.map_cons, List.map_nil, hs, hx, hr]
/-- Any other operation: K is what follows. -/
theorem mix_eff {o : Oper} {r : List (Option Oper × Bool)} {a : Act} {w : World} (hg : o.guard = none)
    (h : ∀ K : Act → World → Prop, (∀ a' w', S w' → wpMix P ops Q S last r a' w' → K a' w') → o.wp P a w K Q) : wpMix P ops Q S last ((some o, true) :: r) a w := by
  have hw : Region.wanted o (yielded ops a.tmps) = true := by simp [Region.wanted, hg]
  unfold wpMix
  simp only [hw, if_true]
  exact h _ fun a' w' h1 h2 => ⟨.inr h1, h2⟩
/-- The last one. -/
theorem mix_last {o : Oper} {a : Act} {w : World} (hg : o.guard = none)
    (h : ∀ K : Act → World → Prop, (∀ a' w', Q .normal a' w' → K a' w') → o.wp P a w K Q) : wpMix P ops Q S true [(some o, true)] a w := by
  have hw : Region.wanted o (yielded ops a.tmps) = true := by simp [Region.wanted, hg]
  unfold wpMix
  simp only [hw, if_true]
  exact h _ fun a' w' h1 => ⟨.inl rfl, h1⟩
end

end Go.Proofs.YtchliiaknmknhaaGreat

-- Alt
namespace Go.Proofs.YtchliiaknmknhaaGreat
open Go.RowKit

section
variable {P : Program} {S : World → Prop} {Q : Exit → Act → World → Prop} {m : Nat}

/-- What is left of a region, with what it needs. -/
structure Left (P : Program) (l : List Oper) (Q : Exit → Act → World → Prop) (S : World → Prop) (m f : Nat) (L : Array Bool) (a : Act) (w : World) : Prop where
  goes : Closed l.toArray L → S w → wpAnyS P l.toArray (NP Q) S m f L a w

theorem wp_region_left {id : Nat} {a : Act} {w : World} {l : List Oper} (S : World → Prop) (m : Nat) (hm : P.follows .mixedOrders = true) (hS : S w.drew)
    (h : Left P l Q S m l.length (Array.replicate l.toArray.size false) a w.drew) : (Code.region id l.toArray true).wp P Q a w :=
  wp_of_np (wp_region_any hm (wpAny_of_S _ _ _ _ (h.goes (closed_start _) hS)))
/-- A read that may be taken first. -/
theorem left_read {l : List Oper} {f : Nat} {L : Array Bool} {a : Act} {w : World} (i : Nat) (o : Oper) (v : Value) (hi : l[i]? = some o)
    (hB : (Region.noSelect l.toArray && (Region.ready .any l.toArray L).contains i && Region.free .any l.toArray L i && (decide (l.toArray.size ≤ m) || reaches l.toArray l.toArray.size i m)) = true)
    (hy : ∀ w, S w → YieldsIf P l.toArray S o v a) (h : Left P l Q S m f (L.setIfInBounds i true) (a.put o.dst v) w) : Left P l Q S m (f + 1) L a w := by
  refine ⟨fun hc hS => ?_⟩
  simp only [Bool.and_eq_true] at hB
  obtain ⟨⟨⟨hs, hr⟩, hf⟩, hm⟩ := hB
  have hi' : l.toArray[i]? = some o := by simpa using hi
  have hr' : i ∈ Region.ready .any l.toArray L := by simpa using hr
  exact wpAnyS_first hi' hs (fun _ _ _ _ _ h => h) hm f L a w hc (Region.free_spec hi' hf) hr' (hy w hS) hS (h.goes (hc.set hr') hS)
theorem left_readE {l : List Oper} {f : Nat} {L : Array Bool} {a : Act} {w : World} (i : Nat) {o : Oper} (hi : l[i]? = some o) (hg : o.guard = none)
    (hB : (Region.noSelect l.toArray && (Region.ready .any l.toArray L).contains i && Region.free .any l.toArray L i && (decide (l.toArray.size ≤ m) || reaches l.toArray l.toArray.size i m)) = true)
    (h : ∃ v, (∀ w, S w → (execOp a.eval o).run P w = .ok (.value v) w) ∧ Left P l Q S m f (L.setIfInBounds i true) (a.put o.dst v) w) : Left P l Q S m (f + 1) L a w := by
  obtain ⟨v, h1, h2⟩ := h
  exact left_read i o v hi hB (fun w _ => .inl ⟨by simp [Region.wanted, hg], h1⟩) h2
/-- Whatever may come next comes. -/
theorem left_alts {l : List Oper} {f : Nat} {L : Array Bool} {a : Act} {w : World} (is : List Nat) (hr : (decide (Region.ready .any l.toArray L = is) && !is.isEmpty) = true)
    (h : ∀ i ∈ is, S w → ∀ o, l[i]? = some o → Region.wanted o (yielded l.toArray a.tmps) = true ∧ o.wp P a w (fun a' w' => S w' ∧ Left P l Q S m f (L.setIfInBounds i true) a' w') (NP Q)) : Left P l Q S m (f + 1) L a w := by
  refine ⟨fun hc hS => ?_⟩
  simp only [Bool.and_eq_true, decide_eq_true_eq] at hr
  obtain ⟨hr, hne⟩ := hr
  refine ⟨fun h0 => (by rw [h0] at hr; subst hr; simp at hne), fun i hi => ?_⟩
  have hi2 : i ∈ is := by rw [← hr]; exact hi
  obtain ⟨_, o, ho, _⟩ := mem_ready.1 hi
  obtain ⟨hw, hwp⟩ := h i hi2 hS o (by simpa using ho)
  unfold wpOp
  rw [ho]
  simp only [hw, if_true]
  left
  refine Oper.wp_mono ?_ hwp
  intro a' w' ⟨h1, h2⟩
  exact ⟨.inr h1, h2.goes (hc.set hi) h1⟩
theorem left_end {l : List Oper} {L : Array Bool} {a : Act} {w : World} (hr : (Region.ready .any l.toArray L).isEmpty = true) (h : Q .normal a w) : Left P l Q S m 0 L a w :=
  ⟨fun _ _ => ⟨by simpa [List.isEmpty_iff] using hr, h⟩⟩
theorem oper_value {o : Oper} {a : Act} {w w' : World} {v : Value} {K : Act → World → Prop} {Q : Exit → Act → World → Prop} (he : (execOp a.eval o).run P w = .ok (.value v) w') (h : K (a.put o.dst v) w') : o.wp P a w K Q := by
  unfold Oper.wp
  rw [he]; exact h
end
end Go.Proofs.YtchliiaknmknhaaGreat

-- Map
namespace Go.Proofs.YtchliiaknmknhaaGreat
open Go.RowKit

set_option linter.unusedSectionVars false
section
variable {P : Program} {κ : Type} [DecidableEq κ]

/-- The value at a key, with its place. -/
def findL (k : κ) : List (κ × Value) → Nat → Option (Nat × Value)
  | [], _ => none
  | p :: l, i => if p.1 = k then some (i, p.2) else findL k l (i + 1)
def getL (l : List (κ × Value)) (k : κ) : Option Value := (findL k l 0).map (·.2)

/-- What a key's type must give. -/
structure KeyOk (P : Program) (K : TypeId) (enc : κ → Value) : Prop where
  check : ∀ (w : World) (em : Bool) (k : κ), (Instr.checkKey em 10000 K (enc k)).run P w = .ok () w
  find : ∀ (w : World) (k : κ) (l : List (κ × Value)) (es : List MapEntry), es.map (fun e => (e.key, e.val)) = l.map (fun p => (enc p.1, p.2)) →
    (Instr.findKey K (enc k) es).run P w = .ok (findL k l 0) w
  stays : ∀ (w : World) (k : κ), (Instr.keyThatStays (enc k) (enc k)).run P w = .ok (enc k) w

/-- Block b is a map that holds just these pairs. -/
structure MapIs (w : World) (b : Nat) (enc : κ → Value) (l : List (κ × Value)) : Prop where
  ex : ∃ es clock, w.heap[b]? = some (.map es clock) ∧ es.toList.map (fun e => (e.key, e.val)) = l.map (fun p => (enc p.1, p.2)) ∧
    (∀ e ∈ es.toList, e.born < clock) ∧ (es.toList.map (·.born)).Nodup
  nodup : (l.map Prod.fst).Nodup

theorem MapIs.lt {w : World} {b : Nat} {enc : κ → Value} {l : List (κ × Value)} (h : MapIs w b enc l) : b < w.heap.size := by
  obtain ⟨es, c, hb, _⟩ := h.ex
  exact (Array.getElem?_eq_some_iff.1 hb).1
theorem MapIs.keep {row : Option Nat} {w w' : World} {b : Nat} {enc : κ → Value} {l : List (κ × Value)} (h : MapIs w b enc l) (hk : KeepBut row w w') (hne : some b ≠ row) : MapIs w' b enc l := by
  obtain ⟨es, c, hb, rest⟩ := h.ex
  exact ⟨⟨es, c, by rw [hk b h.lt hne]; exact hb, rest⟩, h.nodup⟩
theorem keepBut_of_below {w w' : World} (h : Below w.heap.size w w') (row : Option Nat) : KeepBut row w w' := fun k hk _ => h.block k hk
theorem MapIs.below {w w' : World} {b : Nat} {enc : κ → Value} {l : List (κ × Value)} (h : MapIs w b enc l) (hb : Below w.heap.size w w') : MapIs w' b enc l :=
  h.keep (keepBut_of_below hb none) (by simp)
theorem mapIs_new (w : World) (enc : κ → Value) : MapIs (w.alloc (.map #[] 0)) w.heap.size enc [] :=
  ⟨⟨#[], 0, heap_alloc_new w _, by simp, by simp, by simp⟩, by simp⟩

theorem run_getObj_map {w : World} {b : Nat} {es : Array MapEntry} {c : Nat} (h : w.heap[b]? = some (.map es c)) : (getObj b).run P w = .ok (.map es c) w := by
  simp [getObj, Sem.run, h]
theorem findL_shift (k : κ) (l : List (κ × Value)) : ∀ i, findL k l (i + 1) = (findL k l i).map fun p => (p.1 + 1, p.2) := by
  induction l with
  | nil => intro i; rfl
  | cons p l ih => intro i; unfold findL; split <;> simp [ih]
theorem findL_some {k : κ} {l : List (κ × Value)} {j : Nat} {v : Value} : ∀ {i : Nat}, findL k l i = some (j, v) → ∃ n, j = i + n ∧ l[n]? = some (k, v) := by
  induction l with
  | nil => intro i h; cases h
  | cons p l ih =>
    intro i h
    unfold findL at h
    split at h
    · rename_i he
      simp only [Option.some.injEq, Prod.mk.injEq] at h
      obtain ⟨rfl, rfl⟩ := h
      exact ⟨0, rfl, by simp [← he]⟩
    · obtain ⟨n, h1, h2⟩ := ih h
      exact ⟨n + 1, by omega, by simpa using h2⟩
theorem findL_none {k : κ} {l : List (κ × Value)} : ∀ {i : Nat}, findL k l i = none → ∀ p ∈ l, p.1 ≠ k := by
  induction l with
  | nil => intro i _ p hp; cases hp
  | cons q l ih =>
    intro i h p hp
    unfold findL at h
    split at h
    · cases h
    · rename_i he
      rcases List.mem_cons.1 hp with rfl | hp
      · exact he
      · exact ih h p hp

theorem MapIs.lookup {w : World} {b : Nat} {K T E : TypeId} {enc : κ → Value} {l : List (κ × Value)} (h : MapIs w b enc l) (L : KeyOk P K enc) (hT : P.underlying T = some (.map K E)) {z : Value}
    (hz : ∀ w, (zeroValue E).run P w = .ok z w) (k : κ) (ok : Bool) :
    (Instr.lookup T (.map (some b)) (enc k) ok).run P w = .ok (if ok then .tuple #[(getL l k).getD z, .bool (getL l k).isSome] else (getL l k).getD z) w := by
  obtain ⟨es, c, hb, hm, _⟩ := h.ex
  simp only [Instr.lookup, Sem.run_bind, run_underlying hT, Result.andThen_ok, run_getObj_map hb, Sem.run_pure, L.check, L.find w k l es.toList hm]
  unfold getL
  cases hf : findL k l 0 with
  | none => simp [hz, Result.andThen]
  | some p => simp

/-- The pairs behind a store. -/
def putL (k : κ) (v : Value) (l : List (κ × Value)) : List (κ × Value) :=
  match findL k l 0 with
  | some (j, _) => l.set j (k, v)
  | none => l ++ [(k, v)]
/-- The pairs behind a delete. -/
def delL (k : κ) (l : List (κ × Value)) : List (κ × Value) :=
  match findL k l 0 with
  | some (j, _) => l.eraseIdx j
  | none => l

theorem getL_of_mem {l : List (κ × Value)} (hn : (l.map Prod.fst).Nodup) {k : κ} {v : Value} (h : (k, v) ∈ l) : getL l k = some v := by
  unfold getL
  cases hf : findL k l 0 with
  | none => exact (findL_none hf _ h rfl).elim
  | some p =>
    obtain ⟨j, u⟩ := p
    obtain ⟨n, _, h2⟩ := findL_some hf
    obtain ⟨m, hm, he⟩ := List.mem_iff_getElem.1 h
    have hnl : n < l.length := by
      rcases Nat.lt_or_ge n l.length with h' | h'
      · exact h'
      · rw [List.getElem?_eq_none h'] at h2; cases h2
    rw [List.getElem?_eq_getElem hnl] at h2
    have h3 : l[n] = (k, u) := by simpa using h2
    have h4 : n = m := by
      apply (List.getElem_inj (h₀ := by simpa using hnl) (h₁ := by simpa using hm) hn).1
      simp [h3, he]
    subst h4
    rw [h3] at he
    simp only [Prod.mk.injEq, true_and] at he
    simp [he]
theorem mem_of_getL {l : List (κ × Value)} {k : κ} {v : Value} (h : getL l k = some v) : (k, v) ∈ l := by
  unfold getL at h
  cases hf : findL k l 0 with
  | none => rw [hf] at h; cases h
  | some p =>
    obtain ⟨j, u⟩ := p
    obtain ⟨n, _, h2⟩ := findL_some hf
    rw [hf] at h
    simp only [Option.map_some, Option.some.injEq] at h
    subst h
    exact List.mem_of_getElem? h2
theorem getL_none {l : List (κ × Value)} {k : κ} : getL l k = none ↔ ∀ p ∈ l, p.1 ≠ k := by
  constructor
  · intro h
    unfold getL at h
    cases hf : findL k l 0 with
    | none => exact findL_none hf
    | some p => rw [hf] at h; cases h
  · intro h
    cases hg : getL l k with
    | none => rfl
    | some v => exact (h _ (mem_of_getL hg) rfl).elim
theorem getL_ext {l : List (κ × Value)} (hn : (l.map Prod.fst).Nodup) {k : κ} {o : Option Value} (h1 : ∀ v, o = some v → (k, v) ∈ l) (h2 : o = none → ∀ p ∈ l, p.1 ≠ k) : getL l k = o := by
  cases o with
  | none => exact getL_none.2 (h2 rfl)
  | some v => exact getL_of_mem hn (h1 v rfl)

theorem set_keys {l : List (κ × Value)} {n : Nat} {k : κ} {u v : Value} (h : l[n]? = some (k, u)) : (l.set n (k, v)).map Prod.fst = l.map Prod.fst := by
  have hn : n < l.length := by
    rcases Nat.lt_or_ge n l.length with h' | h'
    · exact h'
    · rw [List.getElem?_eq_none h'] at h; cases h
  apply List.ext_getElem (by simp)
  intro i h1 h2
  simp only [List.getElem_map, List.getElem_set]
  split
  · rename_i e; subst e
    rw [List.getElem?_eq_getElem hn] at h
    have : l[n] = (k, u) := by simpa using h
    simp [this]
  · rfl
theorem putL_nodup {l : List (κ × Value)} (hn : (l.map Prod.fst).Nodup) (k : κ) (v : Value) : ((putL k v l).map Prod.fst).Nodup := by
  unfold putL
  cases hf : findL k l 0 with
  | none =>
    simp only [List.map_append, List.map_cons, List.map_nil]
    refine List.nodup_append.2 ⟨hn, by simp, ?_⟩
    intro a ha b hb
    obtain ⟨p, hp, rfl⟩ := List.mem_map.1 ha
    simp at hb; subst hb
    exact findL_none hf p hp
  | some p =>
    obtain ⟨j, u⟩ := p
    obtain ⟨n, h1, h2⟩ := findL_some hf
    simp only [Nat.zero_add] at h1; subst h1
    rw [set_keys h2]; exact hn
theorem getL_putL {l : List (κ × Value)} (hn : (l.map Prod.fst).Nodup) (k k' : κ) (v : Value) : getL (putL k v l) k' = if k' = k then some v else getL l k' := by
  refine getL_ext (putL_nodup hn k v) ?_ ?_
  · intro u hu
    unfold putL
    cases hf : findL k l 0 with
    | none =>
      dsimp only
      split at hu
      · rename_i e; subst e; cases hu; simp
      · exact List.mem_append.2 (.inl (mem_of_getL hu))
    | some p =>
      obtain ⟨j, x⟩ := p
      obtain ⟨n, h1, h2⟩ := findL_some hf
      simp only [Nat.zero_add] at h1; subst h1
      dsimp only
      have hj : j < l.length := by
        rcases Nat.lt_or_ge j l.length with h' | h'
        · exact h'
        · rw [List.getElem?_eq_none h'] at h2; cases h2
      split at hu
      · rename_i e; subst e; cases hu
        exact List.mem_iff_getElem.2 ⟨j, by simpa using hj, by simp⟩
      · rename_i e
        obtain ⟨m, hm, he⟩ := List.mem_iff_getElem.1 (mem_of_getL hu)
        refine List.mem_iff_getElem.2 ⟨m, by simpa using hm, ?_⟩
        rw [List.getElem_set_ne]
        · exact he
        · rintro rfl
          rw [List.getElem?_eq_getElem hj] at h2
          have h3 : l[j] = (k, x) := by simpa using h2
          rw [h3] at he
          simp only [Prod.mk.injEq] at he
          exact e he.1.symm
  · intro ho p hp e
    split at ho
    · cases ho
    · rename_i hne
      have hno := getL_none.1 ho
      unfold putL at hp
      cases hf : findL k l 0 with
      | none =>
        rw [hf] at hp
        rcases List.mem_append.1 hp with hp | hp
        · exact hno p hp e
        · simp at hp; subst hp; exact hne e.symm
      | some q =>
        obtain ⟨j, x⟩ := q
        rw [hf] at hp
        rcases List.mem_or_eq_of_mem_set hp with hp | rfl
        · exact hno p hp e
        · exact hne e.symm

theorem MapIs.update {w : World} {b : Nat} {K T E : TypeId} {enc : κ → Value} {l : List (κ × Value)} (h : MapIs w b enc l) (L : KeyOk P K enc) (hT : P.underlying T = some (.map K E)) (k : κ) (v : Value) :
    ∃ w', (Instr.mapUpdate T (.map (some b)) (enc k) v).run P w = .ok () w' ∧ MapIs w' b enc (putL k v l) ∧ w.grownBy w' (some b) := by
  obtain ⟨es, c, hb, hm, hborn, hnd⟩ := h.ex
  have hlt := h.lt
  have hlen : es.toList.length = l.length := by have := congrArg List.length hm; simpa using this
  have hset : ∀ o : Obj, (setObj b o).run P w = .ok () { w with heap := w.heap.setIfInBounds b o } := by
    intro o; simp [setObj, Sem.run, hb]
  have hgrown : ∀ o : Obj, w.grownBy { w with heap := w.heap.setIfInBounds b o } (some b) := by
    intro o
    refine ⟨rfl, rfl, rfl, by simp, fun i hi hne => ?_⟩
    have : b ≠ i := by rintro rfl; exact hne rfl
    simp [this]
  cases hf : findL k l 0 with
  | none =>
    refine ⟨{ w with heap := w.heap.setIfInBounds b (.map (es.push { key := enc k, val := v, born := c }) (c + 1)) }, ?_, ?_, hgrown _⟩
    · simp only [Instr.mapUpdate, Sem.run_bind, run_underlying hT, Result.andThen_ok, run_getObj_map hb, L.check, L.find w k l es.toList hm, hf, hset]
    · refine ⟨⟨es.push { key := enc k, val := v, born := c }, c + 1, by simp [hlt], ?_, ?_, ?_⟩, ?_⟩
      · unfold putL; rw [hf]; simp [hm]
      · intro e he
        rw [Array.toList_push, List.mem_append] at he
        rcases he with he | he
        · have := hborn e he; omega
        · simp at he; subst he; simp
      · rw [Array.toList_push, List.map_append]
        refine List.nodup_append.2 ⟨hnd, by simp, ?_⟩
        intro a ha b' hb'
        obtain ⟨e, he, rfl⟩ := List.mem_map.1 ha
        simp at hb'; subst hb'
        have := hborn e he; omega
      · exact putL_nodup h.nodup k v
  | some p =>
    obtain ⟨j, u⟩ := p
    obtain ⟨n, h1, h2⟩ := findL_some hf
    simp only [Nat.zero_add] at h1; subst h1
    have hj : j < l.length := by
      rcases Nat.lt_or_ge j l.length with h' | h'
      · exact h'
      · rw [List.getElem?_eq_none h'] at h2; cases h2
    have hje : j < es.size := by have : es.toList.length = es.size := rfl; omega
    have hkey : es[j].key = enc k := by
      have h3 := congrArg (fun x => x[j]?) hm
      simp only [List.getElem?_map, h2, Option.map_some] at h3
      have h4 : es.toList[j]? = some es[j] := by simp [hje]
      rw [h4] at h3
      simp only [Option.map_some, Option.some.injEq, Prod.mk.injEq] at h3
      exact h3.1
    have hst : (Instr.keyThatStays (((es[j]?).map (·.key)).getD (enc k)) (enc k)).run P w = .ok (enc k) w := by
      simp only [Array.getElem?_eq_getElem hje, Option.map_some, Option.getD_some, hkey]; exact L.stays w k
    refine ⟨{ w with heap := w.heap.setIfInBounds b (.map (es.modify j fun e => { e with key := enc k, val := v }) c) }, ?_, ?_, hgrown _⟩
    · simp only [Instr.mapUpdate, Sem.run_bind, run_underlying hT, Result.andThen_ok, run_getObj_map hb, L.check, L.find w k l es.toList hm, hf, hst, hset]
    · have hml : (es.modify j fun e => { e with key := enc k, val := v }).toList = es.toList.set j { es[j] with key := enc k, val := v } := by
        apply List.ext_getElem (by simp)
        intro i hi1 hi2
        simp only [Array.getElem_toList, Array.getElem_modify, List.getElem_set]
        split
        · rename_i e; subst e; rfl
        · rfl
      refine ⟨⟨es.modify j fun e => { e with key := enc k, val := v }, c, by simp [hlt], ?_, ?_, ?_⟩, putL_nodup h.nodup k v⟩
      · unfold putL; rw [hf, hml]; simp [List.map_set, hm]
      · intro e he
        rw [hml] at he
        rcases List.mem_or_eq_of_mem_set he with he | rfl
        · exact hborn e he
        · exact hborn es[j] (by simp)
      · have : ((es.modify j fun e => { e with key := enc k, val := v }).toList.map (·.born)) = es.toList.map (·.born) := by
          rw [hml, List.map_set]
          apply List.ext_getElem (by simp)
          intro i hi1 hi2
          simp only [List.getElem_set, List.getElem_map, Array.getElem_toList]
          split
          · rename_i e; subst e; rfl
          · rfl
        rw [this]; exact hnd

theorem map_eraseIdx {α β : Type} (f : α → β) : ∀ (l : List α) (j : Nat), (l.eraseIdx j).map f = (l.map f).eraseIdx j
  | [], _ => rfl
  | _ :: _, 0 => rfl
  | x :: l, j + 1 => by simp [map_eraseIdx f l j]
theorem delL_nodup {l : List (κ × Value)} (hn : (l.map Prod.fst).Nodup) (k : κ) : ((delL k l).map Prod.fst).Nodup := by
  unfold delL
  split
  · exact hn.sublist ((List.eraseIdx_sublist _ _).map _)
  · exact hn
theorem getL_delL {l : List (κ × Value)} (hn : (l.map Prod.fst).Nodup) (k k' : κ) : getL (delL k l) k' = if k' = k then none else getL l k' := by
  refine getL_ext (delL_nodup hn k) ?_ ?_
  · intro u hu
    split at hu
    · cases hu
    · rename_i hne
      have hm := mem_of_getL hu
      unfold delL
      cases hf : findL k l 0 with
      | none => exact hm
      | some p =>
        obtain ⟨j, x⟩ := p
        obtain ⟨n, h1, h2⟩ := findL_some hf
        simp only [Nat.zero_add] at h1; subst h1
        dsimp only
        rw [List.mem_eraseIdx_iff_getElem?]
        obtain ⟨m, hm2, he⟩ := List.mem_iff_getElem.1 hm
        refine ⟨m, ?_, by rw [List.getElem?_eq_getElem hm2, he]⟩
        rintro rfl
        rw [List.getElem?_eq_getElem hm2, he] at h2
        simp only [Option.some.injEq, Prod.mk.injEq] at h2
        exact hne h2.1
  · intro ho p hp e
    unfold delL at hp
    cases hf : findL k l 0 with
    | none =>
      rw [hf] at hp
      split at ho
      · rename_i h; subst h; exact findL_none hf p hp e
      · exact getL_none.1 ho p hp e
    | some q =>
      obtain ⟨j, x⟩ := q
      rw [hf] at hp
      dsimp only at hp
      obtain ⟨n, h1, h2⟩ := findL_some hf
      simp only [Nat.zero_add] at h1; subst h1
      obtain ⟨m, hmj, hm⟩ := List.mem_eraseIdx_iff_getElem?.1 hp
      split at ho
      · rename_i h; subst h
        have hj : j < l.length := by
          rcases Nat.lt_or_ge j l.length with h' | h'
          · exact h'
          · rw [List.getElem?_eq_none h'] at h2; cases h2
        have hml : m < l.length := by
          rcases Nat.lt_or_ge m l.length with h' | h'
          · exact h'
          · rw [List.getElem?_eq_none h'] at hm; cases hm
        rw [List.getElem?_eq_getElem hj] at h2
        rw [List.getElem?_eq_getElem hml] at hm
        have : m = j := by
          apply (List.getElem_inj (h₀ := by simpa using hml) (h₁ := by simpa using hj) hn).1
          simp only [Option.some.injEq] at h2 hm
          simp [h2, hm, e]
        exact hmj this
      · exact getL_none.1 ho p (List.mem_of_getElem? hm) e

theorem MapIs.delete {w : World} {b : Nat} {K T E : TypeId} {enc : κ → Value} {l : List (κ × Value)} (h : MapIs w b enc l) (L : KeyOk P K enc) (hT : P.underlying T = some (.map K E)) (k : κ) (ty : TypeId) :
    ∃ w', (Builtin.delete_ #[T, K] ty #[.map (some b), enc k]).run P w = .ok (.tuple #[]) w' ∧ MapIs w' b enc (delL k l) ∧ w.grownBy w' (some b) := by
  obtain ⟨es, c, hb, hm, hborn, hnd⟩ := h.ex
  have hlt := h.lt
  have hlen : es.toList.length = l.length := by have := congrArg List.length hm; simpa using this
  have hset : ∀ o : Obj, (setObj b o).run P w = .ok () { w with heap := w.heap.setIfInBounds b o } := by
    intro o; simp [setObj, Sem.run, hb]
  have hgrown : ∀ o : Obj, w.grownBy { w with heap := w.heap.setIfInBounds b o } (some b) := by
    intro o
    refine ⟨rfl, rfl, rfl, by simp, fun i hi hne => ?_⟩
    have : b ≠ i := by rintro rfl; exact hne rfl
    simp [this]
  cases hf : findL k l 0 with
  | none =>
    refine ⟨{ w with heap := w.heap.setIfInBounds b (.map es c) }, ?_, ?_, hgrown _⟩
    · simp [Builtin.delete_, run_underlying hT, run_getObj_map hb, L.check, L.find w k l es.toList hm, hf, hset]
    · refine ⟨⟨es, c, by simp [hlt], ?_, hborn, hnd⟩, delL_nodup h.nodup k⟩
      unfold delL; rw [hf]; exact hm
  | some p =>
    obtain ⟨j, u⟩ := p
    obtain ⟨n, h1, h2⟩ := findL_some hf
    simp only [Nat.zero_add] at h1; subst h1
    have hj : j < l.length := by
      rcases Nat.lt_or_ge j l.length with h' | h'
      · exact h'
      · rw [List.getElem?_eq_none h'] at h2; cases h2
    have hje : j < es.size := by have : es.toList.length = es.size := rfl; omega
    refine ⟨{ w with heap := w.heap.setIfInBounds b (.map (es.eraseIdxIfInBounds j) c) }, ?_, ?_, hgrown _⟩
    · simp [Builtin.delete_, run_underlying hT, run_getObj_map hb, L.check, L.find w k l es.toList hm, hf, hset]
    · have hml : (es.eraseIdxIfInBounds j).toList = es.toList.eraseIdx j := by simp [Array.eraseIdxIfInBounds, hje]
      refine ⟨⟨es.eraseIdxIfInBounds j, c, by simp [hlt], ?_, ?_, ?_⟩, delL_nodup h.nodup k⟩
      · unfold delL; rw [hf, hml]; rw [map_eraseIdx, map_eraseIdx, hm]
      · intro e he
        rw [hml] at he
        exact hborn e (List.mem_of_mem_eraseIdx he)
      · rw [hml]
        exact hnd.sublist ((List.eraseIdx_sublist _ _).map _)
theorem MapIs.size {w : World} {b : Nat} {K T E : TypeId} {enc : κ → Value} {l : List (κ × Value)} (h : MapIs w b enc l) (hT : P.underlying T = some (.map K E)) (ty : TypeId) :
    (Builtin.len_ #[T] ty #[.map (some b)]).run P w = .ok (.int .i64 l.length) w := by
  obtain ⟨es, c, hb, hm, _⟩ := h.ex
  have hlen : es.toList.length = l.length := by have := congrArg List.length hm; simpa using this
  have : es.size = l.length := hlen
  simp [Builtin.len_, run_underlying hT, run_getObj_map hb, goInt, this]

/-- Integers as keys. -/
theorem keyOk_int {K : TypeId} (hK : P.underlying K = some (.int .i64)) : KeyOk P K (Value.int .i64) where
  check w em k := MapKept.run_checkKey hK (by simp [MapKept.IsKey]) em 9999
  find w k l es h := by
    have key : ∀ (es : List MapEntry) (l : List (Int × Value)) (i : Nat), es.map (fun e => (e.key, e.val)) = l.map (fun p => (Value.int .i64 p.1, p.2)) → Instr.findNow (.int .i64) (.int .i64 k) es i = some (findL k l i) := by
      intro es
      induction es with
      | nil => intro l i h; cases l with
        | nil => rfl
        | cons p l => simp at h
      | cons e es ih =>
        intro l i h
        cases l with
        | nil => simp at h
        | cons p l =>
          simp only [List.map_cons, List.cons.injEq, Prod.mk.injEq] at h
          obtain ⟨⟨h1, h2⟩, h3⟩ := h
          simp only [Instr.findNow, h1, Instr.sameNow, if_true, findL]
          by_cases e1 : p.1 = k
          · simp [e1, h2]
          · have h5 : (k == p.1) = false := by simpa using (fun e : k = p.1 => e1 e.symm)
            simp [e1, h5, ih l (i + 1) h3]
    simp [Instr.findKey, run_underlying hK, key es l 0 h]
  stays w k := by simp [Instr.keyThatStays, Instr.sameBits]

/-- Structs and arrays as keys. -/
theorem keyOk_agg {K : TypeId} {d : TypeDesc} {enc : κ → Value} (hK : P.underlying K = some d) (hd : ∀ a b, Instr.sameNow d (enc a) (enc b) = none)
    (heq : ∀ (w : World) a b, (Op.equal K (enc a) (enc b)).run P w = .ok (decide (a = b)) w)
    (hcheck : ∀ (w : World) (em : Bool) (k : κ), (Instr.checkKey em 10000 K (enc k)).run P w = .ok () w)
    (hstays : ∀ (w : World) (k : κ), (Instr.keyThatStays (enc k) (enc k)).run P w = .ok (enc k) w) : KeyOk P K enc where
  check := hcheck
  stays := hstays
  find w k l es h := by
    have key : ∀ (es : List MapEntry) (l : List (κ × Value)) (i : Nat), es.map (fun e => (e.key, e.val)) = l.map (fun p => (enc p.1, p.2)) → (Instr.findAsking K (enc k) es i).run P w = .ok (findL k l i) w := by
      intro es
      induction es with
      | nil => intro l i h; cases l with
        | nil => rfl
        | cons p l => simp at h
      | cons e es ih =>
        intro l i h
        cases l with
        | nil => simp at h
        | cons p l =>
          simp only [List.map_cons, List.cons.injEq, Prod.mk.injEq] at h
          obtain ⟨⟨h1, h2⟩, h3⟩ := h
          simp only [Instr.findAsking, Sem.run_bind, h1, heq, Result.andThen_ok, findL]
          by_cases e1 : k = p.1
          · have e2 : p.1 = k := e1.symm
            simp [e1, h2]
          · have e2 : ¬ p.1 = k := fun e => e1 e.symm
            simp [e1, e2, ih l (i + 1) h3]
    cases es with
    | nil =>
      cases l with
      | nil => simp [Instr.findKey, run_underlying hK, Instr.findNow, findL]
      | cons p l => simp at h
    | cons e es =>
      cases l with
      | nil => simp at h
      | cons p l =>
        have h' := h
        simp only [List.map_cons, List.cons.injEq, Prod.mk.injEq] at h'
        have hn : Instr.findNow d (enc k) (e :: es) 0 = none := by simp [Instr.findNow, h'.1.1, hd]
        simp [Instr.findKey, run_underlying hK, hn, key _ _ 0 h]

/-- The laws at the operations. -/
theorem wpList_lookupM {ops : Array Oper} {rest : List Oper} {o : Oper} {a : Act} {Q : Exit → Act → World → Prop} {w : World} {b : Nat} {K T E : TypeId} {enc : κ → Value} {l : List (κ × Value)}
    (hg : o.guard = none) (m x : Operand) (ok : Bool) (hop : o.op = Op.lookup T m x ok) (L : KeyOk P K enc) (hT : P.underlying T = some (.map K E)) {z : Value} (hz : ∀ w, (zeroValue E).run P w = .ok z w)
    (k : κ) (hm : a.eval m = .map (some b)) (hx : a.eval x = enc k) (h : MapIs w b enc l)
    (hK : wpList P ops Q rest (a.put o.dst (if ok then .tuple #[(getL l k).getD z, .bool (getL l k).isSome] else (getL l k).getD z)) w) : wpList P ops Q (o :: rest) a w := by
  refine wpList_plain hg fun K' hK' => ?_
  have hr := h.lookup L hT hz k ok
  unfold Oper.wp
  simp [execOp, hop, hm, hx, hr, Result.andThen]
  exact hK' _ _ hK
theorem wpList_updateM {ops : Array Oper} {rest : List Oper} {o : Oper} {a : Act} {Q : Exit → Act → World → Prop} {w : World} {b : Nat} {K T E : TypeId} {enc : κ → Value} {l : List (κ × Value)}
    (hg : o.guard = none) (m x y : Operand) (hop : o.op = Op.mapUpdate T m x y) (L : KeyOk P K enc) (hT : P.underlying T = some (.map K E))
    (k : κ) (v : Value) (hm : a.eval m = .map (some b)) (hx : a.eval x = enc k) (hy : a.eval y = v) (h : MapIs w b enc l)
    (hK : ∀ w', MapIs w' b enc (putL k v l) → w.grownBy w' (some b) → wpList P ops Q rest (a.put o.dst undef) w') : wpList P ops Q (o :: rest) a w := by
  refine wpList_plain hg fun K' hK' => ?_
  obtain ⟨w', hr, h1, h2⟩ := h.update L hT k v
  unfold Oper.wp
  simp [execOp, hop, hm, hx, hy, hr, Result.andThen]
  exact hK' _ _ (hK w' h1 h2)
theorem wpList_deleteM {ops : Array Oper} {rest : List Oper} {o : Oper} {a : Act} {Q : Exit → Act → World → Prop} {w : World} {b : Nat} {K T E : TypeId} {enc : κ → Value} {l : List (κ × Value)}
    (hg : o.guard = none) (m x : Operand) (hop : o.op = Op.call { callee := Callee.builtin Builtin.delete, args := #[m, x], argTypes := #[T, K] }) (L : KeyOk P K enc) (hT : P.underlying T = some (.map K E))
    (k : κ) (hm : a.eval m = .map (some b)) (hx : a.eval x = enc k) (h : MapIs w b enc l)
    (hK : ∀ w', MapIs w' b enc (delL k l) → w.grownBy w' (some b) → wpList P ops Q rest (a.put o.dst (.tuple #[])) w') : wpList P ops Q (o :: rest) a w := by
  refine wpList_plain hg fun K' hK' => ?_
  obtain ⟨w', hr, h1, h2⟩ := h.delete L hT k o.type
  unfold Oper.wp
  simp [execOp, hop, resolve, invoke, builtin, hm, hx, hr, Result.andThen]
  exact hK' _ _ (hK w' h1 h2)

end
end Go.Proofs.YtchliiaknmknhaaGreat

-- Right
namespace Go.Proofs.YtchliiaknmknhaaGreat
open Go.RowKit

/-- How often v stands among the first i. -/
def cntP (zs : List Int) (v : Int) (i : Nat) : Nat := ((zs.take i).filter (fun z => decide (z = v))).length
theorem cntP_yes {zs : List Int} {v : Int} {i : Nat} (hi : i < zs.length) (h : at0 zs i = v) : cntP zs v (i + 1) = cntP zs v i + 1 := by
  rw [at0_eq hi] at h
  unfold cntP
  rw [List.take_succ_eq_append_getElem hi, List.filter_append]
  simp [h]
theorem cntP_no {zs : List Int} {v : Int} {i : Nat} (hi : i < zs.length) (h : at0 zs i ≠ v) : cntP zs v (i + 1) = cntP zs v i := by
  rw [at0_eq hi] at h
  unfold cntP
  rw [List.take_succ_eq_append_getElem hi, List.filter_append]
  simp [h]
theorem cntP_le (zs : List Int) (v : Int) (i : Nat) : cntP zs v i ≤ i := by
  unfold cntP
  refine Nat.le_trans (List.length_filter_le _ _) ?_
  rw [List.length_take]; omega
def permB (zs : List Int) (n : Int) : Bool := decide ((zs.length : Int) = n ∧ ∀ v, v < zs.length → cntP zs (v : Nat) zs.length = 1)
set_option maxRecDepth 100000 in
set_option maxHeartbeats 1000000 in
theorem right_any (a : Option Addr) (c : Nat) (zs : List Int) (n : Int) (w : World) (hz : IntsAt w a zs) (hl : zs.length ≤ 1000000) :
    Calls Tryz.prog 55 #[.slice a zs.length c, .int .i64 n] w fun x w' => x = .returned (.bool (permB zs n)) ∧ w = w' := by
  have HZ := Lib.hid hz
  clear hz
  by_cases hn : (zs.length : Int) = n
  · subst hn
    have HR : Hid (∀ b : Bool, (b = true ↔ ∀ v, v < zs.length → cntP zs (v : Nat) zs.length = 1) → permB zs zs.length = b) := by
      refine Lib.hid fun b hb => ?_
      unfold permB
      rw [Bool.eq_iff_iff, hb]
      simp
    go_enter Tryz.func55, Tryz.ntmps55
    go_wp2_with fail
    go_loopw [5] (fun s5 wr => ∃ k : Nat, k ≤ zs.length ∧ s5 = .int .i64 k ∧ w = wr ∧ ∀ v, v < k → cntP zs (v : Nat) zs.length = 1) (fun s5 _ => zs.length - (intOf s5).toNat)
    case atStart => exact ⟨0, Nat.zero_le _, rfl, rfl, fun v hv => by omega⟩
    case round =>
      obtain ⟨k, hk, rfl, rfl, hall⟩ := hrel
      have HA := Lib.hid hall
      clear hall
      by_cases hlt : k < zs.length
      · have hk1 : (k : Int) < zs.length := by omega
        go_wp2_with fail
        go_loopw [6, 7] (fun s6 s7 wx => ∃ i : Nat, i ≤ zs.length ∧ s7 = .int .i64 i ∧ s6 = .int .i64 (cntP zs (k : Nat) i : Nat) ∧ w = wx) (fun _ s7 _ => zs.length - (intOf s7).toNat)
        case atStart => exact ⟨0, Nat.zero_le _, rfl, rfl, rfl⟩
        case round =>
          obtain ⟨i, hi, rfl, rfl, rfl⟩ := hrel
          have hcl := cntP_le zs (k : Nat) i
          by_cases hit : i < zs.length
          · obtain ⟨b, off, ha, hc⟩ := HZ.out.cells i hit
            subst ha
            have hi1 : (i : Int) < zs.length := by omega
            by_cases he : at0 zs i = (k : Nat)
            · rw [he] at hc
              have HY := Lib.hid (cntP_yes hit he)
              go_wp2_with fail
              go_roundw
              case rel => exact ⟨i + 1, by omega, by go_num, by rw [HY.out]; go_num, trivial⟩
              case measure => simp [intOf]; omega
            · have hne : ((at0 zs i : Int) == (k : Nat)) = false := by simpa using he
              have HY := Lib.hid (cntP_no hit he)
              generalize at0 zs i = z at hc hne
              clear he
              go_wp2_with fail
              go_roundw
              case rel => exact ⟨i + 1, by omega, by go_num, by rw [HY.out], trivial⟩
              case measure => simp [intOf]; omega
          · obtain rfl : i = zs.length := by omega
            generalize hq : cntP zs (k : Nat) zs.length = q at *
            by_cases h1 : q = 1
            · subst h1
              have HQ := Lib.hid hq
              clear hq
              go_wp2_with fail
              go_roundw
              case rel =>
                refine ⟨k + 1, by omega, by go_num, trivial, fun v hv => ?_⟩
                by_cases e : v = k
                · subst e; exact HQ.out
                · exact HA.out v (by omega)
              case measure => simp [intOf]; omega
            · have hne : ((q : Int) == 1) = false := by simp; omega
              have HQ := Lib.hid hq
              clear hq
              go_wp2_with fail
              go_ret
              refine ⟨?_, rfl⟩
              rw [HR.out false (by
                simp only [Bool.false_eq_true, false_iff]
                intro hh
                exact h1 ((HQ.out).symm.trans (hh k hlt)))]
              rfl
      · obtain rfl : k = zs.length := by omega
        go_wp2_with fail
        go_ret
        refine ⟨?_, rfl⟩
        rw [HR.out true (by simp only [true_iff]; exact HA.out)]
        rfl
  · have hne : (((zs.length : Nat) : Int) == n) = false := by simpa using hn
    have HR : Hid (permB zs n = false) := by
      refine Lib.hid ?_
      show permB zs n = false
      unfold permB
      simp [hn]
    go_enter Tryz.func55, Tryz.ntmps55
    go_wp2_with fail
    go_ret
    exact ⟨by rw [HR.out]; rfl, rfl⟩
theorem permB_range (n : Nat) : permB ((List.range n).map Int.ofNat) n = true := by
  unfold permB
  simp only [decide_eq_true_eq, List.length_map, List.length_range, true_and]
  intro v hv
  have hm : ∀ m, cntP ((List.range n).map Int.ofNat) (v : Nat) m = if v < m ∧ v < n then 1 else 0 := by
    intro m
    unfold cntP
    rw [← List.map_take, List.take_range, List.filter_map, List.length_map]
    have e : ∀ k, ((List.range k).filter ((fun z : Int => decide (z = (v : Nat))) ∘ Int.ofNat)).length = if v < k then 1 else 0 := by
      intro k
      induction k with
      | zero => simp
      | succ k ih =>
        rw [List.range_succ, List.filter_append, List.length_append, ih]
        by_cases h1 : v = k
        · subst h1; simp
        · have h2 : ¬ (k : Int) = v := by omega
          by_cases h3 : v < k
          · simp [h3, h2, show v < k + 1 by omega]
          · simp [h3, h2, show ¬ v < k + 1 by omega]
    rw [e]
    by_cases h1 : v < m <;> simp [h1, hv, Nat.lt_min]
  rw [hm]; simp [hv]
end Go.Proofs.YtchliiaknmknhaaGreat

-- Ident
namespace Go.Proofs.YtchliiaknmknhaaGreat
open Go.RowKit

/-- 'make([]int, n)'. -/
theorem wpList_makeI {ops : Array Oper} {rest : List Oper} {o : Oper} {a : Act} {Q : Exit → Act → World → Prop} {wr : World} (hgd : o.guard = none) (l c : Operand)
    (ho : o.op = .makeSlice 22 l c) (base : Nat) (w0 : World) (L : Int) (n : Nat) (hl : a.eval l = .int .i64 L) (hc : a.eval c = .int .i64 L) (hL : L = n) (hn : n < 1099511627776)
    (hbase : base ≤ wr.heap.size) (hb : Below base w0 wr)
    (h : ∀ g w', OwnI w' base (.slice (some ⟨g, 0, none⟩) n n) (List.replicate n 0) → Below base w0 w' → base ≤ w'.heap.size → KeepBut none wr w' → base ≤ g →
      wpList Tryz.prog ops Q rest (a.put o.dst (.slice (some ⟨g, 0, none⟩) n n)) w') :
    wpList Tryz.prog ops Q (o :: rest) a wr := by
  obtain ⟨i, hi, hz, hsz, hby⟩ := info_parts infoInt
  refine wpList_make_full wr hgd l c 22 ho base 3 i (.int .i64 0) 1 Tryz.underlying22 hi hz hsz .i64 .i64 L L n hl hc hL hL (by rw [hby]; omega) (by unfold maxLen; omega) hbase ?_
  intro w' h1 h2
  refine h wr.heap.size w' ?_ (hb.grown h2 hbase (by simp)) (by have := h2.size; omega) (keepBut_of_grown0 h2) hbase
  unfold OwnI
  have e1 : intsV (List.replicate n 0) = (madeCells (Value.int .i64 0).cells (n * 1)).toList := by
    simp [intsV, madeCells, Value.cells]
    apply List.ext_getElem
    · simp
    · intro j h3 h4; simp [Nat.mod_one]
  rw [List.length_replicate, e1]; exact h1

theorem set_iota_replicate (k n : Nat) (h : k < n) : (iota k ++ List.replicate (n - k) 0).set k (k : Int) = iota (k + 1) ++ List.replicate (n - (k + 1)) 0 := by
  have e : n - k = (n - (k + 1)) + 1 := by omega
  rw [e, List.replicate_succ, List.set_append_right _ _ (by simp [iota_length]), iota_length, Nat.sub_self, List.set_cons_zero, iota_succ, List.append_assoc]; rfl

set_option maxHeartbeats 400000 in
theorem permIdent_any (n : Int) (w : World) :
    Calls Tryz.prog 114 #[.int .i64 n] w fun e w' => ∃ v, e = .returned v ∧ OwnI w' w.heap.size v (identZ n) ∧ Below w.heap.size w w' := by
  obtain ⟨L, hL⟩ : ∃ L : Nat, L = min n.toNat 64 := ⟨_, rfl⟩
  have hL64 : L ≤ 64 := by omega
  have HF : Hid (identZ n = iota L) := by unfold identZ; rw [hL]; rfl
  have HL := Lib.hid hL
  clear hL
  go_enter Tryz.func114, Tryz.ntmps114
  go_wp2_with (at_make; refine wpList_makeI rfl _ _ rfl w.heap.size w _ L rfl rfl (by have := HL.out; omega) (by omega) (Nat.le_refl _) (Below.refl _ _) ?_; intro g w1 hown1 hb1 hs1 hk1 hg1)
  all_goals
    go_loopw [11] (fun i wr => ∃ k : Nat, k ≤ L ∧ i = .int .i64 k ∧ OwnI wr w.heap.size (.slice (some ⟨g, 0, none⟩) L L) (iota k ++ List.replicate (L - k) 0) ∧ Below w.heap.size w wr) (fun i _ => L - (intOf i).toNat)
    case atStart => exact ⟨0, by omega, rfl, by simpa [iota] using hown1, hb1⟩
    case round =>
      obtain ⟨k, hk, rfl, hown, hbel⟩ := hrel
      by_cases hlt : k < L
      · have q0 := hown.cell k (by simp [iota_length]; omega)
        have p0 := hown.frozen k
        go_wp2
        go_roundw
        case rel => exact ⟨k + 1, by omega, by go_num, by rw [← set_iota_replicate k L hlt]; exact hown.stored k _, hbel.setCell hg1 _⟩
        case measure => simp [intOf]; omega
      · obtain rfl : k = L := by omega
        go_wp2
        go_ret
        exact ⟨_, rfl, by rw [HF.out]; simpa using hown, hbel⟩

end Go.Proofs.YtchliiaknmknhaaGreat
