/- Small words shared by the walks: a slice that reads as a list of integers, results, worlds. -/
import Derived.Test.YtcembefhfadpbabRows
import Derived.WalkKit
import Derived.WalkSpells
import Derived.WalkLawsBesides
import Derived.Lib.Hide
import Derived.BigQuiet
import Derived.Deep.QuietTactic
import Derived.Deep.LoopGhost
import Derived.Deep.RegionWith
import Derived.Laws.CopyOwn
import Derived.Laws.AppendOwnNone
import Derived.Maps.AppendAt
import Derived.OwnWalk
namespace Go.Proofs.Ytcembefhfadpbab
open Go.RowKit
open Go.Maps

theorem ret_i64 {a b : Int} (h : a = b) : Ending.returned (.int .i64 a) = .returned (.int .i64 b) := by rw [h]
theorem ret_bool {a b : Bool} (h : a = b) : Ending.returned (.bool a) = .returned (.bool b) := by rw [h]

theorem below_drewN {B : Nat} {a w : World} (h : Below B a w) (n : Nat) : Below B a (w.drewN n) := Go.below_drewN h n

/-- The element at place k (0 behind the end): behind a plain name, so that the walk's simp leaves it alone. -/
def at0 (zs : List Int) (k : Nat) : Int := zs.getD k 0
theorem at0_eq {zs : List Int} {k : Nat} (h : k < zs.length) : at0 zs k = zs[k] := by simp [at0, List.getD, h]
theorem getElem?_at0 {zs : List Int} {k : Nat} (h : k < zs.length) : zs[k]? = some (at0 zs k) := by rw [at0_eq h]; exact List.getElem?_eq_getElem h

/-- A slice's address and its elements' cells. -/
structure CellsAt (w : World) (a : Option Addr) (cs : List Value) : Prop where
  cells : ∀ k, k < cs.length → ∃ b off, a = some ⟨b, off, none⟩ ∧ w.cell? ⟨b, off + k, none⟩ = cs[k]?

def intsV (zs : List Int) : List Value := zs.map (Value.int .i64)
theorem intsV_length (zs : List Int) : (intsV zs).length = zs.length := by simp [intsV]

structure IntsAt (w : World) (a : Option Addr) (zs : List Int) : Prop where
  len : zs.length ≤ 9223372036854775807
  cells : ∀ k, k < zs.length → ∃ b off, a = some ⟨b, off, none⟩ ∧ w.cell? ⟨b, off + k, none⟩ = some (.int .i64 (at0 zs k))

theorem lt_of_cell {w : World} {p : Addr} {v : Value} (h : w.cell? p = some v) : p.block < w.heap.size := World.block_lt_of_cell? w p h

theorem IntsAt.below {w w' : World} {a : Option Addr} {zs : List Int} (h : IntsAt w a zs) (hb : Below w.heap.size w w') : IntsAt w' a zs :=
  ⟨h.len, fun k hk => by
    obtain ⟨b, off, rfl, hc⟩ := h.cells k hk
    exact ⟨b, off, rfl, by rw [hb.cell (p := ⟨b, off + k, none⟩) (lt_of_cell hc)]; exact hc⟩⟩

/-- The result of a call: a slice that reads as zs. -/
def SliceOf (w : World) (v : Value) (zs : List Int) : Prop := ∃ a c, v = .slice a zs.length c ∧ IntsAt w a zs

theorem intsAt_of_owns {w : World} {base e n : Nat} {a : Option Addr} {c : Nat} {zs : List Int} (hl : zs.length ≤ 9223372036854775807)
    (h : w.ownsRow base e 1 (.slice a n c) n (intsV zs)) : IntsAt w a zs := by
  refine ⟨hl, fun k hk => ?_⟩
  rcases h.2 with ⟨hv, h0⟩ | ⟨g, cap, cur, hv, _⟩
  · have := h.1; rw [intsV_length] at this; omega
  · simp only [Value.slice.injEq] at hv
    obtain ⟨rfl, _, rfl⟩ := hv
    refine ⟨g, 0, rfl, ?_⟩
    have h1 := h.1
    rw [intsV_length] at h1
    have := h.cellAt k (by omega)
    rw [Nat.zero_add, this, intsV, List.getElem?_map, getElem?_at0 hk]; rfl

theorem sliceOf_of_owns {w : World} {base e : Nat} {v : Value} {zs : List Int} (hl : zs.length ≤ 9223372036854775807)
    (h : w.ownsRow base e 1 v zs.length (intsV zs)) : SliceOf w v zs := by
  rcases h.2 with ⟨rfl, h0⟩ | ⟨g, cap, cur, rfl, _⟩
  · have : zs = [] := List.eq_nil_of_length_eq_zero h0
    subst this
    exact ⟨none, 0, rfl, by simp, by simp⟩
  · exact ⟨_, _, rfl, intsAt_of_owns hl h⟩


/-- A slice of integers that the call itself made. -/
def OwnI (w : World) (base : Nat) (v : Value) (zs : List Int) : Prop := w.ownsRow base 3 1 v zs.length (intsV zs)

theorem OwnI.alloc {w : World} {base : Nat} {v : Value} {zs : List Int} (h : OwnI w base v zs) (o : Obj) : OwnI (w.alloc o) base v zs := World.ownsRow.alloc h o
theorem OwnI.drewN {w : World} {base : Nat} {v : Value} {zs : List Int} (h : OwnI w base v zs) (n : Nat) : OwnI (w.drewN n) base v zs := h
theorem OwnI.below {w w' : World} {base : Nat} {v : Value} {zs : List Int} (h : OwnI w base v zs) (hb : Below w.heap.size w w') : OwnI w' base v zs := by
  refine World.ownsRow.kept (row := none) h ⟨hb.os, hb.tape, hb.output, hb.size, fun k hk _ => hb.block k hk⟩ ?_
  cases v.ownBlock <;> simp
theorem OwnI.lt {w : World} {base : Nat} {v : Value} {zs : List Int} (h : OwnI w base v zs) : ∀ k, v.ownBlock = some k → base ≤ k ∧ k < w.heap.size := World.ownsRow.lt h
theorem OwnI.sliceOf {w : World} {base : Nat} {v : Value} {zs : List Int} (h : OwnI w base v zs) (hl : zs.length ≤ 9223372036854775807) : SliceOf w v zs := sliceOf_of_owns hl h
theorem ownI_new (w : World) (base : Nat) (hb : base ≤ w.heap.size) : OwnI (w.alloc (.cells #[] 3)) base (.slice (some ⟨w.heap.size, 0, none⟩) 0 0) [] :=
  World.ownsRow_made w #[] 0 hb (by unfold maxLen; omega) (by simp)
theorem ownI_nil (w : World) (base : Nat) : OwnI w base (.slice none 0 0) [] := World.ownsRow_nil w base 3 1

/-- Every old block but one row is as it was. -/
def KeepBut (row : Option Nat) (w w' : World) : Prop := ∀ k, k < w.heap.size → some k ≠ row → w'.heap[k]? = w.heap[k]?
theorem keepBut_of_grown {row : Option Nat} {w w' : World} {o : Obj} (h : (w.alloc o).grownBy w' row) : KeepBut row w w' := fun k hk hne => by
  rw [h.block k (by simp; omega) hne, Go.heap_alloc_old w o hk]
theorem keepBut_of_grown0 {row : Option Nat} {w w' : World} (h : w.grownBy w' row) : KeepBut row w w' := fun k hk hne => h.block k hk hne
theorem keepBut_refl (row : Option Nat) (w : World) : KeepBut row w w := fun _ _ _ => rfl
theorem IntsAt.keep {row : Option Nat} {w w' : World} {a : Option Addr} {zs : List Int} (h : IntsAt w a zs) (hk : KeepBut row w w') (hne : ∀ x, a = some x → some x.block ≠ row) : IntsAt w' a zs :=
  ⟨h.len, fun k hk' => by
    obtain ⟨b, off, rfl, hc⟩ := h.cells k hk'
    exact ⟨b, off, rfl, (World.cell?_of_block (w := w) (a := ⟨b, off + k, none⟩) (hk b (lt_of_cell hc) (hne _ rfl))).trans hc⟩⟩
theorem OwnI.keep {row : Option Nat} {w w' : World} {base : Nat} {v : Value} {zs : List Int} (h : OwnI w base v zs) (hk : KeepBut row w w') (hne : ∀ k, v.ownBlock = some k → some k ≠ row) : OwnI w' base v zs := by
  refine ⟨h.1, ?_⟩
  rcases h.2 with hn | ⟨g, cap, cur, rfl, hb, hgg, rest⟩
  · exact .inl hn
  · refine .inr ⟨g, cap, cur, rfl, hb, ?_, rest⟩
    rw [hk g (Array.getElem?_eq_some_iff.1 hgg).1 (hne g rfl)]
    exact hgg

/-- Behind an append: every old block but the slice's own is as it was; the new slice lies in the old one's block, or in a new one. -/
structure KeepApp (v v' : Value) (w w' : World) : Prop where
  keep : KeepBut v.ownBlock w w'
  loc : v'.ownBlock = v.ownBlock ∨ ∃ k, v'.ownBlock = some k ∧ w.heap.size ≤ k
theorem KeepApp.ne {v v' : Value} {w w' : World} (h : KeepApp v v' w w') {g : Nat} (hne : v.ownBlock ≠ some g) (hg : g < w.heap.size) : v'.ownBlock ≠ some g := by
  rcases h.loc with e | ⟨k, e, hk⟩
  · rw [e]; exact hne
  · rw [e]; intro hh; cases hh; omega

theorem infoInt : (Try.prog.info? 3).map (fun i => (i.zero, i.size, i.bytes)) = some (some (.int .i64 0), 1, 8) := by kernel_rfl

theorem wpList_app1 (wr : World) {ops : Array Oper} {rest : List Oper} {o : Oper} {a : Act} {Q : Exit → Act → World → Prop} {W : World} (hgd : o.guard = none) (s x : Operand)
    (ho : o.op = .call { callee := .builtin .append, args := #[s, x], argTypes := #[27, 27] })
    (base : Nat) (w0 : World) (v : Value) (zs : List Int) (y : Int) (hs : a.eval s = v) {N : Nat} (hx : a.eval x = .slice (some ⟨N, 0, none⟩) 1 1)
    (hW : W = wr.alloc (.cells #[.int .i64 y] 3)) (hN : N = wr.heap.size)
    (hown : OwnI wr base v zs) (hlen : zs.length < 1099511627776) (hbase : base ≤ wr.heap.size) (hb : Below base w0 wr)
    (h : ∀ v' w', OwnI w' base v' (zs ++ [y]) → Below base w0 w' → base ≤ w'.heap.size → KeepApp v v' wr w' → wpList Try.prog ops Q rest (a.put o.dst v') w') :
    wpList Try.prog ops Q (o :: rest) a W := by
  obtain ⟨i, hi, hz, hsz, hby⟩ := info_parts infoInt
  subst hN; subst hW
  refine wpList_append_own_at (w := wr.alloc (.cells #[.int .i64 y] 3)) hgd s x 27 ho base 3 i (.int .i64 0) 1 8 Try.underlying27 hi hz hsz hby rfl (by decide)
    v zs.length (intsV zs) hs (hown.alloc _) ⟨wr.heap.size, 0, none⟩ 1 1 [.int .i64 y] hx rfl (cell_one_new _ _ _) (ints_oneCell .i64 [y]) (by unfold maxLen; omega) (by omega) (by simp; omega) ?_
  intro v' w' h1 h2 _ hloc
  refine h v' w' ?_ ?_ ?_ ⟨keepBut_of_grown h2, hloc.imp id fun e => ⟨_, e, by simp⟩⟩
  · unfold OwnI
    have e1 : (zs ++ [y]).length = zs.length + 1 := by simp
    have e2 : intsV (zs ++ [y]) = intsV zs ++ [.int .i64 y] := by simp [intsV]
    rw [e1, e2]; exact h1
  · exact (hb.alloc hbase _).grown h2 (by simp; omega) (fun k hk => (hown.lt k hk).1)
  · have := h2.size; simp at this; omega

theorem wpList_appAll {ops : Array Oper} {rest : List Oper} {o : Oper} {a : Act} {Q : Exit → Act → World → Prop} {wr : World} (hgd : o.guard = none) (s x : Operand)
    (ho : o.op = .call { callee := .builtin .append, args := #[s, x], argTypes := #[27, 27] })
    (base : Nat) (w0 : World) (v : Value) (zs ys : List Int) (ao : Option Addr) (c : Nat) (hs : a.eval s = v) (hx : a.eval x = .slice ao ys.length c)
    (hown : OwnI wr base v zs) (hys : IntsAt wr ao ys) (hlen : zs.length + ys.length < 1099511627776) (hbase : base ≤ wr.heap.size) (hb : Below base w0 wr)
    (hnil : ao = none → c = 0)
    (h : ∀ v' w', OwnI w' base v' (zs ++ ys) → Below base w0 w' → base ≤ w'.heap.size → KeepApp v v' wr w' → wpList Try.prog ops Q rest (a.put o.dst v') w') :
    wpList Try.prog ops Q (o :: rest) a wr := by
  obtain ⟨i, hi, hz, hsz, hby⟩ := info_parts infoInt
  cases ao with
  | none =>
    have h0 : ys = [] := by
      apply List.eq_nil_of_length_eq_zero
      rcases Nat.eq_zero_or_pos ys.length with h0 | h0
      · exact h0
      · obtain ⟨b, off, hh, _⟩ := hys.cells 0 h0; cases hh
    subst h0
    obtain rfl := hnil rfl
    refine wpList_append_own_none (w := wr) hgd s x 27 ho base 3 i 1 Try.underlying27 hi v zs.length (intsV zs) hs hown hx ?_
    exact h v wr (by simpa using hown) hb hbase ⟨keepBut_refl _ _, .inl rfl⟩
  | some ad =>
    refine wpList_append_own_at (w := wr) hgd s x 27 ho base 3 i (.int .i64 0) 1 8 Try.underlying27 hi hz hsz hby rfl (by decide)
      v zs.length (intsV zs) hs hown ad ys.length c (intsV ys) hx (by simp [intsV]) ?_ (ints_oneCell .i64 ys) (by unfold maxLen; omega) (by omega) hbase ?_
    · intro j u hj
      have hlt : j < ys.length := by
        rcases Nat.lt_or_ge j ys.length with h' | h'
        · exact h'
        · simp [intsV, List.getElem?_eq_none h'] at hj
      obtain ⟨b, off, hab, hc⟩ := hys.cells j hlt
      cases hab
      simp [intsV, getElem?_at0 hlt] at hj
      subst hj
      have hadd : (⟨b, off, none⟩ : Addr).add j = ⟨b, off + j, none⟩ := by unfold Addr.add; split <;> simp_all
      rw [hadd]; exact hc
    · intro v' w' h1 h2 _ hloc
      refine h v' w' ?_ ?_ ?_ ⟨keepBut_of_grown0 h2, hloc.imp id fun e => ⟨_, e, Nat.le_refl _⟩⟩
      · unfold OwnI
        have e1 : (zs ++ ys).length = zs.length + ys.length := by simp
        have e2 : intsV (zs ++ ys) = intsV zs ++ intsV ys := by simp [intsV]
        rw [e1, e2]; exact h1
      · exact hb.grown h2 hbase (fun k hk => (hown.lt k hk).1)
      · have := h2.size; omega

theorem OwnI.shape {w : World} {base : Nat} {v : Value} {zs : List Int} (h : OwnI w base v zs) (hp : 0 < zs.length) :
    ∃ g cap, v = .slice (some ⟨g, 0, none⟩) zs.length cap ∧ base ≤ g ∧ g < w.heap.size := by
  rcases h.2 with ⟨_, h0⟩ | ⟨g, cap, cur, hv, hg, hh, _⟩
  · omega
  · exact ⟨g, cap, hv, hg, (Array.getElem?_eq_some_iff.1 hh).1⟩
theorem OwnI.cell {w : World} {base g cap n : Nat} {zs : List Int} (h : OwnI w base (.slice (some ⟨g, 0, none⟩) n cap) zs) (k : Nat) (hk : k < zs.length) :
    w.cell? ⟨g, k, none⟩ = some (.int .i64 (at0 zs k)) := by
  have hn : n = zs.length := by
    rcases h.2 with ⟨hv, _⟩ | ⟨_, _, _, hv, _⟩
    · cases hv
    · cases hv; rfl
  subst hn
  have := World.ownsRow.cellAt h k (by omega)
  rw [this, intsV, List.getElem?_map, getElem?_at0 hk]; rfl
theorem OwnI.frozen {w : World} {base g cap n : Nat} {zs : List Int} (h : OwnI w base (.slice (some ⟨g, 0, none⟩) n cap) zs) (k : Nat) :
    w.frozen? ⟨g, k, none⟩ = false := by
  rcases h.2 with ⟨hv, _⟩ | ⟨_, _, _, hv, _⟩
  · cases hv
  · cases hv; exact World.ownsRow.frozenAt h k
theorem OwnI.stored {w : World} {base g cap n : Nat} {zs : List Int} (h : OwnI w base (.slice (some ⟨g, 0, none⟩) n cap) zs) (k : Nat) (y : Int) :
    OwnI (w.setCell ⟨g, k, none⟩ (.int .i64 y)) base (.slice (some ⟨g, 0, none⟩) n cap) (zs.set k y) := by
  rcases h.2 with ⟨hv, _⟩ | ⟨_, _, _, hv, _⟩
  · cases hv
  · cases hv
    have := (World.ownsRow.stored h k (.int .i64 y)).1
    unfold OwnI
    rw [List.length_set]
    have e : intsV (zs.set k y) = (intsV zs).set k (.int .i64 y) := by simp [intsV, List.map_set]
    rw [e]; exact this
theorem OwnI.setCell_other {w : World} {base : Nat} {v : Value} {zs : List Int} (h : OwnI w base v zs) {a : Addr} (ha : v.ownBlock ≠ some a.block) (u : Value) : OwnI (w.setCell a u) base v zs := ownsRow_setCell_other h ha u
theorem cell_setCell_ne {w : World} {g o : Nat} {v u : Value} {b q : Nat} (h : w.cell? ⟨b, q, none⟩ = some u) (hne : g ≠ b ∨ o ≠ q) : (w.setCell ⟨g, o, none⟩ v).cell? ⟨b, q, none⟩ = some u := by
  rw [World.cell?_setCell_other w ⟨g, o, none⟩ ⟨b, q, none⟩ v (by intro e; cases e; simp at hne)]; exact h

/-- A value that is a slice and reads as zs (a nil slice has no capacity). -/
def SliceIs (w : World) (v : Value) (zs : List Int) : Prop := ∃ a c, v = .slice a zs.length c ∧ IntsAt w a zs ∧ (a = none → c = 0)
theorem SliceIs.below {w w' : World} {v : Value} {zs : List Int} (h : SliceIs w v zs) (hb : Below w.heap.size w w') : SliceIs w' v zs := by
  obtain ⟨a, c, rfl, h1, h2⟩ := h
  exact ⟨a, c, rfl, h1.below hb, h2⟩
theorem SliceIs.keep {row : Option Nat} {w w' : World} {v : Value} {zs : List Int} (h : SliceIs w v zs) (hk : KeepBut row w w') (hne : ∀ k, v.ownBlock = some k → some k ≠ row) : SliceIs w' v zs := by
  obtain ⟨a, c, rfl, h1, h2⟩ := h
  exact ⟨a, c, rfl, h1.keep hk (fun x hx => hne x.block (by subst hx; rfl)), h2⟩
theorem OwnI.sliceIs {w : World} {base : Nat} {v : Value} {zs : List Int} (h : OwnI w base v zs) (hl : zs.length ≤ 9223372036854775807) : SliceIs w v zs := by
  obtain ⟨a, c, rfl, h1⟩ := h.sliceOf hl
  refine ⟨a, c, rfl, h1, fun e => ?_⟩
  subst e
  rcases h.2 with ⟨hv, h0⟩ | ⟨g, cap, cur, hv, _⟩
  · simp only [Value.slice.injEq] at hv; exact hv.2.2
  · simp only [Value.slice.injEq] at hv; cases hv.1

theorem below_new1 (w : World) (o : Obj) : Below w.heap.size w (w.alloc o) := (Below.refl _ _).alloc (Nat.le_refl _) _
theorem below_draw (w : World) (n : Nat) : Below w.heap.size w (w.drewN n) := below_drewN (Below.refl _ _) _
theorem below_drawnew (w : World) (n : Nat) (o : Obj) : Below w.heap.size w ((w.drewN n).alloc o) := (below_draw w n).alloc (Nat.le_refl _) _
theorem below_newdraw (w : World) (n : Nat) (o : Obj) : Below w.heap.size w ((w.alloc o).drewN n) := below_drewN (below_new1 w o) _
theorem IntsAt.drewN {w : World} {a : Option Addr} {zs : List Int} (h : IntsAt w a zs) (n : Nat) : IntsAt (w.drewN n) a zs := ⟨h.len, h.cells⟩
theorem SliceIs.drewN {w : World} {v : Value} {zs : List Int} (h : SliceIs w v zs) (n : Nat) : SliceIs (w.drewN n) v zs := by
  obtain ⟨a, c, rfl, h1, h2⟩ := h
  exact ⟨a, c, rfl, h1.drewN n, h2⟩
theorem sliceIs_nil (w : World) : SliceIs w (.slice none 0 0) [] := ⟨none, 0, rfl, ⟨by simp, by simp⟩, fun _ => rfl⟩


/-- A slice of integers that came in, as the row hands it over. -/
theorem sliceIs_of_row {w : World} {a : Option Addr} {len cap : Nat} {zs : List Int}
    (h : (a = none ∧ len = 0 ∧ cap = 0 ∧ zs = []) ∨ ∃ x, a = some x ∧ len ≤ cap ∧ cap ≤ maxLen ∧ zs.length = cap ∧ (∀ i, i < zs.length → w.cell? (x.add i) = some (.int .i64 (zs.getD i 0))) ∧ ∀ n ∈ zs, (Lit.int .i64 n).wf = true) :
    SliceIs w (.slice a len cap) (zs.take len) := by
  rcases h with ⟨rfl, rfl, rfl, rfl⟩ | ⟨x, rfl, hl, hm, hz, hc, _⟩
  · exact sliceIs_nil w
  · have hlen : (zs.take len).length = len := by simp; omega
    refine ⟨some x, cap, by rw [hlen], ⟨by rw [hlen]; unfold maxLen at hm; omega, fun k hk => ?_⟩, by simp⟩
    rw [hlen] at hk
    have h1 := hc k (by omega)
    obtain ⟨b, off, spot⟩ := x
    have hadd : ∀ k, (⟨b, off, spot⟩ : Addr).add k = if k = 0 then ⟨b, off, spot⟩ else ⟨b, off + k, none⟩ := fun k => rfl
    have hsp : spot = none := by
      have h0 := hc 0 (by omega)
      rw [hadd, if_pos rfl] at h0
      cases spot with
      | none => rfl
      | some s =>
        unfold World.cell? at h0
        split at h0 <;> simp at h0
    subst hsp
    refine ⟨b, off, rfl, ?_⟩
    have e : at0 (zs.take len) k = zs.getD k 0 := by simp [at0, List.getD, hk]
    rw [e, ← h1, hadd]
    by_cases h0 : k = 0
    · subst h0; rfl
    · rw [if_neg h0]

end Go.Proofs.Ytcembefhfadpbab
