/- Slices of findings (two ints each) that the call itself made. -/
import Derived.Test.YtcembefhfadpbabAudB0
import Derived.Deep.Cut
import Derived.Deep.CutRange
import Derived.Deep.DeepCutAuto
namespace Go.Proofs.Ytcembefhfadpbab
open Go.RowKit
open Go.Maps

def fV (fs : List (Int × Int)) : List Value := fs.flatMap fun p => [.int .i64 p.1, .int .i64 p.2]
theorem fV_length (fs : List (Int × Int)) : (fV fs).length = fs.length * 2 := by
  induction fs with
  | nil => rfl
  | cons p t ih => simp only [fV, List.flatMap_cons, List.length_append, List.length_cons, List.length_nil] at *; omega
theorem fV_append (a b : List (Int × Int)) : fV (a ++ b) = fV a ++ fV b := by simp [fV]
def f0 (fs : List (Int × Int)) (k : Nat) : Int × Int := fs.getD k (0, 0)
theorem f0_eq {fs : List (Int × Int)} {k : Nat} (h : k < fs.length) : f0 fs k = fs[k] := by simp [f0, List.getD, h]
theorem fV_get : ∀ (fs : List (Int × Int)) (k : Nat), k < fs.length → (fV fs)[k * 2]? = some (.int .i64 (f0 fs k).1) ∧ (fV fs)[k * 2 + 1]? = some (.int .i64 (f0 fs k).2)
  | [], k, h => by simp at h
  | p :: t, 0, _ => by simp [fV, f0]
  | p :: t, k + 1, h => by
    have := fV_get t k (by simpa using h)
    have e : fV (p :: t) = [.int .i64 p.1, .int .i64 p.2] ++ fV t := by simp [fV]
    have e0 : f0 (p :: t) (k + 1) = f0 t k := by simp [f0]
    rw [e, e0]
    constructor
    · rw [List.getElem?_append_right (by simp; omega)]; simp only [List.length_cons, List.length_nil]; rw [show (k + 1) * 2 - (0 + 1 + 1) = k * 2 by omega]; exact this.1
    · rw [List.getElem?_append_right (by simp; omega)]; simp only [List.length_cons, List.length_nil]; rw [show (k + 1) * 2 + 1 - (0 + 1 + 1) = k * 2 + 1 by omega]; exact this.2

/-- A slice of findings of the element type e, made by the call itself. -/
def OwnF (e : TypeId) (w : World) (base : Nat) (v : Value) (fs : List (Int × Int)) : Prop := w.ownsRow base e 2 v fs.length (fV fs)
theorem OwnF.lt {e : TypeId} {w : World} {base : Nat} {v : Value} {fs : List (Int × Int)} (h : OwnF e w base v fs) : ∀ k, v.ownBlock = some k → base ≤ k ∧ k < w.heap.size := World.ownsRow.lt h
theorem ownF_nil (e : TypeId) (w : World) (base : Nat) : OwnF e w base (.slice none 0 0) [] := World.ownsRow_nil w base e 2
theorem OwnF.below {e : TypeId} {w w' : World} {base : Nat} {v : Value} {fs : List (Int × Int)} (h : OwnF e w base v fs) (hb : Below w.heap.size w w') : OwnF e w' base v fs := by
  refine World.ownsRow.kept (row := none) h ⟨hb.os, hb.tape, hb.output, hb.size, fun k hk _ => hb.block k hk⟩ ?_
  cases v.ownBlock <;> simp
theorem OwnF.keep {e : TypeId} {row : Option Nat} {w w' : World} {base : Nat} {v : Value} {fs : List (Int × Int)} (h : OwnF e w base v fs) (hk : KeepBut row w w') (hne : ∀ k, v.ownBlock = some k → some k ≠ row) : OwnF e w' base v fs := by
  refine ⟨h.1, ?_⟩
  rcases h.2 with hn | ⟨g, cap, cur, rfl, hb, hgg, rest⟩
  · exact .inl hn
  · refine .inr ⟨g, cap, cur, rfl, hb, ?_, rest⟩
    rw [hk g (Array.getElem?_eq_some_iff.1 hgg).1 (hne g rfl)]
    exact hgg

theorem cell_two_new (w : World) (x y : Value) (t : TypeId) : ∀ j u, [x, y][j]? = some u → (w.alloc (.cells #[x, y] t)).cell? ((⟨w.heap.size, 0, none⟩ : Addr).add j) = some u := by
  intro j u hj
  match j, hj with
  | 0, hj => simp at hj; subst hj; simp [Addr.add]
  | 1, hj => simp at hj; subst hj; simp [Addr.add]
  | j + 2, hj => simp at hj

/-- append of one finding, laid in a new block of its own. -/
theorem wpList_appF (e T : TypeId) (hT : Try.prog.underlying T = some (.slice e)) (he : (Try.prog.info? e).map (fun i => (i.zero, i.size, i.bytes)) = some (some (.agg #[.int .i64 0, .int .i64 0]), 2, 16))
    (wr : World) {ops : Array Oper} {rest : List Oper} {o : Oper} {a : Act} {Q : Exit → Act → World → Prop} {W : World} (hgd : o.guard = none) (s x : Operand)
    (ho : o.op = .call { callee := .builtin .append, args := #[s, x], argTypes := #[T, T] })
    (base : Nat) (w0 : World) (v : Value) (fs : List (Int × Int)) (y1 y2 : Int) (hs : a.eval s = v) {N : Nat} (hx : a.eval x = .slice (some ⟨N, 0, none⟩) 1 1)
    (hW : W = wr.alloc (.cells #[.int .i64 y1, .int .i64 y2] e)) (hN : N = wr.heap.size)
    (hown : OwnF e wr base v fs) (hlen : fs.length < 1099511627776) (hbase : base ≤ wr.heap.size) (hb : Below base w0 wr)
    (h : ∀ v' w', OwnF e w' base v' (fs ++ [(y1, y2)]) → Below base w0 w' → base ≤ w'.heap.size → KeepApp v v' wr w' → wpList Try.prog ops Q rest (a.put o.dst v') w') :
    wpList Try.prog ops Q (o :: rest) a W := by
  obtain ⟨i, hi, hz, hsz, hby⟩ := info_parts he
  subst hN; subst hW
  refine wpList_append_own_at (w := wr.alloc (.cells #[.int .i64 y1, .int .i64 y2] e)) hgd s x T ho base e i _ 2 16 hT hi hz hsz hby rfl (by decide)
    v fs.length (fV fs) hs (World.ownsRow.alloc hown _) ⟨wr.heap.size, 0, none⟩ 1 1 [.int .i64 y1, .int .i64 y2] hx rfl (cell_two_new _ _ _ _) (ints_oneCell .i64 [y1, y2]) (by unfold maxLen; omega) (by omega) (by simp; omega) ?_
  intro v' w' h1 h2 _ hloc
  refine h v' w' ?_ ?_ ?_ ⟨keepBut_of_grown h2, hloc.imp id fun e => ⟨_, e, by simp⟩⟩
  · unfold OwnF
    have e1 : (fs ++ [(y1, y2)]).length = fs.length + 1 := by simp
    have e2 : fV (fs ++ [(y1, y2)]) = fV fs ++ [.int .i64 y1, .int .i64 y2] := by simp [fV]
    rw [e1, e2]; exact h1
  · exact (hb.alloc hbase _).grown h2 (by simp; omega) (fun k hk => (hown.lt k hk).1)
  · have := h2.size; simp at this; omega

theorem infoFD : (Try.prog.info? 37).map (fun i => (i.zero, i.size, i.bytes)) = some (some (.agg #[.int .i64 0, .int .i64 0]), 2, 16) := by kernel_rfl

/-- Reading a finding out of an own slice. -/
theorem OwnF.shape {e : TypeId} {w : World} {base : Nat} {v : Value} {fs : List (Int × Int)} (h : OwnF e w base v fs) (hp : 0 < fs.length) :
    ∃ g cap, v = .slice (some ⟨g, 0, none⟩) fs.length cap ∧ base ≤ g ∧ g < w.heap.size := by
  rcases h.2 with ⟨_, h0⟩ | ⟨g, cap, cur, hv, hg, hh, _⟩
  · omega
  · exact ⟨g, cap, hv, hg, (Array.getElem?_eq_some_iff.1 hh).1⟩
theorem OwnF.cell {e : TypeId} {w : World} {base g cap n : Nat} {fs : List (Int × Int)} (h : OwnF e w base (.slice (some ⟨g, 0, none⟩) n cap) fs) (k : Nat) (hk : k < fs.length) :
    w.cell? ⟨g, k * 2, none⟩ = some (.int .i64 (f0 fs k).1) ∧ w.cell? ⟨g, k * 2 + 1, none⟩ = some (.int .i64 (f0 fs k).2) := by
  have hn : n = fs.length := by
    rcases h.2 with ⟨hv, _⟩ | ⟨_, _, _, hv, _⟩
    · cases hv
    · cases hv; rfl
  subst hn
  have h1 := World.ownsRow.cellAt h (k * 2) (by omega)
  have h2 := World.ownsRow.cellAt h (k * 2 + 1) (by omega)
  rw [h1, h2]
  exact fV_get fs k hk

/-- A slice of findings, as a reader sees it. -/
def FSlice (w : World) (v : Value) (fs : List (Int × Int)) : Prop := ∃ a c, v = .slice a fs.length c ∧
  ∀ k, k < fs.length → ∃ b, a = some ⟨b, 0, none⟩ ∧ w.cell? ⟨b, k * 2, none⟩ = some (.int .i64 (f0 fs k).1) ∧ w.cell? ⟨b, k * 2 + 1, none⟩ = some (.int .i64 (f0 fs k).2)
theorem OwnF.fslice {e : TypeId} {w : World} {base : Nat} {v : Value} {fs : List (Int × Int)} (h : OwnF e w base v fs) : FSlice w v fs := by
  rcases Nat.eq_zero_or_pos fs.length with h0 | h0
  · rcases h.2 with ⟨hv, _⟩ | ⟨g, cap, cur, hv, _⟩
    · exact ⟨none, 0, by rw [hv, h0], fun k hk => by omega⟩
    · exact ⟨_, cap, hv, fun k hk => by omega⟩
  · obtain ⟨g, cap, rfl, _⟩ := h.shape h0
    exact ⟨_, cap, rfl, fun k hk => ⟨g, rfl, h.cell k hk⟩⟩
theorem FSlice.below {w w' : World} {v : Value} {fs : List (Int × Int)} (h : FSlice w v fs) (hb : Below w.heap.size w w') : FSlice w' v fs := by
  obtain ⟨a, c, rfl, hc⟩ := h
  refine ⟨a, c, rfl, fun k hk => ?_⟩
  obtain ⟨b, rfl, h1, h2⟩ := hc k hk
  have hlt := lt_of_cell h1
  exact ⟨b, rfl, (hb.cell (p := ⟨b, k * 2, none⟩) hlt).trans h1, (hb.cell (p := ⟨b, k * 2 + 1, none⟩) hlt).trans h2⟩

/-- A node in a block of its own. -/
structure NodeIn (w : World) (N : Nat) (n : Nd) : Prop where
  id : w.cell? ⟨N, 0, none⟩ = some (.int .i64 n.id)
  v : w.cell? ⟨N, 1, none⟩ = some (.int .i64 n.v)
  lo : w.cell? ⟨N, 2, none⟩ = some (.int .i64 n.lo)
  hi : w.cell? ⟨N, 3, none⟩ = some (.int .i64 n.hi)
theorem NodeIn.keep {row : Option Nat} {w w' : World} {N : Nat} {n : Nd} (h : NodeIn w N n) (hk : KeepBut row w w') (hne : some N ≠ row) : NodeIn w' N n := by
  have hlt := lt_of_cell h.id
  have hh : ∀ o, w'.cell? ⟨N, o, none⟩ = w.cell? ⟨N, o, none⟩ := fun o => World.cell?_of_block (w := w) (a := ⟨N, o, none⟩) (hk N hlt hne)
  exact ⟨(hh 0).trans h.id, (hh 1).trans h.v, (hh 2).trans h.lo, (hh 3).trans h.hi⟩

/-- What stands in a round: the node's block, the findings so far. -/
structure RN (e : TypeId) (w0 : World) (N : Nat) (n : Nd) (v : Value) (fs : List (Int × Int)) (wx : World) : Prop where
  below : Below w0.heap.size w0 wx
  size : w0.heap.size ≤ wx.heap.size
  nin : NodeIn wx N n
  own : OwnF e wx w0.heap.size v fs
  ne : v.ownBlock ≠ some N

theorem RN.app {e : TypeId} {w0 wx wy : World} {N : Nat} {n : Nd} {v v' : Value} {fs fs' : List (Int × Int)} (h : RN e w0 N n v fs wx)
    (h1 : OwnF e wy w0.heap.size v' fs') (h2 : Below w0.heap.size w0 wy) (h3 : w0.heap.size ≤ wy.heap.size) (h4 : KeepApp v v' wx wy) : RN e w0 N n v' fs' wy := by
  have hlt := lt_of_cell h.nin.id
  exact ⟨h2, h3, h.nin.keep h4.keep (fun e => h.ne e.symm), h1, h4.ne h.ne hlt⟩
theorem RN.drewN {e : TypeId} {w0 wx : World} {N : Nat} {n : Nd} {v : Value} {fs : List (Int × Int)} (h : RN e w0 N n v fs wx) (k : Nat) : RN e w0 N n v fs (wx.drewN k) :=
  ⟨below_drewN h.below k, h.size, ⟨h.nin.id, h.nin.v, h.nin.lo, h.nin.hi⟩, h.own, h.ne⟩

def fl (c : Bool) (k id : Int) : List (Int × Int) := if c then [(k, id)] else []
theorem fl_length (c : Bool) (k id : Int) : (fl c k id).length ≤ 1 := by unfold fl; split <;> simp
def negB (hi : Int) : Bool := decide (0 ≤ hi ∧ hi % 2 = 1)
def twB (l : List Nd) (i : Nat) : Bool := decide (∃ k, k < i ∧ ((nd l k).id = (nd l i).id ∨ ((nd l k).v = (nd l i).v ∧ (nd l k).lo = (nd l i).lo ∧ (nd l k).hi = (nd l i).hi)))
def orderB (order : List Int) (l : List Nd) (n : Nd) : Bool := decide (placeZ order n.v < 0) || (wrongB (placeZ order n.v) n.lo order l || wrongB (placeZ order n.v) n.hi order l)
def nodeF (order : List Int) (l : List Nd) (i : Nat) : List (Int × Int) :=
  fl (negB (nd l i).hi) 4 (nd l i).id ++ fl ((nd l i).lo == (nd l i).hi) 3 (nd l i).id ++ fl (lostB (nd l i).lo l || lostB (nd l i).hi l) 5 (nd l i).id ++
  fl (orderB order l (nd l i)) 1 (nd l i).id ++ fl (twB l i) 2 (nd l i).id
theorem nodeF_length (order : List Int) (l : List Nd) (i : Nat) : (nodeF order l i).length ≤ 5 := by
  unfold nodeF
  simp only [List.length_append]
  have h1 := fl_length (negB (nd l i).hi) 4 (nd l i).id
  have h2 := fl_length ((nd l i).lo == (nd l i).hi) 3 (nd l i).id
  have h3 := fl_length (lostB (nd l i).lo l || lostB (nd l i).hi l) 5 (nd l i).id
  have h4 := fl_length (orderB order l (nd l i)) 1 (nd l i).id
  have h5 := fl_length (twB l i) 2 (nd l i).id
  omega
def nodesF (order : List Int) (l : List Nd) (i : Nat) : List (Int × Int) := (List.range i).flatMap (nodeF order l)
theorem nodesF_succ (order : List Int) (l : List Nd) (i : Nat) : nodesF order l (i + 1) = nodesF order l i ++ nodeF order l i := by simp [nodesF, List.range_succ]
theorem nodesF_length (order : List Int) (l : List Nd) (i : Nat) : (nodesF order l i).length ≤ 5 * i := by
  induction i with
  | zero => simp [nodesF]
  | succ i ih => rw [nodesF_succ, List.length_append]; have := nodeF_length order l i; omega

theorem nodeIn_new (w : World) (n : Nd) (r : Int) : NodeIn (w.alloc (.cells #[.int .i64 n.id, .int .i64 n.v, .int .i64 n.lo, .int .i64 n.hi, .int .i64 r] 31)) w.heap.size n :=
  ⟨by simp, by simp, by simp, by simp⟩
theorem RN.new {e : TypeId} {w0 wr : World} {v : Value} {fs : List (Int × Int)} (hb : Below w0.heap.size w0 wr) (hsz : w0.heap.size ≤ wr.heap.size) (h : OwnF e wr w0.heap.size v fs) (n : Nd) (r : Int) :
    RN e w0 wr.heap.size n v fs (wr.alloc (.cells #[.int .i64 n.id, .int .i64 n.v, .int .i64 n.lo, .int .i64 n.hi, .int .i64 r] 31)) :=
  ⟨hb.alloc hsz _, by simp; omega, nodeIn_new _ _ _, World.ownsRow.alloc h _, fun e => by have := (h.lt _ e).2; omega⟩
theorem fl_true (k id : Int) : fl true k id = [(k, id)] := rfl
theorem fl_false {fs : List (Int × Int)} (k id : Int) : fs ++ fl false k id = fs := by simp [fl]
def matchB (q n : Nd) : Bool := decide (q.id = n.id ∨ (q.v = n.v ∧ q.lo = n.lo ∧ q.hi = n.hi))
theorem twB_true {l : List Nd} {i j : Nat} (hj : j < i) (h : matchB (nd l j) (nd l i) = true) : twB l i = true := by
  simp only [matchB, decide_eq_true_eq] at h
  simp only [twB, decide_eq_true_eq]
  exact ⟨j, hj, h⟩
theorem twB_false {l : List Nd} {i : Nat} (h : ∀ j, j < i → matchB (nd l j) (nd l i) = false) : twB l i = false := by
  simp only [twB, decide_eq_false_iff_not]
  rintro ⟨j, hj, hh⟩
  have := h j hj
  simp only [matchB, decide_eq_false_iff_not] at this
  exact this hh
theorem negB_lo {hi : Int} (h : ¬ 0 ≤ hi) : negB hi = false := by simp [negB, h]
theorem negB_odd {hi : Int} (h0 : 0 ≤ hi) (h : hi % 2 = 1) : negB hi = true := by simp [negB, h, h0]
theorem negB_even {hi : Int} (h : ¬ hi % 2 = 1) : negB hi = false := by simp [negB, h]
end Go.Proofs.Ytcembefhfadpbab
