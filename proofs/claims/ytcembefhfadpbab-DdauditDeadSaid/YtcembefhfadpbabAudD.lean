/- ddaudit.Nodes. -/
import Derived.Test.YtcembefhfadpbabAudC
import Derived.Deep.CutBlock
namespace Go.Proofs.Ytcembefhfadpbab
open Go.RowKit
open Go.Maps

/-- The places of the first k variables. -/
def PlacesTo (w : World) (b : Nat) (order : List Int) (k : Nat) : Prop := ∃ m, MapIs w b (Value.int .i64) m ∧ ∀ v, getL m v = if v ∈ order.take k then some (.int .i64 (placeZ order v)) else none

theorem getL_put {m : List (Int × Value)} (hn : (m.map Prod.fst).Nodup) (k k' : Int) (v : Value) : getL (putL k v m) k' = if k' = k then some v else getL m k' := getL_putL hn k k' v
theorem take_mem_succ {order : List Int} {k : Nat} (hk : k < order.length) (v : Int) : v ∈ order.take (k + 1) ↔ v ∈ order.take k ∨ v = at0 order k := by
  rw [List.take_add_one, List.mem_append, List.getElem?_eq_getElem hk, at0_eq hk]; simp
theorem placeZ_first {order : List Int} {k : Nat} (hk : k < order.length) (h : at0 order k ∉ order.take k) : placeZ order (at0 order k) = k :=
  placeZ_found hk rfl (fun j hj e => h (by
    rw [← e, at0_eq (by omega)]
    exact List.mem_take_iff_getElem.2 ⟨j, by omega, rfl⟩))
theorem PlacesTo.look {w : World} {b : Nat} {order : List Int} {k : Nat} (h : PlacesTo w b order k) (v : Int) :
    (Instr.lookup 24 (.map (some b)) (.int .i64 v) true).run Try.prog w = .ok (if v ∈ order.take k then .tuple #[.int .i64 (placeZ order v), .bool true] else .tuple #[.int .i64 0, .bool false]) w := by
  obtain ⟨m, hm, hg⟩ := h
  have := hm.lookup kInt Try.underlying24 Try.zeroValue3 v true
  rw [this, hg]
  by_cases hv : v ∈ order.take k <;> simp [hv]
theorem PlacesTo.old {w : World} {b : Nat} {order : List Int} {k : Nat} (h : PlacesTo w b order k) (hk : k < order.length) (hin : at0 order k ∈ order.take k) : PlacesTo w b order (k + 1) := by
  obtain ⟨m, hm, hg⟩ := h
  refine ⟨m, hm, fun v => ?_⟩
  rw [hg]
  have : v ∈ order.take (k + 1) ↔ v ∈ order.take k := by
    rw [take_mem_succ hk]
    exact ⟨fun h => h.elim id (fun e => e ▸ hin), .inl⟩
  simp only [this]
theorem PlacesTo.keep {row : Option Nat} {w w' : World} {b : Nat} {order : List Int} {k : Nat} (h : PlacesTo w b order k) (hk : KeepBut row w w') (hne : some b ≠ row) : PlacesTo w' b order k := by
  obtain ⟨m, hm, hg⟩ := h
  exact ⟨m, hm.keep hk hne, hg⟩
theorem PlacesTo.all {w : World} {b : Nat} {order : List Int} (h : PlacesTo w b order order.length) : Places w b order := by
  obtain ⟨m, hm, hg⟩ := h
  exact ⟨m, hm, fun v => by rw [hg, List.take_length]⟩
theorem placesTo_new (w : World) (order : List Int) : PlacesTo (w.alloc (.map #[] 0)) w.heap.size order 0 := ⟨[], mapIs_new w _, fun v => by simp [getL, findL]⟩
theorem below_grownBy {w0 w w' : World} {base b : Nat} (hb : Below base w0 w) (hg : w.grownBy w' (some b)) (h1 : base ≤ w.heap.size) (h2 : base ≤ b) : Below base w0 w' :=
  hb.grown hg h1 (fun k hk => by cases hk; exact h2)

/-- append of one int as an equation. -/
theorem run_app1 (ty : TypeId) (wr : World) (base : Nat) (w0 : World) (v : Value) (zs : List Int) (y : Int) (hown : OwnI wr base v zs) (hlen : zs.length < 1099511627776) (hbase : base ≤ wr.heap.size) (hb : Below base w0 wr) :
    ∃ v' w', (Builtin.append_ #[27, 27] ty #[v, .slice (some ⟨wr.heap.size, 0, none⟩) 1 1]).run Try.prog (wr.alloc (.cells #[.int .i64 y] 3)) = .ok v' w' ∧
      OwnI w' base v' (zs ++ [y]) ∧ Below base w0 w' ∧ wr.heap.size ≤ w'.heap.size ∧ KeepApp v v' wr w' := by
  obtain ⟨i, hi, hz, hsz, hby⟩ := info_parts infoInt
  obtain ⟨v', w', hr, h1, h2, _, hloc⟩ := run_append_own_at (P := Try.prog) (wr.alloc (.cells #[.int .i64 y] 3)) base 27 ty 3 i (.int .i64 0) 1 8 Try.underlying27 hi hz hsz hby rfl (by decide)
    v zs.length (intsV zs) (hown.alloc _) ⟨wr.heap.size, 0, none⟩ 1 1 [.int .i64 y] rfl (cell_one_new _ _ _) (ints_oneCell .i64 [y]) (by unfold maxLen; omega) (by omega) (by simp; omega)
  refine ⟨v', w', hr, ?_, ?_, ?_, ⟨keepBut_of_grown h2, hloc.imp id fun e => ⟨_, e, by simp⟩⟩⟩
  · unfold OwnI
    have e1 : (zs ++ [y]).length = zs.length + 1 := by simp
    have e2 : intsV (zs ++ [y]) = intsV zs ++ [.int .i64 y] := by simp [intsV]
    rw [e1, e2]; exact h1
  · exact (hb.alloc hbase _).grown h2 (by simp; omega) (fun k hk => (hown.lt k hk).1)
  · have := h2.size; simp at this; omega

/-- The groups of the first k nodes, in the call's own memory. -/
def GroupsOwn (w : World) (base b : Nat) (l : List Nd) (k : Nat) (m : List (Int × Value)) : Prop := MapIs w b (Value.int .i64) m ∧ (∀ id v, getL m id = some v → OwnI w base v (varsOf (l.take k) id) ∧ varsOf (l.take k) id ≠ []) ∧
  (∀ id, getL m id = none → varsOf (l.take k) id = []) ∧ (∀ id id' v v', id ≠ id' → getL m id = some v → getL m id' = some v' → v.ownBlock ≠ v'.ownBlock)
theorem varsOf_length (l : List Nd) (id : Int) : (varsOf l id).length ≤ l.length := by unfold varsOf; rw [List.length_map]; exact List.length_filter_le _ _
theorem GroupsOwn.groups {w : World} {base b : Nat} {l : List Nd} {m : List (Int × Value)} (h : GroupsOwn w base b l l.length m) (hl : l.length ≤ 9223372036854775807) : Groups w b l := by
  obtain ⟨h1, h2, h3, _⟩ := h
  rw [List.take_length] at h2 h3
  exact ⟨m, h1, fun id v hv => ⟨(h2 id v hv).1.sliceIs (by have := varsOf_length l id; omega), (h2 id v hv).2⟩, h3⟩
theorem groupsOwn_new (w : World) (base : Nat) (l : List Nd) : GroupsOwn (w.alloc (.map #[] 0)) base w.heap.size l 0 [] :=
  ⟨mapIs_new w _, fun id v h => by simp [getL, findL] at h, fun id _ => by simp [varsOf], fun id id' v v' _ h => by simp [getL, findL] at h⟩
theorem varsOf_succ {l : List Nd} {k : Nat} (hk : k < l.length) (id : Int) : varsOf (l.take (k + 1)) id = varsOf (l.take k) id ++ if (nd l k).id = id then [(nd l k).v] else [] := by
  unfold varsOf
  rw [List.take_add_one, List.getElem?_eq_getElem hk, ← nd_eq hk]
  simp only [Option.toList_some, List.filter_append, List.map_append]
  congr 1
  by_cases e : (nd l k).id = id <;> simp [e]
theorem OwnI.some_of_ne {w : World} {base : Nat} {v : Value} {zs : List Int} (h : OwnI w base v zs) (hne : zs ≠ []) : ∃ g, v.ownBlock = some g ∧ base ≤ g ∧ g < w.heap.size := by
  obtain ⟨g, cap, rfl, h1, h2⟩ := h.shape (List.length_pos_iff.2 hne)
  exact ⟨g, rfl, h1, h2⟩
theorem GroupsOwn.below {w w' : World} {base b : Nat} {l : List Nd} {k : Nat} {m : List (Int × Value)} (h : GroupsOwn w base b l k m) (hb : Below w.heap.size w w') : GroupsOwn w' base b l k m :=
  ⟨h.1.below hb, fun id v hv => ⟨(h.2.1 id v hv).1.below hb, (h.2.1 id v hv).2⟩, h.2.2.1, h.2.2.2⟩
/-- What a round of the grouping does. -/
theorem GroupsOwn.step {wr w1 w2 : World} {base b : Nat} {l : List Nd} {k : Nat} {m : List (Int × Value)} (h : GroupsOwn wr base b l k m) (hk : k < l.length) (hbb : b < base)
    {gv v' : Value} (hgv : (getL m (nd l k).id).getD (.slice none 0 0) = gv)
    (happ : OwnI w1 base v' (varsOf (l.take k) (nd l k).id ++ [(nd l k).v])) (hka : KeepApp gv v' wr w1) (_hsz : wr.heap.size ≤ w1.heap.size) (hm2 : MapIs w2 b (Value.int .i64) (putL (nd l k).id v' m)) (hg : w1.grownBy w2 (some b)) : GroupsOwn w2 base b l (k + 1) (putL (nd l k).id v' m) := by
  obtain ⟨hm, h2, h3, h4⟩ := h
  have hK2 : KeepBut (some b) w1 w2 := keepBut_of_grown0 hg
  have other : ∀ id v, id ≠ (nd l k).id → getL m id = some v → OwnI w2 base v (varsOf (l.take k) id) ∧ v'.ownBlock ≠ v.ownBlock := by
    intro id v hne hv
    obtain ⟨ho, hn⟩ := h2 id v hv
    obtain ⟨g, hg1, hg2, hg3⟩ := ho.some_of_ne hn
    have hgne : gv.ownBlock ≠ some g := by
      cases hq : getL m (nd l k).id with
      | none => rw [hq] at hgv; subst hgv; simp [Value.ownBlock]
      | some u =>
        rw [hq] at hgv
        simp only [Option.getD_some] at hgv
        subst hgv
        rw [← hg1]
        exact h4 _ _ _ _ (Ne.symm hne) hq hv
    refine ⟨?_, ?_⟩
    · have e1 : OwnI w1 base v (varsOf (l.take k) id) := ho.keep hka.keep (fun q hq => by rw [hg1] at hq; cases hq; exact fun e => hgne e.symm)
      exact e1.keep hK2 (fun q hq => by rw [hg1] at hq; cases hq; intro e; cases e; omega)
    · rw [hg1]
      exact hka.ne hgne hg3
  refine ⟨hm2, ?_, ?_, ?_⟩
  · intro id v hv
    rw [getL_put hm.nodup] at hv
    rw [varsOf_succ hk]
    by_cases e : id = (nd l k).id
    · subst e
      rw [if_pos rfl] at hv
      cases hv
      rw [if_pos rfl]
      exact ⟨happ.keep hK2 (fun q hq => by have := happ.lt q hq; intro e; cases e; omega), by simp⟩
    · rw [if_neg e] at hv
      rw [if_neg (fun h => e h.symm), List.append_nil]
      exact ⟨(other id v e hv).1, (h2 id v hv).2⟩
  · intro id hv
    rw [getL_put hm.nodup] at hv
    by_cases e : id = (nd l k).id
    · rw [if_pos e] at hv; cases hv
    · rw [if_neg e] at hv
      rw [varsOf_succ hk, if_neg (fun h => e h.symm), List.append_nil]
      exact h3 id hv
  · intro id id' v u hne hv hu
    rw [getL_put hm.nodup] at hv hu
    by_cases e : id = (nd l k).id
    · rw [if_pos e] at hv
      cases hv
      have e' : id' ≠ (nd l k).id := fun h => hne (e.trans h.symm)
      rw [if_neg e'] at hu
      exact (other id' u e' hu).2
    · rw [if_neg e] at hv
      by_cases e' : id' = (nd l k).id
      · rw [if_pos e'] at hu
        cases hu
        exact (other id v e hv).2.symm
      · rw [if_neg e'] at hu
        exact h4 _ _ _ _ hne hv hu

/-- The key of a shape. -/
theorem run_equalIn_int {P : Program} (w : World) (d : Nat) {T : TypeId} {k : IntKind} (hT : P.underlying T = some (.int k)) (x y : Int) : (Op.equalIn (d + 1) T (.int k x) (.int k y)).run P w = .ok (x == y) w := by
  simp [Op.equalIn, run_underlying hT]
def encS (q : Int × Int × Int) : Value := .agg #[.int .i64 q.1, .int .i64 q.2.1, .int .i64 q.2.2]
theorem eqS (w : World) (a b : Int × Int × Int) : (Op.equal 52 (encS a) (encS b)).run Try.prog w = .ok (decide (a = b)) w := by
  have h := run_equalIn_struct (P := Try.prog) w 9999 52 #[.int .i64 a.1, .int .i64 a.2.1, .int .i64 a.2.2] #[.int .i64 b.1, .int .i64 b.2.1, .int .i64 b.2.2] (by simp [Program.fieldsOf, Try.underlying52]) (by kernel_rfl)
  have hq := fun x y => run_equalIn_int w 9998 Try.underlying3 x y
  unfold Op.equal encS
  have hd : Op.maxDepth = 9999 + 1 := rfl
  rw [hd, h]
  simp only [Program.fieldsOf, Try.underlying52]
  simp [Op.eqFields, part, isAgg, run_underlying Try.underlying3, hq]
  obtain ⟨a1, a2, a3⟩ := a
  obtain ⟨b1, b2, b3⟩ := b
  by_cases h1 : a1 = b1 <;> by_cases h2 : a2 = b2 <;> by_cases h3 : a3 = b3 <;> simp [h1, h2, h3]
theorem kShape : KeyOk Try.prog 52 encS := by
  refine keyOk_agg Try.underlying52 (fun a b => by simp [Instr.sameNow]) eqS (fun w em k => ?_) (fun w k => by simp [Instr.keyThatStays, Instr.sameBits, encS])
  have h := fun x => MapKept.run_checkKey (P := Try.prog) (w := w) (kt := 3) (k := .int .i64 x) Try.underlying3 (by simp [MapKept.IsKey]) em 9998
  unfold Instr.checkKey encS
  simp [go_sem, Try.underlying52, part, isAgg, underlying, sizeOf, h]
def shp (n : Nd) : Int × Int × Int := (n.v, n.lo, n.hi)
def ShapesTo (w : World) (b : Nat) (l : List Nd) (k : Nat) : Prop := ∃ m, MapIs w b encS m ∧ ∀ q, getL m q = if (∃ j, j < k ∧ shp (nd l j) = q) then some (.bool true) else none
def IdsTo (w : World) (b : Nat) (l : List Nd) (k : Nat) : Prop := ∃ m, MapIs w b (Value.int .i64) m ∧ ∀ q, getL m q = if (∃ j, j < k ∧ (nd l j).id = q) then some (.bool true) else none

theorem OwnF.mono {e : TypeId} {w : World} {base base' : Nat} {v : Value} {fs : List (Int × Int)} (h : OwnF e w base v fs) (hb : base' ≤ base) : OwnF e w base' v fs := by
  refine ⟨h.1, ?_⟩
  rcases h.2 with hn | ⟨g, cap, cur, h1, h2, rest⟩
  · exact .inl hn
  · exact .inr ⟨g, cap, cur, h1, Nat.le_trans hb h2, rest⟩
theorem ShapesTo.keep {row : Option Nat} {w w' : World} {b : Nat} {l : List Nd} {k : Nat} (h : ShapesTo w b l k) (hk : KeepBut row w w') (hne : some b ≠ row) : ShapesTo w' b l k := by
  obtain ⟨m, h1, h2⟩ := h
  exact ⟨m, h1.keep hk hne, h2⟩
theorem IdsTo.keep {row : Option Nat} {w w' : World} {b : Nat} {l : List Nd} {k : Nat} (h : IdsTo w b l k) (hk : KeepBut row w w') (hne : some b ≠ row) : IdsTo w' b l k := by
  obtain ⟨m, h1, h2⟩ := h
  exact ⟨m, h1.keep hk hne, h2⟩
/-- What stands in a round of the audit. -/
structure RD (wB : World) (sh N T : Nat) (l : List Nd) (k : Nat) (n : Nd) (v : Value) (fs : List (Int × Int)) (wx : World) : Prop where
  bw : Below wB.heap.size wB wx
  sz : sh + 2 ≤ wx.heap.size
  nin : NodeIn wx N n
  t0 : wx.cell? ⟨T, 0, none⟩ = some (.int .i64 n.v)
  t1 : wx.cell? ⟨T, 1, none⟩ = some (.int .i64 n.lo)
  t2 : wx.cell? ⟨T, 2, none⟩ = some (.int .i64 n.hi)
  shp : ShapesTo wx sh l k
  ids : IdsTo wx (sh + 1) l k
  own : OwnF 37 wx (sh + 2) v fs
  hN : sh + 2 ≤ N
  hT : sh + 2 ≤ T
  ne : v.ownBlock ≠ some N
  neT : v.ownBlock ≠ some T
theorem RD.below {wB wx wy : World} {sh N T : Nat} {l : List Nd} {k : Nat} {n : Nd} {v : Value} {fs : List (Int × Int)} (h : RD wB sh N T l k n v fs wx) (hb : Below wx.heap.size wx wy) : RD wB sh N T l k n v fs wy := by
  have hk := keepBut_of_below hb none
  have hT := lt_of_cell h.t0
  have ht : ∀ o, wy.cell? ⟨T, o, none⟩ = wx.cell? ⟨T, o, none⟩ := fun o => hb.cell (p := ⟨T, o, none⟩) hT
  exact ⟨h.bw.trans (hb.mono h.bw.size), by have := hb.size; have := h.sz; omega, h.nin.keep hk (by simp), (ht 0).trans h.t0, (ht 1).trans h.t1, (ht 2).trans h.t2, h.shp.keep hk (by simp), h.ids.keep hk (by simp), h.own.below hb, h.hN, h.hT, h.ne, h.neT⟩
theorem RD.app {wB wx wy : World} {sh N T : Nat} {l : List Nd} {k : Nat} {n : Nd} {v v' : Value} {fs fs' : List (Int × Int)} (h : RD wB sh N T l k n v fs wx)
    (h1 : OwnF 37 wy (sh + 2) v' fs') (h2 : Below wB.heap.size wB wy) (h3 : sh + 2 ≤ wy.heap.size) (h4 : KeepApp v v' wx wy) : RD wB sh N T l k n v' fs' wy := by
  have hN := lt_of_cell h.nin.id
  have hT : T < wx.heap.size := lt_of_cell h.t0
  have hb : ∀ q, q < sh + 2 → v.ownBlock ≠ some q := fun q hq e => by have := (h.own.lt q e).1; omega
  have ht : ∀ o, wy.cell? ⟨T, o, none⟩ = wx.cell? ⟨T, o, none⟩ := fun o => World.cell?_of_block (w := wx) (a := ⟨T, o, none⟩) (h4.keep T hT (fun e => h.neT e.symm))
  exact ⟨h2, h3, h.nin.keep h4.keep (fun e => h.ne e.symm), (ht 0).trans h.t0, (ht 1).trans h.t1, (ht 2).trans h.t2, h.shp.keep h4.keep (fun e => hb _ (by omega) e.symm), h.ids.keep h4.keep (fun e => hb _ (by omega) e.symm), h1, h.hN, h.hT, h4.ne h.ne hN, h4.ne h.neT hT⟩

/-- The five tests of a node. -/
def tests (order : List Int) (l : List Nd) (k : Nat) (n : Nd) : List (Int × Bool) := [(4, negB n.hi), (3, n.lo == n.hi), (5, lostB n.lo l || lostB n.hi l), (1, orderB order l n), (2, twB l k)]
def FiveAt (w : World) (B : Nat) (ts : List (Int × Bool)) : Prop := ∀ j, j < ts.length → w.cell? ⟨B, j * 2, none⟩ = some (.int .i64 (ts.getD j (0, false)).1) ∧ w.cell? ⟨B, j * 2 + 1, none⟩ = some (.bool (ts.getD j (0, false)).2)

def part2 (ts : List (Int × Bool)) (id : Int) (j : Nat) : List (Int × Int) := (ts.take j).flatMap fun t => fl t.2 t.1 id
theorem part2_succ {ts : List (Int × Bool)} {id : Int} {j : Nat} (h : j < ts.length) : part2 ts id (j + 1) = part2 ts id j ++ fl (ts.getD j (0, false)).2 (ts.getD j (0, false)).1 id := by
  unfold part2
  rw [List.take_add_one, List.getElem?_eq_getElem h, List.flatMap_append]
  have : ts.getD j (0, false) = ts[j] := by simp [List.getD, h]
  rw [this]
  simp
theorem part2_length (ts : List (Int × Bool)) (id : Int) (j : Nat) : (part2 ts id j).length ≤ j := by
  induction j with
  | zero => simp [part2]
  | succ j ih =>
    by_cases h : j < ts.length
    · rw [part2_succ h, List.length_append]; have := fl_length (ts.getD j (0, false)).2 (ts.getD j (0, false)).1 id; omega
    · have : part2 ts id (j + 1) = part2 ts id j := by unfold part2; rw [List.take_of_length_le (by omega), List.take_of_length_le (by omega)]
      rw [this]; omega
theorem placeZ_cases (order : List Int) (v : Int) : placeZ order v = -1 ∨ 0 ≤ placeZ order v := by
  by_cases h : v ∈ order
  · exact .inr (placeZ_pos h)
  · exact .inl (placeZ_neg h)
theorem orderB_max {order : List Int} {l : List Nd} {n : Nd} : orderB order l n = ((!decide (0 ≤ placeZ order n.v) || wrongB (max 0 (placeZ order n.v)) n.lo order l) || wrongB (max 0 (placeZ order n.v)) n.hi order l) := by
  unfold orderB
  rcases placeZ_cases order n.v with h | h
  · simp [h]
  · have e1 : max 0 (placeZ order n.v) = placeZ order n.v := by omega
    have e2 : decide (placeZ order n.v < 0) = false := by simp; omega
    have e3 : decide (0 ≤ placeZ order n.v) = true := by simpa using h
    rw [e1, e2, e3]; simp
theorem twB_or {l : List Nd} {k : Nat} {n : Nd} (hn : nd l k = n) : twB l k = (decide (∃ j, j < k ∧ shp (nd l j) = shp n) || decide (∃ j, j < k ∧ (nd l j).id = n.id)) := by
  unfold twB
  rw [hn, ← Bool.decide_or]
  apply decide_eq_decide.2
  constructor
  · rintro ⟨j, hj, h | ⟨h1, h2, h3⟩⟩
    · exact .inr ⟨j, hj, h⟩
    · exact .inl ⟨j, hj, by simp [shp, h1, h2, h3]⟩
  · rintro (⟨j, hj, h⟩ | ⟨j, hj, h⟩)
    · simp only [shp, Prod.mk.injEq] at h
      exact ⟨j, hj, .inr h⟩
    · exact ⟨j, hj, .inl h⟩

theorem FiveAt.keep {row : Option Nat} {w w' : World} {B : Nat} {ts : List (Int × Bool)} (h : FiveAt w B ts) (hk : KeepBut row w w') (hne : some B ≠ row) : FiveAt w' B ts := fun j hj => by
  obtain ⟨h1, h2⟩ := h j hj
  have hlt := lt_of_cell h1
  have hh : ∀ o, w'.cell? ⟨B, o, none⟩ = w.cell? ⟨B, o, none⟩ := fun o => World.cell?_of_block (w := w) (a := ⟨B, o, none⟩) (hk B hlt hne)
  exact ⟨(hh _).trans h1, (hh _).trans h2⟩
theorem fiveAt_new (w : World) (ty : TypeId) (a b c d e : Bool) : FiveAt (w.alloc (.cells #[.int .i64 4, .bool a, .int .i64 3, .bool b, .int .i64 5, .bool c, .int .i64 1, .bool d, .int .i64 2, .bool e] ty)) w.heap.size [(4, a), (3, b), (5, c), (1, d), (2, e)] := by
  intro j hj
  match j, hj with
  | 0, _ => exact ⟨by simp, by simp⟩
  | 1, _ => exact ⟨by simp, by simp⟩
  | 2, _ => exact ⟨by simp, by simp⟩
  | 3, _ => exact ⟨by simp, by simp⟩
  | 4, _ => exact ⟨by simp, by simp⟩
  | j + 5, hj => simp at hj; omega
theorem part2_tests {order : List Int} {l : List Nd} {k : Nat} {n : Nd} (hn : nd l k = n) : part2 (tests order l k n) n.id 5 = nodeF order l k := by
  unfold part2 tests nodeF
  rw [hn]
  simp [List.append_assoc]
theorem shapesTo_new (w : World) (l : List Nd) : ShapesTo (w.alloc (.map #[] 0)) w.heap.size l 0 := ⟨[], mapIs_new w _, fun q => by
  rw [if_neg (by rintro ⟨j, hj, _⟩; omega)]; simp [getL, findL]⟩
theorem idsTo_new (w : World) (l : List Nd) : IdsTo (w.alloc (.map #[] 0)) w.heap.size l 0 := ⟨[], mapIs_new w _, fun q => by
  rw [if_neg (by rintro ⟨j, hj, _⟩; omega)]; simp [getL, findL]⟩
theorem ShapesTo.step {w w' : World} {b : Nat} {l : List Nd} {k : Nat} {m : List ((Int × Int × Int) × Value)} {n : Nd} (hn : nd l k = n) (hg : ∀ q, getL m q = if (∃ j, j < k ∧ shp (nd l j) = q) then some (.bool true) else none)
    (hm : MapIs w b encS m) (hput : MapIs w' b encS (putL (shp n) (.bool true) m)) : ShapesTo w' b l (k + 1) := by
  refine ⟨_, hput, fun q => ?_⟩
  rw [getL_putL hm.nodup, hg]
  subst hn
  by_cases e : q = shp (nd l k)
  · rw [if_pos e, if_pos ⟨k, by omega, e.symm⟩]
  · rw [if_neg e]
    have : (∃ j, j < k + 1 ∧ shp (nd l j) = q) ↔ ∃ j, j < k ∧ shp (nd l j) = q := by
      constructor
      · rintro ⟨j, hj, h⟩
        rcases Nat.lt_or_ge j k with h' | h'
        · exact ⟨j, h', h⟩
        · obtain rfl : j = k := by omega
          exact absurd h.symm e
      · rintro ⟨j, hj, h⟩; exact ⟨j, by omega, h⟩
    simp only [this]
theorem IdsTo.step {w w' : World} {b : Nat} {l : List Nd} {k : Nat} {m : List (Int × Value)} {n : Nd} (hn : nd l k = n) (hg : ∀ q, getL m q = if (∃ j, j < k ∧ (nd l j).id = q) then some (.bool true) else none)
    (hm : MapIs w b (Value.int .i64) m) (hput : MapIs w' b (Value.int .i64) (putL n.id (.bool true) m)) : IdsTo w' b l (k + 1) := by
  refine ⟨_, hput, fun q => ?_⟩
  rw [getL_putL hm.nodup, hg]
  subst hn
  by_cases e : q = (nd l k).id
  · rw [if_pos e, if_pos ⟨k, by omega, e.symm⟩]
  · rw [if_neg e]
    have : (∃ j, j < k + 1 ∧ (nd l j).id = q) ↔ ∃ j, j < k ∧ (nd l j).id = q := by
      constructor
      · rintro ⟨j, hj, h⟩
        rcases Nat.lt_or_ge j k with h' | h'
        · exact ⟨j, h', h⟩
        · obtain rfl : j = k := by omega
          exact absurd h.symm e
      · rintro ⟨j, hj, h⟩; exact ⟨j, by omega, h⟩
    simp only [this]
theorem ShapesTo.look {w : World} {b : Nat} {l : List Nd} {k : Nat} (h : ShapesTo w b l k) (q : Int × Int × Int) :
    (Instr.lookup 50 (.map (some b)) (encS q) false).run Try.prog w = .ok (.bool (decide (∃ j, j < k ∧ shp (nd l j) = q))) w := by
  obtain ⟨m, hm, hg⟩ := h
  have := hm.lookup kShape Try.underlying50 Try.zeroValue4 q false
  rw [this, hg]
  by_cases hv : ∃ j, j < k ∧ shp (nd l j) = q
  · rw [if_pos hv, decide_eq_true hv]; rfl
  · rw [if_neg hv, decide_eq_false hv]; rfl
theorem IdsTo.look {w : World} {b : Nat} {l : List Nd} {k : Nat} (h : IdsTo w b l k) (q : Int) :
    (Instr.lookup 38 (.map (some b)) (.int .i64 q) false).run Try.prog w = .ok (.bool (decide (∃ j, j < k ∧ (nd l j).id = q))) w := by
  obtain ⟨m, hm, hg⟩ := h
  have := hm.lookup kInt Try.underlying38 Try.zeroValue4 q false
  rw [this, hg]
  by_cases hv : ∃ j, j < k ∧ (nd l j).id = q
  · rw [if_pos hv, decide_eq_true hv]; rfl
  · rw [if_neg hv, decide_eq_false hv]; rfl

set_option maxRecDepth 100000 in
set_option maxHeartbeats 3200000 in
theorem nodes_any (a a' : Option Addr) (c c' : Nat) (order : List Int) (l : List Nd) (w0 : World) (ho : IntsAt w0 a order) (h : NodesAt w0 a' l) (hlen : l.length ≤ 1000000000) :
    Calls Try.prog 10 #[.slice a order.length c, .slice a' l.length c'] w0 fun x w' => ∃ v, x = .returned v ∧ OwnF 37 w' w0.heap.size v (nodesF order l l.length) ∧ Below w0.heap.size w0 w' := by
  have HO := Lib.hid ho
  have hol := ho.len
  have HN := Lib.hid h
  clear ho h
  go_enter Try.func10, Try.ntmps10
  have hmk : ∀ t w, (Instr.makeMap t none).run Try.prog w = .ok (.map (some w.heap.size)) (w.alloc (.map #[] 0)) := fun t w => run_makeMap t w
  go_upto_block 0 with fail
  obtain ⟨p, hp⟩ : ∃ p, p = w0.heap.size := ⟨_, rfl⟩
  rw [← hp]
  have HP := Lib.hid hp
  clear hp
  go_cut [5] (fun s5 wx => s5 = .pointer (some ⟨p + 1, 0, none⟩) ∧ p + 2 ≤ wx.heap.size ∧ Below w0.heap.size w0 wx ∧ wx.cell? ⟨p + 1, 0, none⟩ = some (.map (some p)) ∧ Places wx p order)
  case first =>
    go_wp2_with fail
    go_loopw [28] (fun s28 w => ∃ k : Nat, k ≤ order.length ∧ s28 = .int .i64 k ∧ p + 2 ≤ w.heap.size ∧ Below w0.heap.size w0 w ∧ w.cell? ⟨p + 1, 0, none⟩ = some (.map (some p)) ∧ PlacesTo w p order k) (fun i _ => order.length - (intOf i).toNat)
    case atStart =>
      refine ⟨0, Nat.zero_le _, rfl, ?_, ?_, ?_, ?_⟩
      · simp [HP.out]
      · exact (below_new1 w0 _).alloc (by simp) _
      · simp [HP.out]
      · rw [HP.out]
        exact (placesTo_new w0 order).keep (row := none) (fun k hk _ => Go.heap_alloc_old _ _ hk) (by simp)
    case round =>
      obtain ⟨k, hk, rfl, hsz, hb, hc, hpl⟩ := hrel
      have HB := Lib.hid hb
      have HPL := Lib.hid hpl
      clear hb hpl
      by_cases hlt : k < order.length
      · obtain ⟨b, off, rfl, hcell⟩ := (HO.out.below HB.out).cells k hlt
        have hlook := HPL.out.look (at0 order k)
        by_cases hin : at0 order k ∈ order.take k
        · rw [if_pos hin] at hlook
          have HIN := Lib.hid hin
          clear hin
          go_wp2_with fail
          go_roundw
          case rel => exact ⟨k + 1, by omega, by go_num, hsz, HB.out, hc, HPL.out.old hlt HIN.out⟩
          case measure => simp [intOf]; omega
        · rw [if_neg hin] at hlook
          have HIN := Lib.hid hin
          clear hin
          obtain ⟨m, hm, hg⟩ := HPL.out
          have HG := Lib.hid hg
          have HM := Lib.hid hm
          clear hm hg
          go_wp2_with (refine wpList_updateM (l := m) rfl _ _ _ rfl kInt Try.underlying24 (at0 order k) (.int .i64 k) rfl rfl rfl HM.out ?_; intro w2 hm2 hg2)
          have HK : KeepBut (some p) wr w2 := keepBut_of_grown0 hg2
          go_roundw
          case rel => exact ⟨k + 1, by omega, by go_num, by have := hg2.size; omega, below_grownBy HB.out hg2 HB.out.size (by rw [HP.out]; exact Nat.le_refl _), (World.cell?_of_block (w := wr) (a := ⟨p + 1, 0, none⟩) (HK (p + 1) (by omega) (by simp))).trans hc, ⟨_, hm2, fun v => by
              rw [getL_put HM.out.nodup, HG.out]
              by_cases e : v = at0 order k
              · rw [if_pos e, if_pos ((take_mem_succ hlt v).2 (.inr e)), e, placeZ_first hlt HIN.out]
              · rw [if_neg e]
                have : v ∈ order.take (k + 1) ↔ v ∈ order.take k := (take_mem_succ hlt v).trans ⟨fun h => h.resolve_right e, .inl⟩
                simp only [this]⟩⟩
          case measure => simp [intOf]; omega
      · go_wp2_with fail
        obtain rfl : k = order.length := by omega
        go_meet
        exact ⟨rfl, hsz, HB.out, hc, HPL.out.all⟩
  case rest =>
    obtain ⟨rfl, hp1, hb1, hc1, hpl⟩ := hcut
    rename World => wA
    have HN1 := Lib.hid (HN.out.below hb1)
    have HB1 := Lib.hid hb1
    have HC1 := Lib.hid hc1
    have HPL := Lib.hid hpl
    clear hb1 hc1 hpl HN
    go_upto_block 2 with fail
    obtain ⟨b, hb⟩ : ∃ b, b = wA.heap.size := ⟨_, rfl⟩
    rw [← hb]
    have HBE := Lib.hid hb
    clear hb
    go_cut [10] (fun s10 wx => s10 = .pointer (some ⟨b + 1, 0, none⟩) ∧ b + 2 ≤ wx.heap.size ∧ Below wA.heap.size wA wx ∧ wx.cell? ⟨b + 1, 0, none⟩ = some (.map (some b)) ∧ Groups wx b l)
    case first =>
      go_wp2_with fail
      go_loopw [48] (fun s48 w => ∃ (k : Nat) (m : List (Int × Value)), k ≤ l.length ∧ s48 = .int .i64 k ∧ b + 2 ≤ w.heap.size ∧ Below wA.heap.size wA w ∧ w.cell? ⟨b + 1, 0, none⟩ = some (.map (some b)) ∧ GroupsOwn w (b + 2) b l k m) (fun i _ => l.length - (intOf i).toNat)
      case atStart =>
        refine ⟨0, [], Nat.zero_le _, rfl, ?_, ?_, ?_, ?_⟩
        · simp [HBE.out]
        · exact (below_new1 wA _).alloc (by simp) _
        · simp [HBE.out]
        · rw [HBE.out]
          exact (groupsOwn_new wA _ l).below (below_new1 _ _)
      case round =>
        obtain ⟨k, m, hk, rfl, hsz, hbw, hcb, hgo⟩ := hrel
        have HBW := Lib.hid hbw
        have HGO := Lib.hid hgo
        clear hbw hgo
        by_cases hlt : k < l.length
        · obtain ⟨bb, off, rfl, c0, c1, c2, c3, c4⟩ := (HN1.out.below HBW.out).cells k hlt
          obtain ⟨n, hn⟩ : ∃ n, nd l k = n := ⟨_, rfl⟩
          rw [hn] at c0 c1 c2 c3 c4
          have HND := Lib.hid hn
          clear hn
          obtain ⟨gv, hgv⟩ : ∃ gv, (getL m n.id).getD (.slice none 0 0) = gv := ⟨_, rfl⟩
          obtain ⟨w1, hw1⟩ : ∃ w1, (wr.alloc (.cells #[.int .i64 n.id, .int .i64 n.v, .int .i64 n.lo, .int .i64 n.hi, .int .i64 n.refs] 31)).drew = w1 := ⟨_, rfl⟩
          have hB1 : Below wr.heap.size wr w1 := by rw [← hw1]; exact below_newdraw wr 1 _
          have hsz1 : w1.heap.size = wr.heap.size + 1 := by rw [← hw1]; simp
          have hgo0 : OwnI wr (b + 2) gv (varsOf (l.take k) n.id) := by
            cases hq : getL m n.id with
            | none =>
              rw [hq] at hgv
              subst hgv
              rw [(HGO.out).2.2.1 _ hq]
              exact ownI_nil _ _
            | some u =>
              rw [hq] at hgv
              simp only [Option.getD_some] at hgv
              subst hgv
              exact ((HGO.out).2.1 _ _ hq).1
          have hgo1 := hgo0.below hB1
          have hlt1 : b + 1 < wr.heap.size := lt_of_cell hcb
          have hmm : ∀ w', KeepBut gv.ownBlock w1 w' → MapIs w' b (Value.int .i64) m := fun w' hk =>
            ((HGO.out).1.below hB1).keep hk (fun e => by have := hgo1.lt b e.symm; omega)
          have hSS3 : ∀ w', KeepBut gv.ownBlock w1 w' → w'.cell? ⟨b + 1, 0, none⟩ = some (.map (some b)) ∧ w'.cell? ⟨wr.heap.size, 0, none⟩ = some (.int .i64 n.id) ∧ w'.cell? ⟨wr.heap.size, 1, none⟩ = some (.int .i64 n.v) ∧
              (Instr.lookup 47 (.map (some b)) (.int .i64 n.id) false).run Try.prog w' = .ok gv w' := fun w' hk => by
            have hne : some wr.heap.size ≠ gv.ownBlock := fun e => by have := hgo0.lt _ e.symm; omega
            have hne2 : some (b + 1) ≠ gv.ownBlock := fun e => by have := hgo0.lt _ e.symm; omega
            refine ⟨?_, ?_, ?_, ?_⟩
            · exact ((World.cell?_of_block (w := w1) (a := ⟨b + 1, 0, none⟩) (hk (b + 1) (by omega) hne2)).trans (hB1.cell (p := ⟨b + 1, 0, none⟩) hlt1)).trans hcb
            · exact (World.cell?_of_block (w := w1) (a := ⟨wr.heap.size, 0, none⟩) (hk wr.heap.size (by omega) hne)).trans (by rw [← hw1]; simp)
            · exact (World.cell?_of_block (w := w1) (a := ⟨wr.heap.size, 1, none⟩) (hk wr.heap.size (by omega) hne)).trans (by rw [← hw1]; simp)
            · have := (hmm w' hk).lookup kInt Try.underlying47 Try.zeroValue27 n.id false
              rw [this]
              simp [hgv]
          have HS := Lib.hid (fun w' (hb : Below w1.heap.size w1 w') => hSS3 w' (keepBut_of_below hb _))
          have HS3 := Lib.hid hSS3
          have HMM := Lib.hid hmm
          have HB1' := Lib.hid hB1
          have HSZ1 := Lib.hid hsz1
          have HW1 := Lib.hid hw1
          have HG0 := Lib.hid hgo0
          have HG1 := Lib.hid hgo1
          have HGV := Lib.hid hgv
          clear hSS3 hmm hB1 hsz1 hw1 hgo0 hgo1 hgv
          go_upto_region 13 with fail
          refine wp_region_mix (fun w' => w'.cell? ⟨b + 1, 0, none⟩ = some (.map (some b)) ∧ w'.cell? ⟨wr.heap.size, 0, none⟩ = some (.int .i64 n.id) ∧ w'.cell? ⟨wr.heap.size, 1, none⟩ = some (.int .i64 n.v) ∧
            (Instr.lookup 47 (.map (some b)) (.int .i64 n.id) false).run Try.prog w' = .ok gv w') true 11
            [(0, false), (1, false), (2, false), (3, false), (4, false), (5, false), (6, false), (7, false), (8, false), (9, true), (10, true), (11, true)] (by kernel_rfl) (by kernel_rfl) ?_ ?_
          · rw [HW1.out]
            exact HS.out _ (Below.refl _ _)
          · simp only [planned, List.map_cons, List.map_nil, List.getElem?_cons_succ, List.getElem?_cons_zero]
            iterate 9
              refine mix_readE rfl ?_
              apply Exists.intro
              refine ⟨fun w' hw => ?_, ?_⟩
              · obtain ⟨h1, h2, h3, h4⟩ := hw
                go_simp
                rfl
              simp only [Act.put, List.setIfInBounds_toArray, List.set_cons_zero, List.set_cons_succ]
            rw [HW1.out]
            have hsz1 := HSZ1.out
            obtain ⟨v', w3, hr, h1, h2, h3, h4⟩ := run_app1 27 w1 (b + 2) w1 gv _ n.v HG1.out (by have := varsOf_length (l.take k) n.id; rw [List.length_take] at this; omega) (by omega) (Below.refl _ _)
            have hS3 := HS3.out w3 h4.keep
            have hm3 := HMM.out w3 h4.keep
            refine mix_value (v := .slice (some ⟨w1.heap.size, 0, none⟩) 1 1) (w' := w1.alloc (.cells #[.int .i64 n.v] 3)) rfl (by go_simp) ?_ ?_
            · exact HS.out _ (below_new1 w1 _)
            simp only [Act.put, List.setIfInBounds_toArray, List.set_cons_zero, List.set_cons_succ]
            refine mix_value (v := v') (w' := w3) rfl (exec_append rfl rfl rfl hr) ?_ ?_
            · exact hS3
            simp only [Act.put, List.setIfInBounds_toArray, List.set_cons_zero, List.set_cons_succ]
            obtain ⟨w4, hr4, h5, h6⟩ := hm3.update kInt Try.underlying47 n.id v'
            refine mix_last rfl (fun K hK => ?_)
            unfold Oper.wp
            go_simp
            refine hK _ _ (np_normal ?_)
            have H5 := Lib.hid h5
            have H6 := Lib.hid h6
            have H1 := Lib.hid h1
            have H4 := Lib.hid h4
            have H2 := Lib.hid h2
            have hs4 := h6.size
            clear h1 h2 h4 h5 h6 hr hr4 hS3 hm3
            go_wp2_with fail
            go_roundw
            case rel =>
              refine ⟨k + 1, putL (nd l k).id v' m, by omega, by go_num, by omega, ?_, ?_, ?_⟩
              · have e2 : Below wA.heap.size wA w3 := (HBW.out.trans (by exact ⟨HB1'.out.os, HB1'.out.tape, HB1'.out.output, by have := HBE.out; omega, fun q hq => HB1'.out.block q (by have := HBE.out; omega)⟩)).trans ⟨H2.out.os, H2.out.tape, H2.out.output, by have := HBE.out; omega, fun q hq => H2.out.block q (by have := HBE.out; omega)⟩
                exact below_grownBy e2 H6.out (by have := HBE.out; omega) (by have := HBE.out; omega)
              · exact (World.cell?_of_block (w := w3) (a := ⟨b + 1, 0, none⟩) (keepBut_of_grown0 H6.out (b + 1) (by omega) (by simp))).trans (HS3.out w3 H4.out.keep).1
              · exact GroupsOwn.step (wr := w1) (w1 := w3) (gv := gv) (v' := v') (HGO.out.below HB1'.out) hlt (by omega) (by rw [HND.out]; exact HGV.out) (by rw [HND.out]; exact H1.out) H4.out h3 (by rw [HND.out]; exact H5.out) H6.out
            case measure => simp [intOf]; omega
        · go_wp2_with fail
          obtain rfl : k = l.length := by omega
          go_meet
          exact ⟨rfl, hsz, HBW.out, hcb, HGO.out.groups (by omega)⟩
    case rest =>
      obtain ⟨rfl, hsz, hbw, hcb, hgr⟩ := hcut
      rename World => wB
      have HNB := Lib.hid (HN1.out.below hbw)
      have HB := Lib.hid (HB1.out.trans (hbw.mono HB1.out.size))
      have HPB := Lib.hid (HPL.out.below hbw)
      have hcP : wB.cell? ⟨p + 1, 0, none⟩ = some (.map (some p)) := (hbw.cell (p := ⟨p + 1, 0, none⟩) (lt_of_cell HC1.out)).trans HC1.out
      have HGB := Lib.hid hgr
      have HCP := Lib.hid hcP
      have HCB := Lib.hid hcb
      clear hbw hgr hcP hcb HN1 HB1 HPL HC1
      go_upto_block 4 with fail
      obtain ⟨sh, hsh⟩ : ∃ sh, sh = wB.heap.size := ⟨_, rfl⟩
      have hd1 : wB.heap.size + 1 = sh + 1 := by rw [hsh]
      rw [hd1, ← hsh]
      have HSH := Lib.hid hsh
      clear hsh hd1
      have hB0 : Below wB.heap.size wB ((wB.alloc (.map #[] 0)).alloc (.map #[] 0)) := (below_new1 _ _).alloc (by simp) _
      have hs0 : ShapesTo ((wB.alloc (.map #[] 0)).alloc (.map #[] 0)) sh l 0 := by
        rw [HSH.out]
        exact (shapesTo_new wB l).keep (row := none) (keepBut_of_below (below_new1 _ _) none) (by simp)
      have hi0 : IdsTo ((wB.alloc (.map #[] 0)).alloc (.map #[] 0)) (sh + 1) l 0 := by
        have := idsTo_new (wB.alloc (.map #[] 0)) l
        rw [World.size_alloc, ← HSH.out] at this
        exact this
      have hz0 : ((wB.alloc (.map #[] 0)).alloc (.map #[] 0)).heap.size = sh + 2 := by simp [HSH.out]
      obtain ⟨w5, hw5⟩ : ∃ w5, (wB.alloc (.map #[] 0)).alloc (.map #[] 0) = w5 := ⟨_, rfl⟩
      rw [hw5] at hB0 hs0 hi0 hz0 ⊢
      have H0 := Lib.hid (⟨hB0, hs0, hi0⟩ : _ ∧ _ ∧ _)
      have HZ := Lib.hid hz0
      clear hB0 hs0 hi0 hz0 hw5
      go_wp2_with fail
      go_loopw [15, 70] (fun s15 s70 w => ∃ (k : Nat) (v : Value), k ≤ l.length ∧ s70 = .int .i64 k ∧ s15 = v ∧ sh + 2 ≤ w.heap.size ∧ Below wB.heap.size wB w ∧ ShapesTo w sh l k ∧ IdsTo w (sh + 1) l k ∧ OwnF 37 w (sh + 2) v (nodesF order l k)) (fun _ i _ => l.length - (intOf i).toNat)
      case atStart => exact ⟨0, _, Nat.zero_le _, rfl, rfl, by have := HZ.out; omega, H0.out.1, H0.out.2.1, H0.out.2.2, ownF_nil _ _ _⟩
      case round =>
        clear H0 HZ
        obtain ⟨k, v, hk, rfl, rfl, hsz2, hbw, hshp, hids, hown⟩ := hrel
        by_cases hlt : k < l.length
        · obtain ⟨bb, off, rfl, c0, c1, c2, c3, c4⟩ := (HNB.out.below hbw).cells k hlt
          obtain ⟨⟨i1, i2⟩, ⟨i3, i4⟩, ⟨i5, i6⟩, ⟨i7, i8⟩⟩ := HNB.out.ok k hlt
          obtain ⟨n, hn⟩ : ∃ n, nd l k = n := ⟨_, rfl⟩
          rw [hn] at c0 c1 c2 c3 c4 i1 i2 i3 i4 i5 i6 i7 i8
          have HND := Lib.hid hn
          obtain ⟨fs, hfs⟩ : ∃ fs, nodesF order l k = fs := ⟨_, rfl⟩
          rw [hfs] at hown
          have HL : Hid (fs.length ≤ 5 * k) := by
            show _ ≤ _
            have := nodesF_length order l k
            rw [hfs] at this
            exact this
          have HFS := Lib.hid hfs
          have HPW := Lib.hid (HPB.out.below hbw)
          have HGW := Lib.hid (HGB.out.below hbw)
          have hcPW : wr.cell? ⟨p + 1, 0, none⟩ = some (.map (some p)) := (hbw.cell (p := ⟨p + 1, 0, none⟩) (lt_of_cell HCP.out)).trans HCP.out
          have hcBW : wr.cell? ⟨b + 1, 0, none⟩ = some (.map (some b)) := (hbw.cell (p := ⟨b + 1, 0, none⟩) (lt_of_cell HCB.out)).trans HCB.out
          have HCPW := Lib.hid hcPW
          have HBW := Lib.hid hbw
          have HSHP := Lib.hid hshp
          have HIDS := Lib.hid hids
          have HOWN := Lib.hid hown
          clear hn hfs hbw hshp hids hown
          have hrun := (HPW.out.below (below_new1 wr (.cells #[.int .i64 n.id, .int .i64 n.v, .int .i64 n.lo, .int .i64 n.hi, .int .i64 n.refs] 31))).lookRun n.v
          have hcP1 : (wr.alloc (.cells #[.int .i64 n.id, .int .i64 n.v, .int .i64 n.lo, .int .i64 n.hi, .int .i64 n.refs] 31)).cell? ⟨p + 1, 0, none⟩ = some (.map (some p)) := ((below_new1 wr _).cell (p := ⟨p + 1, 0, none⟩) (lt_of_cell hcPW)).trans hcPW
          clear hcPW hcBW
          go_upto_region 22 with fail
          go_cut [20, 21] (fun s20 s21 wx => s20 = .int .i64 (max 0 (placeZ order n.v)) ∧ s21 = .bool (decide (0 ≤ placeZ order n.v)) ∧ wx = wr.alloc (.cells #[.int .i64 n.id, .int .i64 n.v, .int .i64 n.lo, .int .i64 n.hi, .int .i64 n.refs] 31))
          case first =>
            by_cases hin : n.v ∈ order
            · rw [if_pos hin] at hrun
              have h0 := placeZ_pos hin
              have e1 : Hid (max 0 (placeZ order n.v) = placeZ order n.v) := by show _ = _; omega
              have e2 : Hid (decide (0 ≤ placeZ order n.v) = true) := by show _ = _; simpa using h0
              clear hin h0
              go_wp2_with fail
              go_meet
              exact ⟨by rw [e1.out], by rw [e2.out], rfl⟩
            · rw [if_neg hin] at hrun
              have h0 := placeZ_neg hin
              have e1 : Hid (max 0 (placeZ order n.v) = 0) := by show _ = _; rw [h0]; rfl
              have e2 : Hid (decide (0 ≤ placeZ order n.v) = false) := by show _ = _; rw [h0]; rfl
              clear hin h0
              go_wp2_with fail
              go_meet
              exact ⟨by rw [e1.out], by rw [e2.out], rfl⟩
          case rest =>
            obtain ⟨rfl, rfl, rfl⟩ := hcut
            clear hrun
            go_upto_region 24 with fail
            obtain ⟨N, hNe⟩ : ∃ N, N = wr.heap.size := ⟨_, rfl⟩
            have hT : (wr.alloc (.cells #[.int .i64 n.id, .int .i64 n.v, .int .i64 n.lo, .int .i64 n.hi, .int .i64 n.refs] 31)).heap.size = N + 1 := by simp [hNe]
            have hrd : RD wB sh N (N + 1) l k n u15 fs ((wr.alloc (.cells #[.int .i64 n.id, .int .i64 n.v, .int .i64 n.lo, .int .i64 n.hi, .int .i64 n.refs] 31)).alloc (.cells #[.int .i64 n.v, .int .i64 n.lo, .int .i64 n.hi] 52)) := by
              have hb2 : Below wr.heap.size wr ((wr.alloc (.cells #[.int .i64 n.id, .int .i64 n.v, .int .i64 n.lo, .int .i64 n.hi, .int .i64 n.refs] 31)).alloc (.cells #[.int .i64 n.v, .int .i64 n.lo, .int .i64 n.hi] 52)) := (below_new1 wr _).alloc (by simp) _
              have hk2 := keepBut_of_below hb2 none
              refine ⟨HBW.out.trans (hb2.mono HBW.out.size), by simp; omega, ⟨?_, ?_, ?_, ?_⟩, ?_, ?_, ?_, HSHP.out.keep hk2 (by simp), HIDS.out.keep hk2 (by simp), HOWN.out.below hb2, by omega, by omega, fun e => by have := (HOWN.out.lt _ e).2; omega, fun e => by have := (HOWN.out.lt _ e).2; omega⟩ <;> simp [hNe]
            rw [← hNe]
            obtain ⟨w2, hw2⟩ : ∃ w2, ((wr.alloc (.cells #[.int .i64 n.id, .int .i64 n.v, .int .i64 n.lo, .int .i64 n.hi, .int .i64 n.refs] 31)).alloc (.cells #[.int .i64 n.v, .int .i64 n.lo, .int .i64 n.hi] 52)) = w2 := ⟨_, rfl⟩
            rw [hw2] at hrd ⊢
            have HR := Lib.hid hrd
            have HNE := Lib.hid hNe
            obtain ⟨sB, hsB⟩ : ∃ x, decide (∃ j, j < k ∧ shp (nd l j) = shp n) = x := ⟨_, rfl⟩
            obtain ⟨iB, hiB⟩ : ∃ x, decide (∃ j, j < k ∧ (nd l j).id = n.id) = x := ⟨_, rfl⟩
            have HSS : Hid (∀ w', Below w2.heap.size w2 w' → Below w2.heap.size w2 w' ∧ w'.cell? ⟨N, 0, none⟩ = some (.int .i64 n.id) ∧ w'.cell? ⟨N, 2, none⟩ = some (.int .i64 n.lo) ∧ w'.cell? ⟨N, 3, none⟩ = some (.int .i64 n.hi) ∧
                w'.cell? ⟨N + 1, 0, none⟩ = some (.int .i64 n.v) ∧ w'.cell? ⟨N + 1, 1, none⟩ = some (.int .i64 n.lo) ∧ w'.cell? ⟨N + 1, 2, none⟩ = some (.int .i64 n.hi) ∧
                (Instr.lookup 50 (.map (some sh)) (.agg #[.int .i64 n.v, .int .i64 n.lo, .int .i64 n.hi]) false).run Try.prog w' = .ok (.bool sB) w' ∧
                (Instr.lookup 38 (.map (some (sh + 1))) (.int .i64 n.id) false).run Try.prog w' = .ok (.bool iB) w') := by
              show ∀ _, _
              intro w' hb
              have h := HR.out.below hb
              have e1 := h.shp.look (shp n)
              have e2 := h.ids.look n.id
              rw [hsB] at e1
              rw [hiB] at e2
              exact ⟨hb, h.nin.id, h.nin.lo, h.nin.hi, h.t0, h.t1, h.t2, e1, e2⟩
            have HSB := Lib.hid hsB
            have HIB := Lib.hid hiB
            clear hrd hNe hT hw2 hsB hiB
            go_cut [19, 22, 141, 142, 143] (fun s19 s22 s141 s142 s143 wx => ∃ B, s19 = .pointer (some ⟨N, 0, none⟩) ∧ s22 = .pointer (some ⟨N + 1, 0, none⟩) ∧ s141 = .slice (some ⟨B, 0, none⟩) 5 5 ∧ s142 = .int .i64 5 ∧ s143 = .int .i64 0 ∧
              RD wB sh N (N + 1) l k n u15 fs wx ∧ FiveAt wx B (tests order l k n) ∧ u15.ownBlock ≠ some B)
            case first =>
              rename_i hmet
              refine wp_region_mix (fun w' => Below w2.heap.size w2 w' ∧ w'.cell? ⟨N, 0, none⟩ = some (.int .i64 n.id) ∧ w'.cell? ⟨N, 2, none⟩ = some (.int .i64 n.lo) ∧ w'.cell? ⟨N, 3, none⟩ = some (.int .i64 n.hi) ∧
                w'.cell? ⟨N + 1, 0, none⟩ = some (.int .i64 n.v) ∧ w'.cell? ⟨N + 1, 1, none⟩ = some (.int .i64 n.lo) ∧ w'.cell? ⟨N + 1, 2, none⟩ = some (.int .i64 n.hi) ∧
                (Instr.lookup 50 (.map (some sh)) (.agg #[.int .i64 n.v, .int .i64 n.lo, .int .i64 n.hi]) false).run Try.prog w' = .ok (.bool sB) w' ∧
                (Instr.lookup 38 (.map (some (sh + 1))) (.int .i64 n.id) false).run Try.prog w' = .ok (.bool iB) w') false 56
                [(0, false), (1, false), (2, false), (3, false), (4, false), (5, false), (9, false), (10, false), (11, false), (12, false), (13, false), (14, false), (15, false), (16, false), (17, false), (26, false), (27, false), (43, false), (44, false), (45, false), (55, false), (6, true), (7, false), (8, false), (18, true), (19, false), (20, false), (21, false), (22, false), (23, true), (24, false), (25, false), (28, false), (29, false), (30, false), (31, false), (32, false), (33, true), (34, false), (35, false), (36, false), (37, false), (38, false), (39, false), (40, true), (41, false), (42, false), (46, false), (47, false), (48, false), (49, false), (50, false), (51, false), (52, false), (53, true), (54, false)] (by kernel_rfl) (by kernel_rfl) (HSS.out _ (below_draw w2 1)) ?_
              simp only [planned, List.map_cons, List.map_nil, List.getElem?_cons_succ, List.getElem?_cons_zero]
              iterate 4
                refine mix_readE rfl ?_
                apply Exists.intro
                refine ⟨fun w' hw => ?_, ?_⟩
                · obtain ⟨hb, h0, h2, h3, t0, t1, t2, ls, li⟩ := hw
                  go_simp
                  rfl
                simp only [Act.put, List.setIfInBounds_toArray, List.set_cons_zero, List.set_cons_succ]
              obtain ⟨g1, hg1⟩ : ∃ g, decide (0 ≤ n.hi) = g := ⟨_, rfl⟩
              rw [hg1]
              have HG1 := Lib.hid hg1
              clear hg1
              iterate 2
                refine mix_readGE g1 (by go_simp) ?_
                apply Exists.intro
                refine ⟨fun hgd w' hw => ?_, ?_⟩
                · obtain ⟨hb, h0, h2, h3, t0, t1, t2, ls, li⟩ := hw
                  subst hgd
                  go_simp
                  rfl
                simp only [Act.put, List.setIfInBounds_toArray, List.set_cons_zero, List.set_cons_succ]
              iterate 15
                refine mix_readE rfl ?_
                apply Exists.intro
                refine ⟨fun w' hw => ?_, ?_⟩
                · obtain ⟨hb, h0, h2, h3, t0, t1, t2, ls, li⟩ := hw
                  go_simp
                  rfl
                simp only [Act.put, List.setIfInBounds_toArray, List.set_cons_zero, List.set_cons_succ]
              obtain ⟨o1, ho1⟩ : ∃ g, (!decide (0 ≤ placeZ order n.v)) = g := ⟨_, rfl⟩
              try rw [ho1]
              have HO1 := Lib.hid ho1
              clear ho1
              have hneg : g1 = true → 0 ≤ n.hi := fun e => by have := HG1.out; rw [e] at this; simpa using this
              have hneg0 : g1 = false → negB n.hi = false := fun e => by have := HG1.out; rw [e] at this; exact negB_lo (by simpa using this)
              refine mix_callG (v := .bool (negB n.hi)) g1 (by go_simp) (HSS.out _ (below_draw w2 1)) (fun hgd => by subst hgd; go_simp) (fun hgd => (neg_any n.hi _ (hneg hgd) i8).mono (fun e w' h => ⟨h.1, by rw [h.2]; exact HSS.out _ (below_draw w2 1)⟩)) ?_
              intro w6 hw6
              simp only [Act.put, List.setIfInBounds_toArray, List.set_cons_zero, List.set_cons_succ]
              have HCC : Hid (∀ w', Below w2.heap.size w2 w' → w'.cell? ⟨b + 1, 0, none⟩ = some (.map (some b)) ∧ w'.cell? ⟨p + 1, 0, none⟩ = some (.map (some p)) ∧ Groups w' b l ∧ Places w' p order) := by
                show ∀ _, _
                intro w' hb
                have h := (HR.out.below hb).bw
                exact ⟨(h.cell (p := ⟨b + 1, 0, none⟩) (lt_of_cell HCB.out)).trans HCB.out, (h.cell (p := ⟨p + 1, 0, none⟩) (lt_of_cell HCP.out)).trans HCP.out, HGB.out.below h, HPB.out.below h⟩
              obtain ⟨x1, hx1⟩ : ∃ g, lostB n.lo l = g := ⟨_, rfl⟩
              have HX1 := Lib.hid hx1
              clear hx1
              refine mix_read (v := .bool (negB n.hi)) rfl (fun w' hw => ?_) ?_
              · clear hw
                cases g1 with
                | true => go_simp
                | false =>
                  have hq := hneg0 rfl
                  go_simp
              simp only [Act.put, List.setIfInBounds_toArray, List.set_cons_zero, List.set_cons_succ]
              iterate 1
                refine mix_readE rfl ?_
                apply Exists.intro
                refine ⟨fun w' hw => ?_, ?_⟩
                · obtain ⟨hb, h0, h2, h3, t0, t1, t2, ls, li⟩ := hw
                  go_simp
                  rfl
                simp only [Act.put, List.setIfInBounds_toArray, List.set_cons_zero, List.set_cons_succ]
              refine mix_call (v := .bool x1) rfl (by go_simp) ((lost_any n.lo (b + 1) b l _ i6 (HCC.out _ hw6.1).1 (HCC.out _ hw6.1).2.2.1).mono (fun e w' h => ⟨by rw [← HX1.out]; exact h.1, by rw [h.2]; exact hw6⟩)) ?_
              intro w7 hw7
              simp only [Act.put, List.setIfInBounds_toArray, List.set_cons_zero, List.set_cons_succ]
              iterate 1
                refine mix_readE rfl ?_
                apply Exists.intro
                refine ⟨fun w' hw => ?_, ?_⟩
                · obtain ⟨hb, h0, h2, h3, t0, t1, t2, ls, li⟩ := hw
                  go_simp
                  rfl
                simp only [Act.put, List.setIfInBounds_toArray, List.set_cons_zero, List.set_cons_succ]
              iterate 3
                refine mix_readGE (!x1) (by go_simp) ?_
                apply Exists.intro
                refine ⟨fun hgd w' hw => ?_, ?_⟩
                · obtain ⟨hb, h0, h2, h3, t0, t1, t2, ls, li⟩ := hw
                  have hgx : x1 = false := by simpa using hgd
                  subst hgx
                  go_simp
                  rfl
                simp only [Act.put, List.setIfInBounds_toArray, List.set_cons_zero, List.set_cons_succ]
              refine mix_callG (v := .bool (lostB n.hi l)) (!x1) (by go_simp) hw7 (fun hgd => by go_simp) (fun hgd => (lost_any n.hi (b + 1) b l _ i8 (HCC.out _ hw7.1).1 (HCC.out _ hw7.1).2.2.1).mono (fun e w' h => ⟨h.1, by rw [h.2]; exact hw7⟩)) ?_
              intro w8 hw8
              simp only [Act.put, List.setIfInBounds_toArray, List.set_cons_zero, List.set_cons_succ]
              refine mix_read (v := .bool (x1 || lostB n.hi l)) rfl (fun w' hw => ?_) ?_
              · clear hw
                cases x1 with
                | true => go_simp
                | false => go_simp
              simp only [Act.put, List.setIfInBounds_toArray, List.set_cons_zero, List.set_cons_succ]
              iterate 2
                refine mix_readE rfl ?_
                apply Exists.intro
                refine ⟨fun w' hw => ?_, ?_⟩
                · obtain ⟨hb, h0, h2, h3, t0, t1, t2, ls, li⟩ := hw
                  go_simp
                  rfl
                simp only [Act.put, List.setIfInBounds_toArray, List.set_cons_zero, List.set_cons_succ]
              iterate 4
                refine mix_readGE (!o1) (by go_simp) ?_
                apply Exists.intro
                refine ⟨fun hgd w' hw => ?_, ?_⟩
                · obtain ⟨hb, h0, h2, h3, t0, t1, t2, ls, li⟩ := hw
                  have hgx : o1 = false := by simpa using hgd
                  subst hgx
                  go_simp
                  rfl
                simp only [Act.put, List.setIfInBounds_toArray, List.set_cons_zero, List.set_cons_succ]
              refine mix_callG (v := .bool (wrongB (max 0 (placeZ order n.v)) n.lo order l)) (!o1) (by go_simp) hw8 (fun hgd => by go_simp) (fun hgd => (wrong_any (max 0 (placeZ order n.v)) n.lo (b + 1) b (p + 1) p order l _ (by omega) i6 (HCC.out _ hw8.1).1 (HCC.out _ hw8.1).2.1 (HCC.out _ hw8.1).2.2.1 (HCC.out _ hw8.1).2.2.2).mono (fun e w' h => ⟨h.1, HSS.out _ (hw8.1.trans (h.2.mono hw8.1.size))⟩)) ?_
              intro w9 hw9
              simp only [Act.put, List.setIfInBounds_toArray, List.set_cons_zero, List.set_cons_succ]
              refine mix_read (v := .bool (o1 || wrongB (max 0 (placeZ order n.v)) n.lo order l)) rfl (fun w' hw => ?_) ?_
              · clear hw
                cases o1 with
                | true => go_simp
                | false => go_simp
              simp only [Act.put, List.setIfInBounds_toArray, List.set_cons_zero, List.set_cons_succ]
              obtain ⟨y1, hy1⟩ : ∃ g, (o1 || wrongB (max 0 (placeZ order n.v)) n.lo order l) = g := ⟨_, rfl⟩
              rw [hy1]
              have HY1 := Lib.hid hy1
              clear hy1
              iterate 1
                refine mix_readE rfl ?_
                apply Exists.intro
                refine ⟨fun w' hw => ?_, ?_⟩
                · obtain ⟨hb, h0, h2, h3, t0, t1, t2, ls, li⟩ := hw
                  go_simp
                  rfl
                simp only [Act.put, List.setIfInBounds_toArray, List.set_cons_zero, List.set_cons_succ]
              iterate 4
                refine mix_readGE (!y1) (by go_simp) ?_
                apply Exists.intro
                refine ⟨fun hgd w' hw => ?_, ?_⟩
                · obtain ⟨hb, h0, h2, h3, t0, t1, t2, ls, li⟩ := hw
                  have hgx : y1 = false := by simpa using hgd
                  subst hgx
                  go_simp
                  rfl
                simp only [Act.put, List.setIfInBounds_toArray, List.set_cons_zero, List.set_cons_succ]
              refine mix_callG (v := .bool (wrongB (max 0 (placeZ order n.v)) n.hi order l)) (!y1) (by go_simp) hw9 (fun hgd => by go_simp) (fun hgd => (wrong_any (max 0 (placeZ order n.v)) n.hi (b + 1) b (p + 1) p order l _ (by omega) i8 (HCC.out _ hw9.1).1 (HCC.out _ hw9.1).2.1 (HCC.out _ hw9.1).2.2.1 (HCC.out _ hw9.1).2.2.2).mono (fun e w' h => ⟨h.1, HSS.out _ (hw9.1.trans (h.2.mono hw9.1.size))⟩)) ?_
              intro w10 hw10
              simp only [Act.put, List.setIfInBounds_toArray, List.set_cons_zero, List.set_cons_succ]
              refine mix_read (v := .bool (y1 || wrongB (max 0 (placeZ order n.v)) n.hi order l)) rfl (fun w' hw => ?_) ?_
              · clear hw
                cases y1 with
                | true => go_simp
                | false => go_simp
              simp only [Act.put, List.setIfInBounds_toArray, List.set_cons_zero, List.set_cons_succ]
              iterate 2
                refine mix_readE rfl ?_
                apply Exists.intro
                refine ⟨fun w' hw => ?_, ?_⟩
                · obtain ⟨hb, h0, h2, h3, t0, t1, t2, ls, li⟩ := hw
                  go_simp
                  rfl
                simp only [Act.put, List.setIfInBounds_toArray, List.set_cons_zero, List.set_cons_succ]
              iterate 4
                refine mix_readGE (!sB) (by go_simp) ?_
                apply Exists.intro
                refine ⟨fun hgd w' hw => ?_, ?_⟩
                · obtain ⟨hb, h0, h2, h3, t0, t1, t2, ls, li⟩ := hw
                  have hgx : sB = false := by simpa using hgd
                  subst hgx
                  go_simp
                  rfl
                simp only [Act.put, List.setIfInBounds_toArray, List.set_cons_zero, List.set_cons_succ]
              refine mix_read (v := .bool (sB || iB)) rfl (fun w' hw => ?_) ?_
              · clear hw
                cases sB with
                | true => go_simp
                | false => go_simp
              simp only [Act.put, List.setIfInBounds_toArray, List.set_cons_zero, List.set_cons_succ]
              iterate 1
                refine mix_readE rfl ?_
                apply Exists.intro
                refine ⟨fun w' hw => ?_, ?_⟩
                · obtain ⟨hb, h0, h2, h3, t0, t1, t2, ls, li⟩ := hw
                  go_simp
                  rfl
                simp only [Act.put, List.setIfInBounds_toArray, List.set_cons_zero, List.set_cons_succ]
              have hSn : ∀ o, Below w2.heap.size w2 (w10.alloc o) := fun o => hw10.1.trans ((below_new1 w10 o).mono hw10.1.size)
              refine mix_value (v := .slice (some ⟨w10.heap.size, 0, none⟩) 5 5) (w' := w10.alloc (.cells #[.int .i64 4, .bool (negB n.hi), .int .i64 3, .bool (n.lo == n.hi), .int .i64 5, .bool (x1 || lostB n.hi l), .int .i64 1, .bool (y1 || wrongB (max 0 (placeZ order n.v)) n.hi order l), .int .i64 2, .bool (sB || iB)] _)) rfl (by go_simp; rfl) (HSS.out _ (hSn _)) ?_
              simp only [Act.put, List.setIfInBounds_toArray, List.set_cons_zero, List.set_cons_succ]
              iterate 1
                refine mix_readE rfl ?_
                apply Exists.intro
                refine ⟨fun w' hw => ?_, ?_⟩
                · obtain ⟨hb, h0, h2, h3, t0, t1, t2, ls, li⟩ := hw
                  go_simp
                  rfl
                simp only [Act.put, List.setIfInBounds_toArray, List.set_cons_zero, List.set_cons_succ]
              refine mix_end ?_
              refine hmet _ _ ?_
              go_meet
              refine ⟨w10.heap.size, rfl, rfl, rfl, rfl, rfl, HR.out.below (hSn _), ?_, fun e => by have := (HR.out.own.lt _ e).2; have := hw10.1.size; omega⟩
              have h5 := fiveAt_new w10 54 (negB n.hi) (n.lo == n.hi) (x1 || lostB n.hi l) (y1 || wrongB (max 0 (placeZ order n.v)) n.hi order l) (sB || iB)
              have e1 : (x1 || lostB n.hi l) = (lostB n.lo l || lostB n.hi l) := by rw [HX1.out]
              have e2 : (y1 || wrongB (max 0 (placeZ order n.v)) n.hi order l) = orderB order l n := by rw [orderB_max, ← HY1.out, ← HO1.out]
              have e3 : (sB || iB) = twB l k := by rw [twB_or HND.out, HSB.out, HIB.out]
              unfold tests
              rw [← e1, ← e2, ← e3]
              exact h5
            case rest =>
              obtain ⟨B, rfl, rfl, rfl, rfl, rfl, hrd, hfive, hneB⟩ := hcut
              have hlen5 : (tests order l k n).length = 5 := rfl
              obtain ⟨ts, hts⟩ : ∃ ts, tests order l k n = ts := ⟨_, rfl⟩
              rw [hts] at hfive hlen5
              have HTS := Lib.hid hts
              have HL5 := Lib.hid hlen5
              have HRD := Lib.hid hrd
              have HFV := Lib.hid hfive
              have HNB' := Lib.hid hneB
              clear hts hlen5 hrd hfive hneB HSS HR HSB HIB
              rename World => w3
              go_wp2_with fail
              go_loopw [15, 143] (fun s15 s143 w => ∃ (j : Nat) (v : Value), j ≤ 5 ∧ s143 = .int .i64 j ∧ s15 = v ∧ RD wB sh N (N + 1) l k n v (fs ++ part2 ts n.id j) w ∧ FiveAt w B ts ∧ v.ownBlock ≠ some B) (fun _ i _ => 5 - (intOf i).toNat)
              case atStart => exact ⟨0, _, by omega, rfl, rfl, by simpa [part2] using HRD.out, HFV.out, HNB'.out⟩
              case round =>
                clear HRD HFV HNB'
                obtain ⟨j, v, hj, rfl, rfl, hrd, hfive, hneB⟩ := hrel
                have HRD := Lib.hid hrd
                have HFV := Lib.hid hfive
                have HNB' := Lib.hid hneB
                rename World => w4
                by_cases hj5 : j < 5
                · obtain ⟨e0, e1⟩ := hfive j (by rw [HL5.out]; exact hj5)
                  obtain ⟨d0, d1, d2, d3⟩ := hrd.nin
                  obtain ⟨kd, hkd⟩ : ∃ x, (ts.getD j (0, false)).1 = x := ⟨_, rfl⟩
                  obtain ⟨bt, hbt⟩ : ∃ x, (ts.getD j (0, false)).2 = x := ⟨_, rfl⟩
                  have hps := part2_succ (ts := ts) (id := n.id) (j := j) (by rw [HL5.out]; exact hj5)
                  rw [hkd, hbt] at hps
                  rw [hkd] at e0
                  rw [hbt] at e1
                  obtain ⟨w5', hw5'⟩ : ∃ w5', w5' = w4.alloc (.cells #[.int .i64 kd, .bool bt] 54) := ⟨_, rfl⟩
                  have hb5 : Below w4.heap.size w4 w5' := by rw [hw5']; exact below_new1 _ _
                  have HR5 := Lib.hid (hrd.below hb5)
                  have HF5 := Lib.hid (hfive.keep (keepBut_of_below hb5 none) (by simp))
                  have HPS := Lib.hid hps
                  have HW5 := Lib.hid hw5'
                  have HLP := Lib.hid (part2_length ts n.id j)
                  clear hkd hbt hps hrd hfive hneB hw5' hb5 c0 c1 c2 c3 c4 hcP1
                  cases bt with
                  | true =>
                    have d9 := HR5.out.nin.id
                    rw [HW5.out] at d9
                    go_wp2_with (at_builtin; go_must (refine wpList_appF 37 34 Try.underlying34 infoFD _ rfl _ _ rfl (sh + 2) w5' _ (fs ++ part2 ts n.id j) _ _ rfl rfl rfl (by simp) (by rw [← HW5.out]; exact HR5.out.own) (by rw [List.length_append]; have := HL.out; have := HLP.out; omega) (by rw [← HW5.out]; exact HR5.out.sz) (by rw [← HW5.out]; exact Below.refl _ _) ?_); intro v' w' h1 h2 h3 h4)
                    rw [← HW5.out] at h4
                    have H1 := Lib.hid h1
                    have H2 := Lib.hid h2
                    have H4 := Lib.hid h4
                    clear h1 h2 h4
                    go_roundw
                    case rel => exact ⟨j + 1, v', by omega, by go_num, rfl, by rw [HPS.out, fl_true, ← List.append_assoc]; exact HR5.out.app H1.out (HR5.out.bw.trans (H2.out.mono (by have := HSH.out; omega))) h3 H4.out, HF5.out.keep H4.out.keep (fun e => HNB'.out e.symm), H4.out.ne HNB'.out (lt_of_cell (HF5.out 0 (by rw [HL5.out]; omega)).1)⟩
                    case measure => simp [intOf]; omega
                  | false =>
                    go_wp2_with fail
                    go_roundw
                    case rel => exact ⟨j + 1, _, by omega, by go_num, rfl, by rw [← HW5.out, HPS.out, fl_false]; exact HR5.out, by rw [← HW5.out]; exact HF5.out, HNB'.out⟩
                    case measure => simp [intOf]; omega
                · obtain rfl : j = 5 := by omega
                  go_wp2_with fail
                  obtain ⟨w6, hw6⟩ : ∃ w6, w6 = w4.drew := ⟨_, rfl⟩
                  have hr6 : RD wB sh N (N + 1) l k n u15 (nodesF order l (k + 1)) w6 := by
                    have h5 := hrd.below (below_draw w4 1)
                    rw [← HTS.out, part2_tests HND.out, ← HFS.out, ← nodesF_succ] at h5
                    rw [hw6]; exact h5
                  have HR6 := Lib.hid hr6
                  obtain ⟨mS, hmS, hgS⟩ := hr6.shp
                  obtain ⟨mI, hmI, hgI⟩ := hr6.ids
                  obtain ⟨w7, hr7, hm7, hg7⟩ := hmS.update kShape Try.underlying50 (shp n) (.bool true)
                  have hmI7 := hmI.keep (keepBut_of_grown0 hg7) (by simp)
                  obtain ⟨w8, hr8, hm8, hg8⟩ := hmI7.update kInt Try.underlying38 n.id (.bool true)
                  have k7 : KeepBut (some sh) w6 w7 := keepBut_of_grown0 hg7
                  have k8 : KeepBut (some (sh + 1)) w7 w8 := keepBut_of_grown0 hg8
                  have hN := HR6.out.hN
                  have hS8 : ShapesTo w8 sh l (k + 1) := (ShapesTo.step HND.out hgS hmS hm7).keep k8 (by simp)
                  have hI8 : IdsTo w8 (sh + 1) l (k + 1) := IdsTo.step HND.out hgI hmI7 hm8
                  have hb8 : Below wB.heap.size wB w8 := below_grownBy (below_grownBy HR6.out.bw hg7 HR6.out.bw.size (by have := HSH.out; omega)) hg8 (by have := HR6.out.bw.size; have := hg7.size; omega) (by have := HSH.out; omega)
                  have hz8 : sh + 2 ≤ w8.heap.size := by have := HR6.out.sz; have := hg7.size; have := hg8.size; omega
                  have ho8 : OwnF 37 w8 (sh + 2) u15 (nodesF order l (k + 1)) := (HR6.out.own.keep k7 (fun q hq e => by have := (HR6.out.own.lt q hq).1; cases e; omega)).keep k8 (fun q hq e => by have := (HR6.out.own.lt q hq).1; cases e; omega)
                  have H8 := Lib.hid (⟨hS8, hI8, hb8, hz8, ho8⟩ : _ ∧ _ ∧ _ ∧ _ ∧ _)
                  have HSX : Hid (∀ w', KeepBut (some sh) w6 w' → w'.cell? ⟨N, 0, none⟩ = some (.int .i64 n.id) ∧ w'.cell? ⟨N + 1, 0, none⟩ = some (.int .i64 n.v) ∧ w'.cell? ⟨N + 1, 1, none⟩ = some (.int .i64 n.lo) ∧ w'.cell? ⟨N + 1, 2, none⟩ = some (.int .i64 n.hi)) := by
                    show ∀ _, _
                    intro w' hk'
                    have hN0 := lt_of_cell HR6.out.nin.id
                    have hN1 : N + 1 < w6.heap.size := lt_of_cell HR6.out.t0
                    have a0 : ∀ o, w'.cell? ⟨N, o, none⟩ = w6.cell? ⟨N, o, none⟩ := fun o => World.cell?_of_block (w := w6) (a := ⟨N, o, none⟩) (hk' N hN0 (by intro e; cases e; omega))
                    have a1 : ∀ o, w'.cell? ⟨N + 1, o, none⟩ = w6.cell? ⟨N + 1, o, none⟩ := fun o => World.cell?_of_block (w := w6) (a := ⟨N + 1, o, none⟩) (hk' (N + 1) hN1 (by intro e; cases e; omega))
                    exact ⟨(a0 0).trans HR6.out.nin.id, (a1 0).trans HR6.out.t0, (a1 1).trans HR6.out.t1, (a1 2).trans HR6.out.t2⟩
                  have K7 := Lib.hid k7
                  have HR7 := Lib.hid hr7
                  have HR8 := Lib.hid hr8
                  have HW6 := Lib.hid hw6
                  clear hr6 hgS hgI hmS hmI hr7 hr8 hm7 hm8 hg7 hg8 hmI7 k7 k8 hS8 hI8 hb8 hz8 ho8 hw6 hrd hfive hneB hN
                  refine wp_region_mix (fun w' => w'.cell? ⟨N, 0, none⟩ = some (.int .i64 n.id) ∧ w'.cell? ⟨N + 1, 0, none⟩ = some (.int .i64 n.v) ∧ w'.cell? ⟨N + 1, 1, none⟩ = some (.int .i64 n.lo) ∧ w'.cell? ⟨N + 1, 2, none⟩ = some (.int .i64 n.hi)) true 6
                    [(0, false), (1, false), (2, false), (3, false), (4, false), (5, true), (6, true)] (by kernel_rfl) (by kernel_rfl) (by rw [← HW6.out]; exact HSX.out _ (keepBut_refl _ _)) ?_
                  rw [← HW6.out]
                  simp only [planned, List.map_cons, List.map_nil, List.getElem?_cons_succ, List.getElem?_cons_zero]
                  iterate 5
                    refine mix_readE rfl ?_
                    apply Exists.intro
                    refine ⟨fun w' hw => ?_, ?_⟩
                    · obtain ⟨h0, t0, t1, t2⟩ := hw
                      go_simp
                      rfl
                    simp only [Act.put, List.setIfInBounds_toArray, List.set_cons_zero, List.set_cons_succ]
                  refine mix_eff rfl (fun K hK => ?_)
                  have hr7 := HR7.out
                  unfold encS shp at hr7
                  unfold Oper.wp
                  go_simp
                  refine hK _ _ (HSX.out _ K7.out) ?_
                  clear hr7
                  have hr8 := HR8.out
                  refine mix_last rfl (fun K hK => ?_)
                  unfold Oper.wp
                  go_simp
                  refine hK _ _ (np_normal ?_)
                  clear hr8
                  go_wp2_with fail
                  go_roundw
                  case rel => exact ⟨k + 1, _, by omega, by go_num, rfl, H8.out.2.2.2.1, H8.out.2.2.1, H8.out.1, H8.out.2.1, H8.out.2.2.2.2⟩
                  case measure => simp [intOf]; omega
        · have HBW := Lib.hid hbw
          have HOWN := Lib.hid hown
          clear hbw hown hshp hids
          go_wp2_with fail
          obtain rfl : k = l.length := by omega
          go_ret
          refine ⟨_, rfl, ?_, HB.out.trans (HBW.out.mono HB.out.size)⟩
          exact HOWN.out.mono (by have := HB.out.size; have := HSH.out; omega)
end Go.Proofs.Ytcembefhfadpbab
