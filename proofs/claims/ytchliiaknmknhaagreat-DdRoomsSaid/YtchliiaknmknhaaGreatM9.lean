/- Several texts in one file. The dead nodes of a store go: what that leaves. The store's Collect, walked. A manager in any state, with the functions of its handles; what changes of memory leave of it. -/
import Derived.Test.YtchliiaknmknhaaGreatM8
set_option linter.unusedSimpArgs false
set_option linter.unusedVariables false
set_option linter.unusedSectionVars false
set_option linter.unnecessarySimpa false

-- Coll
namespace Go.Proofs.YtchliiaknmknhaaGreat
open Go.RowKit

/-- The slots of the dead nodes, in order. -/
def deadL (d : StoreD) : List Nat := (takenL d.pool).filter (fun i => decide (cntOf d i = 0))
theorem takenL_nodup (p : PoolD) : (takenL p).Nodup := (List.nodup_range).filter _
theorem deadL_nodup (d : StoreD) : (deadL d).Nodup := (takenL_nodup d.pool).filter _
theorem mem_deadL {d : StoreD} {i : Nat} (h : i ∈ deadL d) : d.pool.tk i = true ∧ cntOf d i = 0 := by
  unfold deadL at h
  rw [List.mem_filter] at h
  exact ⟨(List.mem_filter.1 h.1).2, by simpa using h.2⟩
theorem filter_sum (f g : Nat → Bool) : ∀ k, ((((List.range k).filter f).filter g).length : Int) = sumTo k (fun i => if f i = true then (if g i = true then 1 else 0) else 0)
  | 0 => by simp [sumTo]
  | k + 1 => by
    rw [List.range_succ, List.filter_append, List.filter_append, List.length_append]
    have ih := filter_sum f g k
    rw [Int.natCast_add, ih]
    cases hf : f k <;> cases hg : g k <;> simp [sumTo, hf, hg, List.filter]
theorem deadL_len {d : StoreD} {ext : Nat → Int} (h : LiveC d ext) : (deadL d).length = d.dead := by
  have h1 := h.dead
  have h2 : ((deadL d).length : Int) = sumTo d.pool.at_.length (dead1 (nodesOf d) (cntOf d)) := by
    unfold deadL takenL takenU
    rw [filter_sum]
    refine sumTo_congr _ fun i _ => ?_
    unfold dead1 nodesOf PoolD.get
    cases ht : d.pool.tk i <;> simp
  unfold deadN at h1
  omega
/-- The first k dead nodes are gone. -/
structure DropRel (d : StoreD) (k : Nat) (d' : StoreD) : Prop where
  vars : d'.vars = d.vars
  level : d'.level = d.level
  counts : d'.counts = d.counts
  dead : d'.dead = d.dead
  room : d'.pool.room = d.pool.room
  alen : d'.pool.at_.length = d.pool.at_.length
  keep : ∀ i, i ∉ (deadL d).take k → d'.pool.tk i = d.pool.tk i ∧ d'.pool.nd i = d.pool.nd i
  gone : ∀ i, i ∈ (deadL d).take k → d'.pool.tk i = false
  tab : ∀ v, v < d.vars.length → ∀ lo hi id, d'.tab v (lo, hi) = some id ↔ nodesOf d' id = some ⟨v, lo, hi⟩
  many : d'.pool.many + k = d.pool.many
theorem DropRel.start {d : StoreD} (ht : ∀ v, v < d.vars.length → ∀ lo hi id, d.tab v (lo, hi) = some id ↔ nodesOf d id = some ⟨v, lo, hi⟩) : DropRel d 0 d :=
  ⟨rfl, rfl, rfl, rfl, rfl, rfl, fun _ _ => ⟨rfl, rfl⟩, fun i h => by simp at h, ht, rfl⟩
def dropAt (d : StoreD) (i : Nat) (b : BN) : StoreD := { d with pool := d.pool.give i, tab := fun v => if v = b.v then putF (d.tab v) (b.lo, b.hi) none else d.tab v }
theorem DropRel.at {d d' : StoreD} {k i : Nat} (h : DropRel d k d') (hi : (deadL d)[k]? = some i) : d'.pool.tk i = true ∧ d'.pool.nd i = d.pool.nd i := by
  obtain ⟨hlt, e⟩ := List.getElem?_eq_some_iff.1 hi
  have hm : i ∈ deadL d := e ▸ List.getElem_mem hlt
  have hn : i ∉ (deadL d).take k := by
    intro hh
    rw [List.mem_take_iff_getElem] at hh
    obtain ⟨j, hj, e2⟩ := hh
    have hne := List.pairwise_iff_getElem.1 (deadL_nodup d) j k (by omega) hlt (by omega)
    exact hne (e2.trans e.symm)
  have := h.keep i hn
  exact ⟨this.1.trans (mem_deadL hm).1, this.2⟩
theorem DropRel.next {d d' : StoreD} {k i : Nat} (h : DropRel d k d') (hi : (deadL d)[k]? = some i) (hl : d'.pool.taken.length = d'.pool.at_.length) (hat : i < d'.pool.at_.length) (hm : 1 ≤ d'.pool.many) :
    DropRel d (k + 1) (dropAt d' i (bnOf (d'.pool.nd i))) := by
  obtain ⟨hlt, e⟩ := List.getElem?_eq_some_iff.1 hi
  obtain ⟨ht, hnd⟩ := h.at hi
  have e1 : (deadL d).take (k + 1) = (deadL d).take k ++ [i] := by rw [List.take_succ_eq_append_getElem hlt, e]
  have tk : ∀ j, (d'.pool.give i).tk j = if j = i then false else d'.pool.tk j := fun j => tk_setT (by rw [hl]; exact hat) j
  have nd : ∀ j, (d'.pool.give i).nd j = if j = i then rn0 else d'.pool.nd j := fun j => nd_set hat j
  have hni : nodesOf d' i = some (bnOf (d'.pool.nd i)) := by unfold nodesOf PoolD.get; rw [if_pos ht]; rfl
  have hno : ∀ j, nodesOf (dropAt d' i (bnOf (d'.pool.nd i))) j = if j = i then none else nodesOf d' j := fun j => by
    unfold nodesOf
    show ((d'.pool.give i).get j).map bnOf = _
    rw [PoolD.give_get (by rw [hl]; exact hat) hat]
    by_cases e : j = i <;> simp [e]
  refine ⟨h.vars, h.level, h.counts, h.dead, h.room, ?_, fun j hj => ?_, fun j hj => ?_, fun v hv lo hY id => ?_, ?_⟩
  · show (d'.pool.at_.set i rn0).length = _
    rw [List.length_set]; exact h.alen
  · rw [e1] at hj
    simp only [List.mem_append, List.mem_singleton, not_or] at hj
    show (d'.pool.give i).tk j = _ ∧ (d'.pool.give i).nd j = _
    rw [tk, nd, if_neg hj.2, if_neg hj.2]
    exact h.keep j hj.1
  · rw [e1] at hj
    simp only [List.mem_append, List.mem_singleton] at hj
    show (d'.pool.give i).tk j = _
    rw [tk]
    by_cases e2 : j = i
    · rw [if_pos e2]
    · rw [if_neg e2]; exact h.gone j (hj.resolve_right e2)
  · rw [hno]
    have h0 := h.tab v hv lo hY id
    show (if v = (bnOf (d'.pool.nd i)).v then putF (d'.tab v) ((bnOf (d'.pool.nd i)).lo, (bnOf (d'.pool.nd i)).hi) none else d'.tab v) (lo, hY) = some id ↔ _
    by_cases e2 : id = i
    · subst e2
      simp only [if_true]
      constructor
      · intro hh
        exfalso
        by_cases e3 : v = (bnOf (d'.pool.nd id)).v
        · rw [if_pos e3] at hh
          unfold putF at hh
          by_cases e4 : (lo, hY) = ((bnOf (d'.pool.nd id)).lo, (bnOf (d'.pool.nd id)).hi)
          · rw [if_pos e4] at hh; cases hh
          · rw [if_neg e4, h0, hni] at hh
            cases hh
            exact e4 rfl
        · rw [if_neg e3, h0, hni] at hh
          cases hh
          exact e3 rfl
      · intro hh; cases hh
    · rw [if_neg e2, ← h0]
      by_cases e3 : v = (bnOf (d'.pool.nd i)).v
      · rw [if_pos e3]
        unfold putF
        by_cases e4 : (lo, hY) = ((bnOf (d'.pool.nd i)).lo, (bnOf (d'.pool.nd i)).hi)
        · rw [if_pos e4]
          constructor
          · intro hh; cases hh
          · intro hh
            exfalso
            have q := (h.tab v hv lo hY i).2 (by rw [hni]; cases e4; rw [e3])
            rw [hh] at q
            cases q
            exact e2 rfl
        · rw [if_neg e4]
      · rw [if_neg e3]
  · show d'.pool.many - 1 + (k + 1) = _
    have := h.many; omega
/-- All the dead nodes are gone. -/
structure CollRel (d d' : StoreD) : Prop where
  vars : d'.vars = d.vars
  level : d'.level = d.level
  counts : d'.counts = d.counts
  room : d'.pool.room = d.pool.room
  dead : d'.dead = 0
  alen : d'.pool.at_.length = d.pool.at_.length
  nodes : ∀ i, nodesOf d' i = if 0 < cntOf d i then nodesOf d i else none
  ext : ∀ i b, nodesOf d' i = some b → extOf d' i = extOf d i
  tab : ∀ v, v < d.vars.length → ∀ lo hi id, d'.tab v (lo, hi) = some id ↔ nodesOf d' id = some ⟨v, lo, hi⟩
  many : d'.pool.many + d.dead = d.pool.many
theorem DropRel.done {d d' : StoreD} {ext : Nat → Int} (h : DropRel d (deadL d).length d') (hl : LiveC d ext) (hat : ∀ i, d.pool.tk i = true → i < d.pool.at_.length) : CollRel d { d' with dead := 0 } := by
  have hk : (deadL d).take (deadL d).length = deadL d := List.take_length
  have hmem : ∀ i, d.pool.tk i = true → cntOf d i = 0 → i ∈ deadL d := fun i h1 h2 => by
    unfold deadL takenL takenU
    simp only [List.mem_filter, List.mem_range, decide_eq_true_eq]
    exact ⟨⟨hat i h1, h1⟩, h2⟩
  refine ⟨h.vars, h.level, h.counts, h.room, rfl, h.alen, fun i => ?_, fun i b hb => ?_, h.tab, by rw [← deadL_len hl]; exact h.many⟩
  · show (d'.pool.get i).map bnOf = if 0 < cntOf d i then (d.pool.get i).map bnOf else none
    unfold PoolD.get
    by_cases hc : i ∈ deadL d
    · have h1 := h.gone i (by rw [hk]; exact hc)
      have h2 := (mem_deadL hc).2
      simp [h1, h2]
    · obtain ⟨h1, h2⟩ := h.keep i (by rw [hk]; exact hc)
      rw [h1, h2]
      by_cases h3 : 0 < cntOf d i
      · rw [if_pos h3]
      · rw [if_neg h3]
        cases ht : d.pool.tk i with
        | false => rfl
        | true => exact absurd (hmem i ht (by omega)) hc
  · have hb' : (d'.pool.get i).map bnOf = some b := hb
    have ht : d'.pool.tk i = true := by
      unfold PoolD.get at hb'
      cases ht : d'.pool.tk i with
      | true => rfl
      | false => rw [ht] at hb'; simp at hb'
    have hc : i ∉ deadL d := fun hc => by rw [h.gone i (by rw [hk]; exact hc)] at ht; cases ht
    obtain ⟨h1, h2⟩ := h.keep i (by rw [hk]; exact hc)
    show (if d'.pool.tk i = true then ((d'.pool.nd i).refs : Int) else 0) = if d.pool.tk i = true then ((d.pool.nd i).refs : Int) else 0
    rw [h1, h2]
theorem live_pos {d : StoreD} {ext : Nat → Int} (hl : LiveC d ext) (h0 : d.dead = 0) {i : Nat} {b : BN} (hb : nodesOf d i = some b) : 0 < cntOf d i := by
  have h1 := hl.dead
  rw [h0] at h1
  have h2 := sumTo_ge (f := dead1 (nodesOf d) (cntOf d)) d.pool.at_.length (fun i _ => dead1_nonneg _ _ i) (hl.cnt.lt i b hb)
  unfold deadN at h1
  unfold dead1 at h2
  rw [hb] at h2
  by_cases h : cntOf d i = 0
  · simp only [h, if_true] at h2
    unfold dead1 at h1
    omega
  · omega
theorem CollRel.none {d : StoreD} {V : Nat → BF} (hk : StoreOK d V) (h0 : d.dead = 0) : CollRel d d := by
  refine ⟨rfl, rfl, rfl, rfl, h0, rfl, fun i => ?_, fun _ _ _ => rfl, hk.tab, by omega⟩
  cases hb : nodesOf d i with
  | none => simp
  | some b => rw [if_pos (live_pos hk.live h0 hb)]
theorem extOf_nonneg (d : StoreD) (i : Nat) : 0 ≤ extOf d i := by unfold extOf; split <;> omega
section
variable {d d' : StoreD} {V : Nat → BF}
theorem CollRel.sub (r : CollRel d d') {i : Nat} {b : BN} (h : nodesOf d' i = some b) : nodesOf d i = some b ∧ 0 < cntOf d i := by
  rw [r.nodes] at h
  split at h
  · rename_i hc; exact ⟨h, hc⟩
  · cases h
theorem CollRel.cnt (r : CollRel d d') : cntOf d' = cntOf d := by funext i; unfold cntOf; rw [r.counts]
theorem CollRel.lev (r : CollRel d d') : levN d' = levN d := by funext v; unfold levN; rw [r.level]
theorem CollRel.kid (r : CollRel d d') (hk : StoreOK d V) {i : Nat} {b : BN} (h : nodesOf d' i = some b) {e : Nat} (he : e = b.lo ∨ e = b.hi) : okE (nodesOf d') e := by
  obtain ⟨h1, h2⟩ := r.sub h
  have ho : okE (nodesOf d) e := by
    rcases he with rfl | rfl
    · exact hk.dag.okLo i b h1
    · exact hk.dag.okHi i b h1
  rcases ho with h0 | ⟨c, hc⟩
  · exact .inl h0
  · refine .inr ⟨c, ?_⟩
    rw [r.nodes, if_pos (hk.live.cnt.pos_of_live h1 h2 he hc (extOf_nonneg d _))]
    exact hc
theorem CollRel.lvE (r : CollRel d d') (h0 : nodesOf d 0 = Option.none) {n : Nat} {lev : Nat → Nat} {e : Nat} (he : okE (nodesOf d') e) : Go.Proofs.YtchliiaknmknhaaGreat.lvE n lev (nodesOf d') e = Go.Proofs.YtchliiaknmknhaaGreat.lvE n lev (nodesOf d) e := by
  unfold Go.Proofs.YtchliiaknmknhaaGreat.lvE
  rcases he with he | ⟨b, hb⟩
  · have : nodesOf d' 0 = Option.none := by rw [r.nodes, h0]; simp
    rw [he, h0, this]
  · rw [hb, (r.sub hb).1]
theorem CollRel.ok (r : CollRel d d') (hk : StoreOK d V) : StoreOK d' V := by
  have hlv : ∀ e, okE (nodesOf d') e → Go.Proofs.YtchliiaknmknhaaGreat.lvE d.vars.length (levN d) (nodesOf d') e = Go.Proofs.YtchliiaknmknhaaGreat.lvE d.vars.length (levN d) (nodesOf d) e := fun e he => r.lvE hk.dag.none0 he
  refine ⟨?_, ⟨?_, ?_, fun i b hb => by rw [r.counts]; exact hk.live.has i b (r.sub hb).1⟩, by rw [r.vars]; exact r.tab, by rw [r.counts]; exact hk.clen, by rw [r.vars]; exact hk.small, by rw [r.vars, r.lev]; exact hk.inv, by rw [r.vars, r.lev]; exact hk.vlt⟩
  · rw [r.vars, r.lev]
    exact hk.dag.restrict (nodesOf d') (fun i b h => (r.sub h).1) (fun i b h => ⟨r.kid hk h (.inl rfl), r.kid hk h (.inr rfl)⟩)
  · rw [r.alen, r.cnt]
    exact (hk.live.cnt.collect (nodesOf d') r.nodes).congr (fun x b hb => r.ext x b hb)
  · rw [r.dead]
    unfold deadN
    rw [sumTo_congr (g := fun _ => 0) _ (fun i _ => ?_), sumTo_zero]
    · rfl
    · unfold dead1
      cases hb : nodesOf d' i with
      | none => rfl
      | some b => have := (r.sub hb).2; rw [r.cnt]; simp; omega
end
end Go.Proofs.YtchliiaknmknhaaGreat

-- Collect
namespace Go.Proofs.YtchliiaknmknhaaGreat
open Go.RowKit Go.Shelf

attribute [local go_sem] Oper.semAt_some
theorem wpListIn_appOne {F : Fence} {fu : Nat} (T e : TypeId) (size bytes : Nat) (z : Value) (hT : Tryz.prog.underlying T = some (.slice e)) (he : (Tryz.prog.info? e).map (fun i => (i.zero, i.size, i.bytes)) = some (some z, size, bytes)) (hzs : z.cells.size = size) (hsz : 0 < size)
    {wr : World} {ops : Array Oper} {rest : List Oper} {op : Oper} {a : Act} {Q : Exit → Act → World → Prop} {W : World} (hgd : op.guard = none) (s x : Operand)
    (hop : op.op = .call { callee := .builtin .append, args := #[s, x], argTypes := #[T, T] })
    {o : Own} {r : Role} {v : Value} {n : Nat} {xs : List Value} (hs : a.eval s = v) {N : Nat} (hx : a.eval x = .slice (some ⟨N, 0, none⟩) 1 1) {news : Array Value}
    (hW : W = wr.alloc (.cells news e)) (hN : N = wr.heap.size) (hl : news.size = size) (h1 : ∀ u ∈ news.toList, u.oneCell' = true) (h : RowR o wr r e size v n xs) (hlt : OwnLt o wr) (hn : n < 1000000000) (hb : bytes ≤ 10000)
    (hK : ∀ g cap w' o', RowR o' w' r e size (.slice (some ⟨g, 0, none⟩) (n + 1) cap) (n + 1) (xs ++ news.toList) → Chg (· = r) o o' wr w' → OwnLt o' w' → wpListIn F fu Tryz.prog ops Q rest (a.put op.dst (.slice (some ⟨g, 0, none⟩) (n + 1) cap)) w') : wpListIn F fu Tryz.prog ops Q (op :: rest) a W := by
  subst hN; subst hW
  obtain ⟨g, cap, w', o', hr, h2, h3, h4⟩ := run_appOne T e op.type size bytes z hT he hzs hsz news hl h1 h hlt hn hb
  refine wpListIn_plain hgd fun K hKK => ?_
  unfold Oper.wpIn
  refine ⟨?_, ?_⟩
  · simp [Oper.about, hop, resolve, Target.leads, Sem.run_pure]
  · rw [Oper.semAt_plain F _ _ (by rw [hop]; intro c hc'; cases hc')]
    simp only [execOp, hop, resolve, invoke, builtin, Sem.run_bind, Sem.run_pure, Result.andThen_ok, List.map_toArray, List.map_cons, List.map_nil, hs, hx, hr]
    exact hKK _ _ (hK g cap w' o' h2 h3 h4)
theorem drew_alloc (w : World) (o : Obj) : (w.alloc o).drew = w.drew.alloc o := rfl
/-- A region that reads alone: whatever its order, it leaves one state behind. -/
theorem wpIn_same {F : Fence} {n : Nat} {P : Program} {c : Code} {Q : Exit → Act → World → Prop} {a : Act} {w : World} (W1 : World) (h : ∃ A, c.wpIn F n P (fun e a' W' => e = .normal ∧ a' = A ∧ W' = W1) a w ∧ Q .normal A W1) : c.wpIn F n P Q a w := by
  obtain ⟨A, h1, h2⟩ := h
  refine wpIn_mono h1 ?_
  rintro _ _ _ ⟨rfl, rfl, rfl⟩
  exact h2
/-- What Collect has gathered: the nodes of the dead slots among those that have come. -/
def goneL (d : StoreD) (pre : List Nat) : List Nat := pre.filter (fun i => decide (cntOf d i = 0))
structure GatS (d : StoreD) (w : World) (sb : Nat) (pre : List Nat) (M : Nat → Prop) (W : World) (v : Value) (oG : Own) : Prop where
  mm : ∀ k, M k ↔ (k = w.heap.size ∨ k = w.heap.size + 1 ∨ oG k = some .slots)
  low : Below w.heap.size w W
  boxs : W.heap[w.heap.size]? = some (.cells #[.pointer (some ⟨sb, 0, none⟩)] 98 (0, 0))
  boxg : W.heap[w.heap.size + 1]? = some (.cells #[v] 186 (0, 0))
  row : RowR oG W .slots 157 5 v (goneL d pre).length ((goneL d pre).flatMap fun i => rnV (d.pool.nd i))
  lt : OwnLt oG W
  ge : ∀ k r, oG k = some r → r = .slots ∧ w.heap.size + 2 ≤ k
def Gat (d : StoreD) (w : World) (sb : Nat) (pre : List Nat) (M : Nat → Prop) (W : World) : Prop := ∃ v oG, GatS d w sb pre M W v oG
theorem GatS.minds {d : StoreD} {w : World} {sb : Nat} {pre : List Nat} {M : Nat → Prop} {W W' : World} {v : Value} {oG : Own} (h : GatS d w sb pre M W v oG) (hw : Wr (fun k => w.heap.size ≤ k ∧ ¬ M k) W W') : GatS d w sb pre M W' v oG := by
  have hk : ∀ k, k < W.heap.size → M k → W'.heap[k]? = W.heap[k]? := fun k h1 h2 => hw.keep k h1 (fun e => e.2 h2)
  have hm := h.mm
  refine ⟨hm, h.low.trans (hw.below (fun k h => h.1) h.low.size), (hk _ (Array.getElem?_eq_some_iff.1 h.boxs).1 ((hm _).2 (.inl rfl))).trans h.boxs, (hk _ (Array.getElem?_eq_some_iff.1 h.boxg).1 ((hm _).2 (.inr (.inl rfl)))).trans h.boxg,
    h.row.keep (fun g hg => hk g (h.lt g _ hg) ((hm g).2 (.inr (.inr hg)))) (fun _ h => h), h.lt.mono hw.size, h.ge⟩
theorem goneL_yes {d : StoreD} {pre : List Nat} {x : Nat} (h : cntOf d x = 0) : goneL d (pre ++ [x]) = goneL d pre ++ [x] := by unfold goneL; rw [List.filter_append]; simp [h]
theorem goneL_no {d : StoreD} {pre : List Nat} {x : Nat} (h : cntOf d x ≠ 0) : goneL d (pre ++ [x]) = goneL d pre := by unfold goneL; rw [List.filter_append]; simp [h]
theorem GatS.add {d : StoreD} {w : World} {sb : Nat} {pre : List Nat} {M : Nat → Prop} {W W1 : World} {v v' : Value} {oG oG' : Own} {x : Nat} (h : GatS d w sb pre M W v oG) (hc : cntOf d x = 0)
    (hr : RowR oG' W1 .slots 157 5 v' ((goneL d pre).length + 1) (((goneL d pre).flatMap fun i => rnV (d.pool.nd i)) ++ rnV (d.pool.nd x))) (hg : Chg (· = .slots) oG oG' W W1) (hl : OwnLt oG' W1) {n : Nat} (hn : n ≤ W.heap.size) :
    ∃ M', Gat d w sb (pre ++ [x]) M' (W1.setCell ⟨w.heap.size + 1, 0, none⟩ v') ∧ Wr (fun k => M k ∨ n ≤ k) W (W1.setCell ⟨w.heap.size + 1, 0, none⟩ v') ∧ ∀ k, M' k → M k ∨ n ≤ k := by
  have none : ∀ k, k < w.heap.size + 2 → oG k = Option.none := fun k hk => by
    cases e : oG k with
    | none => rfl
    | some r => have := (h.ge k r e).2; omega
  have hb1 : w.heap.size + 1 < W.heap.size := (Array.getElem?_eq_some_iff.1 h.boxg).1
  have k0 := (hg.alien (by omega) (none w.heap.size (by omega))).trans h.boxs
  have k1 := (hg.alien hb1 (none (w.heap.size + 1) (by omega))).trans h.boxg
  have ge' : ∀ k r, oG' k = some r → r = .slots ∧ w.heap.size + 2 ≤ k := fun k r hk => by
    by_cases e : oG' k = oG k
    · rw [e] at hk; exact h.ge k r hk
    · obtain ⟨a1, q, a2, a3⟩ := hg.new k e
      rw [hk] at a2; cases a2
      exact ⟨a3, by omega⟩
  refine ⟨fun k => k = w.heap.size ∨ k = w.heap.size + 1 ∨ oG' k = some .slots, ⟨v', oG', ⟨fun k => Iff.rfl, ?_, ?_, heap_setCell_same k1 _, ?_, hl.mono (by simp [World.setCell]), ge'⟩⟩, ?_, fun k hk => ?_⟩
  · have : Below w.heap.size w W1 := h.low.trans ⟨hg.os, hg.tape, hg.output, hg.size, fun k hk => hg.alien (Nat.lt_of_lt_of_le hk h.low.size) (none k (by omega))⟩
    exact this.setCell (p := ⟨w.heap.size + 1, 0, Option.none⟩) (by show _ ≤ w.heap.size + 1; omega) _
  · exact (heap_setCell_ne (by show _ ≠ w.heap.size + 1; omega) _).trans k0
  · rw [goneL_yes hc, List.length_append, List.flatMap_append]
    simp only [List.length_singleton, List.flatMap_cons, List.flatMap_nil, List.append_nil]
    exact hr.setCell_other (fun e => by have := (ge' _ _ e).2; simp at this) _
  · have : Wr (fun k => M k ∨ n ≤ k) W W1 := ⟨hg.os, hg.tape, hg.output, hg.size, fun k hk hm => hg.block k hk fun r hr e => hm (.inl ((h.mm k).2 (.inr (.inr (by rw [hr, e])))))⟩
    exact this.setCell (p := ⟨w.heap.size + 1, 0, Option.none⟩) (.inl (.inl ((h.mm _).2 (.inr (.inl rfl))))) _
  · rcases hk with hk | hk | hk
    · exact .inl ((h.mm k).2 (.inl hk))
    · exact .inl ((h.mm k).2 (.inr (.inl hk)))
    · by_cases e : oG' k = oG k
      · rw [e] at hk; exact .inl ((h.mm k).2 (.inr (.inr hk)))
      · have := (hg.new k e).1; right; omega
theorem GatS.no {d : StoreD} {w : World} {sb : Nat} {pre : List Nat} {M : Nat → Prop} {W : World} {v : Value} {oG : Own} (h : GatS d w sb pre M W v oG) (k : Nat) (hk : k < w.heap.size + 2) : oG k = none := by
  cases e : oG k with
  | none => rfl
  | some r => have := (h.ge k r e).2; omega
theorem GatS.drew {d : StoreD} {w : World} {sb : Nat} {pre : List Nat} {M : Nat → Prop} {W : World} {v : Value} {oG : Own} (h : GatS d w sb pre M W v oG) : GatS d w sb pre M W.drew v oG := h.minds ((Wr.refl _ W).drew)
/-- Between two removals. -/
def DropS (o : Own) (W2 : World) (sb : Nat) (d : StoreD) (s : StoreW) (k : Nat) (wr : World) : Prop := ∃ o1 d1, StoreIn o1 wr sb d1 s ∧ OwnLt o1 wr ∧ DropRel d k d1 ∧ Chg RStore o o1 W2 wr
theorem DropS.next {o o1 o2 : Own} {W2 wr w3 w4 w4' w5 : World} {sb : Nat} {d d1 : StoreD} {s : StoreW} {k i : Nat} {N : RN} (hs1 : StoreIn o1 wr sb d1 s) (hl1 : OwnLt o1 wr) (hr1 : DropRel d k d1) (hc1 : Chg RStore o o1 W2 wr) (hi : (deadL d)[k]? = some i) (hN : d1.pool.nd i = N) (hb3 : Below wr.heap.size wr w3)
    (ht : TabIs o1 w4 N.v (s.ts.getD N.v 0) (putF (d1.tab N.v) (N.lo, N.hi) none)) (hct : Chg (· = .tmap N.v) o1 o1 w3 w4) (hl4 : OwnLt o1 w4) (hb : Below w4.heap.size w4 w4')
    (hp : PoolAt o2 w5 s.pb (d1.pool.give i)) (hcp : Chg (fun r => r = .pool ∨ r = .slots ∨ r = .taken ∨ r = .free) o1 o2 w4' w5) (hl5 : OwnLt o2 w5) : DropS o W2 sb d s (k + 1) w5 := by
  have h3 := hs1.below hl1 hb3
  have hl3 := hl1.mono hb3.size
  have h4 := h3.setTab hl3 ht hct
  have h4' := h4.below hl4 hb
  have h5 := h4'.setPool (hl4.mono hb.size) hp hcp
  have hat : i < d1.pool.at_.length := (hs1.pool.tk_lt (hr1.at hi).1).2
  have e : (fun u => if u = N.v then putF (d1.tab N.v) (N.lo, N.hi) none else d1.tab u) = (fun u => if u = N.v then putF (d1.tab u) (N.lo, N.hi) none else d1.tab u) := by
    funext u
    by_cases h : u = N.v
    · subst h; rfl
    · simp [h]
  rw [e] at h5
  refine ⟨o2, dropAt d1 i (bnOf N), h5, hl5, ?_, hc1.trans ((Chg.of_below hb3 _ o1).trans ((hct.mono ?_).trans ((Chg.of_below hb _ o1).trans (hcp.mono ?_))))⟩
  · have := hr1.next hi hs1.pool.len hat (by
      have h1 := hs1.pool.cnt
      have h2 := sumTo_pos (f := fun j => if d1.pool.tk j = true then (1 : Int) else 0) (fun j _ => by split <;> omega) hat (by simp [(hr1.at hi).1])
      omega)
    rw [hN] at this
    exact this
  · rintro r rfl; exact .inr (.inr (.inr (.inr (.inr (.inr (.inl ⟨_, .inr rfl⟩))))))
  · rintro r h; exact .inr (.inr (.inr (.inr (.inl h))))
theorem mix_lastCall {P : Program} {S : World → Prop} {Q : Exit → Act → World → Prop} {ops : Array Oper} {o : Oper} {a : Act} {w : World} {f : FuncId} {args : Array Value} {R : Value → World → Prop} (hg : o.guard = none)
    (he : (execOp a.eval o).run P w = .ok (.enter f args) w) (hc : Calls P f args w fun e w' => ∃ v, e = .returned v ∧ R v w') (h : ∀ v w', R v w' → Q .normal (a.put o.dst v) w') : wpMix P ops Q S true [(some o, true)] a w := by
  refine mix_last hg fun K hK => ?_
  unfold Oper.wp
  simp only [he, Oper.upon]
  exact hc.mono fun e w' ⟨v, h1, h2⟩ => by subst h1; exact hK _ _ (h v w' h2)
set_option maxRecDepth 100000 in
theorem collect_early {o : Own} {w : World} {sb : Nat} {d : StoreD} (h : StoreAt o w sb d) (h0 : d.dead = 0) :
    Calls Tryz.prog 101 #[.pointer (some ⟨sb, 0, none⟩)] w fun x w' => x = .returned (.int .i64 0) ∧ Below w.heap.size w w' := by
  obtain ⟨s, h⟩ := h
  obtain ⟨c0, c1, c2, c3, c4, f0⟩ := cells5 h.blk
  rw [h0] at c4
  obtain ⟨w1, hw1⟩ : ∃ w1, w1 = w.alloc (.cells #[.pointer (some ⟨sb, 0, none⟩)] 98) := ⟨_, rfl⟩
  have hb1 : Below w.heap.size w w1 := by rw [hw1]; exact below_new1 w _
  have cB : w1.cell? ⟨w.heap.size, 0, none⟩ = some (.pointer (some ⟨sb, 0, none⟩)) := by rw [hw1]; exact cell1 (heap_alloc_new w _)
  have c4' := (hb1.cell (p := ⟨sb, 4, none⟩) (lt_of_cell c4)).trans c4
  have HW : Hid (_ = w1) := Lib.hid hw1.symm
  have HB := Lib.hid hb1
  clear h c0 c1 c2 c3 c4 f0 hw1 hb1 h0
  refine (callsIn_wide (n := 9)).1 ?_
  refine callsIn_of_wp_marks Tryz.func101 rfl trivial ?_
  refine wpIn_wide.2 ?_
  simp only [Tryz.ntmps101, List.size_toArray, List.length_cons, List.length_nil, Nat.reduceAdd, Nat.reduceSub, Array.replicate_succ, Array.replicate_zero, List.push_toArray, List.append_toArray, List.nil_append, List.cons_append]
  go_upto_region 1 with fail
  rw [HW.out]
  go_wp2_with fail
  exact ⟨_, results_tmp rfl _ _ _, rfl, HB.out⟩
set_option maxRecDepth 100000 in
set_option maxHeartbeats 4000000 in
theorem collect_any {o : Own} {w : World} {sb : Nat} {d : StoreD} {V : Nat → BF} (h : StoreAt o w sb d) (hlt : OwnLt o w) (hk : StoreOK d V) (h0 : d.dead ≠ 0) :
    Calls Tryz.prog 101 #[.pointer (some ⟨sb, 0, none⟩)] w fun x w' => x = .returned (.int .i64 d.dead) ∧ ∃ o' d', StoreAt o' w' sb d' ∧ OwnLt o' w' ∧ CollRel d d' ∧ Chg RStore o o' w w' := by
  obtain ⟨s, h⟩ := h
  obtain ⟨c0, c1, c2, c3, c4, f0⟩ := cells5 h.blk
  have hd1 : ((d.dead : Int) == 0) = false := by simpa using h0
  obtain ⟨w1, hw1⟩ : ∃ w1, w1 = w.alloc (.cells #[.pointer (some ⟨sb, 0, none⟩)] 98) := ⟨_, rfl⟩
  have hb1 : Below w.heap.size w w1 := by rw [hw1]; exact below_new1 w _
  have hB : w1.heap[w.heap.size]? = some (.cells #[.pointer (some ⟨sb, 0, none⟩)] 98 (0, 0)) := by rw [hw1]; exact heap_alloc_new w _
  have hs1 : w1.heap.size = w.heap.size + 1 := by rw [hw1]; simp
  obtain ⟨w2, hw2⟩ : ∃ w2, w2 = w1.alloc (.cells #[.slice none 0 0] 186) := ⟨_, rfl⟩
  have hb2 : Below w.heap.size w w2 := by rw [hw2]; exact hb1.alloc (by omega) _
  have hB2 : w2.heap[w.heap.size]? = some (.cells #[.pointer (some ⟨sb, 0, none⟩)] 98 (0, 0)) := by rw [hw2]; exact (Below.heap_alloc w1 _ _ (by omega)).trans hB
  have hG2 : w2.heap[w.heap.size + 1]? = some (.cells #[.slice none 0 0] 186 (0, 0)) := by rw [hw2, ← hs1]; exact heap_alloc_new w1 _
  have hs2 : w2.heap.size = w.heap.size + 2 := by rw [hw2]; simp [hs1]
  have cB1 := cell1 hB
  have cB2 := cell1 hB2
  have cS1 := (hb1.cell (p := ⟨sb, 4, none⟩) (lt_of_cell c4)).trans c4
  have cS2 := (hb2.cell (p := ⟨sb, 1, none⟩) (lt_of_cell c1)).trans c1
  have HW1 : Hid (_ = w1) := Lib.hid hw1.symm
  have HW2 : Hid (_ = w2) := Lib.hid hw2.symm
  have HB2 := Lib.hid hb2
  have HH := Lib.hid h
  have HE := Lib.hid (callsIn_wide.1 (each_in Fence.wide 9 trivial rfl s.pb w2))
  clear h c0 c1 c2 c3 c4 f0 hw1 hw2 hb1 hb2
  refine (callsIn_wide (n := 9)).1 ?_
  refine callsIn_of_wp_marks Tryz.func101 rfl trivial ?_
  refine wpIn_wide.2 ?_
  simp only [Tryz.ntmps101, List.size_toArray, List.length_cons, List.length_nil, Nat.reduceAdd, Nat.reduceSub, Array.replicate_succ, Array.replicate_zero, List.push_toArray, List.append_toArray, List.nil_append, List.cons_append]
  go_upto_region 1 with fail
  rw [HW1.out]
  go_upto_region 4 with fail
  rw [HW2.out]
  go_wp2_with fail
  refine HE.out.mono ?_
  rintro x w3 ⟨rfl, hw3⟩
  go_wp2_with fail
  obtain ⟨w3', hw3'⟩ : ∃ w3', w3' = w2.alloc (.cells #[.pointer (some ⟨s.pb, 0, none⟩)] 136) := ⟨_, rfl⟩
  rw [← hw3']
  have hs3 : w3'.heap.size = w.heap.size + 3 := by rw [hw3']; simp [hs2]
  have hb3 : Below w.heap.size w w3' := by rw [hw3']; exact HB2.out.alloc (by omega) _
  have hB3 : w3'.heap[w.heap.size]? = some (.cells #[.pointer (some ⟨sb, 0, none⟩)] 98 (0, 0)) := by rw [hw3']; exact (Below.heap_alloc w2 _ _ (by omega)).trans hB2
  have hG3 : w3'.heap[w.heap.size + 1]? = some (.cells #[.slice none 0 0] 186 (0, 0)) := by rw [hw3']; exact (Below.heap_alloc w2 _ _ (by omega)).trans hG2
  have hP3 : w3'.cell? ⟨w.heap.size + 2, 0, none⟩ = some (.pointer (some ⟨s.pb, 0, none⟩)) := by rw [hw3', ← hs2]; exact cell1 (heap_alloc_new w2 _)
  have HST : Hid (StoreIn o w sb d s) := HH
  have HLT := Lib.hid hlt
  have HK := Lib.hid hk
  have HG := Lib.hid (each1_gives Fence.wide 8 trivial trivial trivial rfl (by omega) (w.heap.size + 2) w.heap.size s.pb HH.out.pool hlt (Nat.le_refl _) w3' hb3 (by omega) (by omega) hP3)
  clear hw3' hB hB2 hG2 cB1 cB2 cS1 cS2 HE HW1 HW2 hs1 hs2 hP3
  refine (wpIn_wide (n := 9)).1 ?_
  refine wp_range rfl (by omega) (gf := 157) (lb := #[.pointer (some ⟨w.heap.size + 2, 0, none⟩)]) rfl trivial (enters_of Tryz.func157 (by kernel_rfl) rfl) HG.out (by omega) (by rintro k rfl; omega) (fun x => rfl)
    (Gat d w sb) ?_ ?_ (fun k => k = w.heap.size ∨ k = w.heap.size + 1) (by rintro k rfl h; omega) ⟨.slice none 0 0, fun _ => none, (⟨fun k => by simp, hb3, hB3, hG3, RowR.nil _ _ _ _ _, fun k r h => (by cases h), fun k r h => (by cases h)⟩ : GatS d w sb [] _ w3' (.slice none 0 0) (fun _ => none))⟩
    (fun x a' W W1 => ∃ Bn, W.heap.size ≤ Bn ∧ W1.heap[Bn]? = some (.cells #[.int .i64 (d.pool.nd x).id, .int .i64 (d.pool.nd x).v, .int .i64 (d.pool.nd x).lo, .int .i64 (d.pool.nd x).hi, .int .i64 (d.pool.nd x).refs] 157 (0, 0)) ∧ a' = { tmps := #[Value.pointer (some { block := sb, off := 0 }), Value.pointer (some { block := w.heap.size, off := 0 }), Value.int IntKind.i64 0, Value.pointer (some { block := w.heap.size + 1, off := 0 }), Value.pointer (some { block := Bn, off := 0 }), undef, undef, Value.pointer (some { block := sb, off := 0 }), Value.bool false, Value.bool false, Value.pointer (some { block := sb, off := 0 }), Value.pointer (some { block := sb, off := 0 }), Value.pointer (some { block := sb, off := 4 }), Value.int IntKind.i64 ↑d.dead, Value.bool false, Value.bool false, Value.pointer (some { block := sb, off := 0 }), Value.pointer (some { block := sb, off := 0 }), Value.pointer (some { block := sb, off := 1 }), Value.pointer (some { block := s.pb, off := 0 }), Value.func (Fn.func 157) #[] #[Value.pointer (some { block := w.heap.size + 2, off := 0 })], rnAgg (d.pool.nd x), undef, undef, undef, undef, undef, undef, undef, undef, undef, undef, undef, undef, undef, undef, undef, undef, undef, undef, undef, undef, undef, undef, undef, undef, undef, undef, undef, undef, undef, undef, undef, undef, undef, undef, undef, undef, undef, undef, undef, undef, undef, undef, undef, undef, undef], defers := [] }) ?_ ?_ ?_ ?_
  · rintro pre M W ⟨v, oG, hS⟩ k hk
    rcases (hS.mm k).1 hk with rfl | rfl | hg
    · exact ⟨Nat.le_refl _, (Array.getElem?_eq_some_iff.1 hS.boxs).1⟩
    · exact ⟨by omega, (Array.getElem?_eq_some_iff.1 hS.boxg).1⟩
    · have := (hS.ge k _ hg).2; exact ⟨by omega, hS.lt k _ hg⟩
  · rintro pre M W W' ⟨v, oG, hS⟩ hw
    exact ⟨v, oG, hS.minds hw⟩
  · rintro x a' W W1 W2 l hl ⟨Bn, h1, h2, h3⟩ hw
    exact ⟨Bn, h1, (hw.keep Bn (Array.getElem?_eq_some_iff.1 h2).1 (by omega)).trans h2, h3⟩
  · intro l pre x M W K hI hK
    simp only [rnAgg]
    gi_wp2
    exact hK _ _ ((Wr.refl _ W).alloc _) ⟨W.heap.size, Nat.le_refl _, heap_alloc_new W _, rfl⟩
  · rintro l pre x a' M W0 W ⟨v, oG, hS⟩ ⟨Bn, hBn, hbn, rfl⟩ hs0 hs1 hsuf
    obtain ⟨suf, hsuf⟩ := hsuf
    have hx : d.pool.tk x = true := mem_takenL hsuf
    have hst := HST.out.below HLT.out hS.low
    obtain ⟨q0, q1, q2, q3, q4, _⟩ := cells5 hst.blk
    obtain ⟨n0, n1, n2, n3, n4, _⟩ := cells5 hbn
    have hid := hst.pool.id x hx
    rw [hid] at n0
    have hbx : nodesOf d x = some (bnOf (d.pool.nd x)) := by unfold nodesOf PoolD.get; rw [if_pos hx]; rfl
    have hxl : x < d.counts.length := HK.out.live.has x _ hbx
    obtain ⟨gc, cc, hvc, _⟩ := hst.counts.shape (by omega)
    have hcell := hst.counts
    rw [hvc] at hcell q3
    have hcc := hcell.cell x (by simpa using hxl)
    have hval : (d.counts.map nat64)[x]? = some (.int .i64 (cntOf d x : Nat)) := by
      rw [List.getElem?_map, List.getElem?_eq_getElem hxl]; simp [nat64, cntOf, List.getD, hxl]
    rw [hval] at hcc
    have hxi : (x : Int) < d.counts.length := by omega
    have cb := cell1 hS.boxs
    have cg := cell1 hS.boxg
    have HS := Lib.hid hS
    have HBN := Lib.hid hbn
    have HSUF := Lib.hid hsuf
    have HID := Lib.hid hid
    have hmx : Tryz.prog.follows .mixedOrders = true := by kernel_rfl
    clear hst hcell hval hvc hsuf hS hid hbx
    by_cases hc : cntOf d x = 0
    · rw [hc] at hcc
      have hlen : (goneL d pre).length < 1000000000 := by
        have h1 := HST.out.below HLT.out HS.out.low
        have h2 := h1.pool.top
        have h3 := h1.pool.room
        have h4 : (goneL d pre).length ≤ (takenL d.pool).length := by rw [← HSUF.out]; unfold goneL; refine Nat.le_trans (List.length_filter_le _ _) ?_; simp
        have h5 : (takenL d.pool).length ≤ d.pool.at_.length := by unfold takenL takenU; refine Nat.le_trans (List.length_filter_le _ _) ?_; simp
        omega
      have HLEN := Lib.hid hlen
      have HC := Lib.hid hc
      clear hlen
      gi_wp2
      refine wpIn_same W.drew ?_
      apply Exists.intro
      refine ⟨?_, ?_⟩
      · gi_region_o
        all_goals exact ⟨rfl, rfl, rfl⟩
      gi_wp2_with (gi_at_builtin
                   rw [drew_alloc]
                   refine wpListIn_appOne (wr := W.drew) 186 157 5 40 _ Tryz.underlying186 infoNode rfl (by decide) rfl _ _ rfl rfl rfl rfl rfl rfl (by simp [Value.oneCell']) HS.out.drew.row HS.out.drew.lt HLEN.out (by decide) ?_
                   intro g1 k1 w1 o1 hr1 hc1 hl1
                   have HR1 := Lib.hid hr1
                   have HC1 := Lib.hid hc1
                   have HL1 := Lib.hid hl1
                   clear hr1 hc1 hl1 q0 q1 q2 q3 q4 cb
                   have hbg1 := (HC1.out.alien (Array.getElem?_eq_some_iff.1 HS.out.boxg).1 (HS.out.no _ (by omega))).trans HS.out.boxg
                   have cg1 := cell1 hbg1
                   have fz : ∀ k, w1.frozen? ⟨w.heap.size + 1, k, none⟩ = false := fun k => by simp [World.frozen?, hbg1]
                   clear cg hbg1)
      have hadd := HS.out.drew.add HC.out (W1 := w1) (v' := .slice (some ⟨g1, 0, none⟩) ((goneL d pre).length + 1) k1) (by
        have e : rnV (d.pool.nd x) = [.int .i64 (x : Nat), .int .i64 (d.pool.nd x).v, .int .i64 (d.pool.nd x).lo, .int .i64 (d.pool.nd x).hi, .int .i64 (d.pool.nd x).refs] := by unfold rnV; rw [HID.out]
        rw [e]; exact HR1.out) HC1.out HL1.out hs0
      obtain ⟨M', a1, a2, a3⟩ := hadd
      exact ⟨M', a1, Wr.trans ((Wr.refl (fun _ => False) W).drew) a2 (fun _ _ e => e.elim) (fun _ _ e => e), a3⟩
    · have hc1 : ((cntOf d x : Int) == 0) = false := by simpa using hc
      gi_wp2
      refine wpIn_same W.drew ?_
      apply Exists.intro
      refine ⟨?_, ?_⟩
      · gi_region_o
        all_goals exact ⟨rfl, rfl, rfl⟩
      gi_wp2
      exact ⟨M, ⟨v, oG, by have := HS.out.drew; exact ⟨this.mm, this.low, this.boxs, this.boxg, by rw [goneL_no hc]; exact this.row, this.lt, this.ge⟩⟩, (Wr.refl _ W).drew, fun k hk => .inl hk⟩
  · rintro D M W2 hD hDM ⟨v, oG, hS⟩ _ hw2 hD3
    have HS := Lib.hid hS
    have HD3 := Lib.hid hD3
    have cg := cell1 hS.boxg
    obtain ⟨ag, cpg, rfl, _⟩ := hS.row.slice
    clear hS hD3 hDM hw2 HG hB3 hG3 hb3
    go_wp2_with fail
    have hcellg : ∀ k i, (deadL d)[k]? = some i → ∃ g, ag = some ⟨g, 0, none⟩ ∧ o g = none ∧ ∀ j u, (rnV (d.pool.nd i))[j]? = some u → W2.cell? ⟨g, k * 5 + j, none⟩ = some u := by
      intro k i hi
      have hki : k < (deadL d).length := (List.getElem?_eq_some_iff.1 hi).1
      obtain ⟨g, cp, he, hog, _⟩ := HS.out.row.shape (by show 0 < (deadL d).length; omega)
      cases he
      refine ⟨g, rfl, ?_, fun j u hj => ?_⟩
      · have := (HS.out.ge g _ hog).2
        exact HLT.out.none (by omega)
      · have h5 : j < 5 := by have := (List.getElem?_eq_some_iff.1 hj).1; simpa [rnV] using this
        have hf := flat_get (fun i => rnV (d.pool.nd i)) 5 (fun _ => rfl) (deadL d) k j i hi h5
        have hlen : ((deadL d).flatMap fun i => rnV (d.pool.nd i)).length = (deadL d).length * 5 := flat_length _ 5 (fun _ => rfl) _
        have hc := HS.out.row.cell (k * 5 + j) (by show _ < ((deadL d).flatMap fun i => rnV (d.pool.nd i)).length; rw [hlen]; omega)
        rw [hc]
        exact hf.trans hj
    have HCG := Lib.hid hcellg
    have HDL : Hid ((goneL d (takenL d.pool)).length = (deadL d).length) := Lib.hid rfl
    have HOB : Hid (o w.heap.size = none ∧ o (w.heap.size + 1) = none) := Lib.hid ⟨HLT.out.none (by omega), HLT.out.none (by omega)⟩
    have hst2 := HST.out.below HLT.out HS.out.low
    have hlt2 : OwnLt o W2 := HLT.out.mono HS.out.low.size
    have HST2 := Lib.hid hst2
    have HLT2 := Lib.hid hlt2
    have hlB : w.heap.size < W2.heap.size := (Array.getElem?_eq_some_iff.1 HS.out.boxs).1
    have hlG : w.heap.size + 1 < W2.heap.size := (Array.getElem?_eq_some_iff.1 HS.out.boxg).1
    have hdlt : (goneL d (takenL d.pool)).length ≤ 1048577 := by
      show (deadL d).length ≤ _
      have h2 := hst2.pool.top
      have h3 := hst2.pool.room
      have h5 : (deadL d).length ≤ d.pool.at_.length := by unfold deadL takenL takenU; refine Nat.le_trans (List.length_filter_le _ _) (Nat.le_trans (List.length_filter_le _ _) ?_); simp
      omega
    clear hcellg cg hst2 hlt2
    obtain ⟨m, hm⟩ : ∃ m, m = (goneL d (takenL d.pool)).length := ⟨_, rfl⟩
    rw [← hm] at hdlt HDL ⊢
    have HM := Lib.hid hm
    clear hm
    go_loopw [37] (fun i wr => ∃ k : Nat, k ≤ m ∧ i = .int .i64 k ∧ DropS o W2 sb d s k wr) (fun i _ => m - (intOf i).toNat)
    case atStart => exact ⟨0, Nat.zero_le _, rfl, o, d, HST2.out, HLT2.out, DropRel.start HK.out.tab, Chg.refl _ _ _⟩
    case round =>
      obtain ⟨k, hk, rfl, hds⟩ := hrel
      have hds0 := hds
      obtain ⟨o1, d1, hs1, hl1, hr1, hc1⟩ := hds
      by_cases hlt' : k < m
      · obtain ⟨i, hi⟩ : ∃ i, (deadL d)[k]? = some i := ⟨_, List.getElem?_eq_getElem (by have := HDL.out; omega)⟩
        obtain ⟨htk, hnd⟩ := hr1.at hi
        obtain ⟨g, hag, hog, hgc⟩ := HCG.out k i hi
        subst hag
        obtain ⟨N, hN⟩ : ∃ N, N = d.pool.nd i := ⟨_, rfl⟩
        rw [← hN] at hgc hnd
        have e0 := hc1.cell (hgc 0 _ rfl) hog
        have e1 := hc1.cell (hgc 1 _ rfl) hog
        have e2 := hc1.cell (hgc 2 _ rfl) hog
        have e3 := hc1.cell (hgc 3 _ rfl) hog
        have e4 := hc1.cell (hgc 4 _ rfl) hog
        rw [Nat.add_zero] at e0
        have cb := cell1 ((hc1.alien hlB HOB.out.1).trans HS.out.boxs)
        have hk1 : (k : Int) < m := by omega
        obtain ⟨w3, hw3⟩ : ∃ w3, w3 = wr.alloc (.cells #[.int .i64 N.id, .int .i64 N.v, .int .i64 N.lo, .int .i64 N.hi, .int .i64 N.refs] 157) := ⟨_, rfl⟩
        obtain ⟨b6, hb6⟩ : ∃ b6, b6 = wr.heap.size := ⟨_, rfl⟩
        have hb3 : Below wr.heap.size wr w3 := by rw [hw3]; exact below_new1 _ _
        have hbx : w3.heap[b6]? = some (.cells #[.int .i64 N.id, .int .i64 N.v, .int .i64 N.lo, .int .i64 N.hi, .int .i64 N.refs] 157 (0, 0)) := by rw [hw3, hb6]; exact heap_alloc_new _ _
        have hob6 : o1 b6 = none := hl1.none (by omega)
        have HOB1 : Hid (o1 w.heap.size = none) := Lib.hid (hc1.alien' hlB HOB.out.1)
        have HW3 : Hid (_ = w3) := Lib.hid hw3.symm
        have HB6 : Hid (_ = b6) := Lib.hid hb6.symm
        have HN := Lib.hid hN
        have hid : N.id = i := by rw [← hnd]; exact hs1.pool.id i htk
        have hbi : nodesOf d1 i = some ⟨N.v, N.lo, N.hi⟩ := by unfold nodesOf PoolD.get; rw [if_pos htk, hnd]; rfl
        have hv : N.v < d1.vars.length := by rw [hr1.vars]; exact HK.out.dag.var i ⟨N.v, N.lo, N.hi⟩ (by unfold nodesOf PoolD.get; rw [if_pos (mem_deadL ((List.getElem?_eq_some_iff.1 hi).2 ▸ List.getElem_mem _)).1, ← hN]; rfl)
        have hft : d1.tab N.v (N.lo, N.hi) = some i := (hr1.tab N.v (by rw [← hr1.vars]; exact hv) _ _ _).2 hbi
        have hst3 := hs1.below hl1 hb3
        have hl3 := hl1.mono hb3.size
        obtain ⟨gt, ct, hvt, hct, hvl, hts⟩ := hst3.tabAt hv
        obtain ⟨q0, q1, q2, q3, q4, _⟩ := cells5 hst3.blk
        rw [hvt] at q2
        obtain ⟨n0, n1, n2, n3, n4, _⟩ := cells5 hbx
        have cb3 := (hb3.cell (p := ⟨w.heap.size, 0, none⟩) (lt_of_cell cb)).trans cb
        have hvi : (N.v : Int) < s.ts.length := by omega
        have HCUT := Lib.hid (cut_any o1 N.v (s.ts.getD N.v 0) (d1.tab N.v) N.lo N.hi i w3.drew ((hst3.below hl3 (below_draw w3 1)).tab N.v hvl) (hl3.mono (below_draw w3 1).size) hft)
        have HS1 := Lib.hid hs1
        have HL1 := Lib.hid hl1
        have HR1 := Lib.hid hr1
        have HC1 := Lib.hid hc1
        have HI := Lib.hid hi
        have HND := Lib.hid hnd
        have HB3 := Lib.hid hb3
        have HBX := Lib.hid hbx
        have HTK := Lib.hid htk
        have HIDN := Lib.hid hid
        have HST3 := Lib.hid hst3
        have HL3 := Lib.hid hl3
        clear hgc hds0 hs1 hl1 hr1 hc1 hi hnd hb3 hbx htk hid hbi hv hft hst3 hl3 hvt hw3 hb6 hN hvl
        go_upto_region 11 with fail
        rw [HW3.out, HB6.out]
        refine wp_region_mix (fun W : World => W = w3.drew) true 12 [(0, false), (1, false), (2, false), (3, false), (4, false), (5, false), (6, false), (7, false), (8, false), (9, false), (10, false), (11, false), (12, true)] (by kernel_rfl) (by kernel_rfl) rfl ?_
        simp only [planned, List.map_cons, List.map_nil, List.getElem?_cons_succ, List.getElem?_cons_zero]
        iterate 12
          refine mix_readE rfl ?_
          apply Exists.intro
          refine ⟨fun w' hw => ?_, ?_⟩
          · subst hw
            go_simp
            rfl
          simp only [Act.put, List.setIfInBounds_toArray, List.set_cons_zero, List.set_cons_succ]
        refine mix_lastCall rfl (by go_simp) (HCUT.out.mono (R' := fun e w' => ∃ v, e = .returned v ∧ (v = .int .i64 0 ∧ TabIs o1 w' N.v (s.ts.getD N.v 0) (putF (d1.tab N.v) (N.lo, N.hi) none) ∧ Chg (· = .tmap N.v) o1 o1 w3.drew w' ∧ OwnLt o1 w')) (fun e w' h => ⟨_, h.1, rfl, h.2⟩)) ?_
        rintro _ w4 ⟨rfl, ht4, hc4, hl4⟩
        simp only [Act.put, List.setIfInBounds_toArray, List.set_cons_zero, List.set_cons_succ]
        refine np_normal ?_
        have hst4 := (HST3.out.below HL3.out (below_draw w3 1)).setTab (HL3.out.mono (below_draw w3 1).size) ht4 hc4
        have cb4 := hc4.cell (w := w3.drew) (p := ⟨w.heap.size, 0, none⟩) cb3 (HOB1.out)
        have n0' := hc4.cell (w := w3.drew) (p := ⟨b6, 0, none⟩) n0 hob6
        obtain ⟨p0, p1, p2, p3, p4, _⟩ := cells5 hst4.blk
        rw [HIDN.out] at n0'
        have HGIVE := Lib.hid (poolGive_any o1 s.pb d1.pool i w4.drew (hst4.below hl4 (below_draw w4 1)).pool (hl4.mono (below_draw w4 1).size) HTK.out)
        have HT4 := Lib.hid ht4
        have HC4 := Lib.hid hc4
        have HL4 := Lib.hid hl4
        clear ht4 hc4 hl4 hst4 n0 n1 n2 n3 n4 q0 q1 q2 q3 q4 cb3 cb e0 e1 e2 e3 e4 hct hvi
        go_upto_region 12 with fail
        refine wp_region_mix (fun W : World => W = w4.drew) true 6 [(0, false), (1, false), (2, false), (3, false), (4, false), (5, false), (6, true)] (by kernel_rfl) (by kernel_rfl) rfl ?_
        simp only [planned, List.map_cons, List.map_nil, List.getElem?_cons_succ, List.getElem?_cons_zero]
        iterate 6
          refine mix_readE rfl ?_
          apply Exists.intro
          refine ⟨fun w' hw => ?_, ?_⟩
          · subst hw
            go_simp
            rfl
          simp only [Act.put, List.setIfInBounds_toArray, List.set_cons_zero, List.set_cons_succ]
        refine mix_lastCall rfl (by go_simp) (HGIVE.out.mono (R' := fun e w' => ∃ v, e = .returned v ∧ (v = .int .i64 0 ∧ ∃ o', PoolAt o' w' s.pb (d1.pool.give i) ∧ Chg (fun r => r = .pool ∨ r = .slots ∨ r = .taken ∨ r = .free) o1 o' w4.drew w' ∧ OwnLt o' w')) (fun e w' h => ⟨_, h.1, rfl, h.2⟩)) ?_
        rintro _ w5 ⟨rfl, o2, hp5, hc5, hl5⟩
        simp only [Act.put, List.setIfInBounds_toArray, List.set_cons_zero, List.set_cons_succ]
        refine np_normal ?_
        have HNX := Lib.hid (DropS.next HS1.out HL1.out HR1.out HC1.out HI.out HND.out (HB3.out.trans ((below_draw w3 1).mono HB3.out.size)) HT4.out HC4.out HL4.out (below_draw w4 1) hp5 hc5 hl5)
        clear hp5 hc5 hl5 p0 p1 p2 p3 p4 cb4 n0' hlG
        go_wp2_with fail
        go_roundw
        case rel => exact ⟨k + 1, by omega, by go_num, HNX.out⟩
        case measure => simp [intOf]; omega
      · obtain rfl : k = m := by omega
        have hb0 := (hc1.alien hlB HOB.out.1).trans HS.out.boxs
        have hg0 := (hc1.alien hlG HOB.out.2).trans HS.out.boxg
        have cb := cell1 hb0
        have cg := cell1 hg0
        obtain ⟨q0, q1, q2, q3, q4, qf⟩ := cells5 hs1.blk
        have HS1 := Lib.hid hs1
        have HL1 := Lib.hid hl1
        have HR1 := Lib.hid hr1
        have HC1 := Lib.hid hc1
        have hsb : sb ≠ w.heap.size + 1 := fun e => by have h1 := HOB.out.2; have h2 := HST.out.own; rw [e] at h2; rw [h1] at h2; cases h2
        clear hds0 hs1 hl1 hr1 hc1 hb0 hg0
        go_wp2_with fail
        have hDn : o D = none := HLT.out.none (by omega)
        have hDl : D < W2.heap.size := (Array.getElem?_eq_some_iff.1 HD3.out).1
        have hDr := (HC1.out.alien hDl hDn).trans HD3.out
        have hD1 : o1 D = none := HC1.out.alien' hDl hDn
        have hsD : D ≠ sb := by rintro rfl; have := HST.out.own; rw [hDn] at this; cases this
        have hkl : k = (deadL d).length := HDL.out
        refine ⟨by simp, .inl ⟨D, _, rfl, run_takeDeferred ((heap_setCell_ne hsD _).trans hDr), ?_⟩⟩
        have hfin : StoreIn o1 (wr.setCell ⟨sb, 4, none⟩ (.int .i64 0)) sb (d1.cd d1.counts 0) s := HS1.out.setDead HL1.out 0
        have hcoll : CollRel d (d1.cd d1.counts 0) := (hkl ▸ HR1.out : DropRel d (deadL d).length d1).done HK.out.live (fun i hi => (HST.out.pool.tk_lt hi).2)
        have hfin2 : StoreAt o1 ((wr.setCell ⟨sb, 4, none⟩ (.int .i64 0)).putObj D (.deferred none)) sb (d1.cd d1.counts 0) :=
          StoreAt.keepR ⟨s, hfin⟩ (fun g r hg _ => World.putObj_heap_other (by rintro rfl; rw [hD1] at hg; cases hg)) (fun _ _ h => h)
        refine ⟨_, results_tmp rfl _ _ _, ?_, o1, _, hfin2, HL1.out.mono (by simp [World.setCell]), hcoll, ?_⟩
        · show Ending.returned (.int .i64 ((goneL d (takenL d.pool)).length : Nat)) = _
          have : (goneL d (takenL d.pool)).length = d.dead := deadL_len HK.out.live
          rw [this]
        · have hc := (Chg.of_below HS.out.low RStore o).trans (HC1.out.setCell (p := ⟨sb, 4, none⟩) (r := .store) HS1.out.own (.inl rfl) (.int .i64 0))
          exact ⟨hc.os, hc.tape, hc.output, by have := hc.size; simpa [World.setCell] using this, fun k hk hr => (World.putObj_heap_other (by omega)).trans (hc.block k hk hr), hc.ext, hc.new⟩
end Go.Proofs.YtchliiaknmknhaaGreat

-- SatE
namespace Go.Proofs.YtchliiaknmknhaaGreat
open Go.RowKit

/-- Changes of memory: owned blocks, and the blocks of C. -/
structure ChgX (C : Nat → Prop) (o o' : Own) (w w' : World) : Prop where
  os : w'.os = w.os
  tape : w'.tape = w.tape
  output : w'.output = w.output
  size : w.heap.size ≤ w'.heap.size
  block : ∀ k, k < w.heap.size → o k = none → ¬ C k → w'.heap[k]? = w.heap[k]?
  ext : ∀ k r, o k = some r → o' k = some r
  new : ∀ k, o' k ≠ o k → w.heap.size ≤ k
abbrev NoB : Nat → Prop := fun _ => False
section
variable {C D : Nat → Prop} {R : Role → Prop} {o o' o'' : Own} {w w' w'' : World}
theorem ChgX.of_chg (h : Chg R o o' w w') (C : Nat → Prop) : ChgX C o o' w w' := ⟨h.os, h.tape, h.output, h.size, fun _ hk ho _ => h.alien hk ho, h.ext, fun k hk => (h.new k hk).1⟩
theorem ChgX.of_wr (h : Wr D w w') (o : Own) (hD : ∀ k, k < w.heap.size → D k → C k) : ChgX C o o w w' := ⟨h.os, h.tape, h.output, h.size, fun k hk _ hc => h.keep k hk (fun e => hc (hD k hk e)), fun _ _ h => h, fun _ h => (h rfl).elim⟩
theorem ChgX.of_below (h : Below w.heap.size w w') (o : Own) (C : Nat → Prop) : ChgX C o o w w' := ChgX.of_wr (Wr.of_below h NoB) o (fun _ _ h => h.elim)
theorem ChgX.none' (h : ChgX C o o' w w') {k : Nat} (hk : k < w.heap.size) (ho : o k = none) : o' k = none := by
  by_cases e : o' k = o k
  · rw [e]; exact ho
  · have := h.new k e; omega
theorem ChgX.trans (h : ChgX C o o' w w') (h' : ChgX D o' o'' w' w'') (hD : ∀ k, k < w.heap.size → D k → C k) : ChgX C o o'' w w'' := by
  refine ⟨h'.os.trans h.os, h'.tape.trans h.tape, h'.output.trans h.output, Nat.le_trans h.size h'.size, fun k hk ho hc => ?_, fun k r hr => h'.ext k r (h.ext k r hr), fun k hk => ?_⟩
  · exact (h'.block k (Nat.lt_of_lt_of_le hk h.size) (h.none' hk ho) (fun e => hc (hD k hk e))).trans (h.block k hk ho hc)
  · by_cases e : o' k = o k
    · have := h'.new k (by rw [e]; exact hk); exact Nat.le_trans h.size this
    · exact h.new k e
theorem ChgX.mono (h : ChgX C o o' w w') (hD : ∀ k, C k → D k) : ChgX D o o' w w' := ⟨h.os, h.tape, h.output, h.size, fun k hk ho hc => h.block k hk ho (fun e => hc (hD k e)), h.ext, h.new⟩
theorem ChgX.cell (h : ChgX C o o' w w') {p : Addr} {v : Value} (hc : w.cell? p = some v) (hb : o p.block = none) (hn : ¬ C p.block) : w'.cell? p = some v :=
  (World.cell?_of_block (w := w) (h.block p.block (World.block_lt_of_cell? w p hc) hb hn)).trans hc
theorem ChgX.below0 (h : ChgX NoB (fun _ => none) o w w') : Below w.heap.size w w' := ⟨h.os, h.tape, h.output, h.size, fun k hk => h.block k hk rfl (fun e => e)⟩
theorem ChgX.lower (h : ChgX C (fun _ => none) o w w') (h' : ChgX D o o' w' w'') (hD : ∀ k, D k → w.heap.size ≤ k) : ChgX C (fun _ => none) o' w w'' := h.trans h' (fun k hk e => by have := hD k e; omega)
end
/-- A step that may also write the blocks of C. -/
structure StepX (C : Nat → Prop) (K : Law) (o : Own) (w : World) (mb : Nat) (m : ManD) (V : Nat → BF) (o' : Own) (w' : World) (m' : ManD) (V' : Nat → BF) : Prop where
  is : ManAt (K m'.d V') o' w' mb m'
  lt : OwnLt o' w'
  chg : ChgX C o o' w w'
  ok : StoreOK m'.d V'
  ext : Ext m.d V m'.d V'
  hs : m'.hs = m.hs
  next : m'.next = m.next
theorem Step.toX {K : Law} {o o' : Own} {w w' : World} {mb : Nat} {m m' : ManD} {V V' : Nat → BF} (h : Step K o w mb m V o' w' m' V') (C : Nat → Prop) : StepX C K o w mb m V o' w' m' V' := ⟨h.is, h.lt, ChgX.of_chg h.chg C, h.ok, h.ext, h.hs, h.next⟩
theorem handles_ext {m m' : ManD} {V V' : Nat → BF} (h : HandlesOK m) (ext : Ext m.d V m'.d V') (ok : StoreOK m'.d V') (e1 : m'.hs = m.hs) (e2 : m'.next = m.next) : HandlesOK m' := by
  refine ⟨by rw [e1]; exact h.nodup, by rw [e1]; exact h.zero, by rw [e1]; exact h.one, by rw [e1, e2]; exact h.lt, by rw [e2]; exact h.next, fun p hp => ?_, by rw [e1, e2]; exact h.len, fun i b hb => ?_⟩
  · rw [e1] at hp; exact ext.ok (h.ok p hp)
  · rw [e1]
    cases hn : nodesOf m.d i with
    | some b0 => rw [ext.ext i b0 hn]; exact h.refs i b0 hn
    | none =>
      rw [ext.ext0 i hn]
      have hi : i ≠ 0 := by rintro rfl; rw [ok.dag.none0] at hb; cases hb
      have : refsOf m.hs i = 0 := by
        unfold refsOf
        rw [List.length_eq_zero_iff, List.filter_eq_nil_iff]
        intro p hp
        have ho := h.ok p hp
        simp only [Bool.and_eq_true, decide_eq_true_eq, beq_iff_eq, not_and]
        rintro _ rfl
        rcases ho with h0 | ⟨b1, hb1⟩
        · exact hi h0
        · rw [hn] at hb1; cases hb1
      rw [this]; rfl
/-- A manager of n variables and the functions of its handles; nothing below w0 was touched. -/
structure SatE (K : Law) (n room : Nat) (w0 : World) (mb : Nat) (fs : List (Int × BF)) (nx : Int) (w : World) (o : Own) (m : ManD) (V : Nat → BF) : Prop where
  is : ManAt (K m.d V) o w mb m
  lt : OwnLt o w
  ok : ManOK m V
  vars : m.d.vars.length = n
  room : m.d.pool.room = room
  next : m.next = nx
  hs : m.hs.map (fun p => (p.1, ef V p.2)) = fs
  chg : ChgX NoB (fun _ => none) o w0 w
section
variable {K : Law} {n room : Nat} {w0 w w' : World} {mb : Nat} {fs : List (Int × BF)} {nx : Int} {o o' : Own} {m m' : ManD} {V V' : Nat → BF}
theorem SatE.find (h : SatE K n room w0 mb fs nx w o m V) {k : Int} {F : BF} (hk : (k, F) ∈ fs) : ∃ f, (k, f) ∈ m.hs ∧ ef V f = F := by
  rw [← h.hs] at hk
  obtain ⟨p, hp, e⟩ := List.mem_map.1 hk
  cases e
  exact ⟨p.2, hp, rfl⟩
theorem SatE.none0 (h : SatE K n room w0 mb fs nx w o m V) {k : Nat} (hk : k < w0.heap.size) : o k = none := h.chg.none' hk rfl
theorem hs_ext {hs : List (Int × Nat)} {d : StoreD} (hok : ∀ p ∈ hs, okE (nodesOf d) p.2) (hv : ∀ i, (i = 0 ∨ ∃ b, nodesOf d i = some b) → V' i = V i) : hs.map (fun p => (p.1, ef V' p.2)) = hs.map (fun p => (p.1, ef V p.2)) := by
  refine List.map_congr_left fun p hp => ?_
  have e : ef V' p.2 = ef V p.2 := by
    funext ρ
    unfold ef
    rw [hv (p.2 / 2) (hok p hp)]
  rw [e]
/-- A step keeps the handles' functions. -/
theorem SatE.step {C : Nat → Prop} (h : SatE K n room w0 mb fs nx w o m V) (s : StepX C K o w mb m V o' w' m' V') (hC : ∀ k, C k → w0.heap.size ≤ k) : SatE K n room w0 mb fs nx w' o' m' V' :=
  ⟨s.is, s.lt, ⟨s.ok, handles_ext h.ok.handles s.ext s.ok s.hs s.next⟩, by rw [s.ext.vars]; exact h.vars, by rw [s.ext.room]; exact h.room, s.next.trans h.next,
    by rw [s.hs, hs_ext h.ok.handles.ok s.ext.val]; exact h.hs, h.chg.lower s.chg hC⟩
/-- Other blocks change. -/
theorem SatE.other {C : Nat → Prop} (h : SatE K n room w0 mb fs nx w o m V) (hx : Wr C w w') (hC : ∀ k, k < w.heap.size → C k → w0.heap.size ≤ k ∧ o k = none) : SatE K n room w0 mb fs nx w' o m V := by
  obtain ⟨s, hm⟩ := h.is
  refine ⟨⟨s, hm.keep (fun g r hg => hx.keep g (h.lt g r hg) (fun e => ?_)) (fun _ _ h => h)⟩, h.lt.mono hx.size, h.ok, h.vars, h.room, h.next, h.hs, h.chg.trans (ChgX.of_wr (C := fun k => w0.heap.size ≤ k) hx o (fun k hk e => (hC k hk e).1)) (fun k hk e => by omega)⟩
  have := (hC g (h.lt g r hg) e).2
  rw [hg] at this; cases this
theorem SatE.below (h : SatE K n room w0 mb fs nx w o m V) (hb : Below w.heap.size w w') : SatE K n room w0 mb fs nx w' o m V := h.other (Wr.of_below hb NoB) (fun _ _ e => e.elim)
/-- A new handle. -/
theorem SatE.gave (h : SatE K n room w0 mb fs nx w o m V) {r : Nat} (g : Gave K o w mb m V r o' w' m') : SatE K n room w0 mb (fs ++ [(nx, ef V r)]) (nx + 1) w' o' m' V :=
  ⟨g.is, g.lt, g.ok, by rw [g.vars]; exact h.vars, by rw [g.room]; exact h.room, by rw [g.next, h.next], by rw [g.hs, List.map_append, h.hs, ← h.next]; rfl, h.chg.lower (ChgX.of_chg g.chg NoB) (fun _ e => e.elim)⟩
/-- The dead nodes are gone: the handles keep their functions. -/
theorem handles_coll {d' : StoreD} (h : HandlesOK m) (hk : StoreOK m.d V) (r : CollRel m.d d') : HandlesOK { m with d := d' } := by
  have hok : ∀ p ∈ m.hs, okE (nodesOf d') p.2 := by
    intro p hp
    rcases h.ok p hp with h0 | ⟨b, hb⟩
    · exact .inl h0
    · by_cases h1 : 1 < p.1
      · refine .inr ⟨b, ?_⟩
        rw [r.nodes, if_pos]
        · exact hb
        · refine hk.live.cnt.pos_of_ext hb ?_
          rw [h.refs _ _ hb]
          have : 0 < refsOf m.hs (p.2 / 2) := by
            unfold refsOf
            refine List.length_pos_of_mem (List.mem_filter.2 ⟨hp, ?_⟩)
            simp [h1]
          omega
      · refine .inl ?_
        have hlt := h.lt p hp
        have hu : ∀ q ∈ m.hs, q.1 = p.1 → q = p := by
          intro q hq e
          have hnd := h.nodup
          have h1 := getL_of_mem (l := encH m.hs) (encH_nodup hnd) (List.mem_map.2 ⟨q, hq, rfl⟩)
          have h2 := getL_of_mem (l := encH m.hs) (encH_nodup hnd) (List.mem_map.2 ⟨p, hp, rfl⟩)
          rw [e, h2] at h1
          have e2 : (p.2 : Int) = (q.2 : Int) := by injection h1 with h1; injection h1 
          exact Prod.ext e (by omega)
        rcases (by omega : p.1 = 0 ∨ p.1 = 1) with e | e
        · rw [← hu _ h.zero e.symm]; rfl
        · rw [← hu _ h.one e.symm]; rfl
  exact ⟨h.nodup, h.zero, h.one, h.lt, h.next, hok, h.len, fun i b hb => by rw [r.ext i b hb]; exact h.refs i b (r.sub hb).1⟩
end
/-- The computed table is empty. -/
theorem wclear {K : Law} {n room : Nat} {w0 w : World} {mb : Nat} {fs : List (Int × BF)} {nx : Int} {o : Own} {m : ManD} {V : Nat → BF} {s : ManW} (h : SatE K n room w0 mb fs nx w o m V) (hs : ManIn (K m.d V) o w mb m s) (G : Phi) :
    Calls Tryz.prog 99 #[.pointer (some ⟨s.me, 0, none⟩)] w fun x w' => x = .returned (.tuple #[]) ∧ ManIn G o w' mb m s ∧ Chg (· = .entries) o o w w' ∧ OwnLt o w' := by
  refine (clear_memo o s.me (K m.d V) G w hs.memo h.lt).mono ?_
  rintro x w' ⟨h1, h2, h3, h4⟩
  exact ⟨h1, hs.setMemo h.lt h2 (h3.mono fun r e => .inr e), h3, h4⟩
set_option maxRecDepth 100000 in
set_option maxHeartbeats 1000000 in
theorem manCollect_any {K : Law} {n room : Nat} {w0 w : World} {mb : Nat} {fs : List (Int × BF)} {nx : Int} {o : Own} {m : ManD} {V : Nat → BF} (h : SatE K n room w0 mb fs nx w o m V) :
    Calls Tryz.prog 46 #[.pointer (some ⟨mb, 0, none⟩)] w fun x w' => x = .returned (.int .i64 m.d.dead) ∧ ∃ o' d', SatE K n room w0 mb fs nx w' o' { m with d := d' } V ∧ CollRel m.d d' ∧ Chg (fun _ => True) o o' w w' := by
  obtain ⟨s, hs⟩ := h.is
  obtain ⟨c0, c1, c2, c3, c4, c5, f0⟩ := cells6 hs.blk
  have HC : Hid (∀ w1, ManIn (fun _ _ _ _ _ => False) o w1 mb m s ∧ Chg (· = .entries) o o w w1 ∧ OwnLt o w1 → Calls Tryz.prog 101 #[.pointer (some ⟨s.sb, 0, none⟩)] w1 fun x w' => x = .returned (.int .i64 m.d.dead) ∧ ∃ o' d', SatE K n room w0 mb fs nx w' o' { m with d := d' } V ∧ CollRel m.d d' ∧ Chg (fun _ => True) o o' w w') := by
    refine Lib.hid ?_
    rintro w1 ⟨g1, g2, g3⟩
    have fin : ∀ o' w' d', ManIn (fun _ _ _ _ _ => False) o' w' mb { m with d := d' } s → OwnLt o' w' → CollRel m.d d' → Chg RStore o o' w1 w' → ∃ o' d', SatE K n room w0 mb fs nx w' o' { m with d := d' } V ∧ CollRel m.d d' ∧ Chg (fun _ => True) o o' w w' := by
      intro o' w' d' a1 a2 a3 a4
      have hc : Chg (fun _ => True) o o' w w' := g2.any.trans a4.any
      refine ⟨o', d', ⟨⟨s, a1.mono fun _ _ _ _ _ e => e.elim⟩, a2, ⟨a3.ok h.ok.store, handles_coll h.ok.handles h.ok.store a3⟩, by dsimp only; rw [a3.vars]; exact h.vars, by dsimp only; rw [a3.room]; exact h.room, h.next, h.hs, h.chg.lower (ChgX.of_chg hc NoB) (fun _ e => e.elim)⟩, a3, hc⟩
    by_cases h0 : m.d.dead = 0
    · refine (collect_early g1.store h0).mono ?_
      rintro x w' ⟨rfl, hb⟩
      exact ⟨by rw [h0]; rfl, fin o w' m.d (g1.below g3 hb) (g3.mono hb.size) (CollRel.none h.ok.store h0) (Chg.of_below hb _ _)⟩
    · refine (collect_any g1.store g3 h.ok.store h0).mono ?_
      rintro x w' ⟨rfl, o', d', b1, b2, b3, b4⟩
      exact ⟨rfl, fin o' w' d' (g1.setStore g3 b1 b4) b2 b3 b4⟩
  have HCL := Lib.hid (wclear h hs (fun _ _ _ _ _ => False))
  clear h hs
  go_enter Tryz.func46, Tryz.ntmps46
  go_wp2_with fail
  refine HCL.out.mono ?_
  rintro x w1 ⟨rfl, g1, g2, g3⟩
  obtain ⟨d0, d1, d2, d3, d4, d5, f1⟩ := cells6 g1.blk
  have HC1 := Lib.hid (HC.out w1 ⟨g1, g2, g3⟩)
  clear g1 g2 g3 c0 c1 c2 c3 c4 c5 f0 HCL HC
  go_wp2_with fail
  refine HC1.out.mono ?_
  rintro x w2 ⟨rfl, hq⟩
  have HQ := Lib.hid hq
  clear hq
  go_wp2_with fail
  go_ret
  exact ⟨rfl, HQ.out⟩
end Go.Proofs.YtchliiaknmknhaaGreat
