/- Several texts in one file: contracts of the program's functions and what follows from them. -/
import Derived.Test.YtchliiaknmknhaaGreatS6
set_option linter.unusedSimpArgs false
set_option linter.unusedVariables false
set_option linter.unusedSectionVars false
set_option linter.unnecessarySimpa false
namespace Go.Proofs.YtchliiaknmknhaaGreat
open Go.RowKit
def deadL (d : StoreD) : List Nat := (takenL d.pool).filter (fun i => decide (cntOf d i = 0))
theorem takenL_nodup (p : PoolD) : (takenL p).Nodup := (List.nodup_range).filter _
theorem deadL_nodup (d : StoreD) : (deadL d).Nodup := (takenL_nodup d.pool).filter _
theorem mem_deadL {d : StoreD} {i : Nat} (h : i ∈ deadL d) : d.pool.tk i = true ∧ cntOf d i = 0 := by
 unfold deadL at h
 rw [List.mem_filter] at h
 exact ⟨(List.mem_filter.1 h.1).2, by simpa using h.2⟩
theorem filter_sum (f g : Nat → Bool) : ∀ k, ((((List.range k).filter f).filter g).length : Int) = sumTo k (fun i => if f i = true then (if g i = true then 1 else 0) else 0)
 | 0 => by simp [sumTo]
 | k + 1 => by
   rw [List.range_succ, List.filter_append, List.filter_append, List.length_append]
   have ih := filter_sum f g k
   rw [Int.natCast_add, ih]
   cases hf : f k <;> cases hg : g k <;> simp [sumTo, hf, hg, List.filter]
theorem deadL_len {d : StoreD} {ext : Nat → Int} (h : LiveC d ext) : (deadL d).length = d.dead := by
 have h1 := h.dead
 have h2 : ((deadL d).length : Int) = sumTo d.pool.at_.length (dead1 (nodesOf d) (cntOf d)) := by
  unfold deadL takenL takenU
  rw [filter_sum]
  refine sumTo_congr _ fun i _ => ?_
  unfold dead1 nodesOf PoolD.get
  cases ht : d.pool.tk i <;> simp
 unfold deadN at h1
 omega
structure DropRel (d : StoreD) (k : Nat) (d' : StoreD) : Prop where
 vars : d'.vars = d.vars
 level : d'.level = d.level
 counts : d'.counts = d.counts
 dead : d'.dead = d.dead
 room : d'.pool.room = d.pool.room
 alen : d'.pool.at_.length = d.pool.at_.length
 keep : ∀ i, i ∉ (deadL d).take k → d'.pool.tk i = d.pool.tk i ∧ d'.pool.nd i = d.pool.nd i
 gone : ∀ i, i ∈ (deadL d).take k → d'.pool.tk i = false
 tab : ∀ v, v < d.vars.length → ∀ lo hi id, d'.tab v (lo, hi) = some id ↔ nodesOf d' id = some ⟨v, lo, hi⟩
 many : d'.pool.many + k = d.pool.many
theorem DropRel.start {d : StoreD} (ht : ∀ v, v < d.vars.length → ∀ lo hi id, d.tab v (lo, hi) = some id ↔ nodesOf d id = some ⟨v, lo, hi⟩) : DropRel d 0 d :=
 ⟨rfl, rfl, rfl, rfl, rfl, rfl, fun _ _ => ⟨rfl, rfl⟩, fun i h => by simp at h, ht, rfl⟩
def dropAt (d : StoreD) (i : Nat) (b : BN) : StoreD := { d with pool := d.pool.give i, tab := fun v => if v = b.v then putF (d.tab v) (b.lo, b.hi) none else d.tab v }
theorem DropRel.at {d d' : StoreD} {k i : Nat} (h : DropRel d k d') (hi : (deadL d)[k]? = some i) : d'.pool.tk i = true ∧ d'.pool.nd i = d.pool.nd i := by
 obtain ⟨hlt, e⟩ := List.getElem?_eq_some_iff.1 hi
 have hm : i ∈ deadL d := e ▸ List.getElem_mem hlt
 have hn : i ∉ (deadL d).take k := by
  intro hh
  rw [List.mem_take_iff_getElem] at hh
  obtain ⟨j, hj, e2⟩ := hh
  have hne := List.pairwise_iff_getElem.1 (deadL_nodup d) j k (by omega) hlt (by omega)
  exact hne (e2.trans e.symm)
 have := h.keep i hn
 exact ⟨this.1.trans (mem_deadL hm).1, this.2⟩
theorem DropRel.next {d d' : StoreD} {k i : Nat} (h : DropRel d k d') (hi : (deadL d)[k]? = some i) (hl : d'.pool.taken.length = d'.pool.at_.length) (hat : i < d'.pool.at_.length) (hm : 1 ≤ d'.pool.many) :
 DropRel d (k + 1) (dropAt d' i (bnOf (d'.pool.nd i))) := by
 obtain ⟨hlt, e⟩ := List.getElem?_eq_some_iff.1 hi
 obtain ⟨ht, hnd⟩ := h.at hi
 have e1 : (deadL d).take (k + 1) = (deadL d).take k ++ [i] := by rw [List.take_succ_eq_append_getElem hlt, e]
 have tk : ∀ j, (d'.pool.give i).tk j = if j = i then false else d'.pool.tk j := fun j => tk_setT (by rw [hl]; exact hat) j
 have nd : ∀ j, (d'.pool.give i).nd j = if j = i then rn0 else d'.pool.nd j := fun j => nd_set hat j
 have hni : nodesOf d' i = some (bnOf (d'.pool.nd i)) := by unfold nodesOf PoolD.get; rw [if_pos ht]; rfl
 have hno : ∀ j, nodesOf (dropAt d' i (bnOf (d'.pool.nd i))) j = if j = i then none else nodesOf d' j := fun j => by
  unfold nodesOf
  show ((d'.pool.give i).get j).map bnOf = _
  rw [PoolD.give_get (by rw [hl]; exact hat) hat]
  by_cases e : j = i <;> simp [e]
 refine ⟨h.vars, h.level, h.counts, h.dead, h.room, ?_, fun j hj => ?_, fun j hj => ?_, fun v hv lo hY id => ?_, ?_⟩
 ·
  show (d'.pool.at_.set i rn0).length = _
  rw [List.length_set]; exact h.alen
 ·
  rw [e1] at hj
  simp only [List.mem_append, List.mem_singleton, not_or] at hj
  show (d'.pool.give i).tk j = _ ∧ (d'.pool.give i).nd j = _
  rw [tk, nd, if_neg hj.2, if_neg hj.2]
  exact h.keep j hj.1
 ·
  rw [e1] at hj
  simp only [List.mem_append, List.mem_singleton] at hj
  show (d'.pool.give i).tk j = _
  rw [tk]
  by_cases e2 : j = i
  ·
   rw [if_pos e2]
  ·
   rw [if_neg e2]; exact h.gone j (hj.resolve_right e2)
 ·
  rw [hno]
  have h0 := h.tab v hv lo hY id
  show (if v = (bnOf (d'.pool.nd i)).v then putF (d'.tab v) ((bnOf (d'.pool.nd i)).lo, (bnOf (d'.pool.nd i)).hi) none else d'.tab v) (lo, hY) = some id ↔ _
  by_cases e2 : id = i
  ·
   subst e2
   simp only [if_true]
   constructor
   ·
    intro hh
    exfalso
    by_cases e3 : v = (bnOf (d'.pool.nd id)).v
    ·
     rw [if_pos e3] at hh
     unfold putF at hh
     by_cases e4 : (lo, hY) = ((bnOf (d'.pool.nd id)).lo, (bnOf (d'.pool.nd id)).hi)
     ·
      rw [if_pos e4] at hh; cases hh
     ·
      rw [if_neg e4, h0, hni] at hh
      cases hh
      exact e4 rfl
    ·
     rw [if_neg e3, h0, hni] at hh
     cases hh
     exact e3 rfl
   ·
    intro hh; cases hh
  ·
   rw [if_neg e2, ← h0]
   by_cases e3 : v = (bnOf (d'.pool.nd i)).v
   ·
    rw [if_pos e3]
    unfold putF
    by_cases e4 : (lo, hY) = ((bnOf (d'.pool.nd i)).lo, (bnOf (d'.pool.nd i)).hi)
    ·
     rw [if_pos e4]
     constructor
     ·
      intro hh; cases hh
     ·
      intro hh
      exfalso
      have q := (h.tab v hv lo hY i).2 (by rw [hni]; cases e4; rw [e3])
      rw [hh] at q
      cases q
      exact e2 rfl
    ·
     rw [if_neg e4]
   ·
    rw [if_neg e3]
 ·
  show d'.pool.many - 1 + (k + 1) = _
  have := h.many; omega
structure CollRel (d d' : StoreD) : Prop where
 vars : d'.vars = d.vars
 level : d'.level = d.level
 counts : d'.counts = d.counts
 room : d'.pool.room = d.pool.room
 dead : d'.dead = 0
 alen : d'.pool.at_.length = d.pool.at_.length
 nodes : ∀ i, nodesOf d' i = if 0 < cntOf d i then nodesOf d i else none
 ext : ∀ i b, nodesOf d' i = some b → extOf d' i = extOf d i
 tab : ∀ v, v < d.vars.length → ∀ lo hi id, d'.tab v (lo, hi) = some id ↔ nodesOf d' id = some ⟨v, lo, hi⟩
 many : d'.pool.many + d.dead = d.pool.many
theorem DropRel.done {d d' : StoreD} {ext : Nat → Int} (h : DropRel d (deadL d).length d') (hl : LiveC d ext) (hat : ∀ i, d.pool.tk i = true → i < d.pool.at_.length) : CollRel d { d' with dead := 0 } := by
 have hk : (deadL d).take (deadL d).length = deadL d := List.take_length
 have hmem : ∀ i, d.pool.tk i = true → cntOf d i = 0 → i ∈ deadL d := fun i h1 h2 => by
  unfold deadL takenL takenU
  simp only [List.mem_filter, List.mem_range, decide_eq_true_eq]
  exact ⟨⟨hat i h1, h1⟩, h2⟩
 refine ⟨h.vars, h.level, h.counts, h.room, rfl, h.alen, fun i => ?_, fun i b hb => ?_, h.tab, by rw [← deadL_len hl]; exact h.many⟩
 ·
  show (d'.pool.get i).map bnOf = if 0 < cntOf d i then (d.pool.get i).map bnOf else none
  unfold PoolD.get
  by_cases hc : i ∈ deadL d
  ·
   have h1 := h.gone i (by rw [hk]; exact hc)
   have h2 := (mem_deadL hc).2
   simp [h1, h2]
  ·
   obtain ⟨h1, h2⟩ := h.keep i (by rw [hk]; exact hc)
   rw [h1, h2]
   by_cases h3 : 0 < cntOf d i
   ·
    rw [if_pos h3]
   ·
    rw [if_neg h3]
    cases ht : d.pool.tk i with
    | false => rfl
    | true => exact absurd (hmem i ht (by omega)) hc
 ·
  have hb' : (d'.pool.get i).map bnOf = some b := hb
  have ht : d'.pool.tk i = true := by
   unfold PoolD.get at hb'
   cases ht : d'.pool.tk i with
   | true => rfl
   | false => rw [ht] at hb'; simp at hb'
  have hc : i ∉ deadL d := fun hc => by rw [h.gone i (by rw [hk]; exact hc)] at ht; cases ht
  obtain ⟨h1, h2⟩ := h.keep i (by rw [hk]; exact hc)
  show (if d'.pool.tk i = true then ((d'.pool.nd i).refs : Int) else 0) = if d.pool.tk i = true then ((d.pool.nd i).refs : Int) else 0
  rw [h1, h2]
theorem live_pos {d : StoreD} {ext : Nat → Int} (hl : LiveC d ext) (h0 : d.dead = 0) {i : Nat} {b : BN} (hb : nodesOf d i = some b) : 0 < cntOf d i := by
 have h1 := hl.dead
 rw [h0] at h1
 have h2 := sumTo_ge (f := dead1 (nodesOf d) (cntOf d)) d.pool.at_.length (fun i _ => dead1_nonneg _ _ i) (hl.cnt.lt i b hb)
 unfold deadN at h1
 unfold dead1 at h2
 rw [hb] at h2
 by_cases h : cntOf d i = 0
 ·
  simp only [h, if_true] at h2
  unfold dead1 at h1
  omega
 ·
  omega
theorem CollRel.none {d : StoreD} {V : Nat → BF} (hk : StoreOK d V) (h0 : d.dead = 0) : CollRel d d := by
 refine ⟨rfl, rfl, rfl, rfl, h0, rfl, fun i => ?_, fun _ _ _ => rfl, hk.tab, by omega⟩
 cases hb : nodesOf d i with
 | none => simp
 | some b => rw [if_pos (live_pos hk.live h0 hb)]
theorem extOf_nonneg (d : StoreD) (i : Nat) : 0 ≤ extOf d i := by unfold extOf; split <;> omega
section
variable {d d' : StoreD} {V : Nat → BF}
theorem CollRel.sub (r : CollRel d d') {i : Nat} {b : BN} (h : nodesOf d' i = some b) : nodesOf d i = some b ∧ 0 < cntOf d i := by
 rw [r.nodes] at h
 split at h
 ·
  rename_i hc; exact ⟨h, hc⟩
 ·
  cases h
theorem CollRel.cnt (r : CollRel d d') : cntOf d' = cntOf d := by funext i; unfold cntOf; rw [r.counts]
theorem CollRel.lev (r : CollRel d d') : levN d' = levN d := by funext v; unfold levN; rw [r.level]
theorem CollRel.kid (r : CollRel d d') (hk : StoreOK d V) {i : Nat} {b : BN} (h : nodesOf d' i = some b) {e : Nat} (he : e = b.lo ∨ e = b.hi) : okE (nodesOf d') e := by
 obtain ⟨h1, h2⟩ := r.sub h
 have ho : okE (nodesOf d) e := by
  rcases he with rfl | rfl
  ·
   exact hk.dag.okLo i b h1
  ·
   exact hk.dag.okHi i b h1
 rcases ho with h0 | ⟨c, hc⟩
 ·
  exact .inl h0
 ·
  refine .inr ⟨c, ?_⟩
  rw [r.nodes, if_pos (hk.live.cnt.pos_of_live h1 h2 he hc (extOf_nonneg d _))]
  exact hc
theorem CollRel.lvE (r : CollRel d d') (h0 : nodesOf d 0 = Option.none) {n : Nat} {lev : Nat → Nat} {e : Nat} (he : okE (nodesOf d') e) : Go.Proofs.YtchliiaknmknhaaGreat.lvE n lev (nodesOf d') e = Go.Proofs.YtchliiaknmknhaaGreat.lvE n lev (nodesOf d) e := by
 unfold Go.Proofs.YtchliiaknmknhaaGreat.lvE
 rcases he with he | ⟨b, hb⟩
 ·
  have : nodesOf d' 0 = Option.none := by rw [r.nodes, h0]; simp
  rw [he, h0, this]
 ·
  rw [hb, (r.sub hb).1]
theorem CollRel.ok (r : CollRel d d') (hk : StoreOK d V) : StoreOK d' V := by
 have hlv : ∀ e, okE (nodesOf d') e → Go.Proofs.YtchliiaknmknhaaGreat.lvE d.vars.length (levN d) (nodesOf d') e = Go.Proofs.YtchliiaknmknhaaGreat.lvE d.vars.length (levN d) (nodesOf d) e := fun e he => r.lvE hk.dag.none0 he
 refine ⟨?_, ⟨?_, ?_, fun i b hb => by rw [r.counts]; exact hk.live.has i b (r.sub hb).1⟩, by rw [r.vars]; exact r.tab, by rw [r.counts]; exact hk.clen, by rw [r.vars]; exact hk.small, by rw [r.vars, r.lev]; exact hk.inv, by rw [r.vars, r.lev]; exact hk.vlt⟩
 ·
  rw [r.vars, r.lev]
  exact hk.dag.restrict (nodesOf d') (fun i b h => (r.sub h).1) (fun i b h => ⟨r.kid hk h (.inl rfl), r.kid hk h (.inr rfl)⟩)
 ·
  rw [r.alen, r.cnt]
  exact (hk.live.cnt.collect (nodesOf d') r.nodes).congr (fun x b hb => r.ext x b hb)
 ·
  rw [r.dead]
  unfold deadN
  rw [sumTo_congr (g := fun _ => 0) _ (fun i _ => ?_), sumTo_zero]
  ·
   rfl
  ·
   unfold dead1
   cases hb : nodesOf d' i with
   | none => rfl
   | some b => have := (r.sub hb).2; rw [r.cnt]; simp; omega
end
end Go.Proofs.YtchliiaknmknhaaGreat

namespace Go.Proofs.YtchliiaknmknhaaGreat
open Go.RowKit Go.Shelf
attribute [local go_sem] Oper.semAt_some
theorem wpListIn_appOne {F : Fence} {fu : Nat} (T e : TypeId) (size bytes : Nat) (z : Value) (hT : Tryz.prog.underlying T = some (.slice e)) (he : (Tryz.prog.info? e).map (fun i => (i.zero, i.size, i.bytes)) = some (some z, size, bytes)) (hzs : z.cells.size = size) (hsz : 0 < size)
 {wr : World} {ops : Array Oper} {rest : List Oper} {op : Oper} {a : Act} {Q : Exit → Act → World → Prop} {W : World} (hgd : op.guard = none) (s x : Operand)
 (hop : op.op = .call { callee := .builtin .append, args := #[s, x], argTypes := #[T, T] })
 {o : Own} {r : Role} {v : Value} {n : Nat} {xs : List Value} (hs : a.eval s = v) {N : Nat} (hx : a.eval x = .slice (some ⟨N, 0, none⟩) 1 1) {news : Array Value}
 (hW : W = wr.alloc (.cells news e)) (hN : N = wr.heap.size) (hl : news.size = size) (h1 : ∀ u ∈ news.toList, u.oneCell' = true) (h : RowR o wr r e size v n xs) (hlt : OwnLt o wr) (hn : n < 1000000000) (hb : bytes ≤ 10000)
 (hK : ∀ g cap w' o', RowR o' w' r e size (.slice (some ⟨g, 0, none⟩) (n + 1) cap) (n + 1) (xs ++ news.toList) → Chg (· = r) o o' wr w' → OwnLt o' w' → wpListIn F fu Tryz.prog ops Q rest (a.put op.dst (.slice (some ⟨g, 0, none⟩) (n + 1) cap)) w') : wpListIn F fu Tryz.prog ops Q (op :: rest) a W := by
 subst hN; subst hW
 obtain ⟨g, cap, w', o', hr, h2, h3, h4⟩ := run_appOne T e op.type size bytes z hT he hzs hsz news hl h1 h hlt hn hb
 refine wpListIn_plain hgd fun K hKK => ?_
 unfold Oper.wpIn
 refine ⟨?_, ?_⟩
 ·
  simp [Oper.about, hop, resolve, Target.leads, Sem.run_pure]
 ·
  rw [Oper.semAt_plain F _ _ (by rw [hop]; intro c hc'; cases hc')]
  simp only [execOp, hop, resolve, invoke, builtin, Sem.run_bind, Sem.run_pure, Result.andThen_ok, List.map_toArray, List.map_cons, List.map_nil, hs, hx, hr]
  exact hKK _ _ (hK g cap w' o' h2 h3 h4)
theorem drew_alloc (w : World) (o : Obj) : (w.alloc o).drew = w.drew.alloc o := rfl
theorem wpIn_same {F : Fence} {n : Nat} {P : Program} {c : Code} {Q : Exit → Act → World → Prop} {a : Act} {w : World} (W1 : World) (h : ∃ A, c.wpIn F n P (fun e a' W' => e = .normal ∧ a' = A ∧ W' = W1) a w ∧ Q .normal A W1) : c.wpIn F n P Q a w := by
 obtain ⟨A, h1, h2⟩ := h
 refine wpIn_mono h1 ?_
 rintro _ _ _ ⟨rfl, rfl, rfl⟩
 exact h2
def goneL (d : StoreD) (pre : List Nat) : List Nat := pre.filter (fun i => decide (cntOf d i = 0))
structure GatS (d : StoreD) (w : World) (sb : Nat) (pre : List Nat) (M : Nat → Prop) (W : World) (v : Value) (oG : Own) : Prop where
 mm : ∀ k, M k ↔ (k = w.heap.size ∨ k = w.heap.size + 1 ∨ oG k = some .slots)
 low : Below w.heap.size w W
 boxs : W.heap[w.heap.size]? = some (.cells #[.pointer (some ⟨sb, 0, none⟩)] 98 (0, 0))
 boxg : W.heap[w.heap.size + 1]? = some (.cells #[v] 186 (0, 0))
 row : RowR oG W .slots 157 5 v (goneL d pre).length ((goneL d pre).flatMap fun i => rnV (d.pool.nd i))
 lt : OwnLt oG W
 ge : ∀ k r, oG k = some r → r = .slots ∧ w.heap.size + 2 ≤ k
def Gat (d : StoreD) (w : World) (sb : Nat) (pre : List Nat) (M : Nat → Prop) (W : World) : Prop := ∃ v oG, GatS d w sb pre M W v oG
theorem GatS.minds {d : StoreD} {w : World} {sb : Nat} {pre : List Nat} {M : Nat → Prop} {W W' : World} {v : Value} {oG : Own} (h : GatS d w sb pre M W v oG) (hw : Wr (fun k => w.heap.size ≤ k ∧ ¬ M k) W W') : GatS d w sb pre M W' v oG := by
 have hk : ∀ k, k < W.heap.size → M k → W'.heap[k]? = W.heap[k]? := fun k h1 h2 => hw.keep k h1 (fun e => e.2 h2)
 have hm := h.mm
 refine ⟨hm, h.low.trans (hw.below (fun k h => h.1) h.low.size), (hk _ (Array.getElem?_eq_some_iff.1 h.boxs).1 ((hm _).2 (.inl rfl))).trans h.boxs, (hk _ (Array.getElem?_eq_some_iff.1 h.boxg).1 ((hm _).2 (.inr (.inl rfl)))).trans h.boxg,
  h.row.keep (fun g hg => hk g (h.lt g _ hg) ((hm g).2 (.inr (.inr hg)))) (fun _ h => h), h.lt.mono hw.size, h.ge⟩
theorem goneL_yes {d : StoreD} {pre : List Nat} {x : Nat} (h : cntOf d x = 0) : goneL d (pre ++ [x]) = goneL d pre ++ [x] := by unfold goneL; rw [List.filter_append]; simp [h]
theorem goneL_no {d : StoreD} {pre : List Nat} {x : Nat} (h : cntOf d x ≠ 0) : goneL d (pre ++ [x]) = goneL d pre := by unfold goneL; rw [List.filter_append]; simp [h]
theorem GatS.add {d : StoreD} {w : World} {sb : Nat} {pre : List Nat} {M : Nat → Prop} {W W1 : World} {v v' : Value} {oG oG' : Own} {x : Nat} (h : GatS d w sb pre M W v oG) (hc : cntOf d x = 0)
 (hr : RowR oG' W1 .slots 157 5 v' ((goneL d pre).length + 1) (((goneL d pre).flatMap fun i => rnV (d.pool.nd i)) ++ rnV (d.pool.nd x))) (hg : Chg (· = .slots) oG oG' W W1) (hl : OwnLt oG' W1) {n : Nat} (hn : n ≤ W.heap.size) :
 ∃ M', Gat d w sb (pre ++ [x]) M' (W1.setCell ⟨w.heap.size + 1, 0, none⟩ v') ∧ Wr (fun k => M k ∨ n ≤ k) W (W1.setCell ⟨w.heap.size + 1, 0, none⟩ v') ∧ ∀ k, M' k → M k ∨ n ≤ k := by
 have none : ∀ k, k < w.heap.size + 2 → oG k = Option.none := fun k hk => by
  cases e : oG k with
  | none => rfl
  | some r => have := (h.ge k r e).2; omega
 have hb1 : w.heap.size + 1 < W.heap.size := (Array.getElem?_eq_some_iff.1 h.boxg).1
 have k0 := (hg.alien (by omega) (none w.heap.size (by omega))).trans h.boxs
 have k1 := (hg.alien hb1 (none (w.heap.size + 1) (by omega))).trans h.boxg
 have ge' : ∀ k r, oG' k = some r → r = .slots ∧ w.heap.size + 2 ≤ k := fun k r hk => by
  by_cases e : oG' k = oG k
  ·
   rw [e] at hk; exact h.ge k r hk
  ·
   obtain ⟨a1, q, a2, a3⟩ := hg.new k e
   rw [hk] at a2; cases a2
   exact ⟨a3, by omega⟩
 refine ⟨fun k => k = w.heap.size ∨ k = w.heap.size + 1 ∨ oG' k = some .slots, ⟨v', oG', ⟨fun k => Iff.rfl, ?_, ?_, heap_setCell_same k1 _, ?_, hl.mono (by simp [World.setCell]), ge'⟩⟩, ?_, fun k hk => ?_⟩
 ·
  have : Below w.heap.size w W1 := h.low.trans ⟨hg.os, hg.tape, hg.output, hg.size, fun k hk => hg.alien (Nat.lt_of_lt_of_le hk h.low.size) (none k (by omega))⟩
  exact this.setCell (p := ⟨w.heap.size + 1, 0, Option.none⟩) (by show _ ≤ w.heap.size + 1; omega) _
 ·
  exact (heap_setCell_ne (by show _ ≠ w.heap.size + 1; omega) _).trans k0
 ·
  rw [goneL_yes hc, List.length_append, List.flatMap_append]
  simp only [List.length_singleton, List.flatMap_cons, List.flatMap_nil, List.append_nil]
  exact hr.setCell_other (fun e => by have := (ge' _ _ e).2; simp at this) _
 ·
  have : Wr (fun k => M k ∨ n ≤ k) W W1 := ⟨hg.os, hg.tape, hg.output, hg.size, fun k hk hm => hg.block k hk fun r hr e => hm (.inl ((h.mm k).2 (.inr (.inr (by rw [hr, e])))))⟩
  exact this.setCell (p := ⟨w.heap.size + 1, 0, Option.none⟩) (.inl (.inl ((h.mm _).2 (.inr (.inl rfl))))) _
 ·
  rcases hk with hk | hk | hk
  ·
   exact .inl ((h.mm k).2 (.inl hk))
  ·
   exact .inl ((h.mm k).2 (.inr (.inl hk)))
  ·
   by_cases e : oG' k = oG k
   ·
    rw [e] at hk; exact .inl ((h.mm k).2 (.inr (.inr hk)))
   ·
    have := (hg.new k e).1; right; omega
theorem GatS.no {d : StoreD} {w : World} {sb : Nat} {pre : List Nat} {M : Nat → Prop} {W : World} {v : Value} {oG : Own} (h : GatS d w sb pre M W v oG) (k : Nat) (hk : k < w.heap.size + 2) : oG k = none := by
 cases e : oG k with
 | none => rfl
 | some r => have := (h.ge k r e).2; omega
theorem GatS.drew {d : StoreD} {w : World} {sb : Nat} {pre : List Nat} {M : Nat → Prop} {W : World} {v : Value} {oG : Own} (h : GatS d w sb pre M W v oG) : GatS d w sb pre M W.drew v oG := h.minds ((Wr.refl _ W).drew)
def DropS (o : Own) (W2 : World) (sb : Nat) (d : StoreD) (s : StoreW) (k : Nat) (wr : World) : Prop := ∃ o1 d1, StoreIn o1 wr sb d1 s ∧ OwnLt o1 wr ∧ DropRel d k d1 ∧ Chg RStore o o1 W2 wr
theorem DropS.next {o o1 o2 : Own} {W2 wr w3 w4 w4' w5 : World} {sb : Nat} {d d1 : StoreD} {s : StoreW} {k i : Nat} {N : RN} (hs1 : StoreIn o1 wr sb d1 s) (hl1 : OwnLt o1 wr) (hr1 : DropRel d k d1) (hc1 : Chg RStore o o1 W2 wr) (hi : (deadL d)[k]? = some i) (hN : d1.pool.nd i = N) (hb3 : Below wr.heap.size wr w3)
 (ht : TabIs o1 w4 N.v (s.ts.getD N.v 0) (putF (d1.tab N.v) (N.lo, N.hi) none)) (hct : Chg (· = .tmap N.v) o1 o1 w3 w4) (hl4 : OwnLt o1 w4) (hb : Below w4.heap.size w4 w4')
 (hp : PoolAt o2 w5 s.pb (d1.pool.give i)) (hcp : Chg (fun r => r = .pool ∨ r = .slots ∨ r = .taken ∨ r = .free) o1 o2 w4' w5) (hl5 : OwnLt o2 w5) : DropS o W2 sb d s (k + 1) w5 := by
 have h3 := hs1.below hl1 hb3
 have hl3 := hl1.mono hb3.size
 have h4 := h3.setTab hl3 ht hct
 have h4' := h4.below hl4 hb
 have h5 := h4'.setPool (hl4.mono hb.size) hp hcp
 have hat : i < d1.pool.at_.length := (hs1.pool.tk_lt (hr1.at hi).1).2
 have e : (fun u => if u = N.v then putF (d1.tab N.v) (N.lo, N.hi) none else d1.tab u) = (fun u => if u = N.v then putF (d1.tab u) (N.lo, N.hi) none else d1.tab u) := by
  funext u
  by_cases h : u = N.v
  ·
   subst h; rfl
  ·
   simp [h]
 rw [e] at h5
 refine ⟨o2, dropAt d1 i (bnOf N), h5, hl5, ?_, hc1.trans ((Chg.of_below hb3 _ o1).trans ((hct.mono ?_).trans ((Chg.of_below hb _ o1).trans (hcp.mono ?_))))⟩
 ·
  have := hr1.next hi hs1.pool.len hat (by
   have h1 := hs1.pool.cnt
   have h2 := sumTo_pos (f := fun j => if d1.pool.tk j = true then (1 : Int) else 0) (fun j _ => by split <;> omega) hat (by simp [(hr1.at hi).1])
   omega)
  rw [hN] at this
  exact this
 ·
  rintro r rfl; exact .inr (.inr (.inr (.inr (.inr (.inr (.inl ⟨_, .inr rfl⟩))))))
 ·
  rintro r h; exact .inr (.inr (.inr (.inr (.inl h))))
theorem mix_lastCall {P : Program} {S : World → Prop} {Q : Exit → Act → World → Prop} {ops : Array Oper} {o : Oper} {a : Act} {w : World} {f : FuncId} {args : Array Value} {R : Value → World → Prop} (hg : o.guard = none)
 (he : (execOp a.eval o).run P w = .ok (.enter f args) w) (hc : Calls P f args w fun e w' => ∃ v, e = .returned v ∧ R v w') (h : ∀ v w', R v w' → Q .normal (a.put o.dst v) w') : wpMix P ops Q S true [(some o, true)] a w := by
 refine mix_last hg fun K hK => ?_
 unfold Oper.wp
 simp only [he, Oper.upon]
 exact hc.mono fun e w' ⟨v, h1, h2⟩ => by subst h1; exact hK _ _ (h v w' h2)
set_option maxRecDepth 100000 in
theorem collect_early {o : Own} {w : World} {sb : Nat} {d : StoreD} (h : StoreAt o w sb d) (h0 : d.dead = 0) :
 Calls Tryz.prog 101 #[.pointer (some ⟨sb, 0, none⟩)] w fun x w' => x = .returned (.int .i64 0) ∧ Below w.heap.size w w' := by
 obtain ⟨s, h⟩ := h
 obtain ⟨c0, c1, c2, c3, c4, f0⟩ := cells5 h.blk
 rw [h0] at c4
 obtain ⟨w1, hw1⟩ : ∃ w1, w1 = w.alloc (.cells #[.pointer (some ⟨sb, 0, none⟩)] 98) := ⟨_, rfl⟩
 have hb1 : Below w.heap.size w w1 := by rw [hw1]; exact below_new1 w _
 have cB : w1.cell? ⟨w.heap.size, 0, none⟩ = some (.pointer (some ⟨sb, 0, none⟩)) := by rw [hw1]; exact cell1 (heap_alloc_new w _)
 have c4' := (hb1.cell (p := ⟨sb, 4, none⟩) (lt_of_cell c4)).trans c4
 have HW : Hid (_ = w1) := Lib.hid hw1.symm
 have HB := Lib.hid hb1
 clear h c0 c1 c2 c3 c4 f0 hw1 hb1 h0
 refine (callsIn_wide (n := 9)).1 ?_
 refine callsIn_of_wp_marks Tryz.func101 rfl trivial ?_
 refine wpIn_wide.2 ?_
 simp only [Tryz.ntmps101, List.size_toArray, List.length_cons, List.length_nil, Nat.reduceAdd, Nat.reduceSub, Array.replicate_succ, Array.replicate_zero, List.push_toArray, List.append_toArray, List.nil_append, List.cons_append]
 go_upto_region 1 with fail
 rw [HW.out]
 go_wp2_with fail
 exact ⟨_, results_tmp rfl _ _ _, rfl, HB.out⟩
set_option maxRecDepth 100000 in
set_option maxHeartbeats 4000000 in
theorem collect_any {o : Own} {w : World} {sb : Nat} {d : StoreD} {V : Nat → BF} (h : StoreAt o w sb d) (hlt : OwnLt o w) (hk : StoreOK d V) (h0 : d.dead ≠ 0) :
 Calls Tryz.prog 101 #[.pointer (some ⟨sb, 0, none⟩)] w fun x w' => x = .returned (.int .i64 d.dead) ∧ ∃ o' d', StoreAt o' w' sb d' ∧ OwnLt o' w' ∧ CollRel d d' ∧ Chg RStore o o' w w' := by
 obtain ⟨s, h⟩ := h
 obtain ⟨c0, c1, c2, c3, c4, f0⟩ := cells5 h.blk
 have hd1 : ((d.dead : Int) == 0) = false := by simpa using h0
 obtain ⟨w1, hw1⟩ : ∃ w1, w1 = w.alloc (.cells #[.pointer (some ⟨sb, 0, none⟩)] 98) := ⟨_, rfl⟩
 have hb1 : Below w.heap.size w w1 := by rw [hw1]; exact below_new1 w _
 have hB : w1.heap[w.heap.size]? = some (.cells #[.pointer (some ⟨sb, 0, none⟩)] 98 (0, 0)) := by rw [hw1]; exact heap_alloc_new w _
 have hs1 : w1.heap.size = w.heap.size + 1 := by rw [hw1]; simp
 obtain ⟨w2, hw2⟩ : ∃ w2, w2 = w1.alloc (.cells #[.slice none 0 0] 186) := ⟨_, rfl⟩
 have hb2 : Below w.heap.size w w2 := by rw [hw2]; exact hb1.alloc (by omega) _
 have hB2 : w2.heap[w.heap.size]? = some (.cells #[.pointer (some ⟨sb, 0, none⟩)] 98 (0, 0)) := by rw [hw2]; exact (Below.heap_alloc w1 _ _ (by omega)).trans hB
 have hG2 : w2.heap[w.heap.size + 1]? = some (.cells #[.slice none 0 0] 186 (0, 0)) := by rw [hw2, ← hs1]; exact heap_alloc_new w1 _
 have hs2 : w2.heap.size = w.heap.size + 2 := by rw [hw2]; simp [hs1]
 have cB1 := cell1 hB
 have cB2 := cell1 hB2
 have cS1 := (hb1.cell (p := ⟨sb, 4, none⟩) (lt_of_cell c4)).trans c4
 have cS2 := (hb2.cell (p := ⟨sb, 1, none⟩) (lt_of_cell c1)).trans c1
 have HW1 : Hid (_ = w1) := Lib.hid hw1.symm
 have HW2 : Hid (_ = w2) := Lib.hid hw2.symm
 have HB2 := Lib.hid hb2
 have HH := Lib.hid h
 have HE := Lib.hid (callsIn_wide.1 (each_in Fence.wide 9 trivial rfl s.pb w2))
 clear h c0 c1 c2 c3 c4 f0 hw1 hw2 hb1 hb2
 refine (callsIn_wide (n := 9)).1 ?_
 refine callsIn_of_wp_marks Tryz.func101 rfl trivial ?_
 refine wpIn_wide.2 ?_
 simp only [Tryz.ntmps101, List.size_toArray, List.length_cons, List.length_nil, Nat.reduceAdd, Nat.reduceSub, Array.replicate_succ, Array.replicate_zero, List.push_toArray, List.append_toArray, List.nil_append, List.cons_append]
 go_upto_region 1 with fail
 rw [HW1.out]
 go_upto_region 4 with fail
 rw [HW2.out]
 go_wp2_with fail
 refine HE.out.mono ?_
 rintro x w3 ⟨rfl, hw3⟩
 go_wp2_with fail
 obtain ⟨w3', hw3'⟩ : ∃ w3', w3' = w2.alloc (.cells #[.pointer (some ⟨s.pb, 0, none⟩)] 136) := ⟨_, rfl⟩
 rw [← hw3']
 have hs3 : w3'.heap.size = w.heap.size + 3 := by rw [hw3']; simp [hs2]
 have hb3 : Below w.heap.size w w3' := by rw [hw3']; exact HB2.out.alloc (by omega) _
 have hB3 : w3'.heap[w.heap.size]? = some (.cells #[.pointer (some ⟨sb, 0, none⟩)] 98 (0, 0)) := by rw [hw3']; exact (Below.heap_alloc w2 _ _ (by omega)).trans hB2
 have hG3 : w3'.heap[w.heap.size + 1]? = some (.cells #[.slice none 0 0] 186 (0, 0)) := by rw [hw3']; exact (Below.heap_alloc w2 _ _ (by omega)).trans hG2
 have hP3 : w3'.cell? ⟨w.heap.size + 2, 0, none⟩ = some (.pointer (some ⟨s.pb, 0, none⟩)) := by rw [hw3', ← hs2]; exact cell1 (heap_alloc_new w2 _)
 have HST : Hid (StoreIn o w sb d s) := HH
 have HLT := Lib.hid hlt
 have HK := Lib.hid hk
 have HG := Lib.hid (each1_gives Fence.wide 8 trivial trivial trivial rfl (by omega) (w.heap.size + 2) w.heap.size s.pb HH.out.pool hlt (Nat.le_refl _) w3' hb3 (by omega) (by omega) hP3)
 clear hw3' hB hB2 hG2 cB1 cB2 cS1 cS2 HE HW1 HW2 hs1 hs2 hP3
 refine (wpIn_wide (n := 9)).1 ?_
 refine wp_range rfl (by omega) (gf := 157) (lb := #[.pointer (some ⟨w.heap.size + 2, 0, none⟩)]) rfl trivial (enters_of Tryz.func157 (by kernel_rfl) rfl) HG.out (by omega) (by rintro k rfl; omega) (fun x => rfl)
  (Gat d w sb) ?_ ?_ (fun k => k = w.heap.size ∨ k = w.heap.size + 1) (by rintro k rfl h; omega) ⟨.slice none 0 0, fun _ => none, (⟨fun k => by simp, hb3, hB3, hG3, RowR.nil _ _ _ _ _, fun k r h => (by cases h), fun k r h => (by cases h)⟩ : GatS d w sb [] _ w3' (.slice none 0 0) (fun _ => none))⟩
  (fun x a' W W1 => ∃ Bn, W.heap.size ≤ Bn ∧ W1.heap[Bn]? = some (.cells #[.int .i64 (d.pool.nd x).id, .int .i64 (d.pool.nd x).v, .int .i64 (d.pool.nd x).lo, .int .i64 (d.pool.nd x).hi, .int .i64 (d.pool.nd x).refs] 157 (0, 0)) ∧ a' = { tmps := #[Value.pointer (some { block := sb, off := 0 }), Value.pointer (some { block := w.heap.size, off := 0 }), Value.int IntKind.i64 0, Value.pointer (some { block := w.heap.size + 1, off := 0 }), Value.pointer (some { block := Bn, off := 0 }), undef, undef, Value.pointer (some { block := sb, off := 0 }), Value.bool false, Value.bool false, Value.pointer (some { block := sb, off := 0 }), Value.pointer (some { block := sb, off := 0 }), Value.pointer (some { block := sb, off := 4 }), Value.int IntKind.i64 ↑d.dead, Value.bool false, Value.bool false, Value.pointer (some { block := sb, off := 0 }), Value.pointer (some { block := sb, off := 0 }), Value.pointer (some { block := sb, off := 1 }), Value.pointer (some { block := s.pb, off := 0 }), Value.func (Fn.func 157) #[] #[Value.pointer (some { block := w.heap.size + 2, off := 0 })], rnAgg (d.pool.nd x), undef, undef, undef, undef, undef, undef, undef, undef, undef, undef, undef, undef, undef, undef, undef, undef, undef, undef, undef, undef, undef, undef, undef, undef, undef, undef, undef, undef, undef, undef, undef, undef, undef, undef, undef, undef, undef, undef, undef, undef, undef, undef, undef, undef, undef], defers := [] }) ?_ ?_ ?_ ?_
 ·
  rintro pre M W ⟨v, oG, hS⟩ k hk
  rcases (hS.mm k).1 hk with rfl | rfl | hg
  ·
   exact ⟨Nat.le_refl _, (Array.getElem?_eq_some_iff.1 hS.boxs).1⟩
  ·
   exact ⟨by omega, (Array.getElem?_eq_some_iff.1 hS.boxg).1⟩
  ·
   have := (hS.ge k _ hg).2; exact ⟨by omega, hS.lt k _ hg⟩
 ·
  rintro pre M W W' ⟨v, oG, hS⟩ hw
  exact ⟨v, oG, hS.minds hw⟩
 ·
  rintro x a' W W1 W2 l hl ⟨Bn, h1, h2, h3⟩ hw
  exact ⟨Bn, h1, (hw.keep Bn (Array.getElem?_eq_some_iff.1 h2).1 (by omega)).trans h2, h3⟩
 ·
  intro l pre x M W K hI hK
  simp only [rnAgg]
  gi_wp2
  exact hK _ _ ((Wr.refl _ W).alloc _) ⟨W.heap.size, Nat.le_refl _, heap_alloc_new W _, rfl⟩
 ·
  rintro l pre x a' M W0 W ⟨v, oG, hS⟩ ⟨Bn, hBn, hbn, rfl⟩ hs0 hs1 hsuf
  obtain ⟨suf, hsuf⟩ := hsuf
  have hx : d.pool.tk x = true := mem_takenL hsuf
  have hst := HST.out.below HLT.out hS.low
  obtain ⟨q0, q1, q2, q3, q4, _⟩ := cells5 hst.blk
  obtain ⟨n0, n1, n2, n3, n4, _⟩ := cells5 hbn
  have hid := hst.pool.id x hx
  rw [hid] at n0
  have hbx : nodesOf d x = some (bnOf (d.pool.nd x)) := by unfold nodesOf PoolD.get; rw [if_pos hx]; rfl
  have hxl : x < d.counts.length := HK.out.live.has x _ hbx
  obtain ⟨gc, cc, hvc, _⟩ := hst.counts.shape (by omega)
  have hcell := hst.counts
  rw [hvc] at hcell q3
  have hcc := hcell.cell x (by simpa using hxl)
  have hval : (d.counts.map nat64)[x]? = some (.int .i64 (cntOf d x : Nat)) := by
   rw [List.getElem?_map, List.getElem?_eq_getElem hxl]; simp [nat64, cntOf, List.getD, hxl]
  rw [hval] at hcc
  have hxi : (x : Int) < d.counts.length := by omega
  have cb := cell1 hS.boxs
  have cg := cell1 hS.boxg
  have HS := Lib.hid hS
  have HBN := Lib.hid hbn
  have HSUF := Lib.hid hsuf
  have HID := Lib.hid hid
  have hmx : Tryz.prog.follows .mixedOrders = true := by kernel_rfl
  clear hst hcell hval hvc hsuf hS hid hbx
  by_cases hc : cntOf d x = 0
  ·
   rw [hc] at hcc
   have hlen : (goneL d pre).length < 1000000000 := by
    have h1 := HST.out.below HLT.out HS.out.low
    have h2 := h1.pool.top
    have h3 := h1.pool.room
    have h4 : (goneL d pre).length ≤ (takenL d.pool).length := by rw [← HSUF.out]; unfold goneL; refine Nat.le_trans (List.length_filter_le _ _) ?_; simp
    have h5 : (takenL d.pool).length ≤ d.pool.at_.length := by unfold takenL takenU; refine Nat.le_trans (List.length_filter_le _ _) ?_; simp
    omega
   have HLEN := Lib.hid hlen
   have HC := Lib.hid hc
   clear hlen
   gi_wp2
   refine wpIn_same W.drew ?_
   apply Exists.intro
   refine ⟨?_, ?_⟩
   ·
    gi_region_o
    all_goals exact ⟨rfl, rfl, rfl⟩
   gi_wp2_with (gi_at_builtin
                rw [drew_alloc]
                refine wpListIn_appOne (wr := W.drew) 186 157 5 40 _ Tryz.underlying186 infoNode rfl (by decide) rfl _ _ rfl rfl rfl rfl rfl rfl (by simp [Value.oneCell']) HS.out.drew.row HS.out.drew.lt HLEN.out (by decide) ?_
                intro g1 k1 w1 o1 hr1 hc1 hl1
                have HR1 := Lib.hid hr1
                have HC1 := Lib.hid hc1
                have HL1 := Lib.hid hl1
                clear hr1 hc1 hl1 q0 q1 q2 q3 q4 cb
                have hbg1 := (HC1.out.alien (Array.getElem?_eq_some_iff.1 HS.out.boxg).1 (HS.out.no _ (by omega))).trans HS.out.boxg
                have cg1 := cell1 hbg1
                have fz : ∀ k, w1.frozen? ⟨w.heap.size + 1, k, none⟩ = false := fun k => by simp [World.frozen?, hbg1]
                clear cg hbg1)
   have hadd := HS.out.drew.add HC.out (W1 := w1) (v' := .slice (some ⟨g1, 0, none⟩) ((goneL d pre).length + 1) k1) (by
    have e : rnV (d.pool.nd x) = [.int .i64 (x : Nat), .int .i64 (d.pool.nd x).v, .int .i64 (d.pool.nd x).lo, .int .i64 (d.pool.nd x).hi, .int .i64 (d.pool.nd x).refs] := by unfold rnV; rw [HID.out]
    rw [e]; exact HR1.out) HC1.out HL1.out hs0
   obtain ⟨M', a1, a2, a3⟩ := hadd
   exact ⟨M', a1, Wr.trans ((Wr.refl (fun _ => False) W).drew) a2 (fun _ _ e => e.elim) (fun _ _ e => e), a3⟩
  ·
   have hc1 : ((cntOf d x : Int) == 0) = false := by simpa using hc
   gi_wp2
   refine wpIn_same W.drew ?_
   apply Exists.intro
   refine ⟨?_, ?_⟩
   ·
    gi_region_o
    all_goals exact ⟨rfl, rfl, rfl⟩
   gi_wp2
   exact ⟨M, ⟨v, oG, by have := HS.out.drew; exact ⟨this.mm, this.low, this.boxs, this.boxg, by rw [goneL_no hc]; exact this.row, this.lt, this.ge⟩⟩, (Wr.refl _ W).drew, fun k hk => .inl hk⟩
 ·
  rintro D M W2 hD hDM ⟨v, oG, hS⟩ _ hw2 hD3
  have HS := Lib.hid hS
  have HD3 := Lib.hid hD3
  have cg := cell1 hS.boxg
  obtain ⟨ag, cpg, rfl, _⟩ := hS.row.slice
  clear hS hD3 hDM hw2 HG hB3 hG3 hb3
  go_wp2_with fail
  have hcellg : ∀ k i, (deadL d)[k]? = some i → ∃ g, ag = some ⟨g, 0, none⟩ ∧ o g = none ∧ ∀ j u, (rnV (d.pool.nd i))[j]? = some u → W2.cell? ⟨g, k * 5 + j, none⟩ = some u := by
   intro k i hi
   have hki : k < (deadL d).length := (List.getElem?_eq_some_iff.1 hi).1
   obtain ⟨g, cp, he, hog, _⟩ := HS.out.row.shape (by show 0 < (deadL d).length; omega)
   cases he
   refine ⟨g, rfl, ?_, fun j u hj => ?_⟩
   ·
    have := (HS.out.ge g _ hog).2
    exact HLT.out.none (by omega)
   ·
    have h5 : j < 5 := by have := (List.getElem?_eq_some_iff.1 hj).1; simpa [rnV] using this
    have hf := flat_get (fun i => rnV (d.pool.nd i)) 5 (fun _ => rfl) (deadL d) k j i hi h5
    have hlen : ((deadL d).flatMap fun i => rnV (d.pool.nd i)).length = (deadL d).length * 5 := flat_length _ 5 (fun _ => rfl) _
    have hc := HS.out.row.cell (k * 5 + j) (by show _ < ((deadL d).flatMap fun i => rnV (d.pool.nd i)).length; rw [hlen]; omega)
    rw [hc]
    exact hf.trans hj
  have HCG := Lib.hid hcellg
  have HDL : Hid ((goneL d (takenL d.pool)).length = (deadL d).length) := Lib.hid rfl
  have HOB : Hid (o w.heap.size = none ∧ o (w.heap.size + 1) = none) := Lib.hid ⟨HLT.out.none (by omega), HLT.out.none (by omega)⟩
  have hst2 := HST.out.below HLT.out HS.out.low
  have hlt2 : OwnLt o W2 := HLT.out.mono HS.out.low.size
  have HST2 := Lib.hid hst2
  have HLT2 := Lib.hid hlt2
  have hlB : w.heap.size < W2.heap.size := (Array.getElem?_eq_some_iff.1 HS.out.boxs).1
  have hlG : w.heap.size + 1 < W2.heap.size := (Array.getElem?_eq_some_iff.1 HS.out.boxg).1
  have hdlt : (goneL d (takenL d.pool)).length ≤ 1048577 := by
   show (deadL d).length ≤ _
   have h2 := hst2.pool.top
   have h3 := hst2.pool.room
   have h5 : (deadL d).length ≤ d.pool.at_.length := by unfold deadL takenL takenU; refine Nat.le_trans (List.length_filter_le _ _) (Nat.le_trans (List.length_filter_le _ _) ?_); simp
   omega
  clear hcellg cg hst2 hlt2
  obtain ⟨m, hm⟩ : ∃ m, m = (goneL d (takenL d.pool)).length := ⟨_, rfl⟩
  rw [← hm] at hdlt HDL ⊢
  have HM := Lib.hid hm
  clear hm
  go_loopw [37] (fun i wr => ∃ k : Nat, k ≤ m ∧ i = .int .i64 k ∧ DropS o W2 sb d s k wr) (fun i _ => m - (intOf i).toNat)
  case atStart => exact ⟨0, Nat.zero_le _, rfl, o, d, HST2.out, HLT2.out, DropRel.start HK.out.tab, Chg.refl _ _ _⟩
  case round =>
   obtain ⟨k, hk, rfl, hds⟩ := hrel
   have hds0 := hds
   obtain ⟨o1, d1, hs1, hl1, hr1, hc1⟩ := hds
   by_cases hlt' : k < m
   ·
    obtain ⟨i, hi⟩ : ∃ i, (deadL d)[k]? = some i := ⟨_, List.getElem?_eq_getElem (by have := HDL.out; omega)⟩
    obtain ⟨htk, hnd⟩ := hr1.at hi
    obtain ⟨g, hag, hog, hgc⟩ := HCG.out k i hi
    subst hag
    obtain ⟨N, hN⟩ : ∃ N, N = d.pool.nd i := ⟨_, rfl⟩
    rw [← hN] at hgc hnd
    have e0 := hc1.cell (hgc 0 _ rfl) hog
    have e1 := hc1.cell (hgc 1 _ rfl) hog
    have e2 := hc1.cell (hgc 2 _ rfl) hog
    have e3 := hc1.cell (hgc 3 _ rfl) hog
    have e4 := hc1.cell (hgc 4 _ rfl) hog
    rw [Nat.add_zero] at e0
    have cb := cell1 ((hc1.alien hlB HOB.out.1).trans HS.out.boxs)
    have hk1 : (k : Int) < m := by omega
    obtain ⟨w3, hw3⟩ : ∃ w3, w3 = wr.alloc (.cells #[.int .i64 N.id, .int .i64 N.v, .int .i64 N.lo, .int .i64 N.hi, .int .i64 N.refs] 157) := ⟨_, rfl⟩
    obtain ⟨b6, hb6⟩ : ∃ b6, b6 = wr.heap.size := ⟨_, rfl⟩
    have hb3 : Below wr.heap.size wr w3 := by rw [hw3]; exact below_new1 _ _
    have hbx : w3.heap[b6]? = some (.cells #[.int .i64 N.id, .int .i64 N.v, .int .i64 N.lo, .int .i64 N.hi, .int .i64 N.refs] 157 (0, 0)) := by rw [hw3, hb6]; exact heap_alloc_new _ _
    have hob6 : o1 b6 = none := hl1.none (by omega)
    have HOB1 : Hid (o1 w.heap.size = none) := Lib.hid (hc1.alien' hlB HOB.out.1)
    have HW3 : Hid (_ = w3) := Lib.hid hw3.symm
    have HB6 : Hid (_ = b6) := Lib.hid hb6.symm
    have HN := Lib.hid hN
    have hid : N.id = i := by rw [← hnd]; exact hs1.pool.id i htk
    have hbi : nodesOf d1 i = some ⟨N.v, N.lo, N.hi⟩ := by unfold nodesOf PoolD.get; rw [if_pos htk, hnd]; rfl
    have hv : N.v < d1.vars.length := by rw [hr1.vars]; exact HK.out.dag.var i ⟨N.v, N.lo, N.hi⟩ (by unfold nodesOf PoolD.get; rw [if_pos (mem_deadL ((List.getElem?_eq_some_iff.1 hi).2 ▸ List.getElem_mem _)).1, ← hN]; rfl)
    have hft : d1.tab N.v (N.lo, N.hi) = some i := (hr1.tab N.v (by rw [← hr1.vars]; exact hv) _ _ _).2 hbi
    have hst3 := hs1.below hl1 hb3
    have hl3 := hl1.mono hb3.size
    obtain ⟨gt, ct, hvt, hct, hvl, hts⟩ := hst3.tabAt hv
    obtain ⟨q0, q1, q2, q3, q4, _⟩ := cells5 hst3.blk
    rw [hvt] at q2
    obtain ⟨n0, n1, n2, n3, n4, _⟩ := cells5 hbx
    have cb3 := (hb3.cell (p := ⟨w.heap.size, 0, none⟩) (lt_of_cell cb)).trans cb
    have hvi : (N.v : Int) < s.ts.length := by omega
    have HCUT := Lib.hid (cut_any o1 N.v (s.ts.getD N.v 0) (d1.tab N.v) N.lo N.hi i w3.drew ((hst3.below hl3 (below_draw w3 1)).tab N.v hvl) (hl3.mono (below_draw w3 1).size) hft)
    have HS1 := Lib.hid hs1
    have HL1 := Lib.hid hl1
    have HR1 := Lib.hid hr1
    have HC1 := Lib.hid hc1
    have HI := Lib.hid hi
    have HND := Lib.hid hnd
    have HB3 := Lib.hid hb3
    have HBX := Lib.hid hbx
    have HTK := Lib.hid htk
    have HIDN := Lib.hid hid
    have HST3 := Lib.hid hst3
    have HL3 := Lib.hid hl3
    clear hgc hds0 hs1 hl1 hr1 hc1 hi hnd hb3 hbx htk hid hbi hv hft hst3 hl3 hvt hw3 hb6 hN hvl
    go_upto_region 11 with fail
    rw [HW3.out, HB6.out]
    refine wp_region_mix (fun W : World => W = w3.drew) true 12 [(0, false), (1, false), (2, false), (3, false), (4, false), (5, false), (6, false), (7, false), (8, false), (9, false), (10, false), (11, false), (12, true)] (by kernel_rfl) (by kernel_rfl) rfl ?_
    simp only [planned, plnLz]
    iterate 12
     refine mix_readE rfl ?_
     apply Exists.intro
     refine ⟨fun w' hw => ?_, ?_⟩
     ·
      subst hw
      go_simp
      rfl
     simp only [putLz]
    refine mix_lastCall rfl (by go_simp) (HCUT.out.mono (R' := fun e w' => ∃ v, e = .returned v ∧ (v = .int .i64 0 ∧ TabIs o1 w' N.v (s.ts.getD N.v 0) (putF (d1.tab N.v) (N.lo, N.hi) none) ∧ Chg (· = .tmap N.v) o1 o1 w3.drew w' ∧ OwnLt o1 w')) (fun e w' h => ⟨_, h.1, rfl, h.2⟩)) ?_
    rintro _ w4 ⟨rfl, ht4, hc4, hl4⟩
    simp only [putLz]
    refine np_normal ?_
    have hst4 := (HST3.out.below HL3.out (below_draw w3 1)).setTab (HL3.out.mono (below_draw w3 1).size) ht4 hc4
    have cb4 := hc4.cell (w := w3.drew) (p := ⟨w.heap.size, 0, none⟩) cb3 (HOB1.out)
    have n0' := hc4.cell (w := w3.drew) (p := ⟨b6, 0, none⟩) n0 hob6
    obtain ⟨p0, p1, p2, p3, p4, _⟩ := cells5 hst4.blk
    rw [HIDN.out] at n0'
    have HGIVE := Lib.hid (poolGive_any o1 s.pb d1.pool i w4.drew (hst4.below hl4 (below_draw w4 1)).pool (hl4.mono (below_draw w4 1).size) HTK.out)
    have HT4 := Lib.hid ht4
    have HC4 := Lib.hid hc4
    have HL4 := Lib.hid hl4
    clear ht4 hc4 hl4 hst4 n0 n1 n2 n3 n4 q0 q1 q2 q3 q4 cb3 cb e0 e1 e2 e3 e4 hct hvi
    go_upto_region 12 with fail
    refine wp_region_mix (fun W : World => W = w4.drew) true 6 [(0, false), (1, false), (2, false), (3, false), (4, false), (5, false), (6, true)] (by kernel_rfl) (by kernel_rfl) rfl ?_
    simp only [planned, plnLz]
    iterate 6
     refine mix_readE rfl ?_
     apply Exists.intro
     refine ⟨fun w' hw => ?_, ?_⟩
     ·
      subst hw
      go_simp
      rfl
     simp only [putLz]
    refine mix_lastCall rfl (by go_simp) (HGIVE.out.mono (R' := fun e w' => ∃ v, e = .returned v ∧ (v = .int .i64 0 ∧ ∃ o', PoolAt o' w' s.pb (d1.pool.give i) ∧ Chg (fun r => r = .pool ∨ r = .slots ∨ r = .taken ∨ r = .free) o1 o' w4.drew w' ∧ OwnLt o' w')) (fun e w' h => ⟨_, h.1, rfl, h.2⟩)) ?_
    rintro _ w5 ⟨rfl, o2, hp5, hc5, hl5⟩
    simp only [putLz]
    refine np_normal ?_
    have HNX := Lib.hid (DropS.next HS1.out HL1.out HR1.out HC1.out HI.out HND.out (HB3.out.trans ((below_draw w3 1).mono HB3.out.size)) HT4.out HC4.out HL4.out (below_draw w4 1) hp5 hc5 hl5)
    clear hp5 hc5 hl5 p0 p1 p2 p3 p4 cb4 n0' hlG
    go_wp2_with fail
    go_roundw
    case rel => exact ⟨k + 1, by omega, by go_num, HNX.out⟩
    case measure => simp [intOf]; omega
   ·
    obtain rfl : k = m := by omega
    have hb0 := (hc1.alien hlB HOB.out.1).trans HS.out.boxs
    have hg0 := (hc1.alien hlG HOB.out.2).trans HS.out.boxg
    have cb := cell1 hb0
    have cg := cell1 hg0
    obtain ⟨q0, q1, q2, q3, q4, qf⟩ := cells5 hs1.blk
    have HS1 := Lib.hid hs1
    have HL1 := Lib.hid hl1
    have HR1 := Lib.hid hr1
    have HC1 := Lib.hid hc1
    have hsb : sb ≠ w.heap.size + 1 := fun e => by have h1 := HOB.out.2; have h2 := HST.out.own; rw [e] at h2; rw [h1] at h2; cases h2
    clear hds0 hs1 hl1 hr1 hc1 hb0 hg0
    go_wp2_with fail
    have hDn : o D = none := HLT.out.none (by omega)
    have hDl : D < W2.heap.size := (Array.getElem?_eq_some_iff.1 HD3.out).1
    have hDr := (HC1.out.alien hDl hDn).trans HD3.out
    have hD1 : o1 D = none := HC1.out.alien' hDl hDn
    have hsD : D ≠ sb := by rintro rfl; have := HST.out.own; rw [hDn] at this; cases this
    have hkl : k = (deadL d).length := HDL.out
    refine ⟨by simp, .inl ⟨D, _, rfl, run_takeDeferred ((heap_setCell_ne hsD _).trans hDr), ?_⟩⟩
    have hfin : StoreIn o1 (wr.setCell ⟨sb, 4, none⟩ (.int .i64 0)) sb (d1.cd d1.counts 0) s := HS1.out.setDead HL1.out 0
    have hcoll : CollRel d (d1.cd d1.counts 0) := (hkl ▸ HR1.out : DropRel d (deadL d).length d1).done HK.out.live (fun i hi => (HST.out.pool.tk_lt hi).2)
    have hfin2 : StoreAt o1 ((wr.setCell ⟨sb, 4, none⟩ (.int .i64 0)).putObj D (.deferred none)) sb (d1.cd d1.counts 0) :=
     StoreAt.keepR ⟨s, hfin⟩ (fun g r hg _ => World.putObj_heap_other (by rintro rfl; rw [hD1] at hg; cases hg)) (fun _ _ h => h)
    refine ⟨_, results_tmp rfl _ _ _, ?_, o1, _, hfin2, HL1.out.mono (by simp [World.setCell]), hcoll, ?_⟩
    ·
     show Ending.returned (.int .i64 ((goneL d (takenL d.pool)).length : Nat)) = _
     have : (goneL d (takenL d.pool)).length = d.dead := deadL_len HK.out.live
     rw [this]
    ·
     have hc := (Chg.of_below HS.out.low RStore o).trans (HC1.out.setCell (p := ⟨sb, 4, none⟩) (r := .store) HS1.out.own (.inl rfl) (.int .i64 0))
     exact ⟨hc.os, hc.tape, hc.output, by have := hc.size; simpa [World.setCell] using this, fun k hk hr => (World.putObj_heap_other (by omega)).trans (hc.block k hk hr), hc.ext, hc.new⟩
open Go.RowKit
structure ChgX (C : Nat → Prop) (o o' : Own) (w w' : World) : Prop where
 os : w'.os = w.os
 tape : w'.tape = w.tape
 output : w'.output = w.output
 size : w.heap.size ≤ w'.heap.size
 block : ∀ k, k < w.heap.size → o k = none → ¬ C k → w'.heap[k]? = w.heap[k]?
 ext : ∀ k r, o k = some r → o' k = some r
 new : ∀ k, o' k ≠ o k → w.heap.size ≤ k
abbrev NoB : Nat → Prop := fun _ => False
section
variable {C D : Nat → Prop} {R : Role → Prop} {o o' o'' : Own} {w w' w'' : World}
theorem ChgX.of_chg (h : Chg R o o' w w') (C : Nat → Prop) : ChgX C o o' w w' := ⟨h.os, h.tape, h.output, h.size, fun _ hk ho _ => h.alien hk ho, h.ext, fun k hk => (h.new k hk).1⟩
theorem ChgX.of_wr (h : Wr D w w') (o : Own) (hD : ∀ k, k < w.heap.size → D k → C k) : ChgX C o o w w' := ⟨h.os, h.tape, h.output, h.size, fun k hk _ hc => h.keep k hk (fun e => hc (hD k hk e)), fun _ _ h => h, fun _ h => (h rfl).elim⟩
theorem ChgX.of_below (h : Below w.heap.size w w') (o : Own) (C : Nat → Prop) : ChgX C o o w w' := ChgX.of_wr (Wr.of_below h NoB) o (fun _ _ h => h.elim)
theorem ChgX.none' (h : ChgX C o o' w w') {k : Nat} (hk : k < w.heap.size) (ho : o k = none) : o' k = none := by
 by_cases e : o' k = o k
 ·
  rw [e]; exact ho
 ·
  have := h.new k e; omega
theorem ChgX.trans (h : ChgX C o o' w w') (h' : ChgX D o' o'' w' w'') (hD : ∀ k, k < w.heap.size → D k → C k) : ChgX C o o'' w w'' := by
 refine ⟨h'.os.trans h.os, h'.tape.trans h.tape, h'.output.trans h.output, Nat.le_trans h.size h'.size, fun k hk ho hc => ?_, fun k r hr => h'.ext k r (h.ext k r hr), fun k hk => ?_⟩
 ·
  exact (h'.block k (Nat.lt_of_lt_of_le hk h.size) (h.none' hk ho) (fun e => hc (hD k hk e))).trans (h.block k hk ho hc)
 ·
  by_cases e : o' k = o k
  ·
   have := h'.new k (by rw [e]; exact hk); exact Nat.le_trans h.size this
  ·
   exact h.new k e
theorem ChgX.cell (h : ChgX C o o' w w') {p : Addr} {v : Value} (hc : w.cell? p = some v) (hb : o p.block = none) (hn : ¬ C p.block) : w'.cell? p = some v :=
 (World.cell?_of_block (w := w) (h.block p.block (World.block_lt_of_cell? w p hc) hb hn)).trans hc
theorem ChgX.below0 (h : ChgX NoB (fun _ => none) o w w') : Below w.heap.size w w' := ⟨h.os, h.tape, h.output, h.size, fun k hk => h.block k hk rfl (fun e => e)⟩
theorem ChgX.lower (h : ChgX C (fun _ => none) o w w') (h' : ChgX D o o' w' w'') (hD : ∀ k, D k → w.heap.size ≤ k) : ChgX C (fun _ => none) o' w w'' := h.trans h' (fun k hk e => by have := hD k e; omega)
end
structure StepX (C : Nat → Prop) (K : Law) (o : Own) (w : World) (mb : Nat) (m : ManD) (V : Nat → BF) (o' : Own) (w' : World) (m' : ManD) (V' : Nat → BF) : Prop where
 is : ManAt (K m'.d V') o' w' mb m'
 lt : OwnLt o' w'
 chg : ChgX C o o' w w'
 ok : StoreOK m'.d V'
 ext : Ext m.d V m'.d V'
 hs : m'.hs = m.hs
 next : m'.next = m.next
theorem Step.toX {K : Law} {o o' : Own} {w w' : World} {mb : Nat} {m m' : ManD} {V V' : Nat → BF} (h : Step K o w mb m V o' w' m' V') (C : Nat → Prop) : StepX C K o w mb m V o' w' m' V' := ⟨h.is, h.lt, ChgX.of_chg h.chg C, h.ok, h.ext, h.hs, h.next⟩
theorem handles_ext {m m' : ManD} {V V' : Nat → BF} (h : HandlesOK m) (ext : Ext m.d V m'.d V') (ok : StoreOK m'.d V') (e1 : m'.hs = m.hs) (e2 : m'.next = m.next) : HandlesOK m' := by
 refine ⟨by rw [e1]; exact h.nodup, by rw [e1]; exact h.zero, by rw [e1]; exact h.one, by rw [e1, e2]; exact h.lt, by rw [e2]; exact h.next, fun p hp => ?_, by rw [e1, e2]; exact h.len, fun i b hb => ?_⟩
 ·
  rw [e1] at hp; exact ext.ok (h.ok p hp)
 ·
  rw [e1]
  cases hn : nodesOf m.d i with
  | some b0 => rw [ext.ext i b0 hn]; exact h.refs i b0 hn
  | none =>
    rw [ext.ext0 i hn]
    have hi : i ≠ 0 := by rintro rfl; rw [ok.dag.none0] at hb; cases hb
    have : refsOf m.hs i = 0 := by
     unfold refsOf
     rw [List.length_eq_zero_iff, List.filter_eq_nil_iff]
     intro p hp
     have ho := h.ok p hp
     simp only [Bool.and_eq_true, decide_eq_true_eq, beq_iff_eq, not_and]
     rintro _ rfl
     rcases ho with h0 | ⟨b1, hb1⟩
     ·
      exact hi h0
     ·
      rw [hn] at hb1; cases hb1
    rw [this]; rfl
structure SatE (K : Law) (n : Nat) (Od : List Nat → Prop) (room : Nat) (w0 : World) (mb : Nat) (fs : List (Int × BF)) (nx : Int) (w : World) (o : Own) (m : ManD) (V : Nat → BF) : Prop where
 is : ManAt (K m.d V) o w mb m
 lt : OwnLt o w
 ok : ManOK m V
 vars : m.d.vars.length = n
 od : Od m.d.vars
 room : m.d.pool.room = room
 next : m.next = nx
 hs : m.hs.map (fun p => (p.1, ef V p.2)) = fs
 chg : ChgX NoB (fun _ => none) o w0 w
section
variable {K : Law} {n : Nat} {Od : List Nat → Prop} {room : Nat} {w0 w w' : World} {mb : Nat} {fs : List (Int × BF)} {nx : Int} {o o' : Own} {m m' : ManD} {V V' : Nat → BF}
theorem SatE.find (h : SatE K n Od room w0 mb fs nx w o m V) {k : Int} {F : BF} (hk : (k, F) ∈ fs) : ∃ f, (k, f) ∈ m.hs ∧ ef V f = F := by
 rw [← h.hs] at hk
 obtain ⟨p, hp, e⟩ := List.mem_map.1 hk
 cases e
 exact ⟨p.2, hp, rfl⟩
theorem SatE.none0 (h : SatE K n Od room w0 mb fs nx w o m V) {k : Nat} (hk : k < w0.heap.size) : o k = none := h.chg.none' hk rfl
theorem hs_ext {hs : List (Int × Nat)} {d : StoreD} (hok : ∀ p ∈ hs, okE (nodesOf d) p.2) (hv : ∀ i, (i = 0 ∨ ∃ b, nodesOf d i = some b) → V' i = V i) : hs.map (fun p => (p.1, ef V' p.2)) = hs.map (fun p => (p.1, ef V p.2)) := by
 refine List.map_congr_left fun p hp => ?_
 have e : ef V' p.2 = ef V p.2 := by
  funext ρ
  unfold ef
  rw [hv (p.2 / 2) (hok p hp)]
 rw [e]
theorem SatE.withOd {Od' : List Nat → Prop} (h : SatE K n Od room w0 mb fs nx w o m V) (hO : Od' m.d.vars) : SatE K n Od' room w0 mb fs nx w o m V :=
 ⟨h.is, h.lt, h.ok, h.vars, hO, h.room, h.next, h.hs, h.chg⟩
theorem SatE.step {C : Nat → Prop} (h : SatE K n Od room w0 mb fs nx w o m V) (s : StepX C K o w mb m V o' w' m' V') (hC : ∀ k, C k → w0.heap.size ≤ k) : SatE K n Od room w0 mb fs nx w' o' m' V' :=
 ⟨s.is, s.lt, ⟨s.ok, handles_ext h.ok.handles s.ext s.ok s.hs s.next⟩, by rw [s.ext.vars]; exact h.vars, by rw [s.ext.vars]; exact h.od, by rw [s.ext.room]; exact h.room, s.next.trans h.next,
  by rw [s.hs, hs_ext h.ok.handles.ok s.ext.val]; exact h.hs, h.chg.lower s.chg hC⟩
theorem SatE.other {C : Nat → Prop} (h : SatE K n Od room w0 mb fs nx w o m V) (hx : Wr C w w') (hC : ∀ k, k < w.heap.size → C k → w0.heap.size ≤ k ∧ o k = none) : SatE K n Od room w0 mb fs nx w' o m V := by
 obtain ⟨s, hm⟩ := h.is
 refine ⟨⟨s, hm.keep (fun g r hg => hx.keep g (h.lt g r hg) (fun e => ?_)) (fun _ _ h => h)⟩, h.lt.mono hx.size, h.ok, h.vars, h.od, h.room, h.next, h.hs, h.chg.trans (ChgX.of_wr (C := fun k => w0.heap.size ≤ k) hx o (fun k hk e => (hC k hk e).1)) (fun k hk e => by omega)⟩
 have := (hC g (h.lt g r hg) e).2
 rw [hg] at this; cases this
theorem SatE.below (h : SatE K n Od room w0 mb fs nx w o m V) (hb : Below w.heap.size w w') : SatE K n Od room w0 mb fs nx w' o m V := h.other (Wr.of_below hb NoB) (fun _ _ e => e.elim)
theorem SatE.gave (h : SatE K n Od room w0 mb fs nx w o m V) {r : Nat} (g : Gave K o w mb m V r o' w' m') : SatE K n Od room w0 mb (fs ++ [(nx, ef V r)]) (nx + 1) w' o' m' V :=
 ⟨g.is, g.lt, g.ok, by rw [g.vars]; exact h.vars, by rw [g.vars]; exact h.od, by rw [g.room]; exact h.room, by rw [g.next, h.next], by rw [g.hs, List.map_append, h.hs, ← h.next]; rfl, h.chg.lower (ChgX.of_chg g.chg NoB) (fun _ e => e.elim)⟩
theorem handles_coll {d' : StoreD} (h : HandlesOK m) (hk : StoreOK m.d V) (r : CollRel m.d d') : HandlesOK { m with d := d' } := by
 have hok : ∀ p ∈ m.hs, okE (nodesOf d') p.2 := by
  intro p hp
  rcases h.ok p hp with h0 | ⟨b, hb⟩
  ·
   exact .inl h0
  ·
   by_cases h1 : 1 < p.1
   ·
    refine .inr ⟨b, ?_⟩
    rw [r.nodes, if_pos]
    ·
     exact hb
    ·
     refine hk.live.cnt.pos_of_ext hb ?_
     rw [h.refs _ _ hb]
     have : 0 < refsOf m.hs (p.2 / 2) := by
      unfold refsOf
      refine List.length_pos_of_mem (List.mem_filter.2 ⟨hp, ?_⟩)
      simp [h1]
     omega
   ·
    refine .inl ?_
    have hlt := h.lt p hp
    have hu : ∀ q ∈ m.hs, q.1 = p.1 → q = p := by
     intro q hq e
     have hnd := h.nodup
     have h1 := getL_of_mem (l := encH m.hs) (encH_nodup hnd) (List.mem_map.2 ⟨q, hq, rfl⟩)
     have h2 := getL_of_mem (l := encH m.hs) (encH_nodup hnd) (List.mem_map.2 ⟨p, hp, rfl⟩)
     rw [e, h2] at h1
     have e2 : (p.2 : Int) = (q.2 : Int) := by injection h1 with h1; injection h1
     exact Prod.ext e (by omega)
    rcases (by omega : p.1 = 0 ∨ p.1 = 1) with e | e
    ·
     rw [← hu _ h.zero e.symm]; rfl
    ·
     rw [← hu _ h.one e.symm]; rfl
 exact ⟨h.nodup, h.zero, h.one, h.lt, h.next, hok, h.len, fun i b hb => by rw [r.ext i b hb]; exact h.refs i b (r.sub hb).1⟩
end
theorem wclear {K : Law} {n : Nat} {Od : List Nat → Prop} {room : Nat} {w0 w : World} {mb : Nat} {fs : List (Int × BF)} {nx : Int} {o : Own} {m : ManD} {V : Nat → BF} {s : ManW} (h : SatE K n Od room w0 mb fs nx w o m V) (hs : ManIn (K m.d V) o w mb m s) (G : Phi) :
 Calls Tryz.prog 99 #[.pointer (some ⟨s.me, 0, none⟩)] w fun x w' => x = .returned (.tuple #[]) ∧ ManIn G o w' mb m s ∧ Chg (· = .entries) o o w w' ∧ OwnLt o w' := by
 refine (clear_memo o s.me (K m.d V) G w hs.memo h.lt).mono ?_
 rintro x w' ⟨h1, h2, h3, h4⟩
 exact ⟨h1, hs.setMemo h.lt h2 (h3.mono fun r e => .inr e), h3, h4⟩
set_option maxRecDepth 100000 in
set_option maxHeartbeats 1000000 in
theorem manCollect_any {K : Law} {n : Nat} {Od : List Nat → Prop} {room : Nat} {w0 w : World} {mb : Nat} {fs : List (Int × BF)} {nx : Int} {o : Own} {m : ManD} {V : Nat → BF} (h : SatE K n Od room w0 mb fs nx w o m V) :
 Calls Tryz.prog 46 #[.pointer (some ⟨mb, 0, none⟩)] w fun x w' => x = .returned (.int .i64 m.d.dead) ∧ ∃ o' d', SatE K n Od room w0 mb fs nx w' o' { m with d := d' } V ∧ CollRel m.d d' ∧ Chg (fun _ => True) o o' w w' := by
 obtain ⟨s, hs⟩ := h.is
 obtain ⟨c0, c1, c2, c3, c4, c5, f0⟩ := cells6 hs.blk
 have HC : Hid (∀ w1, ManIn (fun _ _ _ _ _ => False) o w1 mb m s ∧ Chg (· = .entries) o o w w1 ∧ OwnLt o w1 → Calls Tryz.prog 101 #[.pointer (some ⟨s.sb, 0, none⟩)] w1 fun x w' => x = .returned (.int .i64 m.d.dead) ∧ ∃ o' d', SatE K n Od room w0 mb fs nx w' o' { m with d := d' } V ∧ CollRel m.d d' ∧ Chg (fun _ => True) o o' w w') := by
  refine Lib.hid ?_
  rintro w1 ⟨g1, g2, g3⟩
  have fin : ∀ o' w' d', ManIn (fun _ _ _ _ _ => False) o' w' mb { m with d := d' } s → OwnLt o' w' → CollRel m.d d' → Chg RStore o o' w1 w' → ∃ o' d', SatE K n Od room w0 mb fs nx w' o' { m with d := d' } V ∧ CollRel m.d d' ∧ Chg (fun _ => True) o o' w w' := by
   intro o' w' d' a1 a2 a3 a4
   have hc : Chg (fun _ => True) o o' w w' := g2.any.trans a4.any
   refine ⟨o', d', ⟨⟨s, a1.mono fun _ _ _ _ _ e => e.elim⟩, a2, ⟨a3.ok h.ok.store, handles_coll h.ok.handles h.ok.store a3⟩, by dsimp only; rw [a3.vars]; exact h.vars, by dsimp only; rw [a3.vars]; exact h.od, by dsimp only; rw [a3.room]; exact h.room, h.next, h.hs, h.chg.lower (ChgX.of_chg hc NoB) (fun _ e => e.elim)⟩, a3, hc⟩
  by_cases h0 : m.d.dead = 0
  ·
   refine (collect_early g1.store h0).mono ?_
   rintro x w' ⟨rfl, hb⟩
   exact ⟨by rw [h0]; rfl, fin o w' m.d (g1.below g3 hb) (g3.mono hb.size) (CollRel.none h.ok.store h0) (Chg.of_below hb _ _)⟩
  ·
   refine (collect_any g1.store g3 h.ok.store h0).mono ?_
   rintro x w' ⟨rfl, o', d', b1, b2, b3, b4⟩
   exact ⟨rfl, fin o' w' d' (g1.setStore g3 b1 b4) b2 b3 b4⟩
 have HCL := Lib.hid (wclear h hs (fun _ _ _ _ _ => False))
 clear h hs
 go_enter Tryz.func46, Tryz.ntmps46
 go_wp2_with fail
 refine HCL.out.mono ?_
 rintro x w1 ⟨rfl, g1, g2, g3⟩
 obtain ⟨d0, d1, d2, d3, d4, d5, f1⟩ := cells6 g1.blk
 have HC1 := Lib.hid (HC.out w1 ⟨g1, g2, g3⟩)
 clear g1 g2 g3 c0 c1 c2 c3 c4 c5 f0 HCL HC
 go_wp2_with fail
 refine HC1.out.mono ?_
 rintro x w2 ⟨rfl, hq⟩
 have HQ := Lib.hid hq
 clear hq
 go_wp2_with fail
 go_ret
 exact ⟨rfl, HQ.out⟩
open Go.RowKit
def OpG (K : Law) (n : Nat) (Od : List Nat → Prop) (room : Nat) (w0 : World) (mb : Nat) (fs : List (Int × BF)) (nx : Int) (C : Nat → Prop) (B : World → Prop) (St : List Ev → Int → Prop) (gop : Nat) (lop : Array Value) (Q : World → ManD → (Nat → BF) → Nat → Prop) (E : Int → ManD → ManD → Prop) : Prop :=
 ∀ (o : Own) (W : World) (m : ManD) (V : Nat → BF) (xb : Nat), SatE K n Od room w0 mb fs nx W o m V → B W → (∀ k, C k → k < W.heap.size ∧ o k = none) → St m.waits m.calls → CtxAt o W xb mb → ¬ C xb →
  Calls Tryz.prog gop (#[.pointer (some ⟨xb, 0, none⟩)] ++ lop) W fun e w' => ∃ (o' : Own) (m' : ManD) (V' : Nat → BF), StepX C K o W mb m V o' w' m' V' ∧ B w' ∧
   ((∃ r : Nat, e = .returned (.int .i64 r) ∧ okE (nodesOf m'.d) r ∧ Q w' m' V' r) ∨
    (∃ er : Int, e = stopP er false ev0 ∧ er ≠ 0 ∧ m'.waits = m.waits ∧ St m'.waits m'.calls ∧ E er m m') ∨
    (∃ ev, e = stopP 0 true ev ∧ m.waits = ev :: m'.waits ∧ St m'.waits m'.calls))
def HapG (K : Law) (n : Nat) (Od : List Nat → Prop) (room : Nat) (w0 : World) (mb : Nat) (fs : List (Int × BF)) (nx : Int) (ev : Ev) : Prop :=
 ∀ (o : Own) (W : World) (m : ManD) (V : Nat → BF), SatE K n Od room w0 mb fs nx W o m V → Calls Tryz.prog 122 #[.pointer (some ⟨mb, 0, none⟩), evA ev] W fun x w' => x = .returned (.tuple #[]) ∧
  ∃ o' m' V', SatE K n Od room w0 mb fs nx w' o' m' V' ∧ m'.waits = m.waits ∧ m'.calls = m.calls ∧ ChgX NoB o o' W w'
set_option maxRecDepth 100000 in
set_option maxHeartbeats 1000000 in
theorem do1_gen (gop : Nat) (lop : Array Value) (W : World) (xb ob fb : Nat) (R : Nat → World → Prop) (R2 : Int → Bool → Ev → World → Prop) (eg : ∀ args w, (callFunc gop args).run Tryz.prog w = .ok (.enter gop args) w)
 (hob : W.cell? ⟨ob, 0, none⟩ = some (.func (.func gop) #[] lop)) (hop : Calls Tryz.prog gop (#[.pointer (some ⟨xb, 0, none⟩)] ++ lop) W fun e w' => (∃ r : Nat, e = .returned (.int .i64 r) ∧ R r w' ∧ (∃ z : Int, w'.cell? ⟨fb, 0, none⟩ = some (.int .i64 z)) ∧ w'.frozen? ⟨fb, 0, none⟩ = false) ∨
  ∃ er evt ev, e = stopP er evt ev ∧ R2 er evt ev w') :
 Calls Tryz.prog 86 #[.pointer (some ⟨xb, 0, none⟩), .pointer (some ⟨ob, 0, none⟩), .pointer (some ⟨fb, 0, none⟩)] W fun e w' => (e = .returned (.tuple #[]) ∧ ∃ r w1, R r w1 ∧ w' = w1.setCell ⟨fb, 0, none⟩ (.int .i64 (r : Nat))) ∨ ∃ er evt ev, e = stopP er evt ev ∧ R2 er evt ev w' := by
 have HOP := Lib.hid hop
 clear hop
 go_enter Tryz.func86, Tryz.ntmps86
 go_wp2_with fail
 refine HOP.out.mono ?_
 rintro e w' (⟨r, rfl, hr, ⟨z, hc⟩, hf⟩ | ⟨er, evt, ev, rfl, hr⟩)
 ·
  have HR := Lib.hid hr
  clear hr
  go_wp2_with fail
  go_end0
  exact .inl ⟨rfl, r, w', HR.out, rfl⟩
 ·
  have HR := Lib.hid hr
  clear hr
  unfold stopP
  go_wp2_with fail
  exact ⟨rfl, .inr ⟨er, evt, ev, rfl, HR.out⟩⟩
structure RunI (K : Law) (n : Nat) (Od : List Nat → Prop) (room : Nat) (w0 : World) (mb : Nat) (fs : List (Int × BF)) (nx : Int) (C : Nat → Prop) (B : World → Prop) (St : List Ev → Int → Prop) (gop : Nat) (lop : Array Value) (o0 : Own) (w : World) (k : Nat) (full : Bool) (W : World) (o : Own) (m : ManD) (V : Nat → BF) : Prop where
 sat : SatE K n Od room w0 mb fs nx W o m V
 bok : B W
 st : St m.waits m.calls
 len : m.waits.length = k
 cok : ∀ c, C c → c < w.heap.size ∧ o c = none
 chg : ChgX C o0 o w W
 size : w.heap.size + 2 ≤ W.heap.size
 obn : o w.heap.size = none
 fbn : o (w.heap.size + 1) = none
 ob : W.heap[w.heap.size]? = some (.cells #[.func (.func gop) #[] lop] 54 (0, 0))
 fb : ∃ z : Int, W.heap[w.heap.size + 1]? = some (.cells #[.int .i64 z] 52 (0, 0))
 clean : full = true → m.d.dead = 0
def RunF (K : Law) (n : Nat) (Od : List Nat → Prop) (room : Nat) (w0 : World) (mb : Nat) (fs : List (Int × BF)) (nx : Int) (C : Nat → Prop) (B : World → Prop) (Q : World → ManD → (Nat → BF) → Nat → Prop) (E : Int → ManD → ManD → Prop) (o0 : Own) (w : World) (er : Int) (W : World) : Prop :=
 ∃ o m V, SatE K n Od room w0 mb fs nx W o m V ∧ B W ∧ ChgX C o0 o w W ∧ w.heap.size + 2 ≤ W.heap.size ∧ o (w.heap.size + 1) = none ∧
  ((er = 0 ∧ ∃ r : Nat, okE (nodesOf m.d) r ∧ Q W m V r ∧ W.heap[w.heap.size + 1]? = some (.cells #[.int .i64 r] 52 (0, 0))) ∨
   (er ≠ 0 ∧ ∃ m0 : ManD, E er m0 m ∧ (er = 7 → m0.d.dead = 0)))
theorem do_runG {K : Law} {n : Nat} {Od : List Nat → Prop} {room : Nat} {w0 : World} {mb : Nat} {fs : List (Int × BF)} {nx : Int} {C : Nat → Prop} {B : World → Prop} {St : List Ev → Int → Prop} {gop : Nat} {lop : Array Value} {Q : World → ManD → (Nat → BF) → Nat → Prop} {E : Int → ManD → ManD → Prop}
 (hB : ∀ W W', B W → (∀ c, C c → W'.heap[c]? = W.heap[c]?) → B W') (hQ : ∀ W W' m V r, Q W m V r → (∀ c, C c → W'.heap[c]? = W.heap[c]?) → Q W' m V r) (hC0 : ∀ c, C c → w0.heap.size ≤ c) (eg : ∀ args w, (callFunc gop args).run Tryz.prog w = .ok (.enter gop args) w)
 (hop : OpG K n Od room w0 mb fs nx C B St gop lop Q E) {o : Own} {w : World} {m : ManD} {V : Nat → BF} (h : SatE K n Od room w0 mb fs nx w o m V) (hb : B w) (hC : ∀ c, C c → c < w.heap.size ∧ o c = none) (hst : St m.waits m.calls) (hhap : ∀ ev ∈ m.waits, HapG K n Od room w0 mb fs nx ev) :
 Calls Tryz.prog 85 #[.pointer (some ⟨mb, 0, none⟩), .func (.func 86) #[] #[.pointer (some ⟨w.heap.size, 0, none⟩), .pointer (some ⟨w.heap.size + 1, 0, none⟩)]] (doW gop lop w) fun x w' => ∃ er, x = .returned (.int .i64 er) ∧ RunF K n Od room w0 mb fs nx C B Q E o w er w' := by
 have hz : (doW gop lop w).heap.size = w.heap.size + 2 := by simp [doW]
 have hbd : Below w.heap.size w (doW gop lop w) := (below_new1 w _).alloc (by simp) _
 have hfb : (doW gop lop w).heap[w.heap.size + 1]? = some (.cells #[.int .i64 0] 52 (0, 0)) := by
  have := heap_alloc_new (w.alloc (.cells #[.func (.func gop) #[] lop] 54)) (.cells #[.int .i64 0] 52)
  rw [World.size_alloc] at this; exact this
 have hob : (doW gop lop w).heap[w.heap.size]? = some (.cells #[.func (.func gop) #[] lop] 54 (0, 0)) := (Go.heap_alloc_old _ _ (by simp)).trans (heap_alloc_new w _)
 have hw0 := h.chg.size
 have hstart : RunI K n Od room w0 mb fs nx C B St gop lop o w m.waits.length false (doW gop lop w) o m V :=
  ⟨h.below hbd, hB _ _ hb (fun c hc => hbd.block c (hC c hc).1), hst, rfl, hC, ChgX.of_below hbd o C, by omega, h.lt.none (Nat.le_refl _), h.lt.none (by omega), hob, ⟨0, hfb⟩, by simp⟩
 have hother : ∀ {k full W W' o1 m1 V1}, RunI K n Od room w0 mb fs nx C B St gop lop o w k full W o1 m1 V1 → ∀ {s : Nat}, w.heap.size + 2 ≤ s → o1 s = none → o1 (s + 1) = none → Ali s W W' → RunI K n Od room w0 mb fs nx C B St gop lop o w k full W' o1 m1 V1 := by
  intro k full W W' o1 m1 V1 hi s hs n0 n1 a
  have hsz := hi.size
  have hk : ∀ k, k < w.heap.size + 2 → W'.heap[k]? = W.heap[k]? := fun k hk => a.keep k (by omega) (by omega)
  refine ⟨hi.sat.other a (fun k _ e => ?_), hB _ _ hi.bok (fun c hc => hk c (by have := (hi.cok c hc).1; omega)), hi.st, hi.len, hi.cok, hi.chg.trans (ChgX.of_wr (C := fun k => w.heap.size ≤ k) a o1 (fun k _ e => by omega)) (fun k hk e => by omega), Nat.le_trans hi.size a.size, hi.obn, hi.fbn, (hk _ (by omega)).trans hi.ob, ?_, hi.clean⟩
  ·
   rcases e with rfl | rfl
   ·
    exact ⟨by omega, n0⟩
   ·
    exact ⟨by omega, n1⟩
  ·
   obtain ⟨z, hz⟩ := hi.fb
   exact ⟨z, (hk _ (by omega)).trans hz⟩
 have hnext : ∀ {k full full' W W' o1 m1 V1 o2 m2 V2}, RunI K n Od room w0 mb fs nx C B St gop lop o w k full W o1 m1 V1 → SatE K n Od room w0 mb fs nx W' o2 m2 V2 → ChgX NoB o1 o2 W W' → m2.waits = m1.waits → m2.calls = m1.calls → (full' = true → m2.d.dead = 0) → RunI K n Od room w0 mb fs nx C B St gop lop o w k full' W' o2 m2 V2 := by
  intro k full full' W W' o1 m1 V1 o2 m2 V2 hi hsat hc e1 e2 e3
  have hsz := hi.size
  obtain ⟨z, hz⟩ := hi.fb
  exact ⟨hsat, hB _ _ hi.bok (fun c hc' => hc.block c (by have := (hi.cok c hc').1; omega) (hi.cok c hc').2 (fun e => e)), by rw [e1, e2]; exact hi.st, by rw [e1]; exact hi.len, fun c hc' => ⟨(hi.cok c hc').1, hc.none' (by have := (hi.cok c hc').1; omega) (hi.cok c hc').2⟩,
   hi.chg.trans hc (fun _ _ e => e.elim), Nat.le_trans hi.size hc.size, hc.none' (by omega) hi.obn, hc.none' (by omega) hi.fbn, (hc.block _ (by omega) hi.obn (fun e => e)).trans hi.ob, ⟨z, (hc.block _ (by omega) hi.fbn (fun e => e)).trans hz⟩, e3⟩
 refine run_any mb _ _ _ enters_do1 (fun k full W => ∃ o1 m1 V1, RunI K n Od room w0 mb fs nx C B St gop lop o w k full W o1 m1 V1 ∧ ∀ ev ∈ m1.waits, HapG K n Od room w0 mb fs nx ev) _ ?_ _ ⟨o, m, V, hstart, hhap⟩
 rintro k full W ⟨o1, m1, V1, hi, hh⟩
 have hsz := hi.size
 obtain ⟨s, hs⟩ : ∃ s, s = W.heap.size := ⟨_, rfl⟩
 refine ⟨fun st W1 => match st with
  | none => ∃ (o' : Own) (m' : ManD) (V' : Nat → BF) (r : Nat) (w1 : World), SatE K n Od room w0 mb fs nx w1 o' m' V' ∧ B w1 ∧ ChgX C o o' w w1 ∧ s + 3 ≤ w1.heap.size ∧ (∀ q, w.heap.size ≤ q → q < s + 3 → o1 q = none → o' q = none) ∧ (∃ z : Int, w1.heap[w.heap.size + 1]? = some (.cells #[.int .i64 z] 52 (0, 0))) ∧ okE (nodesOf m'.d) r ∧ Q w1 m' V' r ∧ W1 = w1.setCell ⟨w.heap.size + 1, 0, none⟩ (.int .i64 (r : Nat))
  | some (er, evt, ev) => ∃ (o' : Own) (m' : ManD) (V' : Nat → BF), RunI K n Od room w0 mb fs nx C B St gop lop o w m'.waits.length false W1 o' m' V' ∧ s + 3 ≤ W1.heap.size ∧ (∀ q, w.heap.size ≤ q → q < s + 3 → o1 q = none → o' q = none) ∧
   ((evt = false ∧ er ≠ 0 ∧ m'.waits = m1.waits ∧ E er m1 m') ∨ (evt = true ∧ m1.waits = ev :: m'.waits)), ?_, ?_, ?_, ?_, ?_⟩
 ·
  unfold TryOp
  have hbt : Below W.heap.size W (tryW mb W) := ((below_new1 _ _).alloc (by simp) _).alloc (by simp; omega) _
  have hzt : (tryW mb W).heap.size = W.heap.size + 3 := by unfold tryW; simp
  obtain ⟨T, hT⟩ : ∃ T, T = tryW mb W := ⟨_, rfl⟩
  have h1 : (tryW mb W).heap[W.heap.size + 2]? = some (.cells #[.pointer (some ⟨mb, 0, none⟩)] 114 (0, 0)) := by
   have := heap_alloc_new ((W.alloc (.cells #[.int .i64 0, .bool false, .int .i64 0, .int .i64 0, .int .i64 0] 116)).alloc (.cells #[.bool false] 4)) (.cells #[.pointer (some ⟨mb, 0, none⟩)] 114)
   rw [World.size_alloc, World.size_alloc] at this; exact this
  rw [← hT] at hbt hzt h1 ⊢
  clear hT
  have hsatT := hi.sat.below hbt
  have hcx : CtxAt o1 T (W.heap.size + 2) mb := ⟨cell1 h1, hi.sat.lt.none (by omega)⟩
  have hopT := hop o1 T m1 V1 (W.heap.size + 2) hsatT (hB _ _ hi.bok (fun c hc => hbt.block c (by have := (hi.cok c hc).1; omega))) (fun c hc => ⟨by have := (hi.cok c hc).1; omega, (hi.cok c hc).2⟩) hi.st hcx (fun e => by have := (hi.cok _ e).1; omega)
  have hobT := (hbt.block w.heap.size (by omega)).trans hi.ob
  obtain ⟨z, hz⟩ := hi.fb
  have hfbT := (hbt.block (w.heap.size + 1) (by omega)).trans hz
  have hC' : ∀ q, w.heap.size ≤ q → ¬ C q := fun q hq e => by have := (hi.cok q e).1; omega
  have hkeep : ∀ {o' : Own} {w1 : World}, ChgX C o1 o' T w1 → ∀ q, w.heap.size ≤ q → q < s + 3 → o1 q = none → w1.heap[q]? = T.heap[q]? := fun hc q h1 h2 h3 => hc.block q (by omega) h3 (hC' q h1)
  refine (do1_gen gop lop T (W.heap.size + 2) w.heap.size (w.heap.size + 1) (fun r w1 => ∃ o' m' V', StepX C K o1 T mb m1 V1 o' w1 m' V' ∧ B w1 ∧ okE (nodesOf m'.d) r ∧ Q w1 m' V' r)
   (fun er evt ev w1 => ∃ o' m' V', StepX C K o1 T mb m1 V1 o' w1 m' V' ∧ B w1 ∧ St m'.waits m'.calls ∧ ((evt = false ∧ er ≠ 0 ∧ m'.waits = m1.waits ∧ E er m1 m') ∨ (evt = true ∧ m1.waits = ev :: m'.waits))) eg (cell1 hobT) (hopT.mono ?_)).mono ?_
  ·
   rintro e w1 ⟨o', m', V', st, b1, (⟨r, rfl, q1, q2⟩ | ⟨er, rfl, q1, q2, q3, q4⟩ | ⟨ev, rfl, q1, q2⟩)⟩
   ·
    have hf := (hkeep st.chg (w.heap.size + 1) (by omega) (by omega) hi.fbn).trans hfbT
    exact .inl ⟨r, rfl, ⟨o', m', V', st, b1, q1, q2⟩, ⟨z, cell1 hf⟩, by simp [World.frozen?, hf]⟩
   ·
    exact .inr ⟨er, false, ev0, rfl, o', m', V', st, b1, q3, .inl ⟨rfl, q1, q2, q4⟩⟩
   ·
    exact .inr ⟨0, true, ev, rfl, o', m', V', st, b1, q2, .inr ⟨rfl, q1⟩⟩
  ·
   have n0 : o1 W.heap.size = none := hi.sat.lt.none (Nat.le_refl _)
   have n1 : o1 (W.heap.size + 1) = none := hi.sat.lt.none (by omega)
   rintro e W' (⟨rfl, r, w1, ⟨o', m', V', st, b1, q1, q2⟩, rfl⟩ | ⟨er, evt, ev, rfl, o', m', V', st, b1, b2, q⟩)
   ·
    have hf := (hkeep st.chg (w.heap.size + 1) (by omega) (by omega) hi.fbn).trans hfbT
    have hsz1 := st.chg.size
    refine ⟨by simp [World.setCell]; omega, ?_, ?_, .inl ⟨rfl, o', m', V', r, w1, hsatT.step st hC0, b1, (hi.chg.trans (ChgX.of_below hbt o1 C) (fun _ _ e => e)).trans st.chg (fun _ _ e => e), by omega, fun q _ h2 h3 => st.chg.none' (by omega) h3, ⟨z, hf⟩, q1, q2, rfl⟩⟩
    ·
     exact (heap_setCell_ne (by show _ ≠ w.heap.size + 1; omega) _).trans (hkeep st.chg _ (by omega) (by omega) n0)
    ·
     exact (heap_setCell_ne (by show _ ≠ w.heap.size + 1; omega) _).trans (hkeep st.chg _ (by omega) (by omega) n1)
   ·
    have hsz1 := st.chg.size
    have hc1 := (hi.chg.trans (ChgX.of_below hbt o1 C) (fun _ _ e => e)).trans st.chg (fun _ _ e => e)
    refine ⟨by omega, hkeep st.chg _ (by omega) (by omega) n0, hkeep st.chg _ (by omega) (by omega) n1, .inr ⟨er, evt, ev, rfl, o', m', V', ?_, by omega, fun q _ h2 h3 => st.chg.none' (by omega) h3, q⟩⟩
    exact ⟨hsatT.step st hC0, b1, b2, rfl, fun c hc => ⟨(hi.cok c hc).1, st.chg.none' (by have := (hi.cok c hc).1; omega) (hi.cok c hc).2⟩, hc1, by omega, st.chg.none' (by omega) hi.obn, st.chg.none' (by omega) hi.fbn,
     (hkeep st.chg _ (by omega) (by omega) hi.obn).trans hobT, ⟨z, (hkeep st.chg (w.heap.size + 1) (by omega) (by omega) hi.fbn).trans hfbT⟩, by simp⟩
 ·
  rintro W1 W2 ⟨o', m', V', r, w1, a1, a2, a3, a4, a5, ⟨z, a6⟩, a7, a8, rfl⟩ al
  have hwr : Wr (fun k => k = w.heap.size + 1 ∨ k = s ∨ k = s + 1) w1 W2 := Wr.trans ((Wr.refl (fun k => k = w.heap.size + 1) w1).setCell (p := ⟨w.heap.size + 1, 0, none⟩) (.inl rfl) _) al (fun k _ e => .inl e) (fun k _ e => .inr (by rw [hs]; exact e))
  have n0 : o' s = none := a5 s (by omega) (by omega) (by rw [hs]; exact hi.sat.lt.none (Nat.le_refl _))
  have n1 : o' (s + 1) = none := a5 (s + 1) (by omega) (by omega) (by rw [hs]; exact hi.sat.lt.none (by omega))
  have nf : o' (w.heap.size + 1) = none := a5 _ (by omega) (by omega) hi.fbn
  have hf := (al.keep (w.heap.size + 1) (by simp [World.setCell]; omega) (by omega)).trans (heap_setCell_same a6 _)
  refine ⟨o', m', V', a1.other hwr (fun k _ e => ?_), hB _ _ a2 (fun c hc => hwr.keep c (by have := (hi.cok c hc).1; omega) (by have := (hi.cok c hc).1; omega)), a3.trans (ChgX.of_wr (C := fun k => w.heap.size ≤ k) hwr o' (fun k _ e => by omega)) (fun k hk e => by omega), by have := hwr.size; omega, nf, .inl ⟨rfl, r, a7, hQ _ _ _ _ _ a8 (fun c hc => hwr.keep c (by have := (hi.cok c hc).1; omega) (by have := (hi.cok c hc).1; omega)), hf⟩⟩
  rcases e with rfl | rfl | rfl
  ·
   exact ⟨by omega, nf⟩
  ·
   exact ⟨by omega, n0⟩
  ·
   exact ⟨by omega, n1⟩
 ·
  rintro er ev W1 W2 ⟨o', m', V', hi', a4, a5, (⟨h1, _⟩ | ⟨_, hev⟩)⟩ al
  ·
   cases h1
  rw [← hs] at al
  have n0 : o' s = none := a5 s (by omega) (by omega) (by rw [hs]; exact hi.sat.lt.none (Nat.le_refl _))
  have n1 : o' (s + 1) = none := a5 (s + 1) (by omega) (by omega) (by rw [hs]; exact hi.sat.lt.none (by omega))
  have hi2 := hother hi' (by omega) n0 n1 al
  refine (hh ev (by rw [hev]; simp) o' W2 m' V' hi2.sat).mono ?_
  rintro x w' ⟨rfl, o2, m2, V2, g1, g2, g3, g4⟩
  refine ⟨rfl, m'.waits.length, by rw [← hi.len, hev]; simp, o2, m2, V2, hnext hi2 g1 g4 g2 g3 (by simp), fun ev' he => hh ev' (by rw [g2] at he; rw [hev]; exact List.mem_cons_of_mem _ he)⟩
 ·
  rintro ev W1 W2 ⟨o', m', V', hi', a4, a5, (⟨_, _, hw, _⟩ | ⟨h1, _⟩)⟩ al hfull
  ·
   rw [← hs] at al
   have n0 : o' s = none := a5 s (by omega) (by omega) (by rw [hs]; exact hi.sat.lt.none (Nat.le_refl _))
   have n1 : o' (s + 1) = none := a5 (s + 1) (by omega) (by omega) (by rw [hs]; exact hi.sat.lt.none (by omega))
   have hi2 := hother hi' (by omega) n0 n1 al
   refine (manCollect_any hi2.sat).mono ?_
   rintro x w' ⟨rfl, o2, d2, g1, g2, g3⟩
   have hi3 := hnext (full' := true) hi2 g1 (ChgX.of_chg g3 NoB) rfl rfl (fun _ => g2.dead)
   rw [hw, hi.len] at hi3
   exact ⟨⟨_, rfl⟩, o2, _, V', hi3, fun ev' he => hh ev' (by first | exact he | (rw [← hw]; exact he))⟩
  ·
   cases h1
 ·
  rintro er ev W1 W2 ⟨o', m', V', hi', a4, a5, (⟨_, h0, hw, hE⟩ | ⟨h1, _⟩)⟩ al hne
  ·
   rw [← hs] at al
   have n0 : o' s = none := a5 s (by omega) (by omega) (by rw [hs]; exact hi.sat.lt.none (Nat.le_refl _))
   have n1 : o' (s + 1) = none := a5 (s + 1) (by omega) (by omega) (by rw [hs]; exact hi.sat.lt.none (by omega))
   have hi2 := hother hi' (by omega) n0 n1 al
   refine ⟨o', m', V', hi2.sat, hi2.bok, hi2.chg, hi2.size, hi2.fbn, .inr ⟨h0, m1, hE, fun e7 => hi.clean ?_⟩⟩
   cases full with
   | true => rfl
   | false => exact (hne ⟨e7, rfl⟩).elim
  ·
   cases h1
def DoPost (K : Law) (n : Nat) (Od : List Nat → Prop) (room : Nat) (w0 : World) (mb : Nat) (fs : List (Int × BF)) (nx : Int) (C : Nat → Prop) (B : World → Prop) (Q : World → ManD → (Nat → BF) → Nat → Prop) (E : Int → ManD → ManD → Prop) (o : Own) (w : World) (x : Ending) (w' : World) : Prop :=
 ∃ o' m' V', B w' ∧ ChgX C o o' w w' ∧
  ((∃ r m1, x = .returned (.tuple #[.int .i64 nx, .int .i64 0]) ∧ SatE K n Od room w0 mb (fs ++ [(nx, ef V' r)]) (nx + 1) w' o' m' V' ∧ Q w' m1 V' r ∧ okE (nodesOf m1.d) r ∧ nodesOf m'.d = nodesOf m1.d ∧ m'.d.vars = m1.d.vars ∧ m'.d.level = m1.d.level ∧ m'.d.pool.many = m1.d.pool.many ∧ m'.waits = m1.waits ∧ m'.calls = m1.calls) ∨
   (∃ er m0, er ≠ 0 ∧ x = .returned (.tuple #[.int .i64 0, .int .i64 er]) ∧ SatE K n Od room w0 mb fs nx w' o' m' V' ∧ E er m0 m' ∧ (er = 7 → m0.d.dead = 0)))
set_option maxRecDepth 100000 in
set_option maxHeartbeats 2000000 in
theorem do_gen {K : Law} (hK : LawOK K) {n : Nat} {Od : List Nat → Prop} {room : Nat} {w0 : World} {mb : Nat} {fs : List (Int × BF)} {nx : Int} {C : Nat → Prop} {B : World → Prop} {St : List Ev → Int → Prop} {gop : Nat} {lop : Array Value} {Q : World → ManD → (Nat → BF) → Nat → Prop} {E : Int → ManD → ManD → Prop}
 (hB : ∀ W W', B W → (∀ c, C c → W'.heap[c]? = W.heap[c]?) → B W') (hQ : ∀ W W' m V r, Q W m V r → (∀ c, C c → W'.heap[c]? = W.heap[c]?) → Q W' m V r) (hC0 : ∀ c, C c → w0.heap.size ≤ c) (eg : ∀ args w, (callFunc gop args).run Tryz.prog w = .ok (.enter gop args) w)
 (hop : OpG K n Od room w0 mb fs nx C B St gop lop Q E) {o : Own} {w : World} {m : ManD} {V : Nat → BF} (h : SatE K n Od room w0 mb fs nx w o m V) (hb : B w) (hC : ∀ c, C c → c < w.heap.size ∧ o c = none) (hst : St m.waits m.calls) (hhap : ∀ ev ∈ m.waits, HapG K n Od room w0 mb fs nx ev) (hn : nx < 1099511627776) :
 Calls Tryz.prog 24 #[.pointer (some ⟨mb, 0, none⟩), .func (.func gop) #[] lop] w (DoPost K n Od room w0 mb fs nx C B Q E o w) := by
 have hmf : ∀ (fn : Fn) (first cap : Array Value) (w : World), (Instr.makeFunc fn first cap).run Tryz.prog w = .ok (.func fn first cap) w := fun _ _ _ _ => rfl
 have HRUN := Lib.hid (do_runG hB hQ hC0 eg hop h hb hC hst hhap)
 have HLAW := Lib.hid hK
 have HHB := Lib.hid hB
 have HHQ := Lib.hid hQ
 have HNX := Lib.hid hn
 have HCOK := Lib.hid hC
 have hnf := eqNilF (w.alloc (.cells #[.func (.func gop) #[] lop] 54)) (.func gop) #[] lop
 have HW : Hid ((w.alloc (.cells #[.func (.func gop) #[] lop] 54)).alloc (.cells #[.int .i64 0] 52) = doW gop lop w) := Lib.hid rfl
 clear h hb hK hB hQ hC0 hop hC hst hhap hn
 go_enter Tryz.func24, Tryz.ntmps24
 go_wp2_with fail
 rw [HW.out]
 refine HRUN.out.mono ?_
 rintro x w1 ⟨er, rfl, o1, m1, V1, sat, b1, hc1, hsz1, hnf1, (⟨rfl, r, hr, hq, hcf0⟩ | ⟨h0, m0, hE, h7⟩)⟩
 rotate_left
 ·
  have HF : Hid (DoPost K n Od room w0 mb fs nx C B Q E o w (.returned (.tuple #[.int .i64 0, .int .i64 er])) w1) := Lib.hid ⟨o1, m1, V1, b1, hc1, .inr ⟨er, m0, h0, rfl, sat, hE, h7⟩⟩
  have h00 : (er == 0) = false := by simpa using h0
  clear h0 hE h7 sat b1 hc1 hsz1 hnf1 HRUN HW
  go_wp2_with fail
  go_ret2
  exact HF.out
 have hcf := cell1 hcf0
 obtain ⟨s1, hm1⟩ := sat.is
 obtain ⟨c0, c1, c2, c3, c4, c5, f0⟩ := cells6 hm1.blk
 obtain ⟨ss, hss⟩ := hm1.store
 have hrlt : r < eMax := by have := hss.edge_lt hr; unfold eMax; omega
 have HIS : Hid (Calls Tryz.prog 87 #[.pointer (some ⟨s1.sb, 0, none⟩), .int .i64 r] w1.drew fun x w' => x = .returned (.bool true) ∧ Below w1.heap.size w1 w') := by
  have h1 := storeIs_any (hss.below sat.lt (below_draw w1 1)) (sat.lt.mono (below_draw w1 1).size) r hrlt
  rw [is_eq hr] at h1
  exact Lib.hid (h1.mono fun x w' ⟨a, b⟩ => ⟨a, belowOf (n := 1) b⟩)
 have HST := Lib.hid sat
 have HR := Lib.hid hr
 have HQ := Lib.hid hq
 have HB1 := Lib.hid b1
 have HC1 := Lib.hid hc1
 have HN1 := Lib.hid hnf1
 have lmb : mb < w1.heap.size := lt_of_cell c0
 have lfb : w.heap.size + 1 < w1.heap.size := lt_of_cell hcf
 clear sat hm1 hss hr hq b1 hc1 hnf1 hsz1 HRUN HW
 go_upto_region 9 with fail
 refine wp_region_left (fun W : World => Below w1.heap.size w1 W) 7 (by kernel_rfl) (below_draw w1 1) ?_
 refine left_readE 0 rfl rfl (by kernel_rfl) ?_
 apply Exists.intro
 refine ⟨fun w' hw => ?_, ?_⟩
 ·
  have q1 := (hw.cell (p := ⟨mb, 0, none⟩) lmb).trans c0
  have q2 := (hw.cell (p := ⟨w.heap.size + 1, 0, none⟩) lfb).trans hcf
  go_simp
  rfl
 simp only [putLz]
 refine left_readE 1 rfl rfl (by kernel_rfl) ?_
 apply Exists.intro
 refine ⟨fun w' hw => ?_, ?_⟩
 ·
  have q1 := (hw.cell (p := ⟨mb, 0, none⟩) lmb).trans c0
  have q2 := (hw.cell (p := ⟨w.heap.size + 1, 0, none⟩) lfb).trans hcf
  go_simp
  rfl
 simp only [putLz]
 refine left_readE 2 rfl rfl (by kernel_rfl) ?_
 apply Exists.intro
 refine ⟨fun w' hw => ?_, ?_⟩
 ·
  have q1 := (hw.cell (p := ⟨mb, 0, none⟩) lmb).trans c0
  have q2 := (hw.cell (p := ⟨w.heap.size + 1, 0, none⟩) lfb).trans hcf
  go_simp
  rfl
 simp only [putLz]
 refine left_readE 3 rfl rfl (by kernel_rfl) ?_
 apply Exists.intro
 refine ⟨fun w' hw => ?_, ?_⟩
 ·
  have q1 := (hw.cell (p := ⟨mb, 0, none⟩) lmb).trans c0
  have q2 := (hw.cell (p := ⟨w.heap.size + 1, 0, none⟩) lfb).trans hcf
  go_simp
  rfl
 simp only [putLz]
 refine left_readE 4 rfl rfl (by kernel_rfl) ?_
 apply Exists.intro
 refine ⟨fun w' hw => ?_, ?_⟩
 ·
  have q1 := (hw.cell (p := ⟨mb, 0, none⟩) lmb).trans c0
  have q2 := (hw.cell (p := ⟨w.heap.size + 1, 0, none⟩) lfb).trans hcf
  go_simp
  rfl
 simp only [putLz]
 refine left_alts [5] (by kernel_rfl) (fun i hi hS o ho => ?_)
 simp only [memLz] at hi
 subst hi
 simp only [altLz] at ho
 subst ho
 refine ⟨rfl, ?_⟩
 refine oper_call (v := .bool true) (R := fun w' => Below w1.heap.size w1 w') (by go_simp) HIS.out ?_
 rintro w2 hb2
 refine ⟨hb2, ?_⟩
 simp only [putLz]
 have hcf2 := (hb2.cell (p := ⟨w.heap.size + 1, 0, none⟩) lfb).trans hcf
 have d0 := (hb2.cell (p := ⟨mb, 0, none⟩) lmb).trans c0
 have HST2 := Lib.hid (HST.out.below hb2)
 refine left_readE 6 rfl rfl (by kernel_rfl) ?_
 apply Exists.intro
 refine ⟨fun w' hw => ?_, ?_⟩
 ·
  have q1 := (hw.cell (p := ⟨mb, 0, none⟩) lmb).trans c0
  have q2 := (hw.cell (p := ⟨w.heap.size + 1, 0, none⟩) lfb).trans hcf
  go_simp
  rfl
 simp only [putLz]
 have hb2' := hb2
 clear c0 c1 c2 c3 c4 c5 f0 hcf hcf0 hb2
 refine left_end (by kernel_rfl) ?_
 have HG := Lib.hid (give_any HLAW.out HST2.out.is HST2.out.lt HST2.out.ok r HR.out (by rw [HST2.out.next]; exact HNX.out))
 have HB2 := Lib.hid hb2'
 clear hb2'
 go_wp2_with fail
 refine HG.out.mono ?_
 rintro x w3 ⟨rfl, o3, m3, hg⟩
 have HGV := Lib.hid hg
 have HNX : Hid (m1.next = nx) := Lib.hid HST2.out.next
 clear hg
 go_wp2_with fail
 go_ret2
 have hlt2 := HST2.out.lt
 have hkc : ∀ c, C c → w3.heap[c]? = w1.heap[c]? := fun c hc => by
  have h1 := (HCOK.out c hc).1
  have h2 := HC1.out.size
  have h3 := HB2.out.size
  exact (HGV.out.chg.alien (by omega) (HC1.out.none' h1 (HCOK.out c hc).2)).trans (HB2.out.block c (by omega))
 refine ⟨o3, m3, V1, HHB.out _ _ HB1.out hkc, (HC1.out.trans (ChgX.of_below HB2.out o1 C) (fun _ _ e => e)).trans (ChgX.of_chg HGV.out.chg C) (fun _ _ e => e), .inl ⟨r, m1, by rw [← HNX.out]; rfl, HST2.out.gave HGV.out, HHQ.out _ _ _ _ _ HQ.out hkc, HR.out, HGV.out.nodes, HGV.out.vars, HGV.out.level, HGV.out.many, HGV.out.waits, HGV.out.calls⟩⟩
open Go.RowKit
section
variable {P : Program} {S : World → Prop} {Q : Exit → Act → World → Prop} {R : List PanicEntry → World → Prop} {m : Nat}
def PP (R : List PanicEntry → World → Prop) (Q : Exit → Act → World → Prop) : Exit → Act → World → Prop
 | .panic c, a, w => a.defers = [] ∧ R c w
 | e, a, w => Q e a w
theorem put_defers (a : Act) (d : Option Nat) (v : Value) : (a.put d v).defers = a.defers := by cases d <;> rfl
theorem pp_put (c : List PanicEntry) (a : Act) (d : Option Nat) (v : Value) (w : World) (h : PP R Q (.panic c) (a.put d v) w) : PP R Q (.panic c) a w := ⟨(put_defers a d v).symm.trans h.1, h.2⟩
theorem wp_of_pp {s : Code} {a : Act} {w : World} (hR : ∀ c (a : Act) w, a.defers = [] → R c w → Q (.panic c) a w) (h : s.wp P (PP R Q) a w) : s.wp P Q a w :=
 Code.wp_mono (fun e a w h => by cases e <;> first | exact h | exact hR _ _ _ h.1 h.2) h
structure LeftP (P : Program) (l : List Oper) (Q : Exit → Act → World → Prop) (R : List PanicEntry → World → Prop) (S : World → Prop) (m f : Nat) (L : Array Bool) (a : Act) (w : World) : Prop where
 goes : Closed l.toArray L → S w → wpAnyS P l.toArray (PP R Q) S m f L a w
theorem wp_region_leftP {id : Nat} {a : Act} {w : World} {l : List Oper} (S : World → Prop) (R : List PanicEntry → World → Prop) (m : Nat) (hR : ∀ c (a : Act) w, a.defers = [] → R c w → Q (.panic c) a w) (hm : P.follows .mixedOrders = true) (hS : S w.drew)
 (h : LeftP P l Q R S m l.length (Array.replicate l.toArray.size false) a w.drew) : (Code.region id l.toArray true).wp P Q a w :=
 wp_of_pp hR (wp_region_any hm (wpAny_of_S _ _ _ _ (h.goes (closed_start _) hS)))
theorem left_readP {l : List Oper} {f : Nat} {L : Array Bool} {a : Act} {w : World} (i : Nat) (o : Oper) (v : Value) (hi : l[i]? = some o)
 (hB : (Region.noSelect l.toArray && (Region.ready .any l.toArray L).contains i && Region.free .any l.toArray L i && (decide (l.toArray.size ≤ m) || reaches l.toArray l.toArray.size i m)) = true)
 (hy : ∀ w, S w → YieldsIf P l.toArray S o v a) (h : LeftP P l Q R S m f (L.setIfInBounds i true) (a.put o.dst v) w) : LeftP P l Q R S m (f + 1) L a w := by
 refine ⟨fun hc hS => ?_⟩
 simp only [Bool.and_eq_true] at hB
 obtain ⟨⟨⟨hs, hr⟩, hf⟩, hm⟩ := hB
 have hi' : l.toArray[i]? = some o := by simpa using hi
 have hr' : i ∈ Region.ready .any l.toArray L := by simpa using hr
 exact wpAnyS_first hi' hs pp_put hm f L a w hc (Region.free_spec hi' hf) hr' (hy w hS) hS (h.goes (hc.set hr') hS)
theorem left_readEP {l : List Oper} {f : Nat} {L : Array Bool} {a : Act} {w : World} (i : Nat) {o : Oper} (hi : l[i]? = some o) (hg : o.guard = none)
 (hB : (Region.noSelect l.toArray && (Region.ready .any l.toArray L).contains i && Region.free .any l.toArray L i && (decide (l.toArray.size ≤ m) || reaches l.toArray l.toArray.size i m)) = true)
 (h : ∃ v, (∀ w, S w → (execOp a.eval o).run P w = .ok (.value v) w) ∧ LeftP P l Q R S m f (L.setIfInBounds i true) (a.put o.dst v) w) : LeftP P l Q R S m (f + 1) L a w := by
 obtain ⟨v, h1, h2⟩ := h
 exact left_readP i o v hi hB (fun w _ => .inl ⟨by simp [Region.wanted, hg], h1⟩) h2
theorem left_altsP {l : List Oper} {f : Nat} {L : Array Bool} {a : Act} {w : World} (is : List Nat) (hr : (decide (Region.ready .any l.toArray L = is) && !is.isEmpty) = true)
 (h : ∀ i ∈ is, S w → ∀ o, l[i]? = some o → Region.wanted o (yielded l.toArray a.tmps) = true ∧ o.wp P a w (fun a' w' => S w' ∧ LeftP P l Q R S m f (L.setIfInBounds i true) a' w') (PP R Q)) : LeftP P l Q R S m (f + 1) L a w := by
 refine ⟨fun hc hS => ?_⟩
 simp only [Bool.and_eq_true, decide_eq_true_eq] at hr
 obtain ⟨hr, hne⟩ := hr
 refine ⟨fun h0 => (by rw [h0] at hr; subst hr; simp at hne), fun i hi => ?_⟩
 have hi2 : i ∈ is := by rw [← hr]; exact hi
 obtain ⟨_, o, ho, _⟩ := mem_ready.1 hi
 obtain ⟨hw, hwp⟩ := h i hi2 hS o (by simpa using ho)
 unfold wpOp
 rw [ho]
 simp only [hw, if_true]
 left
 refine Oper.wp_mono ?_ hwp
 intro a' w' ⟨h1, h2⟩
 exact ⟨.inr h1, h2.goes (hc.set hi) h1⟩
theorem left_endP {l : List Oper} {L : Array Bool} {a : Act} {w : World} (hr : (Region.ready .any l.toArray L).isEmpty = true) (h : Q .normal a w) : LeftP P l Q R S m 0 L a w :=
 ⟨fun _ _ => ⟨by simpa [List.isEmpty_iff] using hr, h⟩⟩
end
open Go.RowKit
theorem oper_callP {P : Program} {o : Oper} {a : Act} {w : World} {K : Act → World → Prop} {Q : Exit → Act → World → Prop} {f : FuncId} {args : Array Value} {R : Value → World → Prop} {R2 : List PanicEntry → World → Prop} (he : (execOp a.eval o).run P w = .ok (.enter f args) w)
 (hc : Calls P f args w fun e w' => (∃ v, e = .returned v ∧ R v w') ∨ (∃ ch, e = .panicked ch ∧ R2 ch w')) (h : ∀ v w', R v w' → K (a.put o.dst v) w') (h2 : ∀ ch w', R2 ch w' → Q (.panic ch) a w') : o.wp P a w K Q := by
 unfold Oper.wp
 simp only [he, Oper.upon]
 refine hc.mono fun e w' hh => ?_
 rcases hh with ⟨v, h1, h3⟩ | ⟨ch, h1, h3⟩
 ·
  subst h1; exact h v w' h3
 ·
  subst h1; exact h2 ch w' h3
abbrev C3 (bf bg bh : Nat) : Nat → Prop := fun k => k = bf ∨ k = bg ∨ k = bh
structure B3 (bf bg bh : Nat) (kf kg kh : Int) (W : World) : Prop where
 f : W.cell? ⟨bf, 0, none⟩ = some (.int .i64 kf)
 g : W.cell? ⟨bg, 0, none⟩ = some (.int .i64 kg)
 h : W.cell? ⟨bh, 0, none⟩ = some (.int .i64 kh)
theorem B3.keep {bf bg bh : Nat} {kf kg kh : Int} (W W' : World) (h : B3 bf bg bh kf kg kh W) (hk : ∀ c, C3 bf bg bh c → W'.heap[c]? = W.heap[c]?) : B3 bf bg bh kf kg kh W' :=
 ⟨(World.cell?_of_block (w := W) (a := ⟨bf, 0, none⟩) (hk _ (.inl rfl))).trans h.f, (World.cell?_of_block (w := W) (a := ⟨bg, 0, none⟩) (hk _ (.inr (.inl rfl)))).trans h.g, (World.cell?_of_block (w := W) (a := ⟨bh, 0, none⟩) (hk _ (.inr (.inr rfl)))).trans h.h⟩
def iteFn (F G H : BF) : BF := fun ρ => iteB (F ρ) (G ρ) (H ρ)
def SatX (K : Law) (n : Nat) (Od : List Nat → Prop) (room : Nat) (w0 : World) (mb : Nat) (fs : List (Int × BF)) (nx : Int) (m : ManD) : Prop := ∃ W o V, SatE K n Od room w0 mb fs nx W o m V
def QF (ws0 : List Ev) (F : BF) (_ : World) (m' : ManD) (V' : Nat → BF) (r : Nat) : Prop := ef V' r = F ∧ m'.waits <:+ ws0
def EF (A : ManD → Prop) (k : Nat) (ws0 : List Ev) (er : Int) (m m' : ManD) : Prop := er = 7 ∧ A m ∧ m'.d.pool.many = m'.d.pool.room ∧ m'.d.pool.many + 1 ≤ m.d.pool.many + k ∧ m'.waits <:+ ws0
abbrev SuffOf (ws0 : List Ev) (ws : List Ev) (_ : Int) : Prop := ws <:+ ws0
set_option maxRecDepth 100000 in
set_option maxHeartbeats 1000000 in
theorem ite1_gen {K : Law} (hK : LawOK K) {n : Nat} {Od : List Nat → Prop} {room : Nat} {w0 : World} {mb : Nat} {fs : List (Int × BF)} {nx : Int} (ws0 : List Ev) (bf bg bh : Nat) {kf kg kh : Int} {F G H : BF} (hf : (kf, F) ∈ fs) (hg : (kg, G) ∈ fs) (hh : (kh, H) ∈ fs) :
 OpG K n Od room w0 mb fs nx (C3 bf bg bh) (B3 bf bg bh kf kg kh) (SuffOf ws0) 80 #[.pointer (some ⟨bf, 0, none⟩), .pointer (some ⟨bg, 0, none⟩), .pointer (some ⟨bh, 0, none⟩)] (QF ws0 (iteFn F G H)) (EF (SatX K n Od room w0 mb fs nx) (2 ^ n - 1) ws0) := by
 intro o W m V xb hsat hB hC hst hcx hnx
 obtain ⟨f, hf, ef1⟩ := hsat.find hf
 obtain ⟨g, hg, ef2⟩ := hsat.find hg
 obtain ⟨h, hh, ef3⟩ := hsat.find hh
 have hk := hsat.ok
 have hlt := hsat.lt
 have hks := hk.store
 obtain ⟨s, hm⟩ := hsat.is
 have hbd : Below W.heap.size W W.drew := below_draw W 1
 have hmW := hm.below hlt hbd
 have hlW := hlt.mono hbd.size
 have hxW : CtxAt o W.drew xb mb := ⟨(hbd.cell (p := ⟨xb, 0, none⟩) (lt_of_cell hcx.cell)).trans hcx.cell, hcx.own⟩
 have df := (hbd.cell (p := ⟨bf, 0, none⟩) (lt_of_cell hB.f)).trans hB.f
 have dg := (hbd.cell (p := ⟨bg, 0, none⟩) (lt_of_cell hB.g)).trans hB.g
 have dh := (hbd.cell (p := ⟨bh, 0, none⟩) (lt_of_cell hB.h)).trans hB.h
 have of := (hC bf (.inl rfl)).2
 have og := (hC bg (.inr (.inl rfl))).2
 have oh := (hC bh (.inr (.inr rfl))).2
 have HEF := Lib.hid (ctxEdge_yes ⟨s, hmW⟩ hxW hk.handles.nodup hf)
 have HEG := Lib.hid (ctxEdge_yes ⟨s, hmW⟩ hxW hk.handles.nodup hg)
 have HEH := Lib.hid (ctxEdge_yes ⟨s, hmW⟩ hxW hk.handles.nodup hh)
 have HITE := Lib.hid (ctxIte_any hK n o W.drew xb mb m V f g h ⟨s, hmW⟩ hlW hxW hks (hk.handles.ok _ hf) (hk.handles.ok _ hg) (hk.handles.ok _ hh) (by rw [hsat.vars]; omega))
 obtain ⟨P, hP⟩ : ∃ P : Ending → World → Prop, P = fun e w' => ∃ (o' : Own) (m' : ManD) (V' : Nat → BF), StepX (C3 bf bg bh) K o W mb m V o' w' m' V' ∧ B3 bf bg bh kf kg kh w' ∧
  ((∃ r : Nat, e = .returned (.int .i64 r) ∧ okE (nodesOf m'.d) r ∧ QF ws0 (iteFn F G H) w' m' V' r) ∨
   (∃ er : Int, e = stopP er false ev0 ∧ er ≠ 0 ∧ m'.waits = m.waits ∧ SuffOf ws0 m'.waits m'.calls ∧ EF (SatX K n Od room w0 mb fs nx) (2 ^ n - 1) ws0 er m m') ∨
   (∃ ev, e = stopP 0 true ev ∧ m.waits = ev :: m'.waits ∧ SuffOf ws0 m'.waits m'.calls)) := ⟨_, rfl⟩
 have HFIN : Hid (∀ e w', ItePost K n o W.drew mb m V f g h e w' → (∃ v, e = .returned v ∧ (w'.cell? ⟨bf, 0, none⟩ = some (.int .i64 kf) ∧ w'.cell? ⟨bg, 0, none⟩ = some (.int .i64 kg) ∧ w'.cell? ⟨bh, 0, none⟩ = some (.int .i64 kh)) ∧ P (.returned v) w') ∨ (∃ ch, e = .panicked ch ∧ P (.panicked ch) w')) := by
  refine Lib.hid ?_
  subst hP
  rintro e w' ⟨o', m', V', st, hcase⟩
  have hb3 : B3 bf bg bh kf kg kh w' := ⟨st.chg.cell df of, st.chg.cell dg og, st.chg.cell dh oh⟩
  have stx : StepX (C3 bf bg bh) K o W mb m V o' w' m' V' := Step.toX (K := K) ⟨st.is, st.lt, (Chg.of_below hbd _ o).trans st.chg, st.ok, st.ext, st.hs, st.next⟩ _
  have hp2 : 0 < 2 ^ n := Nat.pow_pos (by omega)
  rcases hcase with ⟨r, rfl, h1, h2, h3⟩ | ⟨rfl, h2, h3, h4⟩ | ⟨ev, rfl, h1⟩
  ·
   refine .inl ⟨_, rfl, ⟨hb3.f, hb3.g, hb3.h⟩, o', m', V', stx, hb3, .inl ⟨r, rfl, h1.okR, ?_, by rw [h2]; exact hst⟩⟩
   have e1 := (st.ext.ef (hk.handles.ok _ hf)).trans ef1
   have e2 := (st.ext.ef (hk.handles.ok _ hg)).trans ef2
   have e3 := (st.ext.ef (hk.handles.ok _ hh)).trans ef3
   dsimp only at e1 e2 e3
   funext ρ
   rw [h1.val ρ, e1, e2, e3]
   rfl
  ·
   exact .inr ⟨_, rfl, o', m', V', stx, hb3, .inr (.inl ⟨7, rfl, by omega, h2, by rw [h2]; exact hst, rfl, ⟨_, _, _, hsat⟩, h3, by omega, by rw [h2]; exact hst⟩)⟩
  ·
   refine .inr ⟨_, rfl, o', m', V', stx, hb3, .inr (.inr ⟨ev, rfl, h1, ?_⟩)⟩
   have hst' : m.waits <:+ ws0 := hst
   rw [h1] at hst'
   exact (List.suffix_cons ev m'.waits).trans hst'
 rw [← hP]
 clear hm hks hk hcx hB hC hst hnx hK hlt hf hg hh of og oh hmW hlW hxW hbd hsat hP ef1 ef2 ef3
 go_enter Tryz.func80, Tryz.ntmps80
 go_upto_region 1 with fail
 refine wp_region_leftP (fun W : World => W.cell? ⟨bf, 0, none⟩ = some (.int .i64 kf) ∧ W.cell? ⟨bg, 0, none⟩ = some (.int .i64 kg) ∧ W.cell? ⟨bh, 0, none⟩ = some (.int .i64 kh)) (fun ch w' => P (.panicked ch) w') 12 (fun c a w hd h => ⟨hd, h⟩) (by kernel_rfl) ⟨df, dg, dh⟩ ?_
 refine left_readEP 0 rfl rfl (by kernel_rfl) ?_
 apply Exists.intro
 refine ⟨fun w' hw => ?_, ?_⟩
 ·
  obtain ⟨q1, q2, q3⟩ := hw
  go_simp
  rfl
 simp only [putLz]
 refine left_readEP 1 rfl rfl (by kernel_rfl) ?_
 apply Exists.intro
 refine ⟨fun w' hw => ?_, ?_⟩
 ·
  obtain ⟨q1, q2, q3⟩ := hw
  go_simp
  rfl
 simp only [putLz]
 refine left_readEP 2 rfl rfl (by kernel_rfl) ?_
 apply Exists.intro
 refine ⟨fun w' hw => ?_, ?_⟩
 ·
  obtain ⟨q1, q2, q3⟩ := hw
  go_simp
  rfl
 simp only [putLz]
 refine left_readEP 4 rfl rfl (by kernel_rfl) ?_
 apply Exists.intro
 refine ⟨fun w' hw => ?_, ?_⟩
 ·
  obtain ⟨q1, q2, q3⟩ := hw
  go_simp
  rfl
 simp only [putLz]
 refine left_readEP 5 rfl rfl (by kernel_rfl) ?_
 apply Exists.intro
 refine ⟨fun w' hw => ?_, ?_⟩
 ·
  obtain ⟨q1, q2, q3⟩ := hw
  go_simp
  rfl
 simp only [putLz]
 refine left_readEP 7 rfl rfl (by kernel_rfl) ?_
 apply Exists.intro
 refine ⟨fun w' hw => ?_, ?_⟩
 ·
  obtain ⟨q1, q2, q3⟩ := hw
  go_simp
  rfl
 simp only [putLz]
 refine left_readEP 8 rfl rfl (by kernel_rfl) ?_
 apply Exists.intro
 refine ⟨fun w' hw => ?_, ?_⟩
 ·
  obtain ⟨q1, q2, q3⟩ := hw
  go_simp
  rfl
 simp only [putLz]
 refine left_altsP [3] (by kernel_rfl) (fun i hi hS o ho => ?_)
 simp only [memLz] at hi
 subst hi
 simp only [altLz] at ho
 subst ho
 refine ⟨rfl, ?_⟩
 refine oper_call (v := .int .i64 (f : Nat)) (R := fun w' => W.drew = w') (by go_simp) HEF.out ?_
 rintro w' rfl
 refine ⟨⟨df, dg, dh⟩, ?_⟩
 simp only [putLz]
 refine left_altsP [6] (by kernel_rfl) (fun i hi hS o ho => ?_)
 simp only [memLz] at hi
 subst hi
 simp only [altLz] at ho
 subst ho
 refine ⟨rfl, ?_⟩
 refine oper_call (v := .int .i64 (g : Nat)) (R := fun w' => W.drew = w') (by go_simp) HEG.out ?_
 rintro w' rfl
 refine ⟨⟨df, dg, dh⟩, ?_⟩
 simp only [putLz]
 refine left_altsP [9] (by kernel_rfl) (fun i hi hS o ho => ?_)
 simp only [memLz] at hi
 subst hi
 simp only [altLz] at ho
 subst ho
 refine ⟨rfl, ?_⟩
 refine oper_call (v := .int .i64 (h : Nat)) (R := fun w' => W.drew = w') (by go_simp) HEH.out ?_
 rintro w' rfl
 refine ⟨⟨df, dg, dh⟩, ?_⟩
 simp only [putLz]
 refine left_altsP [10] (by kernel_rfl) (fun i hi hS o ho => ?_)
 simp only [memLz] at hi
 subst hi
 simp only [altLz] at ho
 subst ho
 refine ⟨rfl, ?_⟩
 refine oper_callP (R := fun v w' => (w'.cell? ⟨bf, 0, none⟩ = some (.int .i64 kf) ∧ w'.cell? ⟨bg, 0, none⟩ = some (.int .i64 kg) ∧ w'.cell? ⟨bh, 0, none⟩ = some (.int .i64 kh)) ∧ P (.returned v) w') (R2 := fun ch w' => P (.panicked ch) w') (by go_simp) (HITE.out.mono HFIN.out) ?_ ?_
 ·
  rintro v w' ⟨hS, hst⟩
  refine ⟨hS, ?_⟩
  have HST := Lib.hid hst
  clear hst
  simp only [putLz]
  refine left_readEP 11 rfl rfl (by kernel_rfl) ?_
  apply Exists.intro
  refine ⟨fun w' hw => ?_, ?_⟩
  ·
   go_simp
   rfl
  simp only [putLz]
  refine left_endP (by kernel_rfl) ?_
  clear hS df dg dh
  go_wp2_with fail
  exact HST.out
 ·
  intro ch w' hst
  exact ⟨rfl, hst⟩
abbrev C1 (b : Nat) : Nat → Prop := fun k => k = b
structure B1 (b : Nat) (v : Int) (W : World) : Prop where
 c : W.cell? ⟨b, 0, none⟩ = some (.int .i64 v)
theorem B1.keep {b : Nat} {v : Int} (W W' : World) (h : B1 b v W) (hk : ∀ c, C1 b c → W'.heap[c]? = W.heap[c]?) : B1 b v W' := ⟨(World.cell?_of_block (w := W) (a := ⟨b, 0, none⟩) (hk _ rfl)).trans h.c⟩
set_option maxRecDepth 100000 in
theorem var1_gen {K : Law} (hK : LawOK K) {n : Nat} {Od : List Nat → Prop} {room : Nat} {w0 : World} {mb : Nat} {fs : List (Int × BF)} {nx : Int} (ws0 : List Ev) (v vb : Nat) (hv : v < n) :
 OpG K n Od room w0 mb fs nx (C1 vb) (B1 vb v) (SuffOf ws0) 78 #[.pointer (some ⟨vb, 0, none⟩)] (QF ws0 (varF v)) (EF (SatX K n Od room w0 mb fs nx) 1 ws0) := by
 intro o W m V xb hsat hB hC hst hx hnx
 have hk := hsat.ok
 have hlt := hsat.lt
 have hks := hk.store
 have o0 : okE (nodesOf m.d) 0 := .inl rfl
 have o1 : okE (nodesOf m.d) 1 := .inl rfl
 have hl0 : lvE m.d.vars.length (levN m.d) (nodesOf m.d) 0 = m.d.vars.length := lvE_const hks rfl
 have hl1 : lvE m.d.vars.length (levN m.d) (nodesOf m.d) 1 = m.d.vars.length := lvE_const hks rfl
 have hvl : v < m.d.vars.length := by rw [hsat.vars]; exact hv
 have hlv := hks.dag.lt v hvl
 have HMK := Lib.hid (ctxMk_any hK hsat.is hlt hx hks v 1 0 o1 o0)
 have cvb := hB.c
 have ob := (hC vb rfl).2
 obtain ⟨P, hP⟩ : ∃ P : Ending → World → Prop, P = fun e w' => ∃ (o' : Own) (m' : ManD) (V' : Nat → BF), StepX (C1 vb) K o W mb m V o' w' m' V' ∧ B1 vb v w' ∧
  ((∃ r : Nat, e = .returned (.int .i64 r) ∧ okE (nodesOf m'.d) r ∧ QF ws0 (varF v) w' m' V' r) ∨
   (∃ er : Int, e = stopP er false ev0 ∧ er ≠ 0 ∧ m'.waits = m.waits ∧ SuffOf ws0 m'.waits m'.calls ∧ EF (SatX K n Od room w0 mb fs nx) 1 ws0 er m m') ∨
   (∃ ev, e = stopP 0 true ev ∧ m.waits = ev :: m'.waits ∧ SuffOf ws0 m'.waits m'.calls)) := ⟨_, rfl⟩
 have HFIN : Hid (∀ e w', CtxMkPost K o W mb m V v 1 0 e w' → (∃ r : Nat, e = .returned (.int .i64 r) ∧ P (.returned (.int .i64 r)) w') ∨ (∃ er evt ev, e = stopP er evt ev ∧ P (stopP er evt ev) w')) := by
  refine Lib.hid ?_
  subst hP
  rintro e w' ⟨o', m', V', st, hcase⟩
  have hb1 : B1 vb v w' := ⟨st.chg.cell cvb ob⟩
  have stx : StepX (C1 vb) K o W mb m V o' w' m' V' := st.toX _
  rcases hcase with ⟨ev, h1, _, _, _, _, rfl⟩ | ⟨h1, _, _, (⟨er, her, hd, _, rfl⟩ | ⟨_, _, r, rfl, h2, h3, _, h5⟩)⟩
  ·
   refine .inr ⟨0, true, ev, rfl, o', m', V', stx, hb1, .inr (.inr ⟨ev, rfl, h1, ?_⟩)⟩
   have hst' : m.waits <:+ ws0 := hst
   rw [h1] at hst'
   exact (List.suffix_cons ev m'.waits).trans hst'
  ·
   refine .inr ⟨er, false, ev0, rfl, o', m', V', stx, hb1, .inr (.inl ?_)⟩
   rcases her with ⟨_, h⟩ | ⟨_, _, _, h⟩ | ⟨rfl, h⟩
   ·
    exact (h ⟨by omega, by omega⟩).elim
   ·
    simp only [Int.toNat_natCast] at h; omega
   ·
    exact ⟨7, rfl, by omega, h1, by rw [h1]; exact hst, rfl, ⟨_, _, _, hsat⟩, by rw [hd]; exact h, by rw [hd]; omega, by rw [h1]; exact hst⟩
  ·
   refine .inl ⟨r, rfl, o', m', V', stx, hb1, .inl ⟨r, rfl, h2, ?_, by rw [h1]; exact hst⟩⟩
   rw [h3]
   funext ρ
   have a0 := ef_zero hks.dag.one ρ
   have a1 := ef_one hks.dag.one ρ
   simp only [iteF, varF, Int.toNat_natCast, a0, a1]
   cases ρ v <;> rfl
 rw [← hP]
 clear hks o0 o1 hl0 hl1 hlv hvl hk hx hC hK hv hlt hB hnx hst hP ob hsat
 go_enter Tryz.func78, Tryz.ntmps78
 go_wp2_with fail
 refine HMK.out.mono ?_
 intro e w' hp
 rcases HFIN.out e w' hp with ⟨r, rfl, hst⟩ | ⟨er, evt, ev, rfl, hst⟩
 ·
  have HST := Lib.hid hst
  clear hp hst
  go_wp2_with fail
  exact HST.out
 ·
  have HST := Lib.hid hst
  clear hp hst
  unfold stopP
  go_wp2_with fail
  exact ⟨rfl, HST.out⟩
def OpLeft (K : Law) (n : Nat) (Od : List Nat → Prop) (room : Nat) (w0 : World) (mb : Nat) (fs : List (Int × BF)) (nx : Int) (ws0 : List Ev) (k : Nat) (F : BF) (o : Own) (w : World) (x : Ending) (w' : World) : Prop :=
 ∃ o' m' V', ChgX NoB o o' w w' ∧ m'.waits <:+ ws0 ∧ ((x = .returned (.tuple #[.int .i64 nx, .int .i64 0]) ∧ SatE K n Od room w0 mb (fs ++ [(nx, F)]) (nx + 1) w' o' m' V') ∨
  (x = .returned (.tuple #[.int .i64 0, .int .i64 7]) ∧ SatE K n Od room w0 mb fs nx w' o' m' V' ∧ ∃ m0, SatX K n Od room w0 mb fs nx m0 ∧ m0.d.dead = 0 ∧ room + 1 ≤ m0.d.pool.many + k))
theorem opLeft_of {K : Law} {n : Nat} {Od : List Nat → Prop} {room : Nat} {w0 : World} {mb : Nat} {fs : List (Int × BF)} {nx : Int} {ws0 : List Ev} {k : Nat} {F : BF} {o : Own} {w w1 w' : World} {C : Nat → Prop} {B : World → Prop} {x : Ending} (hb : Below w.heap.size w w1) (hC : ∀ c, C c → w.heap.size ≤ c)
 (h : DoPost K n Od room w0 mb fs nx C B (QF ws0 F) (EF (SatX K n Od room w0 mb fs nx) k ws0) o w1 x w') : OpLeft K n Od room w0 mb fs nx ws0 k F o w x w' := by
 obtain ⟨o', m', V', _, hc, hcase⟩ := h
 have hc' : ChgX NoB o o' w w' := (ChgX.of_below hb o NoB).trans hc (fun k hk e => by have := hC k e; omega)
 rcases hcase with ⟨r, m1, rfl, hs, ⟨q1, q2⟩, _, _, _, _, _, q3, _⟩ | ⟨er, m0, _, rfl, hs, ⟨rfl, hm0, h1, h2, h3⟩, h7⟩
 ·
  exact ⟨o', m', V', hc', by rw [q3]; exact q2, .inl ⟨rfl, by rw [← q1]; exact hs⟩⟩
 ·
  refine ⟨o', m', V', hc', h3, .inr ⟨rfl, hs, m0, hm0, h7 rfl, ?_⟩⟩
  have := hs.room
  omega
set_option maxRecDepth 100000 in
set_option maxHeartbeats 1000000 in
theorem manIte_gen {K : Law} (hK : LawOK K) {n : Nat} {Od : List Nat → Prop} {room : Nat} {w0 : World} {mb : Nat} {fs : List (Int × BF)} {nx : Int} {w : World} {o : Own} {m : ManD} {V : Nat → BF} (h : SatE K n Od room w0 mb fs nx w o m V) (ws0 : List Ev) (hws : m.waits <:+ ws0) (hhap : ∀ ev ∈ ws0, HapG K n Od room w0 mb fs nx ev) (hn : nx < 1099511627776)
 {kf kg kh : Int} {F G H : BF} (hf : (kf, F) ∈ fs) (hg : (kg, G) ∈ fs) (hh : (kh, H) ∈ fs) :
 Calls Tryz.prog 18 #[.pointer (some ⟨mb, 0, none⟩), .int .i64 kf, .int .i64 kg, .int .i64 kh] w (OpLeft K n Od room w0 mb fs nx ws0 (2 ^ n - 1) (iteFn F G H) o w) := by
 have hmf : ∀ (fn : Fn) (first cap : Array Value) (w : World), (Instr.makeFunc fn first cap).run Tryz.prog w = .ok (.func fn first cap) w := fun _ _ _ _ => rfl
 obtain ⟨hb, cf, cg, ch⟩ := box3_ok kf kg kh w
 have hw0 := h.chg.size
 have hz : (box3 kf kg kh w).heap.size = w.heap.size + 3 := by simp [box3]
 have HDO : Hid (Calls Tryz.prog 24 #[.pointer (some ⟨mb, 0, none⟩), .func (.func 80) #[] #[.pointer (some ⟨w.heap.size, 0, none⟩), .pointer (some ⟨w.heap.size + 1, 0, none⟩), .pointer (some ⟨w.heap.size + 1 + 1, 0, none⟩)]] (box3 kf kg kh w) (OpLeft K n Od room w0 mb fs nx ws0 (2 ^ n - 1) (iteFn F G H) o w)) := by
  refine Lib.hid ?_
  refine (do_gen hK B3.keep (fun _ _ _ _ _ h _ => h) ?_ enters_ite1 (ite1_gen hK ws0 w.heap.size (w.heap.size + 1) (w.heap.size + 1 + 1) hf hg hh) (h.below hb) ⟨cf, cg, ch⟩ ?_ hws (fun ev he => hhap ev (hws.subset he)) hn).mono fun x w' hp => opLeft_of hb ?_ hp
  ·
   rintro c (rfl | rfl | rfl) <;> omega
  ·
   rintro c (rfl | rfl | rfl) <;> exact ⟨by omega, h.lt.none (by omega)⟩
  ·
   rintro c (rfl | rfl | rfl) <;> omega
 have HW : Hid (_ = box3 kf kg kh w) := Lib.hid (show ((w.alloc (.cells #[.int .i64 kf] 3)).alloc (.cells #[.int .i64 kg] 3)).alloc (.cells #[.int .i64 kh] 3) = box3 kf kg kh w from rfl)
 clear h hK hws hhap hn hf hg hh hb cf cg ch hw0 hz
 obtain ⟨P, hP⟩ : ∃ P, P = OpLeft K n Od room w0 mb fs nx ws0 (2 ^ n - 1) (iteFn F G H) o w := ⟨_, rfl⟩
 rw [← hP] at HDO ⊢
 have HT : Hid (∀ x w', P x w' → ∃ a b, x = .returned (.tuple #[.int .i64 a, .int .i64 b])) := by
  refine Lib.hid ?_
  subst hP
  rintro x w' ⟨_, _, _, _, _, (⟨rfl, _⟩ | ⟨rfl, _⟩)⟩
  ·
   exact ⟨_, _, rfl⟩
  ·
   exact ⟨_, _, rfl⟩
 clear hP
 go_enter Tryz.func18, Tryz.ntmps18
 go_wp2_with fail
 rw [HW.out]
 refine HDO.out.mono ?_
 intro x w' hd
 obtain ⟨a, b, rfl⟩ := HT.out x w' hd
 have HD := Lib.hid hd
 clear hd
 go_wp2_with fail
 exact HD.out
set_option maxRecDepth 100000 in
set_option maxHeartbeats 1000000 in
theorem manVar_gen {K : Law} (hK : LawOK K) {n : Nat} {Od : List Nat → Prop} {room : Nat} {w0 : World} {mb : Nat} {fs : List (Int × BF)} {nx : Int} {w : World} {o : Own} {m : ManD} {V : Nat → BF} (h : SatE K n Od room w0 mb fs nx w o m V) (ws0 : List Ev) (hws : m.waits <:+ ws0) (hhap : ∀ ev ∈ ws0, HapG K n Od room w0 mb fs nx ev) (hn : nx < 1099511627776)
 (v : Nat) (hv : v < n) :
 Calls Tryz.prog 15 #[.pointer (some ⟨mb, 0, none⟩), .int .i64 v] w (OpLeft K n Od room w0 mb fs nx ws0 1 (varF v) o w) := by
 have hmf : ∀ (fn : Fn) (first cap : Array Value) (w : World), (Instr.makeFunc fn first cap).run Tryz.prog w = .ok (.func fn first cap) w := fun _ _ _ _ => rfl
 obtain ⟨w1, hw1⟩ : ∃ w1, w1 = w.alloc (.cells #[.int .i64 (v : Nat)] 3) := ⟨_, rfl⟩
 have hb1 : Below w.heap.size w w1 := by rw [hw1]; exact below_new1 w _
 have hvb : w1.heap[w.heap.size]? = some (.cells #[.int .i64 (v : Nat)] 3 (0, 0)) := by rw [hw1]; exact heap_alloc_new w _
 have cvb : w1.cell? ⟨w.heap.size, 0, none⟩ = some (.int .i64 (v : Nat)) := cell1 hvb
 have hz1 : w1.heap.size = w.heap.size + 1 := by rw [hw1]; simp
 have hw0 := h.chg.size
 obtain ⟨s, hms⟩ := h.is
 have hm1 := hms.below h.lt hb1
 obtain ⟨c0, c1, c2, c3, c4, c5, f0⟩ := cells6 hm1.blk
 obtain ⟨ss, hss⟩ := hm1.store
 have hlz : levelZ m.d v = (levN m.d v : Nat) := levelZ_of (by rw [hss.len, h.vars]; exact hv)
 have HLV : Hid (∀ n, Calls Tryz.prog 77 #[.pointer (some ⟨s.sb, 0, none⟩), .int .i64 (v : Nat)] (w1.drewN n) fun x w' => x = .returned (.int .i64 (levN m.d v : Nat)) ∧ w1.drewN n = w') := by
  refine Lib.hid fun n => ?_
  have := storeLevelZ (hss.below (h.lt.mono hb1.size) (below_draw w1 n)) v (by rw [hss.len]; have := h.ok.store.small; omega)
  rw [hlz] at this; exact this
 obtain ⟨P, hP⟩ : ∃ P, P = OpLeft K n Od room w0 mb fs nx ws0 1 (varF v) o w := ⟨_, rfl⟩
 have HDO : Hid (∀ q, Calls Tryz.prog 24 #[.pointer (some ⟨mb, 0, none⟩), .func (.func 78) #[] #[.pointer (some ⟨w.heap.size, 0, none⟩)]] (w1.drewN q) P) := by
  refine Lib.hid fun q => ?_
  rw [hP]
  have hb2 : Below w.heap.size w (w1.drewN q) := hb1.trans ((below_draw w1 q).mono hb1.size)
  refine (do_gen hK B1.keep (fun _ _ _ _ _ h _ => h) ?_ enters_var1 (var1_gen hK ws0 v w.heap.size hv) (h.below hb2) ⟨cvb⟩ ?_ hws (fun ev he => hhap ev (hws.subset he)) hn).mono fun x w' hp => opLeft_of hb2 ?_ hp
  ·
   rintro c rfl; omega
  ·
   rintro c rfl; exact ⟨by have := hb2.size; show w.heap.size < w1.heap.size; omega, h.lt.none (by omega)⟩
  ·
   rintro c rfl; omega
 have HT : Hid (∀ x w', P x w' → ∃ a b, x = .returned (.tuple #[.int .i64 a, .int .i64 b])) := by
  refine Lib.hid ?_
  rw [hP]
  rintro x w' ⟨_, _, _, _, _, (⟨rfl, _⟩ | ⟨rfl, _⟩)⟩
  ·
   exact ⟨_, _, rfl⟩
  ·
   exact ⟨_, _, rfl⟩
 rw [← hP]
 have HW : Hid (w.alloc (.cells #[.int .i64 (v : Nat)] 3) = w1) := Lib.hid hw1.symm
 clear hm1 hss hlz hms hb1 hvb hw1 hK hn hv hws hhap h hw0 hz1 hP
 go_enter Tryz.func15, Tryz.ntmps15
 go_upto_region 3 with fail
 rw [HW.out]
 go_quiet (with_reducible exact quiet_of_eq (HLV.out _))
 go_wp2_with fail
 refine (HDO.out _).mono ?_
 intro x w' hd
 obtain ⟨a, b, rfl⟩ := HT.out x w' hd
 have HD := Lib.hid hd
 clear hd
 go_wp2_with fail
 exact HD.out
open Go.RowKit
section
variable {K : Law} {n : Nat} {Od : List Nat → Prop} {room : Nat} {w0 w : World} {mb : Nat} {fs : List (Int × BF)} {nx : Int} {o : Own} {m : ManD} {V : Nat → BF}
theorem SatE.eval (h : SatE K n Od room w0 mb fs nx w o m V) {k : Int} {F : BF} (hk : (k, F) ∈ fs) {v : Value} {bs : List Bool} (hbs : BoolsIs w v bs) :
 Calls Tryz.prog 58 #[.pointer (some ⟨mb, 0, none⟩), .int .i64 k, v] w fun x w' => x = .returned (.tuple #[.bool (F (envOf bs)), .int .i64 0]) ∧ Below w.heap.size w w' := by
 obtain ⟨f, hf, e1⟩ := h.find hk
 obtain ⟨a, c, rfl, h1, _⟩ := hbs
 rw [← e1]
 exact eval_yes h.is h.lt h.ok hf a c bs h1
theorem SatE.vars_any (h : SatE K n Od room w0 mb fs nx w o m V) : Calls Tryz.prog 51 #[.pointer (some ⟨mb, 0, none⟩)] w fun x w' => x = .returned (.int .i64 n) ∧ w = w' := by
 have := manVars_any h.is
 rw [h.vars] at this
 exact this
theorem SatE.len_any (h : SatE K n Od room w0 mb fs nx w o m V) : Calls Tryz.prog 22 #[.pointer (some ⟨mb, 0, none⟩)] w fun x w' => x = .returned (.int .i64 m.d.pool.many) ∧ w = w' := manLen_any h.is
theorem SatE.handles_any (h : SatE K n Od room w0 mb fs nx w o m V) : Calls Tryz.prog 70 #[.pointer (some ⟨mb, 0, none⟩)] w fun x w' => x = .returned (.int .i64 (fs.length : Nat)) ∧ w = w' := by
 have e : fs.length = m.hs.length := by rw [← h.hs, List.length_map]
 rw [e]
 exact Go.Proofs.YtchliiaknmknhaaGreat.handles_any h.is
set_option maxRecDepth 100000 in
theorem left_any (h : SatE K n Od room w0 mb fs nx w o m V) (q : Nat) (hq : q ≤ 1000000) :
 Calls Tryz.prog 20 #[.pointer (some ⟨mb, 0, none⟩), .int .i64 q] w fun x w' => x = .returned (.bool (decide (fs.length = q + 2))) ∧ w = w' := by
 have HH := Lib.hid h.handles_any
 have HF : Hid ((((fs.length : Nat) : Int) == (q : Int) + 2) = decide (fs.length = q + 2)) := by
  refine Lib.hid ?_
  show (((fs.length : Nat) : Int) == (q : Int) + 2) = _
  by_cases e : fs.length = q + 2
  ·
   rw [decide_eq_true e, beq_iff_eq]; omega
  ·
   rw [decide_eq_false e, beq_eq_false_iff_ne]; omega
 clear h
 go_enter Tryz.func20, Tryz.ntmps20
 go_wp2_with fail
 refine HH.out.mono ?_
 rintro x w' ⟨rfl, rfl⟩
 go_wp2_with fail
 go_ret
 exact ⟨by rw [← HF.out]; rfl, rfl⟩
theorem conv_u64 (i : Nat) (hi : i ≤ 1048576) : (IntKind.u64).wrap (i : Int) = (i : Int) := by
 simp [IntKind.wrap, IntKind.bits]; omega
set_option maxRecDepth 100000 in
set_option maxHeartbeats 2000000 in
theorem is_any (h : SatE K n Od room w0 mb fs nx w o m V) (hn : n ≤ 16) {k : Int} {F : BF} (hk : (k, F) ∈ fs) {v : Value} {bs : List Bool} (hbs : BoolsIs w v bs) :
 Calls Tryz.prog 29 #[.pointer (some ⟨mb, 0, none⟩), .int .i64 k, v] w fun x w' => ∃ b, x = .returned (.bool b) ∧ (b = true ↔ bs = tabB n F) ∧ Below w.heap.size w w' := by
 have HV := Lib.hid h.vars_any
 have HC := Lib.hid (refConst_any false n hn w)
 have HEV : Hid (∀ W, Below w.heap.size w W → ∀ u cs, BoolsIs W u cs → Calls Tryz.prog 58 #[.pointer (some ⟨mb, 0, none⟩), .int .i64 k, u] W fun x w' => x = .returned (.tuple #[.bool (F (envOf cs)), .int .i64 0]) ∧ Below W.heap.size W w') :=
  Lib.hid fun W hb u cs hu => (h.below hb).eval hk hu
 have HOF : Hid (∀ i, i ≤ 1048576 → ∀ W, Calls Tryz.prog 90 #[.int .u64 (i : Nat), .int .i64 n] W fun x w' => ∃ v, x = .returned v ∧ OwnB w' W.heap.size v (bitsL i n) ∧ Below W.heap.size W w') := Lib.hid fun i hi W => refOf_any i n hi hn W
 obtain ⟨a, c, rfl, hb0, hnil⟩ := hbs
 have HBS := Lib.hid hb0
 have hbl := hb0.len
 have hp := pow_small (show n ≤ 20 by omega)
 obtain ⟨L, hL⟩ : ∃ L, L = 2 ^ n := ⟨_, rfl⟩
 have HL := Lib.hid hL
 rw [← hL] at hp HC
 clear h hL hb0 hnil
 go_enter Tryz.func29, Tryz.ntmps29
 go_wp2_with fail
 refine HV.out.mono ?_
 rintro x w' ⟨rfl, rfl⟩
 go_wp2_with fail
 refine HC.out.mono ?_
 rintro x w1 ⟨g, rfl, _, hb1⟩
 by_cases hlen : bs.length = L
 ·
  have hne : ((bs.length : Int) != (L : Int)) = false := by rw [hlen]; simp
  have HB1 := Lib.hid hb1
  clear hb1 HC HV
  go_wp2_with fail
  go_loopw [8, 21] (fun s8 s21 wr => ∃ j : Nat, j ≤ L ∧ s21 = .int .i64 j ∧ Below w.heap.size w wr ∧ Hid (∀ q, q < j → bs.getD q false = F (envOf (bitsL q n)))) (fun _ s21 _ => L - (intOf s21).toNat)
  case atStart => exact ⟨0, Nat.zero_le _, rfl, HB1.out, Lib.hid fun q hq => by omega⟩
  case round =>
   obtain ⟨j, hj, rfl, hbel, HQ⟩ := hrel
   by_cases hlt : j < L
   ·
    have HBEL := Lib.hid hbel
    clear hbel
    have hcv := conv_u64 j (by omega)
    have hjs : (j : Int) < bs.length := by omega
    obtain ⟨b1, of1, rfl, c1⟩ := (HBS.out.below HBEL.out).cells j (by omega)
    go_wp2_with fail
    refine (HOF.out j (by omega) _).mono ?_
    rintro x w3 ⟨u, rfl, hown, hb3⟩
    have HB3 := Lib.hid hb3
    have c3 := (hb3.cell (p := ⟨b1, of1 + j, none⟩) (lt_of_cell c1)).trans c1
    have HU := Lib.hid (hown.boolsIs (by rw [bitsL_length]; omega))
    clear hown hb3 c1
    go_wp2_with fail
    refine (HEV.out _ (HBEL.out.trans (HB3.out.mono HBEL.out.size)) _ _ HU.out).mono ?_
    rintro x w4 ⟨rfl, hb4⟩
    have c4 := (hb4.cell (p := ⟨b1, of1 + j, none⟩) (lt_of_cell c3)).trans c3
    have HB5 := Lib.hid (HBEL.out.trans ((HB3.out.trans (hb4.mono HB3.out.size)).mono HBEL.out.size))
    clear hb4 c3
    obtain ⟨y1, hy1⟩ : ∃ y, y = bs.getD j false := ⟨_, rfl⟩
    obtain ⟨y2, hy2⟩ : ∃ y, y = F (envOf (bitsL j n)) := ⟨_, rfl⟩
    rw [← hy1] at c4
    rw [← hy2]
    have HQ2 : Hid (y2 = y1 → ∀ q, q < j + 1 → bs.getD q false = F (envOf (bitsL q n))) := Lib.hid fun hyy q hq => by
     rcases Nat.lt_or_ge q j with h | h
     ·
      exact HQ.out q h
     ·
      obtain rfl : q = j := by omega
      rw [← hy1, ← hy2, hyy]
    have HNE : Hid (y2 ≠ y1 → bs ≠ tabB n F) := Lib.hid fun hyy e => hyy (by rw [hy1, hy2, e, tabB_get (by rw [← HL.out]; exact hlt)])
    clear hy1 hy2
    cases y1 <;> cases y2
    ·
     go_wp2_with fail
     go_roundw
     case rel => exact ⟨j + 1, by omega, by go_num, HB5.out, Lib.hid (HQ2.out (by simp))⟩
     case measure => simp [intOf]; omega
    ·
     go_wp2_with fail
     go_ret
     exact ⟨false, rfl, by simpa using HNE.out (by simp), HB5.out⟩
    ·
     go_wp2_with fail
     go_ret
     exact ⟨false, rfl, by simpa using HNE.out (by simp), HB5.out⟩
    ·
     go_wp2_with fail
     go_roundw
     case rel => exact ⟨j + 1, by omega, by go_num, HB5.out, Lib.hid (HQ2.out (by simp))⟩
     case measure => simp [intOf]; omega
   ·
    have he : j = L := by omega
    have HBEL := Lib.hid hbel
    have HE : Hid (bs = tabB n F) := Lib.hid (tab_ext (by rw [hlen, HL.out]) (fun i hi => HQ.out i (by rw [he, HL.out]; exact hi)))
    clear hbel
    go_wp2_with fail
    go_ret
    exact ⟨true, rfl, by simpa using HE.out, HBEL.out⟩
 ·
  have hne : ((bs.length : Int) != (L : Int)) = true := by simp; omega
  have HB1 := Lib.hid hb1
  have HNE : Hid (bs ≠ tabB n F) := Lib.hid fun e => hlen (by rw [e, tabB_length, HL.out])
  clear hb1 HC HV hlen
  go_wp2_with fail
  go_ret
  exact ⟨false, rfl, by simpa using HNE.out, HB1.out⟩
end
structure RowsAt (P : Nat → Prop) (w : World) (a : Option Addr) (us : List (List Bool)) : Prop where
 len : us.length ≤ 1000000
 cells : ∀ k, k < us.length → ∃ b off v, a = some ⟨b, off, none⟩ ∧ w.cell? ⟨b, off + k, none⟩ = some v ∧ BoolsIs w v (us.getD k []) ∧ ∀ g, v.ownBlock = some g → P g
theorem RowsAt.below {P : Nat → Prop} {w w' : World} {a : Option Addr} {us : List (List Bool)} (h : RowsAt P w a us) (hb : Below w.heap.size w w') : RowsAt P w' a us :=
 ⟨h.len, fun k hk => by
  obtain ⟨b, off, v, rfl, hc, hv, hp⟩ := h.cells k hk
  exact ⟨b, off, v, rfl, (hb.cell (p := ⟨b, off + k, none⟩) (lt_of_cell hc)).trans hc, hv.below hb, hp⟩⟩
structure LawR (P : Nat → Prop) (n : Nat) (fs : List (Int × BF)) (w : World) (vl vx : Value) (hs : List (Int × BF)) : Prop where
 sub : ∀ p ∈ hs, p ∈ fs
 small : hs.length ≤ 1000
 l : ∃ a c, vl = .slice a hs.length c ∧ IntsAt w a (hs.map Prod.fst)
 x : ∃ a c, vx = .slice a hs.length c ∧ RowsAt P w a (hs.map fun p => tabB n p.2)
theorem LawR.below {P : Nat → Prop} {n : Nat} {fs : List (Int × BF)} {w w' : World} {vl vx : Value} {hs : List (Int × BF)} (h : LawR P n fs w vl vx hs) (hb : Below w.heap.size w w') : LawR P n fs w' vl vx hs := by
 obtain ⟨a, c, h1, h2⟩ := h.l
 obtain ⟨a', c', h3, h4⟩ := h.x
 exact ⟨h.sub, h.small, ⟨a, c, h1, h2.below hb⟩, ⟨a', c', h3, h4.below hb⟩⟩
section
variable {K : Law} {n : Nat} {Od : List Nat → Prop} {room : Nat} {w0 w : World} {mb : Nat} {fs : List (Int × BF)} {nx : Int} {o : Own} {m : ManD} {V : Nat → BF}
set_option maxRecDepth 100000 in
set_option maxHeartbeats 2000000 in
theorem all_any (h : SatE K n Od room w0 mb fs nx w o m V) (hn : n ≤ 16) {vl vx : Value} {hs : List (Int × BF)} {P : Nat → Prop} (hr : LawR P n fs w vl vx hs) :
 Calls Tryz.prog 21 #[.pointer (some ⟨mb, 0, none⟩), vl, vx] w fun x w' => x = .returned (.bool true) ∧ Below w.heap.size w w' := by
 obtain ⟨al, cl, rfl, hl⟩ := hr.l
 obtain ⟨ax, cx, rfl, hx⟩ := hr.x
 have HL := Lib.hid hl
 have HX := Lib.hid hx
 have hsm := hr.small
 have HIS : Hid (∀ W, Below w.heap.size w W → ∀ j v, ∀ hj : j < hs.length, BoolsIs W v (tabB n hs[j].2) → Calls Tryz.prog 29 #[.pointer (some ⟨mb, 0, none⟩), .int .i64 hs[j].1, v] W fun x w' => x = .returned (.bool true) ∧ Below W.heap.size W w') := by
  refine Lib.hid fun W hb j v hj hv => (is_any (h.below hb) hn (hr.sub _ (List.getElem_mem hj)) hv).mono ?_
  rintro x w' ⟨b, rfl, hb1, hb2⟩
  rw [hb1.2 rfl]
  exact ⟨rfl, hb2⟩
 clear h hr hl hx
 go_enter Tryz.func21, Tryz.ntmps21
 go_wp2_with fail
 go_loopw [7, 10] (fun s7 s10 wr => ∃ j : Nat, j ≤ hs.length ∧ s10 = .int .i64 j ∧ Below w.heap.size w wr) (fun _ s10 _ => hs.length - (intOf s10).toNat)
 case atStart => exact ⟨0, Nat.zero_le _, rfl, Below.refl _ _⟩
 case round =>
  obtain ⟨j, hj, rfl, hbel⟩ := hrel
  by_cases hlt : j < hs.length
  ·
   obtain ⟨b1, of1, rfl, c1⟩ := (HL.out.below hbel).cells j (by simpa using hlt)
   obtain ⟨b2, of2, v2, rfl, c2, hv2, _⟩ := (HX.out.below hbel).cells j (by simpa using hlt)
   have e1 : at0 (hs.map Prod.fst) j = hs[j].1 := by rw [at0_eq (by simpa using hlt)]; simp
   have e2 : (hs.map fun p => tabB n p.2).getD j [] = tabB n hs[j].2 := by simp [List.getD, hlt]
   rw [e1] at c1
   rw [e2] at hv2
   have HV2 := Lib.hid hv2
   have HBEL := Lib.hid hbel
   obtain ⟨k1, hk1⟩ : ∃ k1, k1 = hs[j].1 := ⟨_, rfl⟩
   have HI : Hid (∀ W, Below w.heap.size w W → ∀ v, BoolsIs W v (tabB n hs[j].2) → Calls Tryz.prog 29 #[.pointer (some ⟨mb, 0, none⟩), .int .i64 k1, v] W fun x w' => x = .returned (.bool true) ∧ Below W.heap.size W w') := by
    rw [hk1]; exact Lib.hid fun W hb v hv => HIS.out W hb j v hlt hv
   rw [← hk1] at c1
   clear hv2 hbel e1 e2 hk1
   have hn1 : (j : Int) < (hs.length : Int) := by omega
   go_upto_region 4 with fail
   refine wp_region_mix (fun W : World => W.cell? ⟨b1, of1 + j, none⟩ = some (.int .i64 k1) ∧ W.cell? ⟨b2, of2 + j, none⟩ = some v2 ∧ Hid (Below w.heap.size w W)) false 11 [(0, false), (1, false), (2, false), (3, false), (4, false), (5, false), (6, false), (7, false), (8, false), (9, true), (10, false)] (by kernel_rfl) (by kernel_rfl) ⟨c1, c2, Lib.hid (HBEL.out.trans ((below_draw wr 1).mono HBEL.out.size))⟩ ?_
   simp only [planned, plnLz]
   iterate 9
    refine mix_readE rfl ?_
    apply Exists.intro
    refine ⟨fun w' hw => ?_, ?_⟩
    ·
     obtain ⟨h1, h2, _⟩ := hw
     go_simp
     rfl
    simp only [putLz]
   refine mix_call (v := .bool true) rfl (by go_simp) ((HI.out wr.drew (HBEL.out.trans ((below_draw wr 1).mono HBEL.out.size)) v2 (HV2.out.below (below_draw wr 1))).mono ?_) ?_
   ·
    rintro x w' ⟨rfl, hb⟩
    exact ⟨rfl, (hb.cell (p := ⟨b1, of1 + j, none⟩) (lt_of_cell (w := wr.drew) c1)).trans c1, (hb.cell (p := ⟨b2, of2 + j, none⟩) (lt_of_cell (w := wr.drew) c2)).trans c2, Lib.hid (HBEL.out.trans (((below_draw wr 1).trans (hb.mono (below_draw wr 1).size)).mono HBEL.out.size))⟩
   rintro w' ⟨_, _, HB'⟩
   simp only [putLz]
   iterate 1
    refine mix_readE rfl ?_
    apply Exists.intro
    refine ⟨fun w' hw => ?_, ?_⟩
    ·
     obtain ⟨h1, h2, _⟩ := hw
     go_simp
     rfl
    simp only [putLz]
   refine mix_end ?_
   clear HBEL c1 c2
   go_wp2_with fail
   go_roundw
   case rel => exact ⟨j + 1, by omega, by go_num, HB'.out⟩
   case measure => simp [intOf]; omega
  ·
   have HBEL := Lib.hid hbel
   clear hbel
   go_wp2_with fail
   go_ret
   exact ⟨rfl, HBEL.out⟩
end
theorem replicate_tab (n : Nat) (b : Bool) : List.replicate (2 ^ n) b = tabB n fun _ => b := tab_ext (by simp) fun i hi => by simp [List.getD, hi]
set_option maxRecDepth 100000 in
set_option maxHeartbeats 2000000 in
theorem one_any {n : Nat} {fs : List (Int × BF)} {w : World} (hn : n ≤ 16) (h0 : (0, fun _ => false) ∈ fs) {vl vx : Value} {hs : List (Int × BF)} {P : Nat → Prop} (hr : LawR P n fs w vl vx hs) (k : Int) :
 Calls Tryz.prog 17 #[.int .i64 n, vl, vx, .int .i64 k] w fun x w' => ∃ a F v, x = .returned (.tuple #[.int .i64 a, v]) ∧ (a, F) ∈ fs ∧ BoolsIs w' v (tabB n F) ∧ (∀ g, v.ownBlock = some g → P g ∨ w.heap.size ≤ g ∧ ∃ cur, w'.heap[g]? = some (.cells cur 4 (0, 0))) ∧ Below w.heap.size w w' := by
 obtain ⟨al, cl, rfl, hl⟩ := hr.l
 obtain ⟨ax, cx, rfl, hx⟩ := hr.x
 have hsm := hr.small
 have HSUB := Lib.hid hr.sub
 obtain ⟨L, hL⟩ : ∃ L, L = hs.length := ⟨_, rfl⟩
 have HLL := Lib.hid hL
 rw [← hL] at hsm ⊢
 clear hr
 by_cases hz : L = 0
 ·
  subst hz
  have HC := Lib.hid (refConst_any false n hn w)
  have hp : 2 ^ n ≤ 65536 := Nat.pow_le_pow_right (by omega) hn
  have H0 := Lib.hid h0
  clear hL hl hx h0
  go_enter Tryz.func17, Tryz.ntmps17
  go_wp2_with fail
  refine HC.out.mono ?_
  rintro x w1 ⟨g, rfl, hown, hb⟩
  have HF : Hid (∃ a F v, Ending.returned (.tuple #[.int .i64 0, .slice (some ⟨g, 0, none⟩) (2 ^ n) (2 ^ n)]) = .returned (.tuple #[.int .i64 a, v]) ∧ (a, F) ∈ fs ∧ BoolsIs w1 v (tabB n F) ∧ (∀ g, v.ownBlock = some g → P g ∨ w.heap.size ≤ g ∧ ∃ cur, w1.heap[g]? = some (.cells cur 4 (0, 0))) ∧ Below w.heap.size w w1) :=
   Lib.hid ⟨0, fun _ => false, _, rfl, H0.out, by rw [← replicate_tab]; exact (show OwnB w1 w.heap.size (.slice (some ⟨g, 0, none⟩) (2 ^ n) (2 ^ n)) (List.replicate (2 ^ n) false) from hown).boolsIs (by rw [List.length_replicate]; omega), fun q hq => .inr ⟨by cases hq; exact (hown.lt g rfl).1, hown.typed q hq⟩, hb⟩
  clear hown hb
  go_wp2_with fail
  go_ret2
  exact HF.out
 ·
  have hpos : 0 < L := by omega
  have e1 : Int.tmod k L < L := Int.tmod_lt_of_pos k (by omega)
  have e2 : -(L : Int) < Int.tmod k L := by
   have := Int.tmod_lt_of_pos (-k) (show (0 : Int) < L by omega)
   rw [Int.neg_tmod] at this
   omega
  obtain ⟨i, hi, hI⟩ : ∃ i, i < L ∧ Int.tmod (Int.tmod k L + L) L = ((i : Nat) : Int) := by
   refine ⟨(Int.tmod (Int.tmod k L + L) L).toNat, ?_, ?_⟩
   ·
    have := Int.tmod_lt_of_pos (Int.tmod k L + L) (show (0 : Int) < L by omega)
    have := Int.tmod_nonneg (L : Int) (show 0 ≤ Int.tmod k L + L by omega)
    omega
   ·
    have := Int.tmod_nonneg (L : Int) (show 0 ≤ Int.tmod k L + L by omega)
    omega
  obtain ⟨b1, of1, rfl, c1⟩ := hl.cells i (by simp; omega)
  obtain ⟨b2, of2, v2, rfl, c2, hv2, hp2⟩ := hx.cells i (by simp; omega)
  have hil : i < hs.length := by omega
  have q1 : at0 (hs.map Prod.fst) i = hs[i].1 := by rw [at0_eq (by simpa using hil)]; simp
  have q2 : (hs.map fun p => tabB n p.2).getD i [] = tabB n hs[i].2 := by simp [List.getD, hil]
  rw [q1] at c1
  rw [q2] at hv2
  have HF : Hid (∀ w', Below w.heap.size w w' → ∃ a F v, Ending.returned (.tuple #[.int .i64 hs[i].1, v2]) = .returned (.tuple #[.int .i64 a, v]) ∧ (a, F) ∈ fs ∧ BoolsIs w' v (tabB n F) ∧ (∀ g, v.ownBlock = some g → P g ∨ w.heap.size ≤ g ∧ ∃ cur, w'.heap[g]? = some (.cells cur 4 (0, 0))) ∧ Below w.heap.size w w') :=
   Lib.hid fun w' hb => ⟨hs[i].1, hs[i].2, v2, rfl, HSUB.out _ (List.getElem_mem hil), hv2.below hb, fun g hg => .inl (hp2 g hg), hb⟩
  obtain ⟨k1, hk1⟩ : ∃ k1, k1 = hs[i].1 := ⟨_, rfl⟩
  rw [← hk1] at c1 HF
  have hne : ((L : Int) == 0) = false := by simp; omega
  clear hL hl hx hv2 hp2 q1 q2 hk1 hz hil h0
  go_enter Tryz.func17, Tryz.ntmps17
  go_upto_region 4 with fail
  refine wp_region_mix (fun W : World => W.cell? ⟨b1, of1 + i, none⟩ = some (.int .i64 k1) ∧ W.cell? ⟨b2, of2 + i, none⟩ = some v2) false 10 [(0, false), (1, false), (2, false), (3, false), (4, false), (5, false), (6, false), (7, false), (8, false), (9, false)] (by kernel_rfl) (by kernel_rfl) ⟨c1, c2⟩ ?_
  simp only [planned, plnLz]
  iterate 10
   refine mix_readE rfl ?_
   apply Exists.intro
   refine ⟨fun w' hw => ?_, ?_⟩
   ·
    obtain ⟨h1, h2⟩ := hw
    go_simp
    rfl
   simp only [putLz]
  refine mix_end ?_
  go_wp2_with fail
  go_ret2
  exact HF.out _ (below_draw w 1)
open Go.RowKit
structure LawL (W : World) (o : Own) (base : Nat) (vl : Value) (ks : List Int) : Prop where
 own : OwnC 3 W base vl (intsV ks)
 no : ∀ k, vl.ownBlock = some k → o k = none
structure LawB (W : World) (o : Own) (base : Nat) (v : Value) (bs : List Bool) : Prop where
 is : BoolsIs W v bs
 no : ∀ k, v.ownBlock = some k → base ≤ k ∧ k < W.heap.size ∧ o k = none ∧ ∃ cur, W.heap[k]? = some (.cells cur 4 (0, 0))
structure LawX (W : World) (o : Own) (base : Nat) (vx : Value) (us : List (List Bool)) : Prop where
 ex : ∃ rs : List Value, rs.length = us.length ∧ OwnC 36 W base vx rs ∧ ∀ i v, rs[i]? = some v → LawB W o base v (us.getD i [])
 no : ∀ k, vx.ownBlock = some k → o k = none
section
variable {W W' : World} {o o' : Own} {base : Nat} {vl vx v : Value} {ks : List Int} {us : List (List Bool)} {bs : List Bool}
theorem LawL.chg (h : LawL W o base vl ks) (hc : ChgX NoB o o' W W') : LawL W' o' base vl ks :=
 ⟨h.own.same fun k hk => hc.block k (h.own.lt k hk).2 (h.no k hk) (fun e => e), fun k hk => hc.none' (h.own.lt k hk).2 (h.no k hk)⟩
theorem LawB.chg (h : LawB W o base v bs) (hc : ChgX NoB o o' W W') : LawB W' o' base v bs :=
 ⟨h.is.same fun k hk => hc.block k (h.no k hk).2.1 (h.no k hk).2.2.1 (fun e => e), fun k hk => by
  obtain ⟨h1, h2, h3, cur, h4⟩ := h.no k hk
  exact ⟨h1, Nat.lt_of_lt_of_le h2 hc.size, hc.none' h2 h3, cur, (hc.block k h2 h3 (fun e => e)).trans h4⟩⟩
theorem LawX.chg (h : LawX W o base vx us) (hc : ChgX NoB o o' W W') : LawX W' o' base vx us := by
 obtain ⟨rs, h1, h2, h3⟩ := h.ex
 exact ⟨⟨rs, h1, h2.same fun k hk => hc.block k (h2.lt k hk).2 (h.no k hk) (fun e => e), fun i v hv => (h3 i v hv).chg hc⟩, fun k hk => hc.none' (h2.lt k hk).2 (h.no k hk)⟩
theorem chg_below (hb : Below W.heap.size W W') (o : Own) : ChgX NoB o o W W' := ChgX.of_below hb o NoB
theorem LawL.typ {C : Nat → Prop} (h : LawL W o base vl ks) (hw : Wr C W W') {T : TypeId} (hT : T ≠ 3) (hC : ∀ k, C k → ∃ cur, W.heap[k]? = some (.cells cur T (0, 0))) : LawL W' o base vl ks :=
 ⟨h.own.same fun k hk => hw.keep k (h.own.lt k hk).2 fun e => by
  obtain ⟨c1, h1⟩ := hC k e
  obtain ⟨c2, h2⟩ := h.own.typed k hk
  rw [h1] at h2; cases h2; exact hT rfl, h.no⟩
theorem LawB.typ {C : Nat → Prop} (h : LawB W o base v bs) (hw : Wr C W W') {T : TypeId} (hT : T ≠ 4) (hC : ∀ k, C k → ∃ cur, W.heap[k]? = some (.cells cur T (0, 0))) : LawB W' o base v bs := by
 have hk : ∀ k, v.ownBlock = some k → W'.heap[k]? = W.heap[k]? := fun k hk => by
  obtain ⟨h1, h2, h3, cur, h4⟩ := h.no k hk
  exact hw.keep k h2 fun e => by
   obtain ⟨c1, q1⟩ := hC k e
   rw [q1] at h4; cases h4; exact hT rfl
 exact ⟨h.is.same hk, fun k hkk => by
  obtain ⟨h1, h2, h3, cur, h4⟩ := h.no k hkk
  exact ⟨h1, Nat.lt_of_lt_of_le h2 hw.size, h3, cur, (hk k hkk).trans h4⟩⟩
theorem LawX.typ {C : Nat → Prop} (h : LawX W o base vx us) (hw : Wr C W W') {T : TypeId} (hT : T ≠ 4) (hT2 : T ≠ 36) (hC : ∀ k, C k → ∃ cur, W.heap[k]? = some (.cells cur T (0, 0))) : LawX W' o base vx us := by
 obtain ⟨rs, h1, h2, h3⟩ := h.ex
 exact ⟨⟨rs, h1, h2.same fun k hk => hw.keep k (h2.lt k hk).2 fun e => by
  obtain ⟨c1, q1⟩ := hC k e
  obtain ⟨c2, q2⟩ := h2.typed k hk
  rw [q1] at q2; cases q2; exact hT2 rfl, fun i v hv => (h3 i v hv).typ hw hT hC⟩, h.no⟩
theorem wr_app {v' : Value} (h1 : W'.os = W.os) (h2 : W'.tape = W.tape) (h3 : W'.output = W.output) (h4 : W.heap.size ≤ W'.heap.size) (hk : KeepApp v v' W W') : Wr (fun k => v.ownBlock = some k) W W' :=
 ⟨h1, h2, h3, h4, fun k hlt hn => hk.keep k hlt (fun e => hn e.symm)⟩
theorem LawL.app {v' : Value} {k : Int} (h : LawL W o base vl ks) (hlt : OwnLt o W) (hn : OwnC 3 W' base v' (intsV ks ++ [.int .i64 k])) (hk : KeepApp vl v' W W') : LawL W' o base v' (ks ++ [k]) := by
 refine ⟨by rw [show intsV (ks ++ [k]) = intsV ks ++ [.int .i64 k] by simp [intsV]]; exact hn, fun q hq => ?_⟩
 rcases hk.loc with e | ⟨g, e, hg⟩
 ·
  exact h.no q (by rw [← e]; exact hq)
 ·
  rw [e] at hq; cases hq; exact hlt.none hg
theorem LawX.app {v' : Value} (h : LawX W o base vx us) (hlt : OwnLt o W) {rs : List Value} (hrs : rs.length = us.length) (hall : ∀ i v, rs[i]? = some v → LawB W o base v (us.getD i [])) (hw : Wr (fun k => vx.ownBlock = some k) W W') (hT : ∀ k, vx.ownBlock = some k → ∃ cur, W.heap[k]? = some (.cells cur 36 (0, 0)))
 (hb : LawB W o base v bs) (hn : OwnC 36 W' base v' (rs ++ [v])) (hk : KeepApp vx v' W W') : LawX W' o base v' (us ++ [bs]) := by
 refine ⟨⟨rs ++ [v], by simp [hrs], hn, fun i u hu => ?_⟩, fun q hq => ?_⟩
 ·
  rcases Nat.lt_or_ge i rs.length with hi | hi
  ·
   rw [List.getElem?_append_left hi] at hu
   have e : (us ++ [bs]).getD i [] = us.getD i [] := by simp [List.getD, List.getElem?_append_left (show i < us.length by omega)]
   rw [e]
   exact (hall i u hu).typ hw (by decide) hT
  ·
   rw [List.getElem?_append_right hi] at hu
   have hi2 : i = rs.length := by
    have := (List.getElem?_eq_some_iff.1 hu).1
    simp at this; omega
   subst hi2
   simp at hu
   subst hu
   have e : (us ++ [bs]).getD rs.length [] = bs := by rw [hrs]; simp [List.getD]
   rw [e]
   exact hb.typ hw (by decide) hT
 ·
  rcases hk.loc with e | ⟨g, e, hg⟩
  ·
   exact h.no q (by rw [← e]; exact hq)
  ·
   rw [e] at hq; cases hq; exact hlt.none hg
theorem lawB_new {n : Nat} (h : OwnB W' W.heap.size v bs) (hl : bs.length ≤ 1000000) (hlt : OwnLt o W) (hb : base ≤ W.heap.size) : LawB W' o base v bs :=
 ⟨OwnC.boolsIs h hl, fun k hk => by
  have h1 := h.lt k hk
  exact ⟨by omega, h1.2, hlt.none h1.1, h.typed k hk⟩⟩
theorem getD_map {α β : Type} (f : α → β) (l : List α) (d : β) (i : Nat) (hi : i < l.length) : (l.map f).getD i d = f l[i] := by simp [List.getD, hi]
theorem lawR_of {n : Nat} {fs hs : List (Int × BF)} (hl : LawL W o base vl (hs.map Prod.fst)) (hx : LawX W o base vx (hs.map fun p => tabB n p.2)) (hsub : ∀ p ∈ hs, p ∈ fs) (hsm : hs.length ≤ 1000) :
 LawR (fun g => base ≤ g ∧ g < W.heap.size ∧ o g = none ∧ ∃ cur, W.heap[g]? = some (.cells cur 4 (0, 0))) n fs W vl vx hs := by
 obtain ⟨rs, h1, h2, h3⟩ := hx.ex
 obtain ⟨al, cl, e1, _⟩ := hl.own.slice
 obtain ⟨ax, cx, e2, _⟩ := h2.slice
 have l1 : (intsV (hs.map Prod.fst)).length = hs.length := by simp [intsV]
 have l2 : rs.length = hs.length := by rw [h1]; simp
 rw [l1] at e1
 rw [l2] at e2
 refine ⟨hsub, hsm, ⟨al, cl, e1, ⟨by simp; omega, fun k hk => ?_⟩⟩, ⟨ax, cx, e2, ⟨by simp; omega, fun k hk => ?_⟩⟩⟩
 ·
  obtain ⟨g, cap, e3, _⟩ := hl.own.shape (by rw [l1]; simp at hk; omega)
  rw [e1] at e3
  injection e3 with e3
  subst e3
  have hc := hl.own
  rw [e1] at hc
  refine ⟨g, 0, rfl, ?_⟩
  rw [Nat.zero_add, hc.cell k (by rw [l1]; simpa using hk), intsV, List.getElem?_map, getElem?_at0 hk]; rfl
 ·
  obtain ⟨g, cap, e3, _⟩ := h2.shape (by rw [l2]; simp at hk; omega)
  rw [e2] at e3
  injection e3 with e3
  subst e3
  have hc := h2
  rw [e2] at hc
  have hk' : k < rs.length := by rw [h1]; exact hk
  have hb := h3 k rs[k] (List.getElem?_eq_getElem hk')
  refine ⟨g, 0, rs[k], rfl, ?_, hb.is, hb.no⟩
  rw [Nat.zero_add, hc.cell k hk', List.getElem?_eq_getElem hk']
end
open Go.RowKit
def okI (z : Int) : Prop := -9223372036854775808 ≤ z ∧ z ≤ 9223372036854775807
inductive ExT where
 | nil
 | mk (op v : Int) (n : Nat) (kid : Nat → ExT)
def sumN : Nat → (Nat → Nat) → Nat
 | 0, _ => 0
 | k + 1, f => sumN k f + f k
theorem sumN_ge {f : Nat → Nat} {j : Nat} : ∀ (k : Nat), j < k → f j ≤ sumN k f
 | 0, h => by omega
 | k + 1, h => by
   unfold sumN
   by_cases e : j = k
   ·
    subst e; omega
   ·
    have := sumN_ge (f := f) k (show j < k by omega); omega
def ExT.size : ExT → Nat
 | .nil => 1
 | .mk _ _ n kid => 1 + sumN n fun i => (kid i).size
theorem ExT.size_pos (e : ExT) : 1 ≤ e.size := by cases e <;> unfold ExT.size <;> omega
instance : Inhabited ExT := ⟨.nil⟩
theorem ExT.kid_size {op v : Int} {n : Nat} {kid : Nat → ExT} {i : Nat} (h : i < n) : (kid i).size < (ExT.mk op v n kid).size := by
 have h1 : (kid i).size ≤ sumN n fun i => (kid i).size := sumN_ge (f := fun i => (kid i).size) n h
 show (kid i).size < 1 + sumN n fun i => (kid i).size
 omega
def ExprAt (w : World) : ExT → Value → Prop
 | .nil, _ => False
 | .mk op v n kid, x => ∃ a c, x = .agg #[.int .i64 op, .int .i64 v, .slice a n c] ∧ okI op ∧ okI v ∧ n ≤ 9223372036854775807 ∧
  ∀ k, k < n → ∃ b off x0 x1 x2, a = some ⟨b, off, none⟩ ∧ w.cell? ⟨b, off + k * 3, none⟩ = some x0 ∧ w.cell? ⟨b, off + k * 3 + 1, none⟩ = some x1 ∧ w.cell? ⟨b, off + k * 3 + 2, none⟩ = some x2 ∧ ExprAt w (kid k) (.agg #[x0, x1, x2])
theorem ExprAt.below {w w' : World} (hb : Below w.heap.size w w') : ∀ (e : ExT) {x : Value}, ExprAt w e x → ExprAt w' e x
 | .nil, _, h => by unfold ExprAt at h; exact h.elim
 | .mk op v n kid, x, h => by
   unfold ExprAt at h ⊢
   obtain ⟨a, c, h1, h2, h3, h4, h5⟩ := h
   refine ⟨a, c, h1, h2, h3, h4, fun k hk => ?_⟩
   obtain ⟨b, off, x0, x1, x2, rfl, c0, c1, c2, hx⟩ := h5 k hk
   exact ⟨b, off, x0, x1, x2, rfl, (hb.cell (p := ⟨b, off + k * 3, none⟩) (lt_of_cell c0)).trans c0, (hb.cell (p := ⟨b, off + k * 3 + 1, none⟩) (lt_of_cell c1)).trans c1, (hb.cell (p := ⟨b, off + k * 3 + 2, none⟩) (lt_of_cell c2)).trans c2, ExprAt.below hb (kid k) hx⟩
set_option maxRecDepth 100000 in
set_option maxHeartbeats 2000000 in
theorem parts_any : ∀ (e : ExT) (x : Value) (q : Nat) (w : World), q ≤ 1000 → ExprAt w e x →
 Calls Tryz.prog 72 #[x, .int .i64 q] w fun y w' => (∃ r : Nat, y = .returned (.int .i64 r) ∧ 1 ≤ r ∧ r ≤ q + 1 ∧ (r ≤ q → r = e.size)) ∧ Below w.heap.size w w'
 | .nil, x, q, w, hq, h => by unfold ExprAt at h; exact h.elim
 | .mk op v n kid, x, q, w, hq, h => by
   unfold ExprAt at h
   obtain ⟨a, c, rfl, h2, h3, h4, h5⟩ := h
   have H5 := Lib.hid h5
   have HSZ : Hid ((ExT.mk op v n kid).size = 1 + sumN n fun i => (kid i).size) := Lib.hid rfl
   have IH : Hid (∀ (i : Nat) (x : Value) (z : Int) (q : Nat) (W : World), z = (q : Int) → q ≤ 1000 → ExprAt W (kid i) x → Calls Tryz.prog 72 #[x, .int .i64 z] W fun y w' => (∃ r : Nat, y = .returned (.int .i64 r) ∧ 1 ≤ r ∧ r ≤ q + 1 ∧ (r ≤ q → r = (kid i).size)) ∧ Below W.heap.size W w') :=
    Lib.hid fun i x z q W hz h1 h2 => by subst hz; exact parts_any (kid i) x q W h1 h2
   obtain ⟨E, hE⟩ : ∃ E, E = ExT.mk op v n kid := ⟨_, rfl⟩
   rw [← hE] at HSZ ⊢
   obtain ⟨w1, hw1⟩ : ∃ w1, w1 = w.alloc (.cells #[.int .i64 op, .int .i64 v, .slice a n c] 39) := ⟨_, rfl⟩
   have HW1 : Hid (_ = w1) := Lib.hid hw1.symm
   have HB1 : Hid (Below w.heap.size w w1) := by rw [hw1]; exact Lib.hid (below_new1 _ _)
   have hblk : w1.heap[w.heap.size]? = some (.cells #[.int .i64 op, .int .i64 v, .slice a n c] 39 (0, 0)) := by rw [hw1]; exact heap_alloc_new _ _
   have hs1 : w1.heap.size = w.heap.size + 1 := by rw [hw1]; simp
   have d2 : w1.cell? ⟨w.heap.size, 2, none⟩ = some (.slice a n c) := by rw [cell_of_row _ _ 2 _ _ _ hblk]; rfl
   clear h5 hE hw1 hblk h2 h3
   go_enter Tryz.func72, Tryz.ntmps72
   go_upto_region 1 with fail
   rw [HW1.out]
   go_wp2_with fail
   go_loopw [5, 6] (fun s5 s6 wr => ∃ i r : Nat, i ≤ n ∧ 1 ≤ r ∧ i < r ∧ r ≤ q + 1 ∧ s5 = .int .i64 r ∧ s6 = .int .i64 i ∧ Below w1.heap.size w1 wr ∧ Hid (r ≤ q → r = 1 + sumN i fun i => (kid i).size)) (fun _ s6 _ => n - (intOf s6).toNat)
   case atStart => exact ⟨0, 1, by omega, by omega, by omega, by omega, rfl, rfl, Below.refl _ _, Lib.hid fun _ => rfl⟩
   case round =>
    obtain ⟨i, r, hi, hr1, hir, hr2, rfl, rfl, hbel, HR⟩ := hrel
    have d2' := (hbel.cell (p := ⟨w.heap.size, 2, none⟩) (lt_of_cell d2)).trans d2
    have HBEL := Lib.hid hbel
    clear hbel
    by_cases hlt : i < n
    ·
     by_cases hle : r ≤ q
     ·
      obtain ⟨b, off, x0, x1, x2, rfl, c0, c1, c2, hx⟩ := H5.out i hlt
      have hb0 := HB1.out.trans (HBEL.out.mono HB1.out.size)
      have e0 := (hb0.cell (p := ⟨b, off + i * 3, none⟩) (lt_of_cell c0)).trans c0
      have e1 := (hb0.cell (p := ⟨b, off + i * 3 + 1, none⟩) (lt_of_cell c1)).trans c1
      have e2 := (hb0.cell (p := ⟨b, off + i * 3 + 2, none⟩) (lt_of_cell c2)).trans c2
      have HX := Lib.hid (hx.below hb0)
      clear c0 c1 c2 hx hb0
      have hin : (i : Int) < n := by omega
      go_wp2_with fail
      refine (IH.out i _ _ (q - r) _ (by omega) (by omega) HX.out).mono ?_
      rintro y w3 ⟨⟨r2, rfl, g1, g2, g3⟩, hb3⟩
      have HB3 := Lib.hid (HBEL.out.trans (hb3.mono HBEL.out.size))
      have HR2 : Hid (r + r2 ≤ q → r + r2 = 1 + sumN (i + 1) fun i => (kid i).size) := Lib.hid fun hh => by
       have e1 := HR.out (by omega)
       have e2 := g3 (by omega)
       show _ = 1 + (sumN i (fun i => (kid i).size) + (kid i).size)
       omega
      clear hb3 g3 e0 e1 e2
      go_wp2_with fail
      go_roundw
      case rel => exact ⟨i + 1, r + r2, by omega, by omega, by omega, by omega, by go_num, by go_num, HB3.out, HR2⟩
      case measure => simp [intOf]; omega
     ·
      have hin : (i : Int) < n := by omega
      have HF : Hid ((∃ r' : Nat, Ending.returned (.int .i64 (r : Nat)) = .returned (.int .i64 r') ∧ 1 ≤ r' ∧ r' ≤ q + 1 ∧ (r' ≤ q → r' = E.size)) ∧ Below w.heap.size w wr) :=
       Lib.hid ⟨⟨r, rfl, hr1, hr2, fun hh => by omega⟩, HB1.out.trans (HBEL.out.mono HB1.out.size)⟩
      go_wp2_with fail
      go_ret
      exact HF.out
    ·
     have he : i = n := by omega
     have HF : Hid ((∃ r' : Nat, Ending.returned (.int .i64 (r : Nat)) = .returned (.int .i64 r') ∧ 1 ≤ r' ∧ r' ≤ q + 1 ∧ (r' ≤ q → r' = E.size)) ∧ Below w.heap.size w wr) :=
      Lib.hid ⟨⟨r, rfl, hr1, hr2, fun hh => by rw [HSZ.out, HR.out hh, he]⟩, HB1.out.trans (HBEL.out.mono HB1.out.size)⟩
     have hin : ¬ (i : Int) < n := by omega
     go_wp2_with fail
     go_ret
     exact HF.out
end Go.Proofs.YtchliiaknmknhaaGreat
