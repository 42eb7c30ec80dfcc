/- Several texts in one file: contracts of the program's functions and what follows from them. -/
import Derived.Test.YtchliiaknmknhaaGreatS1
import Derived.Deep.CutBlock
import Derived.Deep.DeepCutAuto
import Derived.MapKept
import Derived.ChangeKeysEq
import Derived.Maps.OwnSet
import Derived.Laws.MakeOwn
import Derived.Laws.IdiomCopy
set_option linter.unusedSimpArgs false
set_option linter.unusedVariables false
set_option linter.unusedSectionVars false
set_option linter.unnecessarySimpa false
namespace Go.Proofs.YtchliiaknmknhaaGreat
open Go.RowKit
set_option maxRecDepth 100000 in
set_option maxHeartbeats 1600000 in
theorem poolTake_full (o : Own) (pb : Nat) (p : PoolD) (n : RN) (w : World) (h : PoolAt o w pb p) (hf : p.free = []) (hfull : p.room < p.at_.length) :
 Calls Tryz.prog 154 #[.pointer (some ⟨pb, 0, none⟩), rnAgg n] w fun x w' => x = .returned (.tuple #[.int .i64 0, .int .i64 7]) ∧ Below w.heap.size w w' := by
 obtain ⟨vs, vt, vf, c0, c1, c2, c3, c4, hs, ht, hff⟩ := h.cells
 obtain ⟨gs, cs, rfl, _⟩ := hs.shape h.pos
 obtain ⟨af, cf, rfl, _⟩ := hff.slice
 rw [hf] at c3
 have hfull' : (p.room : Int) < p.at_.length := by omega
 have lpb : pb < w.heap.size := lt_of_cell c0
 have htop := h.top
 have hroom := h.room
 clear hs ht hff h hf
 unfold rnAgg
 go_enter Tryz.func154, Tryz.ntmps154
 go_wp2_with (fail)
 go_quiet (fail)
 go_wp2_with (fail)
 go_ret2
 exact ⟨rfl, by first | exact below_new1 w _ | exact below_newdraw w _ _⟩
theorem cells5 {w : World} {g : Nat} {a b c d e : Value} {T : TypeId} (h : w.heap[g]? = some (.cells #[a, b, c, d, e] T (0, 0))) : w.cell? ⟨g, 0, none⟩ = some a ∧ w.cell? ⟨g, 1, none⟩ = some b ∧ w.cell? ⟨g, 2, none⟩ = some c ∧ w.cell? ⟨g, 3, none⟩ = some d ∧ w.cell? ⟨g, 4, none⟩ = some e ∧ (∀ k, w.frozen? ⟨g, k, none⟩ = false) :=
 ⟨by rw [cell_of_row w g 0 _ _ _ h]; rfl, by rw [cell_of_row w g 1 _ _ _ h]; rfl, by rw [cell_of_row w g 2 _ _ _ h]; rfl, by rw [cell_of_row w g 3 _ _ _ h]; rfl, by rw [cell_of_row w g 4 _ _ _ h]; rfl, fun k => by simp [World.frozen?, h]⟩
theorem OwnLt.none {o : Own} {w : World} (h : OwnLt o w) {b : Nat} (hb : w.heap.size ≤ b) : o b = Option.none := by
 cases e : o b with
 | none => rfl
 | some r => have := h b r e; omega
theorem RowR.below {o : Own} {w w' : World} {r : Role} {e : TypeId} {size : Nat} {v : Value} {n : Nat} {xs : List Value} (h : RowR o w r e size v n xs) (hlt : OwnLt o w) (hb : Below w.heap.size w w') : RowR o w' r e size v n xs :=
 h.keep (fun g hg => hb.block g (hlt g r hg)) (fun _ h => h)
theorem infoNode : (Tryz.prog.info? 157).map (fun i => (i.zero, i.size, i.bytes)) = some (some (.agg #[.int .i64 0, .int .i64 0, .int .i64 0, .int .i64 0, .int .i64 0]), 5, 40) := by kernel_rfl
theorem infoBool : (Tryz.prog.info? 4).map (fun i => (i.zero, i.size, i.bytes)) = some (some (.bool false), 1, 1) := by kernel_rfl
theorem PoolAt.toFresh {o o' : Own} {w W : World} {pb gs gt cs ct : Nat} {p : PoolD} (h : PoolAt o w pb p) {n : RN} (hf : p.free = []) (hr : p.at_.length ≤ p.room) (hopb : o' pb = some .pool) {vf : Value}
 (hpb : W.heap[pb]? = some (.cells #[.int .i64 p.room, .slice (some ⟨gs, 0, none⟩) (p.at_.length + 1) cs, .slice (some ⟨gt, 0, none⟩) (p.at_.length + 1) ct, vf, .int .i64 p.many] 190 (0, 0)))
 (h2 : RowR o' W .slots 157 5 (.slice (some ⟨gs, 0, none⟩) (p.at_.length + 1) cs) (p.at_.length + 1) ((p.at_ ++ [rn0]).flatMap rnV))
 (h3 : RowR o' W .taken 4 1 (.slice (some ⟨gt, 0, none⟩) (p.at_.length + 1) ct) (p.at_.length + 1) ((p.taken ++ [false]).map Value.bool))
 (h4 : RowR o' W .free 3 1 vf p.free.length (p.free.map nat64)) :
 PoolAt o' (((set5 W gs p.at_.length { n with id := p.at_.length }).setCell ⟨gt, p.at_.length, none⟩ (.bool true)).setCell ⟨pb, 4, none⟩ (.int .i64 ((p.many + 1 : Nat) : Int))) pb (p.fresh n) ∧
 Chg (fun r => r = .pool ∨ r = .slots ∨ r = .taken ∨ r = .free) o' o' W (((set5 W gs p.at_.length { n with id := p.at_.length }).setCell ⟨gt, p.at_.length, none⟩ (.bool true)).setCell ⟨pb, 4, none⟩ (.int .i64 ((p.many + 1 : Nat) : Int))) := by
 have os := h2.owner
 have ot := h3.owner
 have ne : ∀ {a b r q}, o' a = some r → o' b = some q → r ≠ q → a ≠ b := fun ha hb hr e => by subst e; rw [ha] at hb; cases hb; exact hr rfl
 have hl : p.taken.length = p.at_.length := h.len
 have hset : (p.at_ ++ [rn0]).set p.at_.length { n with id := p.at_.length } = p.at_ ++ [{ n with id := p.at_.length }] := by
  rw [List.set_append_right _ _ (Nat.le_refl _)]; simp
 have hget : ∀ i, (p.fresh n).tk i = (p.tk i || i == p.at_.length) := by
  intro i
  unfold PoolD.tk PoolD.fresh
  dsimp only
  rcases Nat.lt_trichotomy i p.taken.length with h' | h' | h'
  ·
   have hne : i ≠ p.at_.length := by omega
   simp [List.getD, List.getElem?_append_left, h', hne]
  ·
   subst h'; simp [List.getD, hl]
  ·
   have hne : i ≠ p.at_.length := by omega
   have h1 : i - p.taken.length ≠ 0 := by omega
   have h0 : p.taken.length ≤ i := by omega
   simp [List.getD, List.getElem?_append_right, h0, hne, h1]
 have hnd : ∀ i, i ≠ p.at_.length → (p.fresh n).nd i = p.nd i := by
  intro i hi
  unfold PoolD.nd PoolD.fresh
  dsimp only
  rcases Nat.lt_or_ge i p.at_.length with h' | h'
  ·
   simp [List.getD, List.getElem?_append_left, h']
  ·
   have h1 : i - p.at_.length ≠ 0 := by omega
   simp [List.getD, List.getElem?_append_right, h', h1]
 refine ⟨⟨hopb, ⟨.slice (some ⟨gs, 0, none⟩) (p.at_.length + 1) cs, .slice (some ⟨gt, 0, none⟩) (p.at_.length + 1) ct, vf, ?_, ?_, ?_, ?_⟩, ?_, h.room, ?_, ?_, ?_, ?_, ?_, ?_, ?_, ?_⟩, ?_⟩
 ·
  have e : ((set5 W gs p.at_.length { n with id := p.at_.length }).setCell ⟨gt, p.at_.length, none⟩ (.bool true)).heap[pb]? = W.heap[pb]? := (heap_setCell_ne (ne hopb ot (by simp)) _).trans (set5_heap (ne hopb os (by simp)))
  exact heap_setCell_same (e.trans hpb) _
 ·
  have a0 := rowR_set5 (l := p.at_ ++ [rn0]) (by simpa using h2) (k := p.at_.length) (by simp) { n with id := p.at_.length }
  have a1 := (a0.setCell_other (p := ⟨gt, p.at_.length, none⟩) (by rw [ot]; simp) (.bool true)).setCell_other (p := ⟨pb, 4, none⟩) (by rw [hopb]; simp) (.int .i64 ((p.many + 1 : Nat) : Int))
  rw [hset] at a1
  simpa [PoolD.fresh] using a1
 ·
  have a1 := (h3.keep (w' := set5 W gs p.at_.length { n with id := p.at_.length }) (o' := o') (fun g hg => set5_heap (ne hg os (by simp))) (fun _ h => h)).stored p.at_.length (.bool true)
  have a2 := a1.setCell_other (p := ⟨pb, 4, none⟩) (by rw [hopb]; simp) (.int .i64 ((p.many + 1 : Nat) : Int))
  rw [← hl, List.map_append, List.set_append_right _ _ (by simp)] at a2
  simp only [PoolD.fresh, List.length_append, List.length_singleton, List.map_append]
  simpa [hl] using a2
 ·
  exact ((h4.keep (w' := set5 W gs p.at_.length { n with id := p.at_.length }) (o' := o') (fun g hg => set5_heap (ne hg os (by simp))) (fun _ h => h)).setCell_other (p := ⟨gt, p.at_.length, none⟩) (by rw [ot]; simp) (.bool true)).setCell_other (p := ⟨pb, 4, none⟩) (by rw [hopb]; simp) (.int .i64 ((p.many + 1 : Nat) : Int))
 ·
  simp [PoolD.fresh, hl]
 ·
  simp only [PoolD.fresh, List.length_append, List.length_singleton]; omega
 ·
  rw [hget]; have := h.pos; simp [h.zero]; omega
 ·
  simp [PoolD.fresh]
 ·
  intro i hi
  by_cases e : i = p.at_.length
  ·
   subst e; simp [PoolD.nd, PoolD.fresh, List.getD]
  ·
   rw [hnd i e]; rw [hget] at hi; simp [e] at hi; exact h.id i hi
 ·
  have := h.many; simp only [PoolD.fresh, List.length_append, List.length_singleton]; omega
 ·
  exact h.nodup
 ·
  intro i hi
  have : i ∈ p.free := hi
  rw [hf] at this; cases this
 ·
  have e1 : (p.fresh n).at_.length = p.at_.length + 1 := by simp [PoolD.fresh]
  have hne1 : ∀ i, i < p.at_.length → (if (p.fresh n).tk i = true then (1 : Int) else 0) = if p.tk i = true then 1 else 0 := by
   intro i hi
   have hne : (i == p.at_.length) = false := by simp; omega
   rw [hget, hne]; simp
  rw [e1, sumTo, sumTo_congr (g := fun i => if p.tk i = true then 1 else 0) p.at_.length hne1, ← h.cnt, hget]
  simp [PoolD.fresh]
 ·
  exact ((set5_chg (Chg.refl _ _ _) os (.inr (.inl rfl))).setCell (p := ⟨gt, p.at_.length, none⟩) ot (.inr (.inr (.inl rfl))) _).setCell (p := ⟨pb, 4, none⟩) hopb (.inl rfl) _
theorem run_appOne (T e ty : TypeId) (size bytes : Nat) (z : Value) (hT : Tryz.prog.underlying T = some (.slice e)) (he : (Tryz.prog.info? e).map (fun i => (i.zero, i.size, i.bytes)) = some (some z, size, bytes)) (hzs : z.cells.size = size) (hsz : 0 < size)
 {wr : World} {o : Own} {r : Role} {v : Value} {n : Nat} {xs : List Value} (news : Array Value) (hl : news.size = size) (h1 : ∀ u ∈ news.toList, u.oneCell' = true) (h : RowR o wr r e size v n xs) (hlt : OwnLt o wr) (hn : n < 1000000000) (hb : bytes ≤ 10000) :
 ∃ g cap w' o', (Builtin.append_ #[T, T] ty #[v, .slice (some ⟨wr.heap.size, 0, none⟩) 1 1]).run Tryz.prog (wr.alloc (.cells news e)) = .ok (.slice (some ⟨g, 0, none⟩) (n + 1) cap) w' ∧
  RowR o' w' r e size (.slice (some ⟨g, 0, none⟩) (n + 1) cap) (n + 1) (xs ++ news.toList) ∧ Chg (· = r) o o' wr w' ∧ OwnLt o' w' := by
 obtain ⟨i, hi, hz, hsize, hby⟩ := info_parts he
 have hbl : Below wr.heap.size wr (wr.alloc (.cells news e)) := below_new1 _ _
 have hRow : RowR o (wr.alloc (.cells news e)) r e size v n xs := h.keep (fun g hg => hbl.block g (hlt g r hg)) (fun _ h => h)
 have hcell : ∀ j u, news.toList[j]? = some u → (wr.alloc (.cells news e)).cell? ((⟨wr.heap.size, 0, none⟩ : Addr).add j) = some u := by
  intro j u hu
  have hadd : (⟨wr.heap.size, 0, none⟩ : Addr).add j = ⟨wr.heap.size, j, none⟩ := by unfold Addr.add; split <;> simp_all
  rw [hadd, cell_of_row _ _ _ _ _ _ (heap_alloc_new wr _)]
  simpa using hu
 have hnb : (n + 1) * bytes ≤ 140737488355328 := Nat.le_trans (Nat.mul_le_mul (show n + 1 ≤ 1000000000 by omega) hb) (by decide)
 obtain ⟨v', w', o', a0, a1, a2, a3⟩ := hRow.append (P := Tryz.prog) (hlt.mono hbl.size) T ty i z bytes hT hi hz hsize hby hzs hsz ⟨wr.heap.size, 0, none⟩ 1 1 news.toList (by simpa using hl) hcell h1 (by unfold maxLen; omega) hnb
 obtain ⟨g, cap, rfl, _⟩ := a1.shape (by omega)
 exact ⟨g, cap, w', o', a0, a1, (Chg.of_below hbl _ _).trans a2, a3⟩
theorem wpList_appOne (T e : TypeId) (size bytes : Nat) (z : Value) (hT : Tryz.prog.underlying T = some (.slice e)) (he : (Tryz.prog.info? e).map (fun i => (i.zero, i.size, i.bytes)) = some (some z, size, bytes)) (hzs : z.cells.size = size) (hsz : 0 < size)
 {wr : World} {ops : Array Oper} {rest : List Oper} {op : Oper} {a : Act} {Q : Exit → Act → World → Prop} {W : World} (hgd : op.guard = none) (s x : Operand)
 (hop : op.op = .call { callee := .builtin .append, args := #[s, x], argTypes := #[T, T] })
 {o : Own} {r : Role} {v : Value} {n : Nat} {xs : List Value} (hs : a.eval s = v) {N : Nat} (hx : a.eval x = .slice (some ⟨N, 0, none⟩) 1 1) {news : Array Value}
 (hW : W = wr.alloc (.cells news e)) (hN : N = wr.heap.size) (hl : news.size = size) (h1 : ∀ u ∈ news.toList, u.oneCell' = true) (h : RowR o wr r e size v n xs) (hlt : OwnLt o wr) (hn : n < 1000000000) (hb : bytes ≤ 10000)
 (hK : ∀ g cap w' o', RowR o' w' r e size (.slice (some ⟨g, 0, none⟩) (n + 1) cap) (n + 1) (xs ++ news.toList) → Chg (· = r) o o' wr w' → OwnLt o' w' → wpList Tryz.prog ops Q rest (a.put op.dst (.slice (some ⟨g, 0, none⟩) (n + 1) cap)) w') : wpList Tryz.prog ops Q (op :: rest) a W := by
 subst hN; subst hW
 obtain ⟨g, cap, w', o', hr, h2, h3, h4⟩ := run_appOne T e op.type size bytes z hT he hzs hsz news hl h1 h hlt hn hb
 refine wpList_plain hgd fun K hKK => ?_
 unfold Oper.wp execOp
 simp only [hop, resolve, invoke, builtin, Sem.run_bind, Sem.run_pure, Result.andThen_ok, List.map_toArray, List.map_cons, List.map_nil, hs, hx, hr]
 exact hKK _ _ (hK g cap w' o' h2 h3 h4)
structure TakeS (o : Own) (w : World) (p : PoolD) (n : RN) (b pb : Nat) (vs vt vf : Value) (nl nt : Nat) (xs : List Value) (bs : List Value) (o1 : Own) (wx : World) : Prop where
 fpb : wx.heap[pb]? = some (.cells #[.int .i64 p.room, vs, vt, vf, .int .i64 p.many] 190 (0, 0))
 box : wx.heap[b]? = some (.cells #[.int .i64 n.id, .int .i64 n.v, .int .i64 n.lo, .int .i64 n.hi, .int .i64 n.refs] 157 (0, 0))
 slots : RowR o1 wx .slots 157 5 vs nl xs
 taken : RowR o1 wx .taken 4 1 vt nt bs
 free : RowR o1 wx .free 3 1 vf p.free.length (p.free.map nat64)
 chg : Chg (fun r => r = .pool ∨ r = .slots ∨ r = .taken ∨ r = .free) o o1 w wx
 lt : OwnLt o1 wx
 ob : o1 b = none
 op : o1 pb = some .pool
theorem TakeS.grown1 {o : Own} {w : World} {p : PoolD} {n : RN} {b pb : Nat} {vs vt vf vs' : Value} {nl nt nl' : Nat} {xs bs xs' : List Value} {o1 o2 : Own} {wx wy : World} (h : TakeS o w p n b pb vs vt vf nl nt xs bs o1 wx)
 (hr : RowR o2 wy .slots 157 5 vs' nl' xs') (hc : Chg (· = .slots) o1 o2 wx wy) (hl : OwnLt o2 wy) : TakeS o w p n b pb vs' vt vf nl' nt xs' bs o2 (wy.setCell ⟨pb, 1, none⟩ vs') := by
 have hop := hc.ext _ _ h.op
 have hlb : b < wx.heap.size := (Array.getElem?_eq_some_iff.1 h.box).1
 have hbn := hc.alien' hlb h.ob
 have npb : b ≠ pb := by intro e; have h1 := h.op; rw [← e, h.ob] at h1; cases h1
 exact ⟨heap_setCell_same ((hc.same h.lt h.op (by simp)).trans h.fpb) _, (heap_setCell_ne npb _).trans ((hc.alien hlb h.ob).trans h.box), hr.setCell_other (by rw [hop]; simp) _, (h.taken.chg hc h.lt (by simp)).setCell_other (by rw [hop]; simp) _,
  (h.free.chg hc h.lt (by simp)).setCell_other (by rw [hop]; simp) _, (h.chg.trans (hc.mono fun r e => .inr (.inl e))).setCell (p := ⟨pb, 1, none⟩) hop (.inl rfl) _, hl.mono (by simp [World.setCell]), hbn, hop⟩
theorem TakeS.grown2 {o : Own} {w : World} {p : PoolD} {n : RN} {b pb : Nat} {vs vt vf vt' : Value} {nl nt nt' : Nat} {xs bs bs' : List Value} {o1 o2 : Own} {wx wy : World} (h : TakeS o w p n b pb vs vt vf nl nt xs bs o1 wx)
 (hr : RowR o2 wy .taken 4 1 vt' nt' bs') (hc : Chg (· = .taken) o1 o2 wx wy) (hl : OwnLt o2 wy) : TakeS o w p n b pb vs vt' vf nl nt' xs bs' o2 (wy.setCell ⟨pb, 2, none⟩ vt') := by
 have hop := hc.ext _ _ h.op
 have hlb : b < wx.heap.size := (Array.getElem?_eq_some_iff.1 h.box).1
 have hbn := hc.alien' hlb h.ob
 have npb : b ≠ pb := by intro e; have h1 := h.op; rw [← e, h.ob] at h1; cases h1
 exact ⟨heap_setCell_same ((hc.same h.lt h.op (by simp)).trans h.fpb) _, (heap_setCell_ne npb _).trans ((hc.alien hlb h.ob).trans h.box), (h.slots.chg hc h.lt (by simp)).setCell_other (by rw [hop]; simp) _, hr.setCell_other (by rw [hop]; simp) _,
  (h.free.chg hc h.lt (by simp)).setCell_other (by rw [hop]; simp) _, (h.chg.trans (hc.mono fun r e => .inr (.inr (.inl e)))).setCell (p := ⟨pb, 2, none⟩) hop (.inl rfl) _, hl.mono (by simp [World.setCell]), hbn, hop⟩
set_option maxRecDepth 100000 in
set_option maxHeartbeats 1600000 in
theorem poolTake_fresh (o : Own) (pb : Nat) (p : PoolD) (n : RN) (w : World) (h : PoolAt o w pb p) (hlt : OwnLt o w) (hf : p.free = []) (hroom1 : p.at_.length ≤ p.room) :
 Calls Tryz.prog 154 #[.pointer (some ⟨pb, 0, none⟩), rnAgg n] w fun x w' => x = .returned (.tuple #[.int .i64 p.at_.length, .int .i64 0]) ∧ ∃ o', PoolAt o' w' pb (p.fresh n) ∧ Chg (fun r => r = .pool ∨ r = .slots ∨ r = .taken ∨ r = .free) o o' w w' ∧ OwnLt o' w' := by
 have hpb0 := h.blk
 obtain ⟨vs, vt, vf, hpb, hs, ht, hff⟩ := hpb0
 obtain ⟨gs, cs, rfl, hogs, _⟩ := hs.shape h.pos
 obtain ⟨gt, ct, rfl, hogt, _⟩ := ht.shape (by rw [h.len]; exact h.pos)
 obtain ⟨af, cf, rfl, _⟩ := hff.slice
 rw [h.len, hf] at hpb
 rw [h.len] at ht
 obtain ⟨c0, c1, c2, c3, c4, f0⟩ := cells5 hpb
 have hroom' : ¬ (p.room : Int) < p.at_.length := by omega
 have lpb : pb < w.heap.size := lt_of_cell c0
 have htop := h.top
 have hroom := h.room
 have HH := Lib.hid h
 have HL := Lib.hid hlt
 have HS := Lib.hid hs
 have HT := Lib.hid ht
 have HF := Lib.hid hff
 have HOP := Lib.hid h.own
 have HFF := Lib.hid hf
 have HLEN := Lib.hid h.len
 have HPB := Lib.hid hpb
 obtain ⟨in_, hin, hinz, hins, hinb⟩ := info_parts infoNode
 obtain ⟨ib, hib, hibz, hibs, hibb⟩ := info_parts infoBool
 have HIN := Lib.hid (⟨hin, hinz, hins, hinb⟩ : _ ∧ _ ∧ _ ∧ _)
 have HIB := Lib.hid (⟨hib, hibz, hibs, hibb⟩ : _ ∧ _ ∧ _ ∧ _)
 clear hs ht hff h hf hlt hogs hogt hpb hin hinz hins hinb hib hibz hibs hibb
 unfold rnAgg
 go_enter Tryz.func154, Tryz.ntmps154
 go_wp2_with (fail)
 go_quiet (fail)
 have hbw : Below w.heap.size w ((w.alloc (.cells #[.int .i64 n.id, .int .i64 n.v, .int .i64 n.lo, .int .i64 n.hi, .int .i64 n.refs] 157)).drewN nq) := below_newdraw w nq _
 have hbx : ((w.alloc (.cells #[.int .i64 n.id, .int .i64 n.v, .int .i64 n.lo, .int .i64 n.hi, .int .i64 n.refs] 157)).drewN nq).heap[w.heap.size]? = some (.cells #[.int .i64 n.id, .int .i64 n.v, .int .i64 n.lo, .int .i64 n.hi, .int .i64 n.refs] 157 (0, 0)) := heap_alloc_new w _
 have hwz : ((w.alloc (.cells #[.int .i64 n.id, .int .i64 n.v, .int .i64 n.lo, .int .i64 n.hi, .int .i64 n.refs] 157)).drewN nq).heap.size = w.heap.size + 1 := by simp
 obtain ⟨wq, hwq⟩ : ∃ wq, wq = (w.alloc (.cells #[.int .i64 n.id, .int .i64 n.v, .int .i64 n.lo, .int .i64 n.hi, .int .i64 n.refs] 157)).drewN nq := ⟨_, rfl⟩
 rw [← hwq] at hbw hbx hwz ⊢
 obtain ⟨b, hb⟩ : ∃ b, b = w.heap.size := ⟨_, rfl⟩
 rw [← hb] at hbx hwz ⊢
 have hS : TakeS o w p n b pb (.slice (some ⟨gs, 0, none⟩) p.at_.length cs) (.slice (some ⟨gt, 0, none⟩) p.at_.length ct) (.slice af 0 cf) p.at_.length p.at_.length (p.at_.flatMap rnV) (p.taken.map Value.bool) o wq :=
  ⟨(hbw.block pb lpb).trans HPB.out, hbx, HS.out.below HL.out hbw, HT.out.below HL.out hbw, by have := HF.out.below HL.out hbw; rw [HFF.out] at this ⊢; exact this, (Chg.of_below hbw _ _), HL.out.mono hbw.size, HL.out.none (by omega), HOP.out⟩
 have HSS := Lib.hid hS
 have HB := Lib.hid hb
 clear c0 c1 c2 c3 c4 f0 hwq hS hb hbx hbw hwz lpb
 obtain ⟨c0, c1, c2, c3, c4, f0⟩ := cells5 HSS.out.fpb
 have lpb : pb < wq.heap.size := lt_of_cell c0
 go_upto_region 10 with fail
 go_cut [4] (fun s4 wx => s4 = .int .i64 p.at_.length ∧ ∃ g1 k1 o1, TakeS o w p n b pb (.slice (some ⟨g1, 0, none⟩) (p.at_.length + 1) k1) (.slice (some ⟨gt, 0, none⟩) p.at_.length ct) (.slice af 0 cf) (p.at_.length + 1) p.at_.length (p.at_.flatMap rnV ++ [.int .i64 0, .int .i64 0, .int .i64 0, .int .i64 0, .int .i64 0]) (p.taken.map Value.bool) o1 wx)
 case first =>
  go_wp2_with (at_builtin
               refine wpList_appOne 186 157 5 40 _ Tryz.underlying186 infoNode rfl (by decide) rfl _ _ rfl rfl rfl rfl (by simp) rfl (by decide) HSS.out.slots HSS.out.lt (by omega) (by decide) ?_
               intro g1 k1 w1 o1 hr1 hc1 hl1
               obtain ⟨q0, q1, q2, q3, q4, fq⟩ := cells5 ((hc1.same HSS.out.lt HSS.out.op (by simp)).trans HSS.out.fpb)
               have HR1 := Lib.hid hr1
               have HC1 := Lib.hid hc1
               have HL1 := Lib.hid hl1
               clear hr1 hc1 hl1 c0 c1 c2 c3 c4 f0)
  go_meet
  exact ⟨rfl, g1, k1, o1, HSS.out.grown1 HR1.out HC1.out HL1.out⟩
 case rest =>
  obtain ⟨rfl, g1, k1, o1, hS⟩ := hcut
  clear c0 c1 c2 c3 c4 f0 lpb HSS
  rename World => wr
  have HSS := Lib.hid hS
  obtain ⟨c0, c1, c2, c3, c4, f0⟩ := cells5 hS.fpb
  have lpb : pb < wr.heap.size := lt_of_cell c0
  clear hS
  go_upto_region 11 with fail
  go_cut [4] (fun s4 wx => s4 = .int .i64 p.at_.length ∧ ∃ g1 k1 g2 k2 o1, TakeS o w p n b pb (.slice (some ⟨g1, 0, none⟩) (p.at_.length + 1) k1) (.slice (some ⟨g2, 0, none⟩) (p.at_.length + 1) k2) (.slice af 0 cf) (p.at_.length + 1) (p.at_.length + 1) (p.at_.flatMap rnV ++ [.int .i64 0, .int .i64 0, .int .i64 0, .int .i64 0, .int .i64 0]) (p.taken.map Value.bool ++ [.bool false]) o1 wx)
  case first =>
   go_wp2_with (at_builtin
                refine wpList_appOne 36 4 1 1 _ Tryz.underlying36 infoBool rfl (by decide) rfl _ _ rfl rfl rfl rfl (by simp) rfl (by decide) HSS.out.taken HSS.out.lt (by omega) (by decide) ?_
                intro g2 k2 w2 o2 hr1 hc1 hl1
                obtain ⟨q0, q1, q2, q3, q4, fq⟩ := cells5 ((hc1.same HSS.out.lt HSS.out.op (by simp)).trans HSS.out.fpb)
                have HR1 := Lib.hid hr1
                have HC1 := Lib.hid hc1
                have HL1 := Lib.hid hl1
                clear hr1 hc1 hl1 c0 c1 c2 c3 c4 f0)
   go_meet
   exact ⟨rfl, g1, k1, g2, k2, o2, HSS.out.grown2 HR1.out HC1.out HL1.out⟩
  case rest =>
   obtain ⟨rfl, g1, k1, g2, k2, o1, hS⟩ := hcut
   clear c0 c1 c2 c3 c4 f0 lpb HSS
   rename World => w3
   have HSS := Lib.hid hS
   obtain ⟨c0, c1, c2, c3, c4, f0⟩ := cells5 hS.fpb
   obtain ⟨b0, b1, b2, b3, b4, fb⟩ := cells5 hS.box
   have lpb : pb < w3.heap.size := lt_of_cell c0
   have lb : b < w3.heap.size := lt_of_cell b0
   have npb : pb ≠ b := by intro e; have h1 := hS.op; rw [e, hS.ob] at h1; cases h1
   clear hS
   go_upto_region 13 with fail
   obtain ⟨W1, hW1⟩ : ∃ W1, W1 = w3.setCell ⟨b, 0, none⟩ (.int .i64 p.at_.length) := ⟨_, rfl⟩
   rw [← hW1]
   have hbox : W1.heap[b]? = some (.cells #[.int .i64 p.at_.length, .int .i64 n.v, .int .i64 n.lo, .int .i64 n.hi, .int .i64 n.refs] 157 (0, 0)) := by rw [hW1]; exact heap_setCell_same HSS.out.box _
   have hpb1 := (heap_setCell_ne (p := ⟨b, 0, none⟩) npb (.int .i64 p.at_.length : Value)).trans HSS.out.fpb
   rw [← hW1] at hpb1
   have hc1 : Chg (fun r => r = .pool ∨ r = .slots ∨ r = .taken ∨ r = .free) o o1 w W1 := by
    rw [hW1]; exact HSS.out.chg.setCell_new (p := ⟨b, 0, none⟩) (by rw [HB.out]; exact Nat.le_refl _) _
   have hbo : ∀ r, o1 (⟨b, 0, none⟩ : Addr).block ≠ some r := by intro r e; rw [show o1 (⟨b, 0, none⟩ : Addr).block = o1 b from rfl, HSS.out.ob] at e; cases e
   have hs1 : RowR o1 W1 .slots 157 5 (.slice (some ⟨g1, 0, none⟩) (p.at_.length + 1) k1) (p.at_.length + 1) ((p.at_ ++ [rn0]).flatMap rnV) := by
    rw [hW1, List.flatMap_append]; exact HSS.out.slots.setCell_other (hbo _) _
   have ht1 : RowR o1 W1 .taken 4 1 (.slice (some ⟨g2, 0, none⟩) (p.at_.length + 1) k2) (p.at_.length + 1) ((p.taken ++ [false]).map Value.bool) := by
    rw [hW1, List.map_append]; exact HSS.out.taken.setCell_other (hbo _) _
   have hf1 : RowR o1 W1 .free 3 1 (.slice af 0 cf) p.free.length (p.free.map nat64) := by rw [hW1]; exact HSS.out.free.setCell_other (hbo _) _
   have hl1 : OwnLt o1 W1 := by rw [hW1]; exact HSS.out.lt.mono (by simp [World.setCell])
   have hfin := HH.out.toFresh (n := n) HFF.out hroom1 HSS.out.op hpb1 hs1 ht1 hf1
   have ne : ∀ {a b r q}, o1 a = some r → o1 b = some q → r ≠ q → a ≠ b := fun ha hb hr e => by subst e; rw [ha] at hb; cases hb; exact hr rfl
   have nps : pb ≠ g1 := ne HSS.out.op hs1.owner (by simp)
   have npt : pb ≠ g2 := ne HSS.out.op ht1.owner (by simp)
   have nst : g1 ≠ g2 := ne hs1.owner ht1.owner (by simp)
   have nbs : b ≠ g1 := by intro e; have h1 := hs1.owner; rw [← e, HSS.out.ob] at h1; cases h1
   obtain ⟨s0, s1, s2, s3, s4⟩ := PoolAt.node (p := { p with at_ := p.at_ ++ [rn0] }) (k := p.at_.length) (by simpa using hs1) (by simp)
   have fg1 := hs1.frozen
   have t0 := PoolAt.flag (p := { p with taken := p.taken ++ [false] }) (k := p.at_.length) (by simpa [HLEN.out] using ht1) (by simp [HLEN.out])
   have fg2 := ht1.frozen p.at_.length
   clear c0 c1 c2 c3 c4 f0 b0 b1 b2 b3 b4 fb lpb lb ne
   obtain ⟨c0, c1, c2, c3, c4, f0⟩ := cells5 hpb1
   obtain ⟨b0, b1, b2, b3, b4, fb⟩ := cells5 hbox
   have HS2 : Hid (∀ W : World, (∀ g, g ≠ g1 → W.heap[g]? = W1.heap[g]?) → W.cell? ⟨pb, 1, none⟩ = some (.slice (some ⟨g1, 0, none⟩) (p.at_.length + 1) k1) ∧ W.cell? ⟨pb, 2, none⟩ = some (.slice (some ⟨g2, 0, none⟩) (p.at_.length + 1) k2) ∧
    W.cell? ⟨b, 0, none⟩ = some (.int .i64 p.at_.length) ∧ W.cell? ⟨b, 1, none⟩ = some (.int .i64 n.v) ∧ W.cell? ⟨b, 2, none⟩ = some (.int .i64 n.lo) ∧ W.cell? ⟨b, 3, none⟩ = some (.int .i64 n.hi) ∧ W.cell? ⟨b, 4, none⟩ = some (.int .i64 n.refs)) := by
    show ∀ _, _
    intro W hW
    have a := fun g k (hg : g ≠ g1) => World.cell?_of_block (w := W1) (w' := W) (a := ⟨g, k, none⟩) (hW g hg)
    exact ⟨(a pb 1 nps).trans c1, (a pb 2 nps).trans c2, (a b 0 nbs).trans b0, (a b 1 nbs).trans b1, (a b 2 nbs).trans b2, (a b 3 nbs).trans b3, (a b 4 nbs).trans b4⟩
   have HFIN := Lib.hid hfin
   have HC1 := Lib.hid hc1
   have HL1 := Lib.hid hl1
   have hmx : (p.many : Int) + 1 < 9223372036854775807 := by have := HH.out.many; omega
   have hil : (p.at_.length : Int) < (p.at_.length : Int) + 1 := by omega
   clear hfin hc1 hl1 hs1 ht1 hf1 hbox hpb1 hbo hW1 c0 c1 c2 c3 b0 b1 b2 b3 b4 fb HSS
   refine wp_region_mix (fun W : World => W.cell? ⟨pb, 1, none⟩ = some (.slice (some ⟨g1, 0, none⟩) (p.at_.length + 1) k1) ∧ W.cell? ⟨pb, 2, none⟩ = some (.slice (some ⟨g2, 0, none⟩) (p.at_.length + 1) k2) ∧
    W.cell? ⟨b, 0, none⟩ = some (.int .i64 p.at_.length) ∧ W.cell? ⟨b, 1, none⟩ = some (.int .i64 n.v) ∧ W.cell? ⟨b, 2, none⟩ = some (.int .i64 n.lo) ∧ W.cell? ⟨b, 3, none⟩ = some (.int .i64 n.hi) ∧ W.cell? ⟨b, 4, none⟩ = some (.int .i64 n.refs)) true 14
    [(0, false), (1, false), (2, false), (3, false), (4, false), (5, false), (6, false), (7, false), (8, false), (9, false), (10, false), (11, false), (12, true), (13, false), (14, true)] (by kernel_rfl) (by kernel_rfl) (HS2.out _ (fun _ _ => rfl)) ?_
   simp only [planned, plnLz]
   iterate 12
    refine mix_readE rfl ?_
    apply Exists.intro
    refine ⟨fun w' hw => ?_, ?_⟩
    ·
     obtain ⟨h1, h2, h3, h4, h5, h6, h7⟩ := hw
     go_simp
     rfl
    simp only [putLz]
   refine mix_eff rfl (fun K hK => ?_)
   unfold Oper.wp
   go_simp
   refine hK _ _ (HS2.out _ (fun g hg => set5_heap (w := W1) (n := ⟨p.at_.length, n.v, n.lo, n.hi, n.refs⟩) hg)) ?_
   iterate 1
    refine mix_readE rfl ?_
    apply Exists.intro
    refine ⟨fun w' hw => ?_, ?_⟩
    ·
     obtain ⟨h1, h2, h3, h4, h5, h6, h7⟩ := hw
     go_simp
     rfl
    simp only [putLz]
   refine mix_last rfl (fun K hK => ?_)
   unfold Oper.wp
   go_simp
   refine hK _ _ (np_normal ?_)
   go_wp2_with fail
   go_ret2
   have hfin := HFIN.out
   rw [show ((p.many + 1 : Nat) : Int) = (p.many : Int) + 1 by omega] at hfin
   exact ⟨rfl, o1, hfin.1.drew, (HC1.out.trans hfin.2).drew, HL1.out.mono (by simp [World.setCell])⟩
open Go.RowKit
theorem store_ok {P : Program} {w : World} {g k : Nat} {v u : Value} (hc : w.cell? ⟨g, k, none⟩ = some u) (hf : w.frozen? ⟨g, k, none⟩ = false) (h1 : v.oneCell' = true) : (store ⟨g, k, none⟩ v).run P w = .ok () (w.setCell ⟨g, k, none⟩ v) := by
 rw [run_store P w _ v _ h1, hc]
 simp [hf]
theorem cell_ex {w : World} {p q : Addr} {v u : Value} (h : w.cell? q = some u) : ∃ u', (w.setCell p v).cell? q = some u' := by
 by_cases e : p = q
 ·
  subst e; exact ⟨v, World.cell?_setCell_same' _ _ _ (by rw [h]; rfl)⟩
 ·
  exact ⟨u, by rw [World.cell?_setCell_other w p q v e]; exact h⟩
theorem sizeNode : (Tryz.prog.info? 157).map (fun i => i.size) = some 5 := by kernel_rfl
theorem run_storeNode {w : World} {g k : Nat} (f : ∀ j, w.frozen? ⟨g, j, none⟩ = false) {u0 u1 u2 u3 u4 : Value} (c0 : w.cell? ⟨g, k * 5, none⟩ = some u0) (c1 : w.cell? ⟨g, k * 5 + 1, none⟩ = some u1) (c2 : w.cell? ⟨g, k * 5 + 2, none⟩ = some u2) (c3 : w.cell? ⟨g, k * 5 + 3, none⟩ = some u3) (c4 : w.cell? ⟨g, k * 5 + 4, none⟩ = some u4) (a b c d e : Int) :
 (Instr.storeAt 157 (.pointer (some ⟨g, k * 5, none⟩)) (.agg #[.int .i64 a, .int .i64 b, .int .i64 c, .int .i64 d, .int .i64 e])).run Tryz.prog w =
  .ok () (((((w.setCell ⟨g, k * 5, none⟩ (.int .i64 a)).setCell ⟨g, k * 5 + 1, none⟩ (.int .i64 b)).setCell ⟨g, k * 5 + 2, none⟩ (.int .i64 c)).setCell ⟨g, k * 5 + 3, none⟩ (.int .i64 d)).setCell ⟨g, k * 5 + 4, none⟩ (.int .i64 e)) := by
 have s := sizeNode
 have hadd : ∀ j, (⟨g, k * 5, none⟩ : Addr).add j = ⟨g, k * 5 + j, none⟩ := fun j => by unfold Addr.add; split <;> simp_all
 have hsa : (Instr.sureAddr (Value.pointer (some ⟨g, k * 5, none⟩))).run Tryz.prog w = .ok ⟨g, k * 5, none⟩ w := rfl
 cases hi : Tryz.prog.info? 157 with
 | none => rw [hi] at s; cases s
 | some i =>
   rw [hi] at s
   simp only [Option.map_some, Option.some.injEq] at s
   have fz : ∀ (w' : World) p v j, (w'.setCell p v).frozen? ⟨g, j, none⟩ = w'.frozen? ⟨g, j, none⟩ := fun w' p v j => World.frozen?_setCell _ _ _ _
   obtain ⟨v1, e1⟩ := cell_ex (p := ⟨g, k * 5, none⟩) (v := .int .i64 a) c1
   obtain ⟨v2, e2⟩ := cell_ex (p := ⟨g, k * 5, none⟩) (v := .int .i64 a) c2
   obtain ⟨v2, e2⟩ := cell_ex (p := ⟨g, k * 5 + 1, none⟩) (v := .int .i64 b) e2
   obtain ⟨v3, e3⟩ := cell_ex (p := ⟨g, k * 5, none⟩) (v := .int .i64 a) c3
   obtain ⟨v3, e3⟩ := cell_ex (p := ⟨g, k * 5 + 1, none⟩) (v := .int .i64 b) e3
   obtain ⟨v3, e3⟩ := cell_ex (p := ⟨g, k * 5 + 2, none⟩) (v := .int .i64 c) e3
   obtain ⟨v4, e4⟩ := cell_ex (p := ⟨g, k * 5, none⟩) (v := .int .i64 a) c4
   obtain ⟨v4, e4⟩ := cell_ex (p := ⟨g, k * 5 + 1, none⟩) (v := .int .i64 b) e4
   obtain ⟨v4, e4⟩ := cell_ex (p := ⟨g, k * 5 + 2, none⟩) (v := .int .i64 c) e4
   obtain ⟨v4, e4⟩ := cell_ex (p := ⟨g, k * 5 + 3, none⟩) (v := .int .i64 d) e4
   have s0 := store_ok (P := Tryz.prog) (v := .int .i64 a) c0 (f _) rfl
   have s1 := store_ok (P := Tryz.prog) (v := .int .i64 b) e1 (by rw [fz]; exact f _) rfl
   have s2 := store_ok (P := Tryz.prog) (v := .int .i64 c) e2 (by rw [fz, fz]; exact f _) rfl
   have s3 := store_ok (P := Tryz.prog) (v := .int .i64 d) e3 (by rw [fz, fz, fz]; exact f _) rfl
   have s4 := store_ok (P := Tryz.prog) (v := .int .i64 e) e4 (by rw [fz, fz, fz, fz]; exact f _) rfl
   simp only [Instr.storeAt, Sem.run_bind, hsa, Result.andThen_ok]
   simp [storeVar, sizeOf, typeInfo, hi, s, Value.cells, storeCells, hadd, s0, s1, s2, s3, s4]
theorem run_storeOne {P : Program} {w : World} {T : TypeId} (hs : (P.info? T).map (fun i => i.size) = some 1) {g k : Nat} {u v : Value} (hc : w.cell? ⟨g, k, none⟩ = some u) (hf : w.frozen? ⟨g, k, none⟩ = false) (h1 : v.oneCell' = true) (hv : v.cells = #[v]) :
 (Instr.storeAt T (.pointer (some ⟨g, k, none⟩)) v).run P w = .ok () (w.setCell ⟨g, k, none⟩ v) := by
 have hsa : (Instr.sureAddr (Value.pointer (some ⟨g, k, none⟩))).run P w = .ok ⟨g, k, none⟩ w := rfl
 have hadd : (⟨g, k, none⟩ : Addr).add 0 = ⟨g, k, none⟩ := by simp [Addr.add]
 cases hi : P.info? T with
 | none => rw [hi] at hs; cases hs
 | some i =>
   rw [hi] at hs
   simp only [Option.map_some, Option.some.injEq] at hs
   have s0 := store_ok (P := P) hc hf h1
   simp only [Instr.storeAt, Sem.run_bind, hsa, Result.andThen_ok]
   simp [storeVar, sizeOf, typeInfo, hi, hs, hv, storeCells, hadd, s0]
theorem sizeBool : (Tryz.prog.info? 4).map (fun i => i.size) = some 1 := by kernel_rfl
theorem exec_store {P : Program} {o : Oper} {a : Act} {w w' : World} {t : TypeId} {s x : Operand} (ho : o.op = .store t s x) (hr : (Instr.storeAt t (a.eval s) (a.eval x)).run P w = .ok () w') : (execOp a.eval o).run P w = .ok .skip w' := by
 unfold execOp
 simp [ho, hr]
theorem mix_store {P : Program} {ops : Array Oper} {S : World → Prop} {Q : Exit → Act → World → Prop} {last : Bool} {o : Oper} {r : List (Option Oper × Bool)} {a : Act} {w w' : World} {t : TypeId} {s x : Operand} (hg : o.guard = none) (ho : o.op = .store t s x)
 (hr : (Instr.storeAt t (a.eval s) (a.eval x)).run P w = .ok () w') (hS : S w') (h : wpMix P ops Q S last r (a.put o.dst undef) w') : wpMix P ops Q S last ((some o, true) :: r) a w := by
 refine mix_eff hg fun K hK => ?_
 unfold Oper.wp
 rw [exec_store ho hr]
 exact hK _ _ hS h
theorem mix_storeLast {P : Program} {ops : Array Oper} {S : World → Prop} {Q : Exit → Act → World → Prop} {o : Oper} {a : Act} {w w' : World} {t : TypeId} {s x : Operand} (hg : o.guard = none) (ho : o.op = .store t s x)
 (hr : (Instr.storeAt t (a.eval s) (a.eval x)).run P w = .ok () w') (h : Q .normal (a.put o.dst undef) w') : wpMix P ops (NP Q) S true [(some o, true)] a w := by
 refine mix_last hg fun K hK => ?_
 unfold Oper.wp
 rw [exec_store ho hr]
 exact hK _ _ (np_normal h)
def PoolD.give (p : PoolD) (id : Nat) : PoolD := { p with at_ := p.at_.set id rn0, taken := p.taken.set id false, free := p.free ++ [id], many := p.many - 1 }
theorem PoolD.give_get {p : PoolD} {id : Nat} (h2 : id < p.taken.length) (h1 : id < p.at_.length) (i : Nat) : (p.give id).get i = if i = id then none else p.get i := by
 unfold PoolD.get
 have e1 : (p.give id).tk i = if i = id then false else p.tk i := tk_setT h2 i
 have e2 : (p.give id).nd i = if i = id then rn0 else p.nd i := nd_set h1 i
 rw [e1, e2]
 by_cases e : i = id <;> simp [e]
theorem sumTo_pos {f : Nat → Int} {k j : Nat} (h : ∀ i, i < k → 0 ≤ f i) (hj : j < k) (hp : 1 ≤ f j) : 1 ≤ sumTo k f := Int.le_trans hp (sumTo_ge k h hj)
theorem PoolAt.many_pos {o : Own} {w : World} {pb : Nat} {p : PoolD} (h : PoolAt o w pb p) {id : Nat} (hi : p.tk id = true) : 0 < p.many := by
 have := h.cnt
 have h2 : 1 ≤ sumTo p.at_.length (fun i => if p.tk i = true then (1 : Int) else 0) := sumTo_pos (fun i _ => by split <;> omega) (h.tk_lt hi).2 (by simp [hi])
 omega
theorem PoolAt.toGive {o o1 : Own} {w W : World} {pb : Nat} {p : PoolD} (h : PoolAt o w pb p) {id : Nat} (hi : p.tk id = true) {vs vt vf : Value} (hop : o1 pb = some .pool)
 (hpb : W.heap[pb]? = some (.cells #[.int .i64 p.room, vs, vt, vf, .int .i64 ((p.many - 1 : Nat) : Int)] 190 (0, 0)))
 (h2 : RowR o1 W .slots 157 5 vs p.at_.length ((p.at_.set id rn0).flatMap rnV)) (h3 : RowR o1 W .taken 4 1 vt p.at_.length ((p.taken.set id false).map Value.bool))
 (h4 : RowR o1 W .free 3 1 vf (p.free.length + 1) ((p.free ++ [id]).map nat64)) : PoolAt o1 W pb (p.give id) := by
 obtain ⟨i0, i1⟩ := h.tk_lt hi
 have i2 : id < p.taken.length := by rw [h.len]; exact i1
 have tk : ∀ i, (p.give id).tk i = if i = id then false else p.tk i := fun i => tk_setT i2 i
 have nd : ∀ i, (p.give id).nd i = if i = id then rn0 else p.nd i := fun i => nd_set i1 i
 have hmp := h.many_pos hi
 have hm := h.many
 refine ⟨hop, ⟨vs, vt, vf, hpb, ?_, ?_, ?_⟩, ?_, h.room, ?_, ?_, ?_, ?_, ?_, ?_, ?_, ?_⟩
 ·
  simpa [PoolD.give] using h2
 ·
  simpa [PoolD.give, h.len] using h3
 ·
  simpa [PoolD.give] using h4
 ·
  simp [PoolD.give, h.len]
 ·
  have := h.top; simpa [PoolD.give] using this
 ·
  rw [tk, if_neg (by omega)]; exact h.zero
 ·
  have := h.pos; simpa [PoolD.give] using this
 ·
  intro i hi'
  rw [tk] at hi'
  rw [nd]
  by_cases e : i = id
  ·
   rw [if_pos e] at hi'; cases hi'
  ·
   rw [if_neg e] at hi' ⊢; exact h.id i hi'
 ·
  simp only [PoolD.give, List.length_append, List.length_singleton, List.length_set]; omega
 ·
  refine List.nodup_append.2 ⟨h.nodup, by simp, ?_⟩
  intro x hx y hy e
  simp at hy
  subst hy; subst e
  have := (h.free _ hx).2.2
  rw [hi] at this; cases this
 ·
  intro i hi'
  rw [tk]
  simp only [PoolD.give, List.mem_append, List.mem_singleton, List.length_set] at hi' ⊢
  rcases hi' with hi' | rfl
  ·
   have := h.free i hi'
   refine ⟨this.1, this.2.1, ?_⟩
   split
   ·
    rfl
   ·
    exact this.2.2
  ·
   exact ⟨i0, i1, by simp⟩
 ·
  have hc := h.cnt
  have : sumTo (p.give id).at_.length (fun i => if (p.give id).tk i = true then 1 else 0) = sumTo p.at_.length (fun i => if p.tk i = true then 1 else 0) + ((if (p.give id).tk id = true then 1 else 0) - (if p.tk id = true then 1 else 0)) := by
   have hl : (p.give id).at_.length = p.at_.length := by simp [PoolD.give]
   rw [hl]
   refine sumTo_upd (fun i hi => ?_) _ i1
   rw [tk, if_neg hi]
  rw [this, tk, if_pos rfl, hi, ← hc]
  simp [PoolD.give]; omega
set_option maxRecDepth 100000 in
set_option maxHeartbeats 1600000 in
theorem poolGive_any (o : Own) (pb : Nat) (p : PoolD) (id : Nat) (w : World) (h : PoolAt o w pb p) (hlt : OwnLt o w) (hi : p.tk id = true) :
 Calls Tryz.prog 144 #[.pointer (some ⟨pb, 0, none⟩), .int .i64 id] w fun x w' => x = .returned (.int .i64 0) ∧ ∃ o', PoolAt o' w' pb (p.give id) ∧ Chg (fun r => r = .pool ∨ r = .slots ∨ r = .taken ∨ r = .free) o o' w w' ∧ OwnLt o' w' := by
 obtain ⟨vs, vt, vf, hpb, hs, ht, hff⟩ := h.blk
 obtain ⟨gs, cs, rfl, hogs, _⟩ := hs.shape h.pos
 obtain ⟨gt, ct, rfl, hogt, _⟩ := ht.shape (by rw [h.len]; exact h.pos)
 obtain ⟨af, cf, rfl, _⟩ := hff.slice
 rw [h.len] at hpb ht
 obtain ⟨c0, c1, c2, c3, c4, f0⟩ := cells5 hpb
 obtain ⟨i0, i1⟩ := h.tk_lt hi
 have i1' : (id : Int) < p.at_.length := by omega
 have htop := h.top
 have hroom := h.room
 obtain ⟨n0, n1, n2, n3, n4⟩ := PoolAt.node hs (k := id) i1
 have ht' := ht
 rw [← h.len] at ht'
 have t0 := PoolAt.flag ht' (k := id) (by rw [h.len]; exact i1)
 have fs0 := hs.frozen
 have ft0 := ht.frozen id
 have ne : ∀ {a b r q}, o a = some r → o b = some q → r ≠ q → a ≠ b := fun ha hb hr e => by subst e; rw [ha] at hb; cases hb; exact hr rfl
 have nps : pb ≠ gs := ne h.own hogs (by simp)
 have npt : pb ≠ gt := ne h.own hogt (by simp)
 have nst : gs ≠ gt := ne hogs hogt (by simp)
 have hmp := h.many_pos hi
 have hmm := h.many
 obtain ⟨W2, hW2⟩ : ∃ W2, W2 = (set5 w.drew gs id rn0).setCell ⟨gt, id, none⟩ (.bool false) := ⟨_, rfl⟩
 have hpb2 : W2.heap[pb]? = some (.cells #[.int .i64 p.room, .slice (some ⟨gs, 0, none⟩) p.at_.length cs, .slice (some ⟨gt, 0, none⟩) p.at_.length ct, .slice af p.free.length cf, .int .i64 p.many] 190 (0, 0)) := by
  rw [hW2, heap_setCell_ne (p := ⟨gt, id, none⟩) npt, set5_heap nps]; exact hpb
 have hs2 : RowR o W2 .slots 157 5 (.slice (some ⟨gs, 0, none⟩) p.at_.length cs) p.at_.length ((p.at_.set id rn0).flatMap rnV) := by
  have := (rowR_set5 hs.drew i1 rn0).setCell_other (p := ⟨gt, id, none⟩) (by rw [hogt]; simp) (.bool false)
  rw [List.length_set] at this
  rw [hW2]; exact this
 have ht2 : RowR o W2 .taken 4 1 (.slice (some ⟨gt, 0, none⟩) p.at_.length ct) p.at_.length ((p.taken.set id false).map Value.bool) := by
  have := (ht.drew.keep (w' := set5 w.drew gs id rn0) (o' := o) (fun g hg => set5_heap (ne hg hogs (by simp))) (fun _ h => h)).stored id (.bool false)
  rw [hW2, List.map_set]; exact this
 have hf2 : RowR o W2 .free 3 1 (.slice af p.free.length cf) p.free.length (p.free.map nat64) := by
  rw [hW2]
  exact ((hff.drew.keep (w' := set5 w.drew gs id rn0) (o' := o) (fun g hg => set5_heap (ne hg hogs (by simp))) (fun _ h => h)).setCell_other (p := ⟨gt, id, none⟩) (by rw [hogt]; simp) (.bool false))
 have hl2 : OwnLt o W2 := by rw [hW2]; exact hlt.mono (by simp [set5, World.setCell])
 have hc2 : Chg (fun r => r = .pool ∨ r = .slots ∨ r = .taken ∨ r = .free) o o w W2 := by
  rw [hW2]; exact ((set5_chg (Chg.refl _ _ _).drew hogs (.inr (.inl rfl))).setCell (p := ⟨gt, id, none⟩) hogt (.inr (.inr (.inl rfl))) _)
 have HH := Lib.hid h
 have HI := Lib.hid hi
 have HW2 := Lib.hid hW2
 have HPB2 := Lib.hid hpb2
 have HS2 := Lib.hid hs2
 have HT2 := Lib.hid ht2
 have HF2 := Lib.hid hf2
 have HL2 := Lib.hid hl2
 have HC2 := Lib.hid hc2
 have HOP := Lib.hid h.own
 clear hs ht ht' hff h hlt hi hogs hogt hpb ne hW2 hpb2 hs2 ht2 hf2 hl2 hc2 hmm
 have HSX : Hid (∀ W : World, (∀ g, g ≠ gs → W.heap[g]? = w.heap[g]?) → W.cell? ⟨pb, 1, none⟩ = some (.slice (some ⟨gs, 0, none⟩) p.at_.length cs) ∧ W.cell? ⟨pb, 2, none⟩ = some (.slice (some ⟨gt, 0, none⟩) p.at_.length ct)) := by
  show ∀ _, _
  intro W hW
  have a := fun g k (hg : g ≠ gs) => World.cell?_of_block (w := w) (w' := W) (a := ⟨g, k, none⟩) (hW g hg)
  exact ⟨(a pb 1 nps).trans c1, (a pb 2 nps).trans c2⟩
 go_enter Tryz.func144, Tryz.ntmps144
 go_wp2_with (fail)
 refine (poolIs_any o pb p id _ HH.out).mono ?_
 rintro x w' ⟨rfl, rfl⟩
 rw [HI.out]
 go_upto_region 3 with fail
 refine wp_region_mix (fun W : World => W.cell? ⟨pb, 1, none⟩ = some (.slice (some ⟨gs, 0, none⟩) p.at_.length cs) ∧ W.cell? ⟨pb, 2, none⟩ = some (.slice (some ⟨gt, 0, none⟩) p.at_.length ct)) true 14
  [(0, false), (1, false), (2, false), (3, false), (4, false), (5, false), (6, false), (7, false), (8, false), (9, false), (10, false), (11, false), (12, true), (13, false), (14, true)] (by kernel_rfl) (by kernel_rfl) (HSX.out _ (fun _ _ => rfl)) ?_
 simp only [planned, plnLz]
 iterate 12
  refine mix_readE rfl ?_
  apply Exists.intro
  refine ⟨fun w' hw => ?_, ?_⟩
  ·
   obtain ⟨h1, h2⟩ := hw
   go_simp
   rfl
  simp only [putLz]
 refine mix_store rfl rfl (run_storeNode (w := w.drew) fs0 n0 n1 n2 n3 n4 0 0 0 0 0) (HSX.out _ (fun g hg => set5_heap (w := w.drew) (n := rn0) (k := id) hg)) ?_
 simp only [putLz]
 iterate 1
  refine mix_readE rfl ?_
  apply Exists.intro
  refine ⟨fun w' hw => ?_, ?_⟩
  ·
   obtain ⟨h1, h2⟩ := hw
   go_simp
   rfl
  simp only [putLz]
 refine mix_storeLast (w' := (set5 w.drew gs id rn0).setCell ⟨gt, id, none⟩ (.bool false)) rfl rfl (run_storeOne sizeBool ((World.cell?_of_block (w := w.drew) (w' := set5 w.drew gs id rn0) (a := ⟨gt, id, none⟩) (set5_heap (Ne.symm nst))).trans t0) ((World.frozen?_of_block (w := w.drew) (w' := set5 w.drew gs id rn0) (a := ⟨gt, id, none⟩) (set5_heap (Ne.symm nst))).trans ft0) rfl rfl) ?_
 rw [← HW2.out]
 simp only [putLz]
 clear c0 c1 c2 c3 c4 f0 n0 n1 n2 n3 n4 t0 fs0 ft0 HSX
 obtain ⟨c0, c1, c2, c3, c4, f0⟩ := cells5 HPB2.out
 have lpb : pb < W2.heap.size := lt_of_cell c0
 have hfl : p.free.length < 1000000000 := by have := HH.out.many; omega
 go_upto_region 4 with fail
 go_cut [4] (fun s4 wx => s4 = .int .i64 0 ∧ ∃ gf kf o1, wx.heap[pb]? = some (.cells #[.int .i64 p.room, .slice (some ⟨gs, 0, none⟩) p.at_.length cs, .slice (some ⟨gt, 0, none⟩) p.at_.length ct, .slice (some ⟨gf, 0, none⟩) (p.free.length + 1) kf, .int .i64 p.many] 190 (0, 0)) ∧
  RowR o1 wx .slots 157 5 (.slice (some ⟨gs, 0, none⟩) p.at_.length cs) p.at_.length ((p.at_.set id rn0).flatMap rnV) ∧ RowR o1 wx .taken 4 1 (.slice (some ⟨gt, 0, none⟩) p.at_.length ct) p.at_.length ((p.taken.set id false).map Value.bool) ∧
  RowR o1 wx .free 3 1 (.slice (some ⟨gf, 0, none⟩) (p.free.length + 1) kf) (p.free.length + 1) ((p.free ++ [id]).map nat64) ∧ o1 pb = some .pool ∧ Chg (fun r => r = .pool ∨ r = .slots ∨ r = .taken ∨ r = .free) o o1 w wx ∧ OwnLt o1 wx)
 case first =>
  go_wp2_with (at_builtin
               refine wpList_appOne 22 3 1 8 _ Tryz.underlying22 infoInt rfl (by decide) rfl _ _ rfl rfl rfl rfl (by simp) rfl (fun u hu => by simp at hu; subst hu; rfl) HF2.out HL2.out hfl (by decide) ?_
               intro g1 k1 w1 o1 hr1 hc1 hl1
               have hpb1 := (hc1.same HL2.out HOP.out (by simp)).trans HPB2.out
               obtain ⟨q0, q1, q2, q3, q4, fq⟩ := cells5 hpb1
               have HPB1 := Lib.hid hpb1
               have HR1 := Lib.hid hr1
               have HC1 := Lib.hid hc1
               have HL1 := Lib.hid hl1
               clear hr1 hc1 hl1 hpb1 c0 c1 c2 c3 c4 f0)
  go_meet
  have hop := HC1.out.ext _ _ HOP.out
  refine ⟨rfl, g1, k1, o1, heap_setCell_same HPB1.out _, (HS2.out.chg HC1.out HL2.out (by simp)).setCell_other (by rw [hop]; simp) _, (HT2.out.chg HC1.out HL2.out (by simp)).setCell_other (by rw [hop]; simp) _, ?_, hop, (HC2.out.trans (HC1.out.mono fun r e => .inr (.inr (.inr e)))).setCell (p := ⟨pb, 3, none⟩) hop (.inl rfl) _, HL1.out.mono (by simp [World.setCell])⟩
  rw [List.map_append]
  exact HR1.out.setCell_other (by rw [hop]; simp) _
 case rest =>
  obtain ⟨rfl, gf, kf, o1, hpb3, hs3, ht3, hf3, hop3, hc3, hl3⟩ := hcut
  clear c0 c1 c2 c3 c4 f0 lpb
  rename World => w3
  obtain ⟨c0, c1, c2, c3, c4, f0⟩ := cells5 hpb3
  have hmx : (p.many : Int) < 9223372036854775807 := by have := HH.out.many; omega
  have hmp' : (1 : Int) ≤ p.many := by omega
  have HP3 := Lib.hid hpb3
  have HS3 := Lib.hid hs3
  have HT3 := Lib.hid ht3
  have HF3 := Lib.hid hf3
  have HO3 := Lib.hid hop3
  have HC3 := Lib.hid hc3
  have HL3 := Lib.hid hl3
  clear hpb3 hs3 ht3 hf3 hop3 hc3 hl3
  go_wp2_with fail
  go_ret
  refine ⟨rfl, o1, HH.out.toGive HI.out HO3.out ?_ (HS3.out.setCell_other (by rw [HO3.out]; simp) _) (HT3.out.setCell_other (by rw [HO3.out]; simp) _) (HF3.out.setCell_other (by rw [HO3.out]; simp) _), HC3.out.setCell (p := ⟨pb, 4, none⟩) HO3.out (.inl rfl) _, HL3.out.mono (by simp [World.setCell])⟩
  rw [show ((p.many - 1 : Nat) : Int) = (p.many : Int) - 1 by omega]
  exact heap_setCell_same HP3.out _
open Go.RowKit
def InU (x : Int) : Prop := 0 ≤ x ∧ x < 18446744073709551616
theorem inU_wrap (x : Int) : InU (IntKind.u64.wrap x) := by
 rw [IntKind.wrap_u64]
 unfold InU
 omega
theorem inU_bits (op : BinOp) (x y : Int) : InU (bits op .u64 x y) := by
 unfold bits
 exact inU_wrap _
def keyV (op : Int) (a b c : Nat) : Value := .agg #[.int .i64 op, .int .i64 a, .int .i64 b, .int .i64 c]
set_option maxRecDepth 100000 in
set_option maxHeartbeats 800000 in
theorem place_any (mb ge cap : Nat) (op : Int) (a b c : Nat) (w : World) (hc : w.cell? ⟨mb, 1, none⟩ = some (.slice (some ⟨ge, 0, none⟩) 4096 cap)) :
 Calls Tryz.prog 133 #[.pointer (some ⟨mb, 0, none⟩), keyV op a b c] w fun x w' => ∃ i, i < 4096 ∧ x = .returned (.pointer (some ⟨ge, i * 6, none⟩)) ∧ Below w.heap.size w w' := by
 have lmb : mb < w.heap.size := lt_of_cell hc
 have i0 : ∀ w, (Instr.index 169 (.agg #[.int .i64 a, .int .i64 b, .int .i64 c]) (.int .i64 0)).run Tryz.prog w = .ok (.int .i64 a) w := fun _ => by kernel_rfl
 have i1 : ∀ w, (Instr.index 169 (.agg #[.int .i64 a, .int .i64 b, .int .i64 c]) (.int .i64 1)).run Tryz.prog w = .ok (.int .i64 b) w := fun _ => by kernel_rfl
 have i2 : ∀ w, (Instr.index 169 (.agg #[.int .i64 a, .int .i64 b, .int .i64 c]) (.int .i64 2)).run Tryz.prog w = .ok (.int .i64 c) w := fun _ => by kernel_rfl
 unfold keyV
 go_enter Tryz.func133, Tryz.ntmps133
 go_wp2_with fail
 go_loop [5, 13] (fun n i => ∃ (k : Nat) (X : Int), k ≤ 3 ∧ InU X ∧ n = .int .u64 X ∧ i = .int .i64 k) (fun _ i => 3 - (intOf i).toNat)
 case atStart => exact ⟨0, _, by omega, inU_wrap _, rfl, rfl⟩
 case round =>
  obtain ⟨k, X, hk, hX, rfl, rfl⟩ := hrel
  have HX := Lib.hid hX
  clear hX
  by_cases hlt : k < 3
  ·
   have hk3 : k = 0 ∨ k = 1 ∨ k = 2 := by omega
   rcases hk3 with rfl | rfl | rfl
   ·
    go_wp2_with fail
    refine ⟨⟨1, _, by omega, inU_bits _ _ _, rfl, rfl⟩, by simp [intOf]⟩
   ·
    go_wp2_with fail
    refine ⟨⟨2, _, by omega, inU_bits _ _ _, rfl, rfl⟩, by simp [intOf]⟩
   ·
    go_wp2_with fail
    refine ⟨⟨3, _, by omega, inU_bits _ _ _, rfl, rfl⟩, by simp [intOf]⟩
  ·
   obtain rfl : k = 3 := by omega
   obtain ⟨i, hi, he⟩ : ∃ i : Nat, i < 4096 ∧ X.tmod 4096 = (i : Int) := by
    obtain ⟨h0, _⟩ := HX.out
    rw [Int.tmod_eq_emod_of_nonneg h0]
    exact ⟨(X % 4096).toNat, by omega, by omega⟩
   have hi' : (i : Int) < 4096 := by omega
   go_wp2_with fail
   go_quiet (fail)
   go_wp2_with fail
   go_ret
   exact ⟨i, hi, rfl, below_newdraw w _ _⟩
open Go.RowKit
set_option linter.unusedSectionVars false
section
variable {P : Program} {κ : Type} [DecidableEq κ]
def findL (k : κ) : List (κ × Value) → Nat → Option (Nat × Value)
 | [], _ => none
 | p :: l, i => if p.1 = k then some (i, p.2) else findL k l (i + 1)
def getL (l : List (κ × Value)) (k : κ) : Option Value := (findL k l 0).map (·.2)
structure KeyOk (P : Program) (K : TypeId) (enc : κ → Value) : Prop where
 check : ∀ (w : World) (em : Bool) (k : κ), (Instr.checkKey em 10000 K (enc k)).run P w = .ok () w
 find : ∀ (w : World) (k : κ) (l : List (κ × Value)) (es : List MapEntry), es.map (fun e => (e.key, e.val)) = l.map (fun p => (enc p.1, p.2)) →
  (Instr.findKey K (enc k) es).run P w = .ok (findL k l 0) w
 stays : ∀ (w : World) (k : κ), (Instr.keyThatStays (enc k) (enc k)).run P w = .ok (enc k) w
structure MapIs (w : World) (b : Nat) (enc : κ → Value) (l : List (κ × Value)) : Prop where
 ex : ∃ es clock, w.heap[b]? = some (.map es clock) ∧ es.toList.map (fun e => (e.key, e.val)) = l.map (fun p => (enc p.1, p.2)) ∧
  (∀ e ∈ es.toList, e.born < clock) ∧ (es.toList.map (·.born)).Nodup
 nodup : (l.map Prod.fst).Nodup
theorem MapIs.lt {w : World} {b : Nat} {enc : κ → Value} {l : List (κ × Value)} (h : MapIs w b enc l) : b < w.heap.size := by
 obtain ⟨es, c, hb, _⟩ := h.ex
 exact (Array.getElem?_eq_some_iff.1 hb).1
theorem MapIs.keep {row : Option Nat} {w w' : World} {b : Nat} {enc : κ → Value} {l : List (κ × Value)} (h : MapIs w b enc l) (hk : KeepBut row w w') (hne : some b ≠ row) : MapIs w' b enc l := by
 obtain ⟨es, c, hb, rest⟩ := h.ex
 exact ⟨⟨es, c, by rw [hk b h.lt hne]; exact hb, rest⟩, h.nodup⟩
theorem keepBut_of_below {w w' : World} (h : Below w.heap.size w w') (row : Option Nat) : KeepBut row w w' := fun k hk _ => h.block k hk
theorem MapIs.below {w w' : World} {b : Nat} {enc : κ → Value} {l : List (κ × Value)} (h : MapIs w b enc l) (hb : Below w.heap.size w w') : MapIs w' b enc l :=
 h.keep (keepBut_of_below hb none) (by simp)
theorem mapIs_new (w : World) (enc : κ → Value) : MapIs (w.alloc (.map #[] 0)) w.heap.size enc [] :=
 ⟨⟨#[], 0, heap_alloc_new w _, by simp, by simp, by simp⟩, by simp⟩
theorem run_getObj_map {w : World} {b : Nat} {es : Array MapEntry} {c : Nat} (h : w.heap[b]? = some (.map es c)) : (getObj b).run P w = .ok (.map es c) w := by
 simp [getObj, Sem.run, h]
theorem findL_some {k : κ} {l : List (κ × Value)} {j : Nat} {v : Value} : ∀ {i : Nat}, findL k l i = some (j, v) → ∃ n, j = i + n ∧ l[n]? = some (k, v) := by
 induction l with
 | nil => intro i h; cases h
 | cons p l ih =>
   intro i h
   unfold findL at h
   split at h
   ·
    rename_i he
    simp only [Option.some.injEq, Prod.mk.injEq] at h
    obtain ⟨rfl, rfl⟩ := h
    exact ⟨0, rfl, by simp [← he]⟩
   ·
    obtain ⟨n, h1, h2⟩ := ih h
    exact ⟨n + 1, by omega, by simpa using h2⟩
theorem findL_none {k : κ} {l : List (κ × Value)} : ∀ {i : Nat}, findL k l i = none → ∀ p ∈ l, p.1 ≠ k := by
 induction l with
 | nil => intro i _ p hp; cases hp
 | cons q l ih =>
   intro i h p hp
   unfold findL at h
   split at h
   ·
    cases h
   ·
    rename_i he
    rcases List.mem_cons.1 hp with rfl | hp
    ·
     exact he
    ·
     exact ih h p hp
theorem MapIs.lookup {w : World} {b : Nat} {K T E : TypeId} {enc : κ → Value} {l : List (κ × Value)} (h : MapIs w b enc l) (L : KeyOk P K enc) (hT : P.underlying T = some (.map K E)) {z : Value}
 (hz : ∀ w, (zeroValue E).run P w = .ok z w) (k : κ) (ok : Bool) :
 (Instr.lookup T (.map (some b)) (enc k) ok).run P w = .ok (if ok then .tuple #[(getL l k).getD z, .bool (getL l k).isSome] else (getL l k).getD z) w := by
 obtain ⟨es, c, hb, hm, _⟩ := h.ex
 simp only [Instr.lookup, Sem.run_bind, run_underlying hT, Result.andThen_ok, run_getObj_map hb, Sem.run_pure, L.check, L.find w k l es.toList hm]
 unfold getL
 cases hf : findL k l 0 with
 | none => simp [hz, Result.andThen]
 | some p => simp
def putL (k : κ) (v : Value) (l : List (κ × Value)) : List (κ × Value) :=
 match findL k l 0 with
 | some (j, _) => l.set j (k, v)
 | none => l ++ [(k, v)]
def delL (k : κ) (l : List (κ × Value)) : List (κ × Value) :=
 match findL k l 0 with
 | some (j, _) => l.eraseIdx j
 | none => l
theorem getL_of_mem {l : List (κ × Value)} (hn : (l.map Prod.fst).Nodup) {k : κ} {v : Value} (h : (k, v) ∈ l) : getL l k = some v := by
 unfold getL
 cases hf : findL k l 0 with
 | none => exact (findL_none hf _ h rfl).elim
 | some p =>
   obtain ⟨j, u⟩ := p
   obtain ⟨n, _, h2⟩ := findL_some hf
   obtain ⟨m, hm, he⟩ := List.mem_iff_getElem.1 h
   have hnl : n < l.length := by
    rcases Nat.lt_or_ge n l.length with h' | h'
    ·
     exact h'
    ·
     rw [List.getElem?_eq_none h'] at h2; cases h2
   rw [List.getElem?_eq_getElem hnl] at h2
   have h3 : l[n] = (k, u) := by simpa using h2
   have h4 : n = m := by
    apply (List.getElem_inj (h₀ := by simpa using hnl) (h₁ := by simpa using hm) hn).1
    simp [h3, he]
   subst h4
   rw [h3] at he
   simp only [Prod.mk.injEq, true_and] at he
   simp [he]
theorem mem_of_getL {l : List (κ × Value)} {k : κ} {v : Value} (h : getL l k = some v) : (k, v) ∈ l := by
 unfold getL at h
 cases hf : findL k l 0 with
 | none => rw [hf] at h; cases h
 | some p =>
   obtain ⟨j, u⟩ := p
   obtain ⟨n, _, h2⟩ := findL_some hf
   rw [hf] at h
   simp only [Option.map_some, Option.some.injEq] at h
   subst h
   exact List.mem_of_getElem? h2
theorem getL_none {l : List (κ × Value)} {k : κ} : getL l k = none ↔ ∀ p ∈ l, p.1 ≠ k := by
 constructor
 ·
  intro h
  unfold getL at h
  cases hf : findL k l 0 with
  | none => exact findL_none hf
  | some p => rw [hf] at h; cases h
 ·
  intro h
  cases hg : getL l k with
  | none => rfl
  | some v => exact (h _ (mem_of_getL hg) rfl).elim
theorem getL_ext {l : List (κ × Value)} (hn : (l.map Prod.fst).Nodup) {k : κ} {o : Option Value} (h1 : ∀ v, o = some v → (k, v) ∈ l) (h2 : o = none → ∀ p ∈ l, p.1 ≠ k) : getL l k = o := by
 cases o with
 | none => exact getL_none.2 (h2 rfl)
 | some v => exact getL_of_mem hn (h1 v rfl)
theorem set_keys {l : List (κ × Value)} {n : Nat} {k : κ} {u v : Value} (h : l[n]? = some (k, u)) : (l.set n (k, v)).map Prod.fst = l.map Prod.fst := by
 have hn : n < l.length := by
  rcases Nat.lt_or_ge n l.length with h' | h'
  ·
   exact h'
  ·
   rw [List.getElem?_eq_none h'] at h; cases h
 apply List.ext_getElem (by simp)
 intro i h1 h2
 simp only [List.getElem_map, List.getElem_set]
 split
 ·
  rename_i e; subst e
  rw [List.getElem?_eq_getElem hn] at h
  have : l[n] = (k, u) := by simpa using h
  simp [this]
 ·
  rfl
theorem putL_nodup {l : List (κ × Value)} (hn : (l.map Prod.fst).Nodup) (k : κ) (v : Value) : ((putL k v l).map Prod.fst).Nodup := by
 unfold putL
 cases hf : findL k l 0 with
 | none =>
   simp only [List.map_append, List.map_cons, List.map_nil]
   refine List.nodup_append.2 ⟨hn, by simp, ?_⟩
   intro a ha b hb
   obtain ⟨p, hp, rfl⟩ := List.mem_map.1 ha
   simp at hb; subst hb
   exact findL_none hf p hp
 | some p =>
   obtain ⟨j, u⟩ := p
   obtain ⟨n, h1, h2⟩ := findL_some hf
   simp only [Nat.zero_add] at h1; subst h1
   rw [set_keys h2]; exact hn
theorem getL_putL {l : List (κ × Value)} (hn : (l.map Prod.fst).Nodup) (k k' : κ) (v : Value) : getL (putL k v l) k' = if k' = k then some v else getL l k' := by
 refine getL_ext (putL_nodup hn k v) ?_ ?_
 ·
  intro u hu
  unfold putL
  cases hf : findL k l 0 with
  | none =>
    dsimp only
    split at hu
    ·
     rename_i e; subst e; cases hu; simp
    ·
     exact List.mem_append.2 (.inl (mem_of_getL hu))
  | some p =>
    obtain ⟨j, x⟩ := p
    obtain ⟨n, h1, h2⟩ := findL_some hf
    simp only [Nat.zero_add] at h1; subst h1
    dsimp only
    have hj : j < l.length := by
     rcases Nat.lt_or_ge j l.length with h' | h'
     ·
      exact h'
     ·
      rw [List.getElem?_eq_none h'] at h2; cases h2
    split at hu
    ·
     rename_i e; subst e; cases hu
     exact List.mem_iff_getElem.2 ⟨j, by simpa using hj, by simp⟩
    ·
     rename_i e
     obtain ⟨m, hm, he⟩ := List.mem_iff_getElem.1 (mem_of_getL hu)
     refine List.mem_iff_getElem.2 ⟨m, by simpa using hm, ?_⟩
     rw [List.getElem_set_ne]
     ·
      exact he
     ·
      rintro rfl
      rw [List.getElem?_eq_getElem hj] at h2
      have h3 : l[j] = (k, x) := by simpa using h2
      rw [h3] at he
      simp only [Prod.mk.injEq] at he
      exact e he.1.symm
 ·
  intro ho p hp e
  split at ho
  ·
   cases ho
  ·
   rename_i hne
   have hno := getL_none.1 ho
   unfold putL at hp
   cases hf : findL k l 0 with
   | none =>
     rw [hf] at hp
     rcases List.mem_append.1 hp with hp | hp
     ·
      exact hno p hp e
     ·
      simp at hp; subst hp; exact hne e.symm
   | some q =>
     obtain ⟨j, x⟩ := q
     rw [hf] at hp
     rcases List.mem_or_eq_of_mem_set hp with hp | rfl
     ·
      exact hno p hp e
     ·
      exact hne e.symm
theorem MapIs.update {w : World} {b : Nat} {K T E : TypeId} {enc : κ → Value} {l : List (κ × Value)} (h : MapIs w b enc l) (L : KeyOk P K enc) (hT : P.underlying T = some (.map K E)) (k : κ) (v : Value) :
 ∃ w', (Instr.mapUpdate T (.map (some b)) (enc k) v).run P w = .ok () w' ∧ MapIs w' b enc (putL k v l) ∧ w.grownBy w' (some b) := by
 obtain ⟨es, c, hb, hm, hborn, hnd⟩ := h.ex
 have hlt := h.lt
 have hlen : es.toList.length = l.length := by have := congrArg List.length hm; simpa using this
 have hset : ∀ o : Obj, (setObj b o).run P w = .ok () { w with heap := w.heap.setIfInBounds b o } := by
  intro o; simp [setObj, Sem.run, hb]
 have hgrown : ∀ o : Obj, w.grownBy { w with heap := w.heap.setIfInBounds b o } (some b) := by
  intro o
  refine ⟨rfl, rfl, rfl, by simp, fun i hi hne => ?_⟩
  have : b ≠ i := by rintro rfl; exact hne rfl
  simp [this]
 cases hf : findL k l 0 with
 | none =>
   refine ⟨{ w with heap := w.heap.setIfInBounds b (.map (es.push { key := enc k, val := v, born := c }) (c + 1)) }, ?_, ?_, hgrown _⟩
   ·
    simp only [Instr.mapUpdate, Sem.run_bind, run_underlying hT, Result.andThen_ok, run_getObj_map hb, L.check, L.find w k l es.toList hm, hf, hset]
   ·
    refine ⟨⟨es.push { key := enc k, val := v, born := c }, c + 1, by simp [hlt], ?_, ?_, ?_⟩, ?_⟩
    ·
     unfold putL; rw [hf]; simp [hm]
    ·
     intro e he
     rw [Array.toList_push, List.mem_append] at he
     rcases he with he | he
     ·
      have := hborn e he; omega
     ·
      simp at he; subst he; simp
    ·
     rw [Array.toList_push, List.map_append]
     refine List.nodup_append.2 ⟨hnd, by simp, ?_⟩
     intro a ha b' hb'
     obtain ⟨e, he, rfl⟩ := List.mem_map.1 ha
     simp at hb'; subst hb'
     have := hborn e he; omega
    ·
     exact putL_nodup h.nodup k v
 | some p =>
   obtain ⟨j, u⟩ := p
   obtain ⟨n, h1, h2⟩ := findL_some hf
   simp only [Nat.zero_add] at h1; subst h1
   have hj : j < l.length := by
    rcases Nat.lt_or_ge j l.length with h' | h'
    ·
     exact h'
    ·
     rw [List.getElem?_eq_none h'] at h2; cases h2
   have hje : j < es.size := by have : es.toList.length = es.size := rfl; omega
   have hkey : es[j].key = enc k := by
    have h3 := congrArg (fun x => x[j]?) hm
    simp only [List.getElem?_map, h2, Option.map_some] at h3
    have h4 : es.toList[j]? = some es[j] := by simp [hje]
    rw [h4] at h3
    simp only [Option.map_some, Option.some.injEq, Prod.mk.injEq] at h3
    exact h3.1
   have hst : (Instr.keyThatStays (((es[j]?).map (·.key)).getD (enc k)) (enc k)).run P w = .ok (enc k) w := by
    simp only [Array.getElem?_eq_getElem hje, Option.map_some, Option.getD_some, hkey]; exact L.stays w k
   refine ⟨{ w with heap := w.heap.setIfInBounds b (.map (es.modify j fun e => { e with key := enc k, val := v }) c) }, ?_, ?_, hgrown _⟩
   ·
    simp only [Instr.mapUpdate, Sem.run_bind, run_underlying hT, Result.andThen_ok, run_getObj_map hb, L.check, L.find w k l es.toList hm, hf, hst, hset]
   ·
    have hml : (es.modify j fun e => { e with key := enc k, val := v }).toList = es.toList.set j { es[j] with key := enc k, val := v } := by
     apply List.ext_getElem (by simp)
     intro i hi1 hi2
     simp only [Array.getElem_toList, Array.getElem_modify, List.getElem_set]
     split
     ·
      rename_i e; subst e; rfl
     ·
      rfl
    refine ⟨⟨es.modify j fun e => { e with key := enc k, val := v }, c, by simp [hlt], ?_, ?_, ?_⟩, putL_nodup h.nodup k v⟩
    ·
     unfold putL; rw [hf, hml]; simp [List.map_set, hm]
    ·
     intro e he
     rw [hml] at he
     rcases List.mem_or_eq_of_mem_set he with he | rfl
     ·
      exact hborn e he
     ·
      exact hborn es[j] (by simp)
    ·
     have : ((es.modify j fun e => { e with key := enc k, val := v }).toList.map (·.born)) = es.toList.map (·.born) := by
      rw [hml, List.map_set]
      apply List.ext_getElem (by simp)
      intro i hi1 hi2
      simp only [List.getElem_set, List.getElem_map, Array.getElem_toList]
      split
      ·
       rename_i e; subst e; rfl
      ·
       rfl
     rw [this]; exact hnd
theorem map_eraseIdx {α β : Type} (f : α → β) : ∀ (l : List α) (j : Nat), (l.eraseIdx j).map f = (l.map f).eraseIdx j
 | [], _ => rfl
 | _ :: _, 0 => rfl
 | x :: l, j + 1 => by simp [map_eraseIdx f l j]
theorem delL_nodup {l : List (κ × Value)} (hn : (l.map Prod.fst).Nodup) (k : κ) : ((delL k l).map Prod.fst).Nodup := by
 unfold delL
 split
 ·
  exact hn.sublist ((List.eraseIdx_sublist _ _).map _)
 ·
  exact hn
theorem getL_delL {l : List (κ × Value)} (hn : (l.map Prod.fst).Nodup) (k k' : κ) : getL (delL k l) k' = if k' = k then none else getL l k' := by
 refine getL_ext (delL_nodup hn k) ?_ ?_
 ·
  intro u hu
  split at hu
  ·
   cases hu
  ·
   rename_i hne
   have hm := mem_of_getL hu
   unfold delL
   cases hf : findL k l 0 with
   | none => exact hm
   | some p =>
     obtain ⟨j, x⟩ := p
     obtain ⟨n, h1, h2⟩ := findL_some hf
     simp only [Nat.zero_add] at h1; subst h1
     dsimp only
     rw [List.mem_eraseIdx_iff_getElem?]
     obtain ⟨m, hm2, he⟩ := List.mem_iff_getElem.1 hm
     refine ⟨m, ?_, by rw [List.getElem?_eq_getElem hm2, he]⟩
     rintro rfl
     rw [List.getElem?_eq_getElem hm2, he] at h2
     simp only [Option.some.injEq, Prod.mk.injEq] at h2
     exact hne h2.1
 ·
  intro ho p hp e
  unfold delL at hp
  cases hf : findL k l 0 with
  | none =>
    rw [hf] at hp
    split at ho
    ·
     rename_i h; subst h; exact findL_none hf p hp e
    ·
     exact getL_none.1 ho p hp e
  | some q =>
    obtain ⟨j, x⟩ := q
    rw [hf] at hp
    dsimp only at hp
    obtain ⟨n, h1, h2⟩ := findL_some hf
    simp only [Nat.zero_add] at h1; subst h1
    obtain ⟨m, hmj, hm⟩ := List.mem_eraseIdx_iff_getElem?.1 hp
    split at ho
    ·
     rename_i h; subst h
     have hj : j < l.length := by
      rcases Nat.lt_or_ge j l.length with h' | h'
      ·
       exact h'
      ·
       rw [List.getElem?_eq_none h'] at h2; cases h2
     have hml : m < l.length := by
      rcases Nat.lt_or_ge m l.length with h' | h'
      ·
       exact h'
      ·
       rw [List.getElem?_eq_none h'] at hm; cases hm
     rw [List.getElem?_eq_getElem hj] at h2
     rw [List.getElem?_eq_getElem hml] at hm
     have : m = j := by
      apply (List.getElem_inj (h₀ := by simpa using hml) (h₁ := by simpa using hj) hn).1
      simp only [Option.some.injEq] at h2 hm
      simp [h2, hm, e]
     exact hmj this
    ·
     exact getL_none.1 ho p (List.mem_of_getElem? hm) e
theorem MapIs.delete {w : World} {b : Nat} {K T E : TypeId} {enc : κ → Value} {l : List (κ × Value)} (h : MapIs w b enc l) (L : KeyOk P K enc) (hT : P.underlying T = some (.map K E)) (k : κ) (ty : TypeId) :
 ∃ w', (Builtin.delete_ #[T, K] ty #[.map (some b), enc k]).run P w = .ok (.tuple #[]) w' ∧ MapIs w' b enc (delL k l) ∧ w.grownBy w' (some b) := by
 obtain ⟨es, c, hb, hm, hborn, hnd⟩ := h.ex
 have hlt := h.lt
 have hlen : es.toList.length = l.length := by have := congrArg List.length hm; simpa using this
 have hset : ∀ o : Obj, (setObj b o).run P w = .ok () { w with heap := w.heap.setIfInBounds b o } := by
  intro o; simp [setObj, Sem.run, hb]
 have hgrown : ∀ o : Obj, w.grownBy { w with heap := w.heap.setIfInBounds b o } (some b) := by
  intro o
  refine ⟨rfl, rfl, rfl, by simp, fun i hi hne => ?_⟩
  have : b ≠ i := by rintro rfl; exact hne rfl
  simp [this]
 cases hf : findL k l 0 with
 | none =>
   refine ⟨{ w with heap := w.heap.setIfInBounds b (.map es c) }, ?_, ?_, hgrown _⟩
   ·
    simp [Builtin.delete_, run_underlying hT, run_getObj_map hb, L.check, L.find w k l es.toList hm, hf, hset]
   ·
    refine ⟨⟨es, c, by simp [hlt], ?_, hborn, hnd⟩, delL_nodup h.nodup k⟩
    unfold delL; rw [hf]; exact hm
 | some p =>
   obtain ⟨j, u⟩ := p
   obtain ⟨n, h1, h2⟩ := findL_some hf
   simp only [Nat.zero_add] at h1; subst h1
   have hj : j < l.length := by
    rcases Nat.lt_or_ge j l.length with h' | h'
    ·
     exact h'
    ·
     rw [List.getElem?_eq_none h'] at h2; cases h2
   have hje : j < es.size := by have : es.toList.length = es.size := rfl; omega
   refine ⟨{ w with heap := w.heap.setIfInBounds b (.map (es.eraseIdxIfInBounds j) c) }, ?_, ?_, hgrown _⟩
   ·
    simp [Builtin.delete_, run_underlying hT, run_getObj_map hb, L.check, L.find w k l es.toList hm, hf, hset]
   ·
    have hml : (es.eraseIdxIfInBounds j).toList = es.toList.eraseIdx j := by simp [Array.eraseIdxIfInBounds, hje]
    refine ⟨⟨es.eraseIdxIfInBounds j, c, by simp [hlt], ?_, ?_, ?_⟩, delL_nodup h.nodup k⟩
    ·
     unfold delL; rw [hf, hml]; rw [map_eraseIdx, map_eraseIdx, hm]
    ·
     intro e he
     rw [hml] at he
     exact hborn e (List.mem_of_mem_eraseIdx he)
    ·
     rw [hml]
     exact hnd.sublist ((List.eraseIdx_sublist _ _).map _)
theorem MapIs.size {w : World} {b : Nat} {K T E : TypeId} {enc : κ → Value} {l : List (κ × Value)} (h : MapIs w b enc l) (hT : P.underlying T = some (.map K E)) (ty : TypeId) :
 (Builtin.len_ #[T] ty #[.map (some b)]).run P w = .ok (.int .i64 l.length) w := by
 obtain ⟨es, c, hb, hm, _⟩ := h.ex
 have hlen : es.toList.length = l.length := by have := congrArg List.length hm; simpa using this
 have : es.size = l.length := hlen
 simp [Builtin.len_, run_underlying hT, run_getObj_map hb, goInt, this]
theorem keyOk_int {K : TypeId} (hK : P.underlying K = some (.int .i64)) : KeyOk P K (Value.int .i64) where
 check w em k := MapKept.run_checkKey hK (by simp [MapKept.IsKey]) em 9999
 find w k l es h := by
  have key : ∀ (es : List MapEntry) (l : List (Int × Value)) (i : Nat), es.map (fun e => (e.key, e.val)) = l.map (fun p => (Value.int .i64 p.1, p.2)) → Instr.findNow (.int .i64) (.int .i64 k) es i = some (findL k l i) := by
   intro es
   induction es with
   | nil => intro l i h; cases l with
     | nil => rfl
     | cons p l => simp at h
   | cons e es ih =>
     intro l i h
     cases l with
     | nil => simp at h
     | cons p l =>
       simp only [List.map_cons, List.cons.injEq, Prod.mk.injEq] at h
       obtain ⟨⟨h1, h2⟩, h3⟩ := h
       simp only [Instr.findNow, h1, Instr.sameNow, if_true, findL]
       by_cases e1 : p.1 = k
       ·
        simp [e1, h2]
       ·
        have h5 : (k == p.1) = false := by simpa using (fun e : k = p.1 => e1 e.symm)
        simp [e1, h5, ih l (i + 1) h3]
  simp [Instr.findKey, run_underlying hK, key es l 0 h]
 stays w k := by simp [Instr.keyThatStays, Instr.sameBits]
theorem keyOk_agg {K : TypeId} {d : TypeDesc} {enc : κ → Value} (hK : P.underlying K = some d) (hd : ∀ a b, Instr.sameNow d (enc a) (enc b) = none)
 (heq : ∀ (w : World) a b, (Op.equal K (enc a) (enc b)).run P w = .ok (decide (a = b)) w)
 (hcheck : ∀ (w : World) (em : Bool) (k : κ), (Instr.checkKey em 10000 K (enc k)).run P w = .ok () w)
 (hstays : ∀ (w : World) (k : κ), (Instr.keyThatStays (enc k) (enc k)).run P w = .ok (enc k) w) : KeyOk P K enc where
 check := hcheck
 stays := hstays
 find w k l es h := by
  have key : ∀ (es : List MapEntry) (l : List (κ × Value)) (i : Nat), es.map (fun e => (e.key, e.val)) = l.map (fun p => (enc p.1, p.2)) → (Instr.findAsking K (enc k) es i).run P w = .ok (findL k l i) w := by
   intro es
   induction es with
   | nil => intro l i h; cases l with
     | nil => rfl
     | cons p l => simp at h
   | cons e es ih =>
     intro l i h
     cases l with
     | nil => simp at h
     | cons p l =>
       simp only [List.map_cons, List.cons.injEq, Prod.mk.injEq] at h
       obtain ⟨⟨h1, h2⟩, h3⟩ := h
       simp only [Instr.findAsking, Sem.run_bind, h1, heq, Result.andThen_ok, findL]
       by_cases e1 : k = p.1
       ·
        have e2 : p.1 = k := e1.symm
        simp [e1, h2]
       ·
        have e2 : ¬ p.1 = k := fun e => e1 e.symm
        simp [e1, e2, ih l (i + 1) h3]
  cases es with
  | nil =>
    cases l with
    | nil => simp [Instr.findKey, run_underlying hK, Instr.findNow, findL]
    | cons p l => simp at h
  | cons e es =>
    cases l with
    | nil => simp at h
    | cons p l =>
      have h' := h
      simp only [List.map_cons, List.cons.injEq, Prod.mk.injEq] at h'
      have hn : Instr.findNow d (enc k) (e :: es) 0 = none := by simp [Instr.findNow, h'.1.1, hd]
      simp [Instr.findKey, run_underlying hK, hn, key _ _ 0 h]
theorem wpList_updateM {ops : Array Oper} {rest : List Oper} {o : Oper} {a : Act} {Q : Exit → Act → World → Prop} {w : World} {b : Nat} {K T E : TypeId} {enc : κ → Value} {l : List (κ × Value)}
 (hg : o.guard = none) (m x y : Operand) (hop : o.op = Op.mapUpdate T m x y) (L : KeyOk P K enc) (hT : P.underlying T = some (.map K E))
 (k : κ) (v : Value) (hm : a.eval m = .map (some b)) (hx : a.eval x = enc k) (hy : a.eval y = v) (h : MapIs w b enc l)
 (hK : ∀ w', MapIs w' b enc (putL k v l) → w.grownBy w' (some b) → wpList P ops Q rest (a.put o.dst undef) w') : wpList P ops Q (o :: rest) a w := by
 refine wpList_plain hg fun K' hK' => ?_
 obtain ⟨w', hr, h1, h2⟩ := h.update L hT k v
 unfold Oper.wp
 simp [execOp, hop, hm, hx, hy, hr, Result.andThen]
 exact hK' _ _ (hK w' h1 h2)
end
open Go.RowKit
open Go.Maps
theorem sizeEdge : (Tryz.prog.info? 52).map (fun i => i.size) = some 1 := by kernel_rfl
def encE (q : Nat × Nat) : Value := .agg #[.int .i64 q.1, .int .i64 q.2]
theorem part_int (w : World) {T : TypeId} (hT : Tryz.prog.underlying T = some (.int .i64)) (xs : Array Value) (i : Nat) (v : Value) (h : xs[i]? = some v) : (part T xs i).run Tryz.prog w = .ok v w := by
 simp [part, isAgg, run_underlying hT, h]
theorem ckE (w : World) (em : Bool) (k : Nat × Nat) : (Instr.checkKey em 10000 168 (encE k)).run Tryz.prog w = .ok () w := by
 have h := fun (x : Int) => MapKept.run_checkKey (P := Tryz.prog) (w := w) (kt := 52) (k := .int .i64 x) Tryz.underlying52 (by simp [MapKept.IsKey]) em 9998
 have s := sizeEdge
 cases hi : Tryz.prog.info? 52 with
 | none => rw [hi] at s; cases s
 | some i =>
   rw [hi] at s
   simp only [Option.map_some, Option.some.injEq] at s
   have hs := run_sizeOf w hi
   rw [show Tryz.prog.cellsOf 52 = 1 by kernel_rfl] at hs
   have p0 := part_int w Tryz.underlying52 #[.int .i64 k.1, .int .i64 k.2] 0 _ rfl
   have p1 := part_int w Tryz.underlying52 #[.int .i64 k.1, .int .i64 k.2] 1 _ rfl
   unfold Instr.checkKey encE
   simp only [Sem.run_bind, run_underlying Tryz.underlying168, Result.andThen_ok]
   simp [hs, List.range', p0, p1, h]
theorem eqE (w : World) (a b : Nat × Nat) : (Op.equal 168 (encE a) (encE b)).run Tryz.prog w = .ok (decide (a = b)) w := by
 have hq := fun (x y : Int) => run_equalIn_int (P := Tryz.prog) w 9998 52 .i64 .i64 x y Tryz.underlying52
 have s := sizeEdge
 cases hi : Tryz.prog.info? 52 with
 | none => rw [hi] at s; cases s
 | some i =>
   rw [hi] at s
   simp only [Option.map_some, Option.some.injEq] at s
   have hs := run_sizeOf w hi
   rw [show Tryz.prog.cellsOf 52 = 1 by kernel_rfl] at hs
   have p0 := fun k : Nat × Nat => part_int w Tryz.underlying52 #[.int .i64 k.1, .int .i64 k.2] 0 _ rfl
   have p1 := fun k : Nat × Nat => part_int w Tryz.underlying52 #[.int .i64 k.1, .int .i64 k.2] 1 _ rfl
   have hd : Op.maxDepth = 9999 + 1 := rfl
   unfold Op.equal encE
   rw [hd]
   unfold Op.equalIn
   simp only [Sem.run_bind, run_underlying Tryz.underlying168, Result.andThen_ok, hs]
   simp [List.range', p0, p1, hq]
   obtain ⟨a1, a2⟩ := a
   obtain ⟨b1, b2⟩ := b
   have e1 : ((a1 : Int) = b1) ↔ a1 = b1 := by omega
   have e2 : ((a2 : Int) = b2) ↔ a2 = b2 := by omega
   by_cases h1 : a1 = b1 <;> by_cases h2 : a2 = b2 <;> simp [e1, e2, h1, h2]
theorem kEdge : KeyOk Tryz.prog 168 encE :=
 keyOk_agg Tryz.underlying168 (fun a b => by simp [Instr.sameNow]) eqE ckE (fun w k => by simp [Instr.keyThatStays, Instr.sameBits, encE])
structure TabIs (o : Own) (w : World) (v t : Nat) (f : Nat × Nat → Option Nat) : Prop where
 own : o t = some (.tab v)
 ex : ∃ mb l, w.heap[t]? = some (.cells #[.map (some mb)] 193 (0, 0)) ∧ o mb = some (.tmap v) ∧ MapIs w mb encE l ∧ ∀ k, getL l k = (f k).map (fun (id : Nat) => Value.int .i64 id)
theorem TabIs.keep {o o' : Own} {w w' : World} {v t : Nat} {f : Nat × Nat → Option Nat} (h : TabIs o w v t f) (hk : ∀ g r, o g = some r → (r = .tab v ∨ r = .tmap v) → w'.heap[g]? = w.heap[g]?) (ho : ∀ g r, o g = some r → o' g = some r) : TabIs o' w' v t f := by
 obtain ⟨mb, l, h1, h2, h3, h4⟩ := h.ex
 refine ⟨ho _ _ h.own, mb, l, (hk _ _ h.own (.inl rfl)).trans h1, ho _ _ h2, ?_, h4⟩
 obtain ⟨es, c, hb, rest⟩ := h3.ex
 exact ⟨⟨es, c, (hk _ _ h2 (.inr rfl)).trans hb, rest⟩, h3.nodup⟩
theorem TabIs.chg {R : Role → Prop} {o o' : Own} {w w' : World} {v t : Nat} {f : Nat × Nat → Option Nat} (h : TabIs o w v t f) (hc : Chg R o o' w w') (hlt : OwnLt o w) (h1 : ¬ R (.tab v)) (h2 : ¬ R (.tmap v)) : TabIs o' w' v t f :=
 h.keep (fun g r hg hr => hc.same hlt hg (by rcases hr with rfl | rfl <;> assumption)) hc.ext
theorem TabIs.below {o : Own} {w w' : World} {v t : Nat} {f : Nat × Nat → Option Nat} (h : TabIs o w v t f) (hb : Below w.heap.size w w') (hlt : OwnLt o w) : TabIs o w' v t f :=
 h.keep (fun g r hg _ => hb.block g (hlt g r hg)) (fun _ _ h => h)
theorem cell1 {w : World} {g : Nat} {a : Value} {T : TypeId} (h : w.heap[g]? = some (.cells #[a] T (0, 0))) : w.cell? ⟨g, 0, none⟩ = some a := by rw [cell_of_row w g 0 _ _ _ h]; rfl
theorem TabIs.look {o : Own} {w : World} {v t : Nat} {f : Nat × Nat → Option Nat} (h : TabIs o w v t f) (lo hi : Nat) : ∃ mb, w.cell? ⟨t, 0, none⟩ = some (.map (some mb)) ∧
 (Instr.lookup 191 (.map (some mb)) (.agg #[.int .i64 lo, .int .i64 hi]) true).run Tryz.prog w = .ok (match f (lo, hi) with | some id => .tuple #[.int .i64 id, .bool true] | none => .tuple #[.int .i64 0, .bool false]) w := by
 obtain ⟨mb, l, h1, h2, h3, h4⟩ := h.ex
 refine ⟨mb, cell1 h1, ?_⟩
 have := h3.lookup kEdge Tryz.underlying191 Tryz.zeroValue3 (lo, hi) true
 rw [h4] at this
 refine this.trans ?_
 cases f (lo, hi) <;> rfl
set_option maxHeartbeats 400000 in
theorem find_yes (o : Own) (v t : Nat) (f : Nat × Nat → Option Nat) (lo hi id : Nat) (w : World) (h : TabIs o w v t f) (hf : f (lo, hi) = some id) :
 Calls Tryz.prog 128 #[.pointer (some ⟨t, 0, none⟩), .int .i64 lo, .int .i64 hi] w fun x w' => x = .returned (.tuple #[.int .i64 id, .bool true]) ∧ w = w' := by
 obtain ⟨mb, c0, hl⟩ := h.look lo hi
 rw [hf] at hl
 clear h hf
 go_enter Tryz.func128, Tryz.ntmps128
 go_wp2
 go_ret2
 exact ⟨rfl, rfl⟩
set_option maxHeartbeats 400000 in
theorem find_no (o : Own) (v t : Nat) (f : Nat × Nat → Option Nat) (lo hi : Nat) (w : World) (h : TabIs o w v t f) (hf : f (lo, hi) = none) :
 Calls Tryz.prog 128 #[.pointer (some ⟨t, 0, none⟩), .int .i64 lo, .int .i64 hi] w fun x w' => x = .returned (.tuple #[.int .i64 0, .bool false]) ∧ w = w' := by
 obtain ⟨mb, c0, hl⟩ := h.look lo hi
 rw [hf] at hl
 clear h hf
 go_enter Tryz.func128, Tryz.ntmps128
 go_wp2
 go_ret2
 exact ⟨rfl, rfl⟩
def putF (f : Nat × Nat → Option Nat) (k : Nat × Nat) (x : Option Nat) : Nat × Nat → Option Nat := fun q => if q = k then x else f q
set_option maxHeartbeats 400000 in
theorem put_any (o : Own) (v t : Nat) (f : Nat × Nat → Option Nat) (lo hi id : Nat) (w : World) (h : TabIs o w v t f) (hlt : OwnLt o w) (hf : f (lo, hi) = none) :
 Calls Tryz.prog 141 #[.pointer (some ⟨t, 0, none⟩), .int .i64 lo, .int .i64 hi, .int .i64 id] w fun x w' => x = .returned (.int .i64 0) ∧ TabIs o w' v t (putF f (lo, hi) (some id)) ∧ Chg (· = .tmap v) o o w w' ∧ OwnLt o w' := by
 obtain ⟨mb, l, h1, h2, h3, h4⟩ := h.ex
 have c0 := cell1 h1
 have hl := h3.lookup kEdge Tryz.underlying191 Tryz.zeroValue3 (lo, hi) true
 rw [h4, hf] at hl
 simp only [Option.map_none, Option.getD_none, Option.isSome_none, if_true] at hl
 unfold encE at hl
 obtain ⟨w', hr, h5, h6⟩ := h3.update kEdge Tryz.underlying191 (lo, hi) (.int .i64 id)
 have hr' : (Instr.mapUpdate 191 (.map (some mb)) (.agg #[.int .i64 lo, .int .i64 hi]) (.int .i64 id)).run Tryz.prog w = .ok () w' := hr
 have hfin : TabIs o w' v t (putF f (lo, hi) (some id)) := by
  refine ⟨h.own, mb, _, (h6.block t (hlt _ _ h.own) (fun e => by cases e; have := h.own; rw [h2] at this; cases this)).trans h1, h2, h5, fun k => ?_⟩
  rw [getL_putL h3.nodup, h4]
  unfold putF
  split <;> rfl
 have hc : Chg (· = .tmap v) o o w w' := (Chg.refl _ o w).grown h6 (fun g e => by cases e; exact ⟨_, h2, rfl⟩)
 have hol : OwnLt o w' := hlt.mono h6.size
 have HF := Lib.hid hfin
 have HC := Lib.hid hc
 have HO := Lib.hid hol
 clear h h1 h2 h3 h4 h5 h6 hr hfin hc hol hlt hf
 go_enter Tryz.func141, Tryz.ntmps141
 go_wp2
 go_ret
 exact ⟨rfl, HF.out, HC.out, HO.out⟩
set_option maxHeartbeats 400000 in
theorem cut_any (o : Own) (v t : Nat) (f : Nat × Nat → Option Nat) (lo hi id : Nat) (w : World) (h : TabIs o w v t f) (hlt : OwnLt o w) (hf : f (lo, hi) = some id) :
 Calls Tryz.prog 137 #[.pointer (some ⟨t, 0, none⟩), .int .i64 lo, .int .i64 hi] w fun x w' => x = .returned (.int .i64 0) ∧ TabIs o w' v t (putF f (lo, hi) none) ∧ Chg (· = .tmap v) o o w w' ∧ OwnLt o w' := by
 obtain ⟨mb, l, h1, h2, h3, h4⟩ := h.ex
 have c0 := cell1 h1
 have hl := h3.lookup kEdge Tryz.underlying191 Tryz.zeroValue3 (lo, hi) true
 rw [h4, hf] at hl
 simp only [Option.map_some, Option.getD_some, Option.isSome_some, if_true] at hl
 unfold encE at hl
 have hdel := fun ty => h3.delete kEdge Tryz.underlying191 (lo, hi) ty
 obtain ⟨w', hr, h5, h6⟩ := hdel 0
 have hr' : (Builtin.delete_ #[191, 168] 0 #[.map (some mb), .agg #[.int .i64 lo, .int .i64 hi]]).run Tryz.prog w = .ok (.tuple #[]) w' := hr
 have hfin : TabIs o w' v t (putF f (lo, hi) none) := by
  refine ⟨h.own, mb, _, (h6.block t (hlt _ _ h.own) (fun e => by cases e; have := h.own; rw [h2] at this; cases this)).trans h1, h2, h5, fun k => ?_⟩
  rw [getL_delL h3.nodup, h4]
  unfold putF
  split <;> rfl
 have hc : Chg (· = .tmap v) o o w w' := (Chg.refl _ o w).grown h6 (fun g e => by cases e; exact ⟨_, h2, rfl⟩)
 have hol : OwnLt o w' := hlt.mono h6.size
 have HF := Lib.hid hfin
 have HC := Lib.hid hc
 have HO := Lib.hid hol
 clear h h1 h2 h3 h4 h5 h6 hr hfin hc hol hlt hf hdel
 go_enter Tryz.func137, Tryz.ntmps137
 go_wp2
 go_ret
 exact ⟨rfl, HF.out, HC.out, HO.out⟩
open Go.RowKit
theorem eqArr3 (d : Nat) (w : World) (a b c a' b' c' : Nat) : (Op.equalIn (d + 2) 169 (.agg #[.int .i64 a, .int .i64 b, .int .i64 c]) (.agg #[.int .i64 a', .int .i64 b', .int .i64 c'])).run Tryz.prog w = .ok (decide (a = a' ∧ b = b' ∧ c = c')) w := by
 have hq := fun (x y : Int) => run_equalIn_int (P := Tryz.prog) w d 52 .i64 .i64 x y Tryz.underlying52
 have s := sizeEdge
 cases hi : Tryz.prog.info? 52 with
 | none => rw [hi] at s; cases s
 | some i =>
   have hs := run_sizeOf w hi
   rw [show Tryz.prog.cellsOf 52 = 1 by kernel_rfl] at hs
   have p0 := fun a b c : Nat => part_int w Tryz.underlying52 #[.int .i64 a, .int .i64 b, .int .i64 c] 0 _ rfl
   have p1 := fun a b c : Nat => part_int w Tryz.underlying52 #[.int .i64 a, .int .i64 b, .int .i64 c] 1 _ rfl
   have p2 := fun a b c : Nat => part_int w Tryz.underlying52 #[.int .i64 a, .int .i64 b, .int .i64 c] 2 _ rfl
   unfold Op.equalIn
   simp only [Sem.run_bind, run_underlying Tryz.underlying169, Result.andThen_ok, hs]
   simp [List.range', p0, p1, p2, hq]
   have e1 : ((a : Int) = a') ↔ a = a' := by omega
   have e2 : ((b : Int) = b') ↔ b = b' := by omega
   have e3 : ((c : Int) = c') ↔ c = c' := by omega
   by_cases h1 : a = a' <;> by_cases h2 : b = b' <;> by_cases h3 : c = c' <;> simp [e1, e2, e3, h1, h2, h3]
theorem eqKey (w : World) (op op' : Int) (a b c a' b' c' : Nat) : (Op.equal 171 (keyV op a b c) (keyV op' a' b' c')).run Tryz.prog w = .ok (decide (op = op' ∧ a = a' ∧ b = b' ∧ c = c')) w := by
 have hq := fun (x y : Int) => run_equalIn_int (P := Tryz.prog) w 9998 3 .i64 .i64 x y Tryz.underlying3
 have h := run_equalIn_struct (P := Tryz.prog) w 9999 171 #[.int .i64 op, .int .i64 a, .int .i64 b, .int .i64 c] #[.int .i64 op', .int .i64 a', .int .i64 b', .int .i64 c'] (by simp [Program.fieldsOf, Tryz.underlying171]) (by kernel_rfl)
 have h3 := eqArr3 9997 w a b c a' b' c'
 have hd : Op.maxDepth = 9999 + 1 := rfl
 have hpk : ∀ op a b c : Value, (part 169 #[op, a, b, c] 1).run Tryz.prog w = .ok (.agg #[a, b, c]) w := by
  intro op a b c
  cases hi : Tryz.prog.info? 169 with
  | none => have s : (Tryz.prog.info? 169).map (fun i => i.size) = some 3 := by kernel_rfl
            rw [hi] at s; cases s
  | some i =>
    have hs := run_sizeOf w hi
    rw [show Tryz.prog.cellsOf 169 = 3 by kernel_rfl] at hs
    simp [part, isAgg, run_underlying Tryz.underlying169]
 have hpi : ∀ op a b c : Value, (part 3 #[op, a, b, c] 0).run Tryz.prog w = .ok op w := fun op a b c => part_int w Tryz.underlying3 _ 0 _ rfl
 unfold Op.equal keyV
 rw [hd, h]
 simp only [Program.fieldsOf, Tryz.underlying171]
 simp [Op.eqFields, hpk, hpi, hq, h3]
 by_cases h1 : op = op' <;> by_cases h2 : a = a' <;> by_cases h3 : b = b' <;> by_cases h4 : c = c' <;> simp [h1, h2, h3, h4]
theorem run_neqKey (w : World) (op op' : Int) (a b c a' b' c' : Nat) : (binOp .neq 171 (.agg #[.int .i64 op, .int .i64 a, .int .i64 b, .int .i64 c]) (.agg #[.int .i64 op', .int .i64 a', .int .i64 b', .int .i64 c'])).run Tryz.prog w = .ok (.bool (!decide (op = op' ∧ a = a' ∧ b = b' ∧ c = c'))) w := by
 have h := eqKey w op op' a b c a' b' c'
 unfold keyV at h
 simp only [binOp]
 simp [h]
structure EntD where
 op : Int
 a : Nat
 b : Nat
 c : Nat
 r : Nat
 full : Bool
def entV (e : EntD) : List Value := [.int .i64 e.op, .int .i64 e.a, .int .i64 e.b, .int .i64 e.c, .int .i64 e.r, .bool e.full]
theorem entV_length (e : EntD) : (entV e).length = 6 := rfl
def ent0 : EntD := ⟨0, 0, 0, 0, 0, false⟩
def entAt (l : List EntD) (i : Nat) : EntD := l.getD i ent0
abbrev Phi := Int → Nat → Nat → Nat → Nat → Prop
def EntOk (F : Phi) (l : List EntD) : Prop := ∀ i, (entAt l i).full = true → F (entAt l i).op (entAt l i).a (entAt l i).b (entAt l i).c (entAt l i).r
structure MemoAt (o : Own) (w : World) (mb : Nat) (F : Phi) : Prop where
 own : o mb = some .memo
 ex : ∃ ve asked found, w.heap[mb]? = some (.cells #[.int .i64 4096, ve, .int .i64 asked, .int .i64 found] 150 (0, 0)) ∧
  (ve = .slice none 0 0 ∨ ∃ ge cap l, ve = .slice (some ⟨ge, 0, none⟩) 4096 cap ∧ l.length = 4096 ∧ RowR o w .entries 175 6 ve 4096 (l.flatMap entV) ∧ EntOk F l)
theorem MemoAt.keep {o o' : Own} {w w' : World} {mb : Nat} {F : Phi} (h : MemoAt o w mb F) (hk : ∀ g r, o g = some r → (r = .memo ∨ r = .entries) → w'.heap[g]? = w.heap[g]?) (ho : ∀ g r, o g = some r → o' g = some r) : MemoAt o' w' mb F := by
 obtain ⟨ve, a, f, h1, h2⟩ := h.ex
 refine ⟨ho _ _ h.own, ve, a, f, (hk _ _ h.own (.inl rfl)).trans h1, h2.imp id ?_⟩
 rintro ⟨ge, cap, l, e1, e2, e3, e4⟩
 exact ⟨ge, cap, l, e1, e2, e3.keep (fun g hg => hk g _ hg (.inr rfl)) (fun g hg => ho g _ hg), e4⟩
theorem MemoAt.chg {R : Role → Prop} {o o' : Own} {w w' : World} {mb : Nat} {F : Phi} (h : MemoAt o w mb F) (hc : Chg R o o' w w') (hlt : OwnLt o w) (h1 : ¬ R .memo) (h2 : ¬ R .entries) : MemoAt o' w' mb F :=
 h.keep (fun g r hg hr => hc.same hlt hg (by rcases hr with rfl | rfl <;> assumption)) hc.ext
theorem cells4 {w : World} {g : Nat} {a b c d : Value} {T : TypeId} (h : w.heap[g]? = some (.cells #[a, b, c, d] T (0, 0))) : w.cell? ⟨g, 0, none⟩ = some a ∧ w.cell? ⟨g, 1, none⟩ = some b ∧ w.cell? ⟨g, 2, none⟩ = some c ∧ w.cell? ⟨g, 3, none⟩ = some d ∧ (∀ k, w.frozen? ⟨g, k, none⟩ = false) :=
 ⟨by rw [cell_of_row w g 0 _ _ _ h]; rfl, by rw [cell_of_row w g 1 _ _ _ h]; rfl, by rw [cell_of_row w g 2 _ _ _ h]; rfl, by rw [cell_of_row w g 3 _ _ _ h]; rfl, fun k => by simp [World.frozen?, h]⟩
theorem entCells {o : Own} {w : World} {g cap m : Nat} {l : List EntD} (h : RowR o w .entries 175 6 (.slice (some ⟨g, 0, none⟩) m cap) 4096 (l.flatMap entV)) (hl : l.length = 4096) {k : Nat} (hk : k < 4096) :
 w.cell? ⟨g, k * 6, none⟩ = some (.int .i64 (entAt l k).op) ∧ w.cell? ⟨g, k * 6 + 1, none⟩ = some (.int .i64 (entAt l k).a) ∧ w.cell? ⟨g, k * 6 + 2, none⟩ = some (.int .i64 (entAt l k).b) ∧ w.cell? ⟨g, k * 6 + 3, none⟩ = some (.int .i64 (entAt l k).c) ∧
 w.cell? ⟨g, k * 6 + 4, none⟩ = some (.int .i64 (entAt l k).r) ∧ w.cell? ⟨g, k * 6 + 5, none⟩ = some (.bool (entAt l k).full) := by
 have hx : l[k]? = some (entAt l k) := by simp [entAt, List.getD, hl, hk]
 have hlen : (l.flatMap entV).length = 4096 * 6 := by rw [flat_length entV 6 entV_length, hl]
 have e := fun j (hj : j < 6) => (h.cell (k * 6 + j) (by rw [hlen]; omega)).trans (flat_get entV 6 entV_length l k j _ hx hj)
 exact ⟨e 0 (by omega), e 1 (by omega), e 2 (by omega), e 3 (by omega), e 4 (by omega), e 5 (by omega)⟩
def GetSays (F : Phi) (op : Int) (a b c : Nat) (x : Ending) : Prop := x = .returned (.tuple #[.int .i64 0, .bool false]) ∨ ∃ r : Nat, x = .returned (.tuple #[.int .i64 r, .bool true]) ∧ F op a b c r
set_option maxRecDepth 100000 in
set_option maxHeartbeats 1600000 in
theorem get_any (o : Own) (mb : Nat) (F : Phi) (op : Int) (a b c : Nat) (w : World) (h : MemoAt o w mb F) (hlt : OwnLt o w) :
 Calls Tryz.prog 94 #[.pointer (some ⟨mb, 0, none⟩), .int .i64 op, .int .i64 a, .int .i64 b, .int .i64 c] w fun x w' => GetSays F op a b c x ∧ MemoAt o w' mb F ∧ Chg (· = .memo) o o w w' ∧ OwnLt o w' := by
 obtain ⟨ve, asked, found, hmb, hv⟩ := h.ex
 obtain ⟨c0, c1, c2, c3, f0⟩ := cells4 hmb
 obtain ⟨W, hW⟩ : ∃ W, W = w.setCell ⟨mb, 2, none⟩ (.int .i64 (wrap64 (asked + 1))) := ⟨_, rfl⟩
 have hmbW : W.heap[mb]? = some (.cells #[.int .i64 4096, ve, .int .i64 (wrap64 (asked + 1)), .int .i64 found] 150 (0, 0)) := by rw [hW]; exact heap_setCell_same hmb _
 have hcW : Chg (· = .memo) o o w W := by rw [hW]; exact Chg.setCell (R := (· = .memo)) (Chg.refl _ o w) (p := ⟨mb, 2, none⟩) h.own rfl _
 have hlW : OwnLt o W := hlt.mono hcW.size
 rcases hv with rfl | ⟨ge, cap, l, rfl, hl, hrow, hok⟩
 ·
  have hfin : MemoAt o W mb F := ⟨h.own, _, _, _, hmbW, .inl rfl⟩
  have HF := Lib.hid hfin
  have HC := Lib.hid hcW
  have HL := Lib.hid hlW
  have HW := Lib.hid hW
  obtain ⟨d0, d1, d2, d3, g0⟩ := cells4 hmbW
  rw [hW] at d0 d1 d2 d3 g0
  clear h hlt hmb hmbW hcW hlW hfin hW
  go_enter Tryz.func94, Tryz.ntmps94
  go_wp2_with fail
  go_ret2
  rw [← HW.out]
  exact ⟨.inl rfl, HF.out, HC.out, HL.out⟩
 ·
  have hrW : RowR o W .entries 175 6 (.slice (some ⟨ge, 0, none⟩) 4096 cap) 4096 (l.flatMap entV) := hrow.chg hcW hlt (by simp)
  have hfin : MemoAt o W mb F := ⟨h.own, _, _, _, hmbW, .inr ⟨ge, cap, l, rfl, hl, hrW, hok⟩⟩
  obtain ⟨d0, d1, d2, d3, g0⟩ := cells4 hmbW
  have hB := (below_new1 W (.cells #[.int .i64 op, .int .i64 a, .int .i64 b, .int .i64 c] 171))
  have e1 := (hB.cell (p := ⟨mb, 1, none⟩) (lt_of_cell d1)).trans d1
  have HPL := Lib.hid (place_any mb ge cap op a b c _ e1)
  have hz : W.heap.size = w.heap.size := by rw [hW]; simp [World.setCell]
  obtain ⟨bx, hbx⟩ : ∃ bx, bx = w.heap.size := ⟨_, rfl⟩
  obtain ⟨WK, hWK⟩ : ∃ WK, WK = W.alloc (.cells #[.int .i64 op, .int .i64 a, .int .i64 b, .int .i64 c] 171) := ⟨_, rfl⟩
  have hkb : WK.heap[bx]? = some (.cells #[.int .i64 op, .int .i64 a, .int .i64 b, .int .i64 c] 171 (0, 0)) := by rw [hWK, hbx, ← hz]; exact heap_alloc_new W _
  rw [← hWK] at HPL hB
  have HFIN := Lib.hid hfin
  have HCW := Lib.hid hcW
  have HLW := Lib.hid hlW
  have HRW := Lib.hid hrW
  have HL := Lib.hid hl
  have HOK := Lib.hid hok
  have HB := Lib.hid hB
  have HKB := Lib.hid hkb
  have HMB := Lib.hid hmbW
  have HOWN := Lib.hid h.own
  have HW := Lib.hid hW
  have HWK := Lib.hid hWK
  have HZ := Lib.hid hz
  have HBX := Lib.hid hbx
  rw [hW] at d0 d1 d2 d3 g0
  have lmb : mb < w.heap.size := lt_of_cell c0
  clear h hlt hmb hmbW hcW hlW hfin hW hrW hok hl hrow hB hkb hWK hbx hz e1
  go_enter Tryz.func94, Tryz.ntmps94
  go_wp2_with fail
  rw [← HW.out, ← HWK.out, ← HBX.out]
  refine HPL.out.mono ?_
  rintro x w2 ⟨i, hi, rfl, hb2⟩
  have hbW2 : Below W.heap.size W w2 := HB.out.trans (hb2.mono HB.out.size)
  have hrow2 := HRW.out.below HLW.out hbW2
  have hmb2 := (hbW2.block mb (HLW.out _ _ HOWN.out)).trans HMB.out
  have hkb2 := (hb2.block bx (Array.getElem?_eq_some_iff.1 HKB.out).1).trans HKB.out
  have hc2 : Chg (· = .memo) o o w w2 := HCW.out.trans (Chg.of_below hbW2 _ _)
  have hl2 : OwnLt o w2 := HLW.out.mono hbW2.size
  obtain ⟨E, hE⟩ : ∃ E, entAt (l := l) i = E := ⟨_, rfl⟩
  obtain ⟨n0, n1, n2, n3, n4, n5⟩ := entCells hrow2 HL.out hi
  rw [hE] at n0 n1 n2 n3 n4 n5
  obtain ⟨k0, k1, k2, k3, fk⟩ := cells4 hkb2
  clear d0 d1 d2 d3 g0 c0 c1 c2 c3 f0 lmb
  obtain ⟨d0, d1, d2, d3, g0⟩ := cells4 hmb2
  have hfin2 : MemoAt o w2 mb F := ⟨HOWN.out, _, _, _, hmb2, .inr ⟨ge, cap, l, rfl, HL.out, hrow2, HOK.out⟩⟩
  have HF2 := Lib.hid hfin2
  have HC2 := Lib.hid hc2
  have HL2 := Lib.hid hl2
  have HMB2 := Lib.hid hmb2
  have HR2 := Lib.hid hrow2
  have HEE := Lib.hid hE
  clear hfin2 hc2 hl2 hb2 hbW2 hrow2 hmb2 hkb2 hE HPL
  have hneq := run_neqKey
  by_cases hfull : E.full = true
  ·
   rw [hfull] at n5
   have HFU := Lib.hid hfull
   by_cases hkey : E.op = op ∧ E.a = a ∧ E.b = b ∧ E.c = c
   ·
    have hd : decide (E.op = op ∧ E.a = a ∧ E.b = b ∧ E.c = c) = true := decide_eq_true hkey
    have hne : ∀ w, (binOp .neq 171 (.agg #[.int .i64 E.op, .int .i64 E.a, .int .i64 E.b, .int .i64 E.c]) (.agg #[.int .i64 op, .int .i64 a, .int .i64 b, .int .i64 c])).run Tryz.prog w = .ok (.bool false) w := fun w => by rw [hneq, hd]; rfl
    have HK := Lib.hid hkey
    clear hneq hd hkey hfull
    go_wp2_with fail
    go_quiet (fail)
    go_wp2_with fail
    go_ret2
    have hphi := HOK.out i (by rw [HEE.out]; exact HFU.out)
    rw [HEE.out, HK.out.1, HK.out.2.1, HK.out.2.2.1, HK.out.2.2.2] at hphi
    refine ⟨.inr ⟨E.r, rfl, hphi⟩, ⟨HOWN.out, _, _, _, heap_setCell_same (w := w2.drewN nq) HMB2.out _, .inr ⟨ge, cap, l, rfl, HL.out, ?_, HOK.out⟩⟩, Chg.setCell (R := (· = .memo)) (HC2.out.drewN nq) (p := ⟨mb, 3, none⟩) HOWN.out rfl _, HL2.out.mono (by simp [World.setCell])⟩
    exact (HR2.out.keep (w' := w2.drewN nq) (fun _ _ => rfl) (fun _ h => h)).setCell_other (p := ⟨mb, 3, none⟩) (by rw [HOWN.out]; simp) _
   ·
    have hd : decide (E.op = op ∧ E.a = a ∧ E.b = b ∧ E.c = c) = false := decide_eq_false hkey
    have hne : ∀ w, (binOp .neq 171 (.agg #[.int .i64 E.op, .int .i64 E.a, .int .i64 E.b, .int .i64 E.c]) (.agg #[.int .i64 op, .int .i64 a, .int .i64 b, .int .i64 c])).run Tryz.prog w = .ok (.bool true) w := fun w => by rw [hneq, hd]; rfl
    clear hneq hd hkey hfull
    go_wp2_with fail
    go_quiet (fail)
    go_wp2_with fail
    go_ret2
    exact ⟨.inl rfl, HF2.out.keep (fun _ _ _ _ => rfl) (fun _ _ h => h), HC2.out.drewN _, HL2.out⟩
  ·
   have hfull' : E.full = false := by simpa using hfull
   rw [hfull'] at n5
   clear hneq hfull hfull'
   go_wp2_with fail
   go_quiet (fail)
   go_wp2_with fail
   go_ret2
   exact ⟨.inl rfl, HF2.out.keep (fun _ _ _ _ => rfl) (fun _ _ h => h), HC2.out.drewN _, HL2.out⟩
open Go.RowKit
theorem infoEntry : (Tryz.prog.info? 175).map (fun i => (i.zero, i.size, i.bytes)) = some (some (.agg #[.int .i64 0, .int .i64 0, .int .i64 0, .int .i64 0, .int .i64 0, .bool false]), 6, 48) := by kernel_rfl
theorem made_entries (n : Nat) : (madeCells #[.int .i64 0, .int .i64 0, .int .i64 0, .int .i64 0, .int .i64 0, .bool false] (n * 6)).toList = (List.replicate n ent0).flatMap entV := by
 apply List.ext_getElem?
 intro i
 simp only [madeCells, Array.toList_map, Array.toList_range, List.getElem?_map]
 by_cases hi : i < n * 6
 ·
  have e := flat_get entV 6 entV_length (List.replicate n ent0) (i / 6) (i % 6) ent0 (by rw [List.getElem?_replicate, if_pos (by omega)]) (by omega)
  rw [show i / 6 * 6 + i % 6 = i by omega] at e
  rw [e, List.getElem?_range hi]
  have hm : i % 6 = 0 ∨ i % 6 = 1 ∨ i % 6 = 2 ∨ i % 6 = 3 ∨ i % 6 = 4 ∨ i % 6 = 5 := by omega
  simp only [Option.map_some]
  rcases hm with h | h | h | h | h | h <;> simp [h, entV, ent0]
 ·
  have hl : ((List.replicate n ent0).flatMap entV).length = n * 6 := by rw [flat_length entV 6 entV_length]; simp
  rw [List.getElem?_eq_none (l := (List.replicate n ent0).flatMap entV) (by omega), List.getElem?_eq_none (by simp; omega)]
  rfl
theorem sizeEntry : (Tryz.prog.info? 175).map (fun i => i.size) = some 6 := by kernel_rfl
def set6 (w : World) (g k : Nat) (e : EntD) : World :=
 (((((w.setCell ⟨g, k * 6, none⟩ (.int .i64 e.op)).setCell ⟨g, k * 6 + 1, none⟩ (.int .i64 e.a)).setCell ⟨g, k * 6 + 2, none⟩ (.int .i64 e.b)).setCell ⟨g, k * 6 + 3, none⟩ (.int .i64 e.c)).setCell ⟨g, k * 6 + 4, none⟩ (.int .i64 e.r)).setCell ⟨g, k * 6 + 5, none⟩ (.bool e.full)
theorem run_storeEntry {w : World} {g k : Nat} (f : ∀ j, w.frozen? ⟨g, j, none⟩ = false) {u0 u1 u2 u3 u4 u5 : Value} (c0 : w.cell? ⟨g, k * 6, none⟩ = some u0) (c1 : w.cell? ⟨g, k * 6 + 1, none⟩ = some u1) (c2 : w.cell? ⟨g, k * 6 + 2, none⟩ = some u2) (c3 : w.cell? ⟨g, k * 6 + 3, none⟩ = some u3) (c4 : w.cell? ⟨g, k * 6 + 4, none⟩ = some u4) (c5 : w.cell? ⟨g, k * 6 + 5, none⟩ = some u5) (E : EntD) :
 (Instr.storeAt 175 (.pointer (some ⟨g, k * 6, none⟩)) (.agg #[.int .i64 E.op, .int .i64 E.a, .int .i64 E.b, .int .i64 E.c, .int .i64 E.r, .bool E.full])).run Tryz.prog w = .ok () (set6 w g k E) := by
 have s := sizeEntry
 have hadd : ∀ j, (⟨g, k * 6, none⟩ : Addr).add j = ⟨g, k * 6 + j, none⟩ := fun j => by unfold Addr.add; split <;> simp_all
 have hsa : (Instr.sureAddr (Value.pointer (some ⟨g, k * 6, none⟩))).run Tryz.prog w = .ok ⟨g, k * 6, none⟩ w := rfl
 cases hi : Tryz.prog.info? 175 with
 | none => rw [hi] at s; cases s
 | some i =>
   rw [hi] at s
   simp only [Option.map_some, Option.some.injEq] at s
   have fz : ∀ (w' : World) p v j, (w'.setCell p v).frozen? ⟨g, j, none⟩ = w'.frozen? ⟨g, j, none⟩ := fun w' p v j => World.frozen?_setCell _ _ _ _
   obtain ⟨v1, e1⟩ := cell_ex (p := ⟨g, k * 6, none⟩) (v := .int .i64 E.op) c1
   obtain ⟨v2, e2⟩ := cell_ex (p := ⟨g, k * 6, none⟩) (v := .int .i64 E.op) c2
   obtain ⟨v2, e2⟩ := cell_ex (p := ⟨g, k * 6 + 1, none⟩) (v := .int .i64 E.a) e2
   obtain ⟨v3, e3⟩ := cell_ex (p := ⟨g, k * 6, none⟩) (v := .int .i64 E.op) c3
   obtain ⟨v3, e3⟩ := cell_ex (p := ⟨g, k * 6 + 1, none⟩) (v := .int .i64 E.a) e3
   obtain ⟨v3, e3⟩ := cell_ex (p := ⟨g, k * 6 + 2, none⟩) (v := .int .i64 E.b) e3
   obtain ⟨v4, e4⟩ := cell_ex (p := ⟨g, k * 6, none⟩) (v := .int .i64 E.op) c4
   obtain ⟨v4, e4⟩ := cell_ex (p := ⟨g, k * 6 + 1, none⟩) (v := .int .i64 E.a) e4
   obtain ⟨v4, e4⟩ := cell_ex (p := ⟨g, k * 6 + 2, none⟩) (v := .int .i64 E.b) e4
   obtain ⟨v4, e4⟩ := cell_ex (p := ⟨g, k * 6 + 3, none⟩) (v := .int .i64 E.c) e4
   obtain ⟨v5, e5⟩ := cell_ex (p := ⟨g, k * 6, none⟩) (v := .int .i64 E.op) c5
   obtain ⟨v5, e5⟩ := cell_ex (p := ⟨g, k * 6 + 1, none⟩) (v := .int .i64 E.a) e5
   obtain ⟨v5, e5⟩ := cell_ex (p := ⟨g, k * 6 + 2, none⟩) (v := .int .i64 E.b) e5
   obtain ⟨v5, e5⟩ := cell_ex (p := ⟨g, k * 6 + 3, none⟩) (v := .int .i64 E.c) e5
   obtain ⟨v5, e5⟩ := cell_ex (p := ⟨g, k * 6 + 4, none⟩) (v := .int .i64 E.r) e5
   have s0 := store_ok (P := Tryz.prog) (v := .int .i64 E.op) c0 (f _) rfl
   have s1 := store_ok (P := Tryz.prog) (v := .int .i64 E.a) e1 (by rw [fz]; exact f _) rfl
   have s2 := store_ok (P := Tryz.prog) (v := .int .i64 E.b) e2 (by rw [fz, fz]; exact f _) rfl
   have s3 := store_ok (P := Tryz.prog) (v := .int .i64 E.c) e3 (by rw [fz, fz, fz]; exact f _) rfl
   have s4 := store_ok (P := Tryz.prog) (v := .int .i64 E.r) e4 (by rw [fz, fz, fz, fz]; exact f _) rfl
   have s5 := store_ok (P := Tryz.prog) (v := .bool E.full) e5 (by rw [fz, fz, fz, fz, fz]; exact f _) rfl
   simp only [Instr.storeAt, Sem.run_bind, hsa, Result.andThen_ok]
   simp [storeVar, sizeOf, typeInfo, hi, s, Value.cells, storeCells, hadd, s0, s1, s2, s3, s4, s5, set6]
theorem set_six (xs : List Value) (k : Nat) (a b c d e f : Value) (h : k + 6 ≤ xs.length) : (((((xs.set k a).set (k + 1) b).set (k + 2) c).set (k + 3) d).set (k + 4) e).set (k + 5) f = xs.take k ++ [a, b, c, d, e, f] ++ xs.drop (k + 6) := by
 apply List.ext_getElem?
 intro i
 simp only [List.getElem?_set, List.length_set]
 by_cases h0 : i < k
 ·
  rw [List.getElem?_append_left (by simp; omega), List.getElem?_append_left (by simp; omega), List.getElem?_take, if_pos h0]
  rw [if_neg (by omega), if_neg (by omega), if_neg (by omega), if_neg (by omega), if_neg (by omega), if_neg (by omega)]
 ·
  by_cases h1 : i < k + 6
  ·
   rw [List.getElem?_append_left (by simp; omega), List.getElem?_append_right (by simp; omega)]
   have hl : (xs.take k).length = k := by simp; omega
   rw [hl]
   have : i = k ∨ i = k + 1 ∨ i = k + 2 ∨ i = k + 3 ∨ i = k + 4 ∨ i = k + 5 := by omega
   rcases this with rfl | rfl | rfl | rfl | rfl | rfl <;> (simp; omega)
  ·
   rw [if_neg (by omega), if_neg (by omega), if_neg (by omega), if_neg (by omega), if_neg (by omega), if_neg (by omega)]
   rw [List.getElem?_append_right (by simp; omega)]
   simp only [List.length_append, List.length_take, List.length_cons, List.length_nil, List.getElem?_drop]
   congr 1; omega
theorem rowR_set6 {o : Own} {w : World} {g cap m : Nat} {l : List EntD} {k : Nat} (h : RowR o w .entries 175 6 (.slice (some ⟨g, 0, none⟩) m cap) l.length (l.flatMap entV)) (hk : k < l.length) (E : EntD) :
 RowR o (set6 w g k E) .entries 175 6 (.slice (some ⟨g, 0, none⟩) m cap) l.length ((l.set k E).flatMap entV) := by
 have h6 := (((((h.stored (k * 6) (.int .i64 E.op)).stored (k * 6 + 1) (.int .i64 E.a)).stored (k * 6 + 2) (.int .i64 E.b)).stored (k * 6 + 3) (.int .i64 E.c)).stored (k * 6 + 4) (.int .i64 E.r)).stored (k * 6 + 5) (.bool E.full)
 have hl : (l.flatMap entV).length = l.length * 6 := flat_length entV 6 entV_length _
 rw [set_six _ _ _ _ _ _ _ _ (by rw [hl]; omega)] at h6
 rw [flat_set entV 6 entV_length l k E hk]
 exact h6
theorem set6_heap {w : World} {g k : Nat} {E : EntD} {b : Nat} (hb : b ≠ g) : (set6 w g k E).heap[b]? = w.heap[b]? := by
 unfold set6
 rw [heap_setCell_ne hb, heap_setCell_ne hb, heap_setCell_ne hb, heap_setCell_ne hb, heap_setCell_ne hb, heap_setCell_ne hb]
theorem set6_chg {R : Role → Prop} {o o' : Own} {w0 w : World} {g k : Nat} {E : EntD} (h : Chg R o o' w0 w) (hg : o' g = some .entries) (hR : R .entries) : Chg R o o' w0 (set6 w g k E) :=
 (((((h.setCell (p := ⟨g, k * 6, none⟩) hg hR _).setCell (p := ⟨g, k * 6 + 1, none⟩) hg hR _).setCell (p := ⟨g, k * 6 + 2, none⟩) hg hR _).setCell (p := ⟨g, k * 6 + 3, none⟩) hg hR _).setCell (p := ⟨g, k * 6 + 4, none⟩) hg hR _).setCell (p := ⟨g, k * 6 + 5, none⟩) hg hR _
theorem entOk_set {F : Phi} {l : List EntD} (h : EntOk F l) (k : Nat) {E : EntD} (hE : F E.op E.a E.b E.c E.r) : EntOk F (l.set k E) := by
 intro i hi
 by_cases e : i = k ∧ k < l.length
 ·
  obtain ⟨rfl, hk⟩ := e
  have : entAt (l.set i E) i = E := by simp [entAt, List.getD, hk]
  rw [this]; exact hE
 ·
  have : entAt (l.set k E) i = entAt l i := by
   simp only [entAt, List.getD, List.getElem?_set]
   by_cases e1 : k = i
   ·
    rw [if_pos e1]
    have : ¬ k < l.length := fun h' => e ⟨e1.symm, h'⟩
    rw [if_neg this]; subst e1; rw [List.getElem?_eq_none (by omega)]
   ·
    rw [if_neg e1]
  rw [this] at hi ⊢; exact h i hi
open Go.RowKit
section
variable {P : Program} {ops : Array Oper} {S : World → Prop} {Q : Exit → Act → World → Prop} {last : Bool}
theorem mix_callR {o : Oper} {r : List (Option Oper × Bool)} {a : Act} {w : World} {f : FuncId} {args : Array Value} {R : Value → World → Prop} (hg : o.guard = none)
 (he : (execOp a.eval o).run P w = .ok (.enter f args) w) (hc : Calls P f args w fun e w' => ∃ v, e = .returned v ∧ S w' ∧ R v w')
 (h : ∀ v w', S w' → R v w' → wpMix P ops Q S last r (a.put o.dst v) w') : wpMix P ops Q S last ((some o, true) :: r) a w := by
 have hw : Region.wanted o (yielded ops a.tmps) = true := by simp [Region.wanted, hg]
 unfold wpMix
 simp only [hw, if_true, Oper.wp, he, Oper.upon]
 exact hc.mono fun e w' ⟨v, h1, h2, h3⟩ => by subst h1; exact ⟨.inr h2, h v w' h2 h3⟩
end
theorem entries_made (o : Own) (w : World) (hlt : OwnLt o w) : RowR (ownAt o w.heap.size .entries) (w.alloc (.cells (madeCells #[.int .i64 0, .int .i64 0, .int .i64 0, .int .i64 0, .int .i64 0, .bool false] (4096 * 6)) 175)) .entries 175 6 (.slice (some ⟨w.heap.size, 0, none⟩) 4096 4096) 4096 ((List.replicate 4096 ent0).flatMap entV) := by
 refine ⟨by rw [flat_length entV 6 entV_length, List.length_replicate], .inr ⟨w.heap.size, 4096, _, rfl, ownAt_same _ _ _, heap_alloc_new w _, Nat.le_refl _, by decide, by rw [size_madeCells]; exact Nat.le_refl _, ?_⟩⟩
 rw [made_entries, List.take_of_length_le]
 rw [flat_length entV 6 entV_length, List.length_replicate]; exact Nat.le_refl _
theorem entOk_zero (F : Phi) (n : Nat) : EntOk F (List.replicate n ent0) := by
 intro i hi
 have : entAt (List.replicate n ent0) i = ent0 := by
  simp only [entAt, List.getD, List.getElem?_replicate]
  split <;> rfl
 rw [this] at hi; cases hi
theorem run_makeEnt (w : World) : (Instr.makeSlice 148 (.int .i64 4096) (.int .i64 4096)).run Tryz.prog w = .ok (.slice (some ⟨w.heap.size, 0, none⟩) 4096 4096) (w.alloc (.cells (madeCells #[.int .i64 0, .int .i64 0, .int .i64 0, .int .i64 0, .int .i64 0, .bool false] (4096 * 6)) 175)) := by
 have s := infoEntry
 cases hi : Tryz.prog.info? 175 with
 | none => rw [hi] at s; cases s
 | some i =>
   rw [hi] at s
   simp only [Option.map_some, Option.some.injEq, Prod.mk.injEq] at s
   obtain ⟨hz, hs, hb⟩ := s
   have := run_make (P := Tryz.prog) w 148 175 i _ Tryz.underlying148 hi hz .i64 .i64 4096 4096 (by decide) (by decide) (by rw [hb]; decide) (by decide)
   rw [hs] at this
   exact this
structure MemoFull (o : Own) (w : World) (mb ge cap : Nat) (l : List EntD) (asked found : Int) (F : Phi) : Prop where
 own : o mb = some .memo
 blk : w.heap[mb]? = some (.cells #[.int .i64 4096, .slice (some ⟨ge, 0, none⟩) 4096 cap, .int .i64 asked, .int .i64 found] 150 (0, 0))
 len : l.length = 4096
 row : RowR o w .entries 175 6 (.slice (some ⟨ge, 0, none⟩) 4096 cap) 4096 (l.flatMap entV)
 ok : EntOk F l
theorem MemoFull.is {o : Own} {w : World} {mb ge cap : Nat} {l : List EntD} {asked found : Int} {F : Phi} (h : MemoFull o w mb ge cap l asked found F) : MemoAt o w mb F := ⟨h.own, _, _, _, h.blk, .inr ⟨ge, cap, l, rfl, h.len, h.row, h.ok⟩⟩
theorem memoFull_made {o : Own} {w : World} {mb : Nat} {asked found : Int} {F : Phi} (hown : o mb = some .memo) (hlt : OwnLt o w) (hmb : w.heap[mb]? = some (.cells #[.int .i64 4096, .slice none 0 0, .int .i64 asked, .int .i64 found] 150 (0, 0))) (W : World)
 (hW : W = (w.setCell ⟨mb, 1, none⟩ (.slice (some ⟨w.heap.size, 0, none⟩) 4096 4096)).alloc (.cells (madeCells #[.int .i64 0, .int .i64 0, .int .i64 0, .int .i64 0, .int .i64 0, .bool false] 24576) 175)) :
 ∃ o', MemoFull o' W mb w.heap.size 4096 (List.replicate 4096 ent0) asked found F ∧ Chg (fun r => r = .memo ∨ r = .entries) o o' w W ∧ OwnLt o' W := by
 have hlm : mb < w.heap.size := hlt _ _ hown
 obtain ⟨w1, h1⟩ : ∃ w1, w1 = w.setCell ⟨mb, 1, none⟩ (.slice (some ⟨w.heap.size, 0, none⟩) 4096 4096) := ⟨_, rfl⟩
 have hz : w1.heap.size = w.heap.size := by rw [h1]; simp [World.setCell]
 have hc1 : Chg (fun r => r = .memo ∨ r = .entries) o o w w1 := by rw [h1]; exact Chg.setCell (R := fun r => r = .memo ∨ r = .entries) (p := ⟨mb, 1, none⟩) (Chg.refl _ o w) hown (.inl rfl) _
 have hl1 : OwnLt o w1 := hlt.mono hc1.size
 have hm1 : w1.heap[mb]? = some (.cells #[.int .i64 4096, .slice (some ⟨w.heap.size, 0, none⟩) 4096 4096, .int .i64 asked, .int .i64 found] 150 (0, 0)) := by rw [h1]; exact heap_setCell_same hmb _
 have hr := entries_made o w1 hl1
 rw [← h1] at hW
 rw [hz] at hr
 subst hW
 refine ⟨ownAt o w.heap.size .entries, ⟨ownAt_old hlt (Nat.le_refl _) hown, ?_, List.length_replicate, hr, entOk_zero F _⟩, ?_, ?_⟩
 ·
  exact (Go.heap_alloc_old w1 _ (by omega)).trans hm1
 ·
  rw [← hz]; exact hc1.allocR hl1 _ (.inr rfl)
 ·
  rw [← hz]; exact hl1.allocR _ _
theorem MemoFull.below {o : Own} {w w' : World} {mb ge cap : Nat} {l : List EntD} {asked found : Int} {F : Phi} (h : MemoFull o w mb ge cap l asked found F) (hlt : OwnLt o w) (hb : Below w.heap.size w w') : MemoFull o w' mb ge cap l asked found F :=
 ⟨h.own, (hb.block mb (hlt _ _ h.own)).trans h.blk, h.len, h.row.below hlt hb, h.ok⟩
theorem place_memo {o : Own} {w : World} {mb ge cap : Nat} {l : List EntD} {asked found : Int} {F : Phi} (h : MemoFull o w mb ge cap l asked found F) (op : Int) (a b c : Nat) :
 Calls Tryz.prog 133 #[.pointer (some ⟨mb, 0, none⟩), .agg #[.int .i64 op, .int .i64 a, .int .i64 b, .int .i64 c]] w.drew fun x w' => ∃ i, i < 4096 ∧ x = .returned (.pointer (some ⟨ge, i * 6, none⟩)) ∧ Below w.drew.heap.size w.drew w' :=
 place_any mb ge cap op a b c w.drew (cells4 (w := w.drew) h.blk).2.1
theorem MemoFull.stored {o : Own} {w : World} {mb ge cap : Nat} {l : List EntD} {asked found : Int} {F : Phi} (h : MemoFull o w mb ge cap l asked found F) {k : Nat} (hk : k < 4096) {E : EntD} (hE : F E.op E.a E.b E.c E.r) : MemoFull o (set6 w ge k E) mb ge cap (l.set k E) asked found F := by
 have hg := h.row.owner
 have hne : mb ≠ ge := fun e => by subst e; have := h.own; rw [hg] at this; cases this
 refine ⟨h.own, (set6_heap hne).trans h.blk, by rw [List.length_set]; exact h.len, ?_, entOk_set h.ok k hE⟩
 have hr := h.row
 rw [show 4096 = l.length from h.len.symm] at hr
 have := rowR_set6 (m := l.length) hr (by rw [h.len]; exact hk) E
 rw [h.len] at this
 exact this
theorem eqNil (w : World) (a : Option Addr) (n c : Nat) : (binOp .eql 148 (.slice a n c) (.slice none 0 0)).run Tryz.prog w = .ok (.bool a.isNone) w := by
 have hd : Op.maxDepth = 9999 + 1 := rfl
 have h : (Op.equal 148 (.slice a n c) (.slice none 0 0)).run Tryz.prog w = .ok a.isNone w := by
  unfold Op.equal
  rw [hd]
  unfold Op.equalIn
  simp only [Sem.run_bind, run_underlying Tryz.underlying148, Result.andThen_ok]
  cases a <;> simp
 simp only [binOp]
 simp [h]
set_option maxRecDepth 100000 in
set_option maxHeartbeats 1600000 in
theorem put_memo (o : Own) (mb : Nat) (F : Phi) (op : Int) (a b c r : Nat) (w : World) (h : MemoAt o w mb F) (hlt : OwnLt o w) (hF : F op a b c r) :
 Calls Tryz.prog 95 #[.pointer (some ⟨mb, 0, none⟩), .int .i64 op, .int .i64 a, .int .i64 b, .int .i64 c, .int .i64 r] w fun x w' => x = .returned (.tuple #[]) ∧ ∃ o', MemoAt o' w' mb F ∧ Chg (fun r => r = .memo ∨ r = .entries) o o' w w' ∧ OwnLt o' w' := by
 obtain ⟨ve, asked, found, hmb, hv⟩ := h.ex
 obtain ⟨c0, c1, c2, c3, f0⟩ := cells4 hmb
 have lmb : mb < w.heap.size := lt_of_cell c0
 have HLT := Lib.hid hlt
 have HMB := Lib.hid hmb
 have HOWN := Lib.hid h.own
 have HV := Lib.hid hv
 have HF := Lib.hid hF
 have HMK := Lib.hid run_makeEnt
 clear h hlt hmb hv hF
 rcases HV.out with rfl | ⟨ge, cap, l, rfl, hl, hrow, hok⟩
 ·
  have hmm := run_makeEnt w
  have hnil : (binOp .eql 148 (.slice none 0 0) (.slice none 0 0)).run Tryz.prog w = .ok (.bool true) w := eqNil w none 0 0
  have HM := Lib.hid (memoFull_made (F := F) HOWN.out HLT.out HMB.out)
  go_enter Tryz.func95, Tryz.ntmps95
  go_upto_region 3 with fail
  obtain ⟨W1, hW1⟩ : ∃ W1, W1 = (w.setCell ⟨mb, 1, none⟩ (.slice (some ⟨w.heap.size, 0, none⟩) 4096 4096)).alloc (.cells (madeCells #[.int .i64 0, .int .i64 0, .int .i64 0, .int .i64 0, .int .i64 0, .bool false] 24576) 175) := ⟨_, rfl⟩
  rw [← hW1]
  obtain ⟨o1, hm1, hc1, hl1⟩ := HM.out W1 hW1
  have HM1 := Lib.hid hm1
  have HC1 := Lib.hid hc1
  have HL1 := Lib.hid hl1
  clear hm1 hc1 hl1 hW1 HM hmm hnil c0 c1 c2 c3 f0 lmb HV HMB HOWN HMK
  obtain ⟨d0, d1, d2, d3, g0⟩ := cells4 HM1.out.blk
  have lmb1 : mb < W1.heap.size := lt_of_cell d0
  go_upto_region 4 with fail
  obtain ⟨bx, hbx⟩ : ∃ bx, bx = W1.heap.size := ⟨_, rfl⟩
  obtain ⟨W2, hW2⟩ : ∃ W2, W2 = W1.alloc (.cells #[.int .i64 op, .int .i64 a, .int .i64 b, .int .i64 c] 171) := ⟨_, rfl⟩
  have hb2 : Below W1.heap.size W1 W2 := by rw [hW2]; exact below_new1 _ _
  have hkb : W2.heap[bx]? = some (.cells #[.int .i64 op, .int .i64 a, .int .i64 b, .int .i64 c] 171 (0, 0)) := by rw [hW2, hbx]; exact heap_alloc_new W1 _
  rw [← hW2, ← hbx]
  have hm2 := HM1.out.below HL1.out hb2
  have hc2 := HC1.out.trans (Chg.of_below hb2 (fun r => r = .memo ∨ r = .entries) _)
  have hl2 := HL1.out.mono hb2.size
  have HM2 := Lib.hid hm2
  have HC2 := Lib.hid hc2
  have HL2 := Lib.hid hl2
  have HKB := Lib.hid hkb
  clear hm2 hc2 hl2 hb2 hW2 hbx HM1 HC1 HL1 d0 d1 d2 d3 g0 lmb1
  obtain ⟨k0, k1, k2, k3, fk⟩ := cells4 hkb
  clear hkb
  refine wp_region_mix (fun W : World => W.cell? ⟨bx, 0, none⟩ = some (.int .i64 op) ∧ W.cell? ⟨bx, 1, none⟩ = some (.int .i64 a) ∧ W.cell? ⟨bx, 2, none⟩ = some (.int .i64 b) ∧ W.cell? ⟨bx, 3, none⟩ = some (.int .i64 c)) true 7
   [(0, false), (1, false), (3, false), (4, false), (5, false), (2, true), (6, false), (7, true)] (by kernel_rfl) (by kernel_rfl) ⟨k0, k1, k2, k3⟩ ?_
  simp only [planned, plnLz]
  iterate 5
   refine mix_readE rfl ?_
   apply Exists.intro
   refine ⟨fun w' hw => ?_, ?_⟩
   ·
    obtain ⟨q0, q1, q2, q3⟩ := hw
    go_simp
    rfl
   simp only [putLz]
  refine mix_callR (R := fun v w' => ∃ i, i < 4096 ∧ v = .pointer (some ⟨w.heap.size, i * 6, none⟩) ∧ Below W2.drew.heap.size W2.drew w') rfl (by go_simp) ((place_memo HM2.out op a b c).mono (fun e w' he => ?_)) ?_
  ·
   obtain ⟨i, hi, rfl, hb⟩ := he
   obtain ⟨j0, j1, j2, j3, _⟩ := cells4 ((hb.block bx (Array.getElem?_eq_some_iff.1 HKB.out).1).trans HKB.out)
   exact ⟨_, rfl, ⟨j0, j1, j2, j3⟩, i, hi, rfl, hb⟩
  rintro v w3 - ⟨i, hi, rfl, hb3⟩
  simp only [putLz]
  have hb3 : Below W2.heap.size W2 w3 := (below_draw W2 1).trans hb3
  have hm3 := HM2.out.below HL2.out hb3
  have hc3 := HC2.out.trans (Chg.of_below hb3 (fun r => r = .memo ∨ r = .entries) _)
  have hl3 := HL2.out.mono hb3.size
  obtain ⟨n0, n1, n2, n3, n4, n5⟩ := entCells hm3.row hm3.len hi
  iterate 1
   refine mix_readE rfl ?_
   apply Exists.intro
   refine ⟨fun w' hw => ?_, ?_⟩
   ·
    obtain ⟨q0, q1, q2, q3⟩ := hw
    go_simp
    rfl
   simp only [putLz]
  refine mix_storeLast rfl rfl (run_storeEntry (fun j => by have := hm3.row.frozen j; exact this) n0 n1 n2 n3 n4 n5 ⟨op, a, b, c, r, true⟩) ?_
  simp only [putLz]
  have hmf := (hm3.stored hi (E := ⟨op, a, b, c, r, true⟩) HF.out).is
  have hcf := set6_chg (k := i) (E := ⟨op, a, b, c, r, true⟩) hc3 hm3.row.owner (.inr rfl)
  have hlf : OwnLt o1 (set6 w3 w.heap.size i ⟨op, a, b, c, r, true⟩) := hl3.mono (by simp [set6, World.setCell])
  obtain ⟨WF, hWF⟩ : ∃ WF, WF = set6 w3 w.heap.size i ⟨op, a, b, c, r, true⟩ := ⟨_, rfl⟩
  rw [← hWF] at hmf hcf hlf ⊢
  clear n0 n1 n2 n3 n4 n5 hm3 hc3 hl3 hb3 k0 k1 k2 k3 fk hWF
  go_wp2_with fail
  refine bodyPost_end (results_none rfl _ _ _) rfl ?_
  exact ⟨rfl, o1, hmf, hcf, hlf⟩
 ·
  have HM1 : Hid (MemoFull o w mb ge cap l asked found F) := (Lib.hid ⟨HOWN.out, HMB.out, hl, hrow, hok⟩)
  have hnil : (binOp .eql 148 (.slice (some ⟨ge, 0, none⟩) 4096 cap) (.slice none 0 0)).run Tryz.prog w = .ok (.bool false) w := eqNil w _ _ _
  clear hl hrow hok
  go_enter Tryz.func95, Tryz.ntmps95
  go_upto_region 3 with fail
  obtain ⟨W1, hW1⟩ : ∃ W1, W1 = w := ⟨_, rfl⟩
  have HC1 : Hid (Chg (fun r => r = .memo ∨ r = .entries) o o w W1) := Lib.hid (hW1 ▸ Chg.refl _ _ _)
  have HL1 : Hid (OwnLt o W1) := Lib.hid (hW1 ▸ HLT.out)
  rw [← hW1] at HM1
  rw [← hW1]
  obtain ⟨o1, ho1⟩ : ∃ o1, o1 = o := ⟨_, rfl⟩
  rw [← ho1] at HM1 HL1
  have HC1 : Hid (Chg (fun r => r = .memo ∨ r = .entries) o o1 w W1) := by rw [ho1]; exact HC1
  clear hW1 ho1 hnil c0 c1 c2 c3 f0 lmb HV HMB HOWN HMK
  obtain ⟨d0, d1, d2, d3, g0⟩ := cells4 HM1.out.blk
  have lmb1 : mb < W1.heap.size := lt_of_cell d0
  go_upto_region 4 with fail
  obtain ⟨bx, hbx⟩ : ∃ bx, bx = W1.heap.size := ⟨_, rfl⟩
  obtain ⟨W2, hW2⟩ : ∃ W2, W2 = W1.alloc (.cells #[.int .i64 op, .int .i64 a, .int .i64 b, .int .i64 c] 171) := ⟨_, rfl⟩
  have hb2 : Below W1.heap.size W1 W2 := by rw [hW2]; exact below_new1 _ _
  have hkb : W2.heap[bx]? = some (.cells #[.int .i64 op, .int .i64 a, .int .i64 b, .int .i64 c] 171 (0, 0)) := by rw [hW2, hbx]; exact heap_alloc_new W1 _
  rw [← hW2, ← hbx]
  have hm2 := HM1.out.below HL1.out hb2
  have hc2 := HC1.out.trans (Chg.of_below hb2 (fun r => r = .memo ∨ r = .entries) _)
  have hl2 := HL1.out.mono hb2.size
  have HM2 := Lib.hid hm2
  have HC2 := Lib.hid hc2
  have HL2 := Lib.hid hl2
  have HKB := Lib.hid hkb
  clear hm2 hc2 hl2 hb2 hW2 hbx HM1 HC1 HL1 d0 d1 d2 d3 g0 lmb1
  obtain ⟨k0, k1, k2, k3, fk⟩ := cells4 hkb
  clear hkb
  refine wp_region_mix (fun W : World => W.cell? ⟨bx, 0, none⟩ = some (.int .i64 op) ∧ W.cell? ⟨bx, 1, none⟩ = some (.int .i64 a) ∧ W.cell? ⟨bx, 2, none⟩ = some (.int .i64 b) ∧ W.cell? ⟨bx, 3, none⟩ = some (.int .i64 c)) true 7
   [(0, false), (1, false), (3, false), (4, false), (5, false), (2, true), (6, false), (7, true)] (by kernel_rfl) (by kernel_rfl) ⟨k0, k1, k2, k3⟩ ?_
  simp only [planned, plnLz]
  iterate 5
   refine mix_readE rfl ?_
   apply Exists.intro
   refine ⟨fun w' hw => ?_, ?_⟩
   ·
    obtain ⟨q0, q1, q2, q3⟩ := hw
    go_simp
    rfl
   simp only [putLz]
  refine mix_callR (R := fun v w' => ∃ i, i < 4096 ∧ v = .pointer (some ⟨ge, i * 6, none⟩) ∧ Below W2.drew.heap.size W2.drew w') rfl (by go_simp) ((place_memo HM2.out op a b c).mono (fun e w' he => ?_)) ?_
  ·
   obtain ⟨i, hi, rfl, hb⟩ := he
   obtain ⟨j0, j1, j2, j3, _⟩ := cells4 ((hb.block bx (Array.getElem?_eq_some_iff.1 HKB.out).1).trans HKB.out)
   exact ⟨_, rfl, ⟨j0, j1, j2, j3⟩, i, hi, rfl, hb⟩
  rintro v w3 - ⟨i, hi, rfl, hb3⟩
  simp only [putLz]
  have hb3 : Below W2.heap.size W2 w3 := (below_draw W2 1).trans hb3
  have hm3 := HM2.out.below HL2.out hb3
  have hc3 := HC2.out.trans (Chg.of_below hb3 (fun r => r = .memo ∨ r = .entries) _)
  have hl3 := HL2.out.mono hb3.size
  obtain ⟨n0, n1, n2, n3, n4, n5⟩ := entCells hm3.row hm3.len hi
  iterate 1
   refine mix_readE rfl ?_
   apply Exists.intro
   refine ⟨fun w' hw => ?_, ?_⟩
   ·
    obtain ⟨q0, q1, q2, q3⟩ := hw
    go_simp
    rfl
   simp only [putLz]
  refine mix_storeLast rfl rfl (run_storeEntry (fun j => by have := hm3.row.frozen j; exact this) n0 n1 n2 n3 n4 n5 ⟨op, a, b, c, r, true⟩) ?_
  simp only [putLz]
  have hmf := (hm3.stored hi (E := ⟨op, a, b, c, r, true⟩) HF.out).is
  have hcf := set6_chg (k := i) (E := ⟨op, a, b, c, r, true⟩) hc3 hm3.row.owner (.inr rfl)
  have hlf : OwnLt o1 (set6 w3 ge i ⟨op, a, b, c, r, true⟩) := hl3.mono (by simp [set6, World.setCell])
  obtain ⟨WF, hWF⟩ : ∃ WF, WF = set6 w3 ge i ⟨op, a, b, c, r, true⟩ := ⟨_, rfl⟩
  rw [← hWF] at hmf hcf hlf ⊢
  clear n0 n1 n2 n3 n4 n5 hm3 hc3 hl3 hb3 k0 k1 k2 k3 fk hWF
  go_wp2_with fail
  refine bodyPost_end (results_none rfl _ _ _) rfl ?_
  exact ⟨rfl, o1, hmf, hcf, hlf⟩
open Go.RowKit
theorem RowR.setCells {o : Own} {r : Role} {e : TypeId} {size n g m cap : Nat} (ys : List Value) : ∀ (w : World) (k : Nat) (xs : List Value), RowR o w r e size (.slice (some ⟨g, 0, none⟩) m cap) n xs → k + ys.length ≤ xs.length →
 RowR o (w.setCells g k ys) r e size (.slice (some ⟨g, 0, none⟩) m cap) n (xs.take k ++ ys ++ xs.drop (k + ys.length)) := by
 induction ys with
 | nil => intro w k xs h _; simpa [World.setCells] using h
 | cons y ys ih =>
   intro w k xs h hl
   simp only [List.length_cons] at hl
   have h1 := ih (w.setCell ⟨g, k, none⟩ y) (k + 1) (xs.set k y) (h.stored k y) (by simp; omega)
   have e : (xs.set k y).take (k + 1) ++ ys ++ (xs.set k y).drop (k + 1 + ys.length) = xs.take k ++ (y :: ys) ++ xs.drop (k + (y :: ys).length) := by
    have e1 : (xs.set k y).take (k + 1) = xs.take k ++ [y] := by
     rw [List.set_eq_take_append_cons_drop, if_pos (by omega), List.take_append]
     simp
     have : min k xs.length = k := by omega
     rw [this]; simp
     exact List.take_of_length_le (by simp; omega)
    have e2 : (xs.set k y).drop (k + 1 + ys.length) = xs.drop (k + 1 + ys.length) := by
     rw [List.drop_set]; rw [if_pos (by omega)]
    rw [e1, e2]; simp [Nat.add_assoc, Nat.add_comm 1 ys.length]
   rw [e] at h1
   exact h1
theorem Chg.setCells {R : Role → Prop} {o o' : Own} {w0 : World} {g : Nat} {r : Role} (hg : o' g = some r) (hR : R r) (ys : List Value) : ∀ (w : World) (k : Nat), Chg R o o' w0 w → Chg R o o' w0 (w.setCells g k ys) := by
 induction ys with
 | nil => intro w k h; exact h
 | cons y ys ih => intro w k h; exact ih _ _ (h.setCell (p := ⟨g, k, none⟩) hg hR y)
theorem heap_setCells_ne {g b : Nat} (hb : b ≠ g) (ys : List Value) : ∀ (w : World) (k : Nat), (w.setCells g k ys).heap[b]? = w.heap[b]? := by
 induction ys with
 | nil => intro w k; rfl
 | cons y ys ih => intro w k; rw [World.setCells, ih]; exact heap_setCell_ne (p := ⟨g, k, none⟩) hb y
theorem zeroEnt (w : World) : (zeroValue 175).run Tryz.prog w = .ok (.agg #[.int .i64 0, .int .i64 0, .int .i64 0, .int .i64 0, .int .i64 0, .bool false]) w := by
 have s := infoEntry
 cases hi : Tryz.prog.info? 175 with
 | none => rw [hi] at s; cases s
 | some i =>
   rw [hi] at s
   simp only [Option.map_some, Option.some.injEq, Prod.mk.injEq] at s
   obtain ⟨hz, hs, hb⟩ := s
   simp [zeroValue, typeInfo, hi, hz]
theorem zeroEnts (n : Nat) : (Builtin.zeroCells (Value.cells (.agg #[.int .i64 0, .int .i64 0, .int .i64 0, .int .i64 0, .int .i64 0, .bool false])) n).toList = (List.replicate n ent0).flatMap entV := made_entries n
theorem run_clearEnts (w : World) (ty : TypeId) (ge cap n : Nat) (hc : ∀ j, j < (n + 1) * 6 → (w.cell? ⟨ge, j, none⟩).isSome = true) (hf : ∀ j, w.frozen? ⟨ge, j, none⟩ = false) :
 (Builtin.clear_ #[148] ty #[.slice (some ⟨ge, 0, none⟩) (n + 1) cap]).run Tryz.prog w = .ok (.tuple #[]) (w.setCells ge 0 ((List.replicate (n + 1) ent0).flatMap entV)) := by
 have hlen : ((List.replicate (n + 1) ent0).flatMap entV).length = (n + 1) * 6 := by rw [flat_length entV 6 entV_length, List.length_replicate]
 have hst := run_storeCells_cells (P := Tryz.prog) ge 0 ((List.replicate (n + 1) ent0).flatMap entV) 0 w (fun j hj => by rw [hlen] at hj; simpa using hc j hj) (fun j _ => hf _) (fun v hv => by
  rw [List.mem_flatMap] at hv
  obtain ⟨E, _, hv⟩ := hv
  simp only [entV, List.mem_cons, List.not_mem_nil, or_false] at hv
  rcases hv with rfl | rfl | rfl | rfl | rfl | rfl <;> rfl)
 unfold Builtin.clear_
 simp only [List.getElem?_toArray, List.getElem?_cons_zero, Sem.run_bind, run_underlying Tryz.underlying148, Result.andThen_ok, zeroEnt, zeroEnts, hst]
 rfl
theorem run_clearEnt (w : World) (ty : TypeId) (ge cap : Nat) (hc : ∀ j, j < 4096 * 6 → (w.cell? ⟨ge, j, none⟩).isSome = true) (hf : ∀ j, w.frozen? ⟨ge, j, none⟩ = false) :
 (Builtin.clear_ #[148] ty #[.slice (some ⟨ge, 0, none⟩) 4096 cap]).run Tryz.prog w = .ok (.tuple #[]) (w.setCells ge 0 ((List.replicate 4096 ent0).flatMap entV)) := run_clearEnts w ty ge cap 4095 hc hf
theorem run_clearNone (w : World) (ty : TypeId) : (Builtin.clear_ #[148] ty #[.slice none 0 0]).run Tryz.prog w = .ok (.tuple #[]) w := by
 unfold Builtin.clear_
 simp only [List.getElem?_toArray, List.getElem?_cons_zero, Sem.run_bind, run_underlying Tryz.underlying148, Result.andThen_ok]
 rfl
set_option maxRecDepth 100000 in
theorem clear_memo (o : Own) (mb : Nat) (F G : Phi) (w : World) (h : MemoAt o w mb F) (hlt : OwnLt o w) :
 Calls Tryz.prog 99 #[.pointer (some ⟨mb, 0, none⟩)] w fun x w' => x = .returned (.tuple #[]) ∧ MemoAt o w' mb G ∧ Chg (· = .entries) o o w w' ∧ OwnLt o w' := by
 obtain ⟨ve, asked, found, hmb, hv⟩ := h.ex
 have hown := h.own
 obtain ⟨c0, c1, c2, c3, f0⟩ := cells4 hmb
 rcases hv with rfl | ⟨ge, cap, l, rfl, hl, hrow, hok⟩
 ·
  have hr := run_clearNone w 0
  have HF := Lib.hid (show MemoAt o w mb G from ⟨h.own, _, _, _, hmb, .inl rfl⟩)
  have HL := Lib.hid hlt
  clear h hlt hmb hown
  go_enter Tryz.func99, Tryz.ntmps99
  go_wp2_with fail
  refine bodyPost_end (results_none rfl _ _ _) rfl ?_
  exact ⟨rfl, HF.out, Chg.refl _ _ _, HL.out⟩
 ·
  have hg := hrow.owner
  have hne : mb ≠ ge := fun e => by subst e; rw [hg] at hown; cases hown
  have hxl : (l.flatMap entV).length = 4096 * 6 := by rw [flat_length entV 6 entV_length, hl]
  have hr := run_clearEnt w 0 ge cap (fun j hj => by rw [hrow.cell j (by rw [hxl]; exact hj), List.getElem?_eq_getElem (by rw [hxl]; exact hj)]; rfl) hrow.frozen
  obtain ⟨W, hW⟩ : ∃ W, W = w.setCells ge 0 ((List.replicate 4096 ent0).flatMap entV) := ⟨_, rfl⟩
  rw [← hW] at hr
  have hrl : ((List.replicate 4096 ent0).flatMap entV).length = 4096 * 6 := by rw [flat_length entV 6 entV_length, List.length_replicate]
  have hrow2 : RowR o W .entries 175 6 (.slice (some ⟨ge, 0, none⟩) 4096 cap) 4096 ((List.replicate 4096 ent0).flatMap entV) := by
   have := RowR.setCells ((List.replicate 4096 ent0).flatMap entV) w 0 _ hrow (by rw [hrl, hxl]; omega)
   rw [List.take_zero, List.nil_append, Nat.zero_add, List.drop_of_length_le (by rw [hrl, hxl]; exact Nat.le_refl _), List.append_nil, ← hW] at this
   exact this
  have hcW : Chg (· = .entries) o o w W := by rw [hW]; exact Chg.setCells (R := (· = .entries)) hg rfl _ _ _ (Chg.refl _ _ _)
  have HF := Lib.hid (show MemoAt o W mb G from ⟨hown, _, _, _, (by rw [hW]; exact (heap_setCells_ne hne _ _ _).trans hmb), .inr ⟨ge, cap, _, rfl, List.length_replicate, hrow2, entOk_zero G _⟩⟩)
  have HL := Lib.hid (hlt.mono hcW.size)
  have HC := Lib.hid hcW
  clear h hlt hmb hown hl hrow hok hg hxl hrl hrow2 hcW hW hne
  go_enter Tryz.func99, Tryz.ntmps99
  go_wp2_with fail
  refine bodyPost_end (results_none rfl _ _ _) rfl ?_
  exact ⟨rfl, HF.out, HC.out, HL.out⟩
open Go.RowKit
set_option maxRecDepth 100000 in
theorem new_memo (o : Own) (F : Phi) (w : World) (hlt : OwnLt o w) :
 Calls Tryz.prog 76 #[.int .i64 4096] w fun x w' => ∃ mb o', x = .returned (.pointer (some ⟨mb, 0, none⟩)) ∧ MemoAt o' w' mb F ∧ Chg (· = .memo) o o' w w' ∧ OwnLt o' w' ∧ w.heap.size ≤ mb := by
 have HL := Lib.hid hlt
 clear hlt
 go_enter Tryz.func76, Tryz.ntmps76
 go_wp2_with fail
 go_ret
 exact ⟨w.heap.size, ownAt o w.heap.size .memo, rfl, ⟨ownAt_same _ _ _, _, _, _, heap_alloc_new w _, .inl rfl⟩, (Chg.refl _ o w).allocR HL.out _ rfl, HL.out.allocR _ _, Nat.le_refl _⟩
theorem makeMap_run {P : Program} (w : World) (T : TypeId) : (Instr.makeMap T none).run P w = .ok (.map (some w.heap.size)) (w.alloc (.map #[] 0)) := rfl
set_option maxRecDepth 100000 in
theorem new_uniq (o : Own) (v : Nat) (w : World) (hlt : OwnLt o w) :
 Calls Tryz.prog 115 #[] w fun x w' => ∃ t o', x = .returned (.pointer (some ⟨t, 0, none⟩)) ∧ TabIs o' w' v t (fun _ => none) ∧ Chg (fun r => r = .tab v ∨ r = .tmap v) o o' w w' ∧ OwnLt o' w' ∧ w.heap.size ≤ t := by
 have HL := Lib.hid hlt
 have hm := makeMap_run (P := Tryz.prog) w 191
 clear hlt
 go_enter Tryz.func115, Tryz.ntmps115
 go_wp2_with fail
 go_ret
 have hl1 := HL.out.allocR (.map #[] 0) (.tmap v)
 have hc1 := ((Chg.refl (fun r => r = .tab v ∨ r = .tmap v) o w).allocR (r := .tmap v) HL.out (.map #[] 0) (.inr rfl))
 have hl2 := hl1.allocR (.cells #[.map (some w.heap.size)] 193) (.tab v)
 have hc2 := hc1.allocR (r := .tab v) hl1 (.cells #[.map (some w.heap.size)] 193) (.inl rfl)
 have hz : (w.alloc (.map #[] 0)).heap.size = w.heap.size + 1 := by simp
 have hlt1 : w.heap.size < (w.alloc (.map #[] 0)).heap.size := by rw [hz]; omega
 refine ⟨w.heap.size + 1, _, rfl, ⟨by rw [← hz]; exact ownAt_same _ _ _, w.heap.size, [], by rw [← hz]; exact heap_alloc_new _ _, ownAt_old hl1 (Nat.le_refl _) (ownAt_same _ _ _), ⟨⟨#[], 0, (Go.heap_alloc_old _ _ hlt1).trans (heap_alloc_new w _), rfl, by simp, by simp⟩, by simp⟩, fun k => rfl⟩, hc2, hl2, by omega⟩
open Go.RowKit
section
variable {P : Program} {S : World → Prop} {Q : Exit → Act → World → Prop} {m : Nat}
structure Left (P : Program) (l : List Oper) (Q : Exit → Act → World → Prop) (S : World → Prop) (m f : Nat) (L : Array Bool) (a : Act) (w : World) : Prop where
 goes : Closed l.toArray L → S w → wpAnyS P l.toArray (NP Q) S m f L a w
theorem wp_region_left {id : Nat} {a : Act} {w : World} {l : List Oper} (S : World → Prop) (m : Nat) (hm : P.follows .mixedOrders = true) (hS : S w.drew)
 (h : Left P l Q S m l.length (Array.replicate l.toArray.size false) a w.drew) : (Code.region id l.toArray true).wp P Q a w :=
 wp_of_np (wp_region_any hm (wpAny_of_S _ _ _ _ (h.goes (closed_start _) hS)))
theorem left_read {l : List Oper} {f : Nat} {L : Array Bool} {a : Act} {w : World} (i : Nat) (o : Oper) (v : Value) (hi : l[i]? = some o)
 (hB : (Region.noSelect l.toArray && (Region.ready .any l.toArray L).contains i && Region.free .any l.toArray L i && (decide (l.toArray.size ≤ m) || reaches l.toArray l.toArray.size i m)) = true)
 (hy : ∀ w, S w → YieldsIf P l.toArray S o v a) (h : Left P l Q S m f (L.setIfInBounds i true) (a.put o.dst v) w) : Left P l Q S m (f + 1) L a w := by
 refine ⟨fun hc hS => ?_⟩
 simp only [Bool.and_eq_true] at hB
 obtain ⟨⟨⟨hs, hr⟩, hf⟩, hm⟩ := hB
 have hi' : l.toArray[i]? = some o := by simpa using hi
 have hr' : i ∈ Region.ready .any l.toArray L := by simpa using hr
 exact wpAnyS_first hi' hs (fun _ _ _ _ _ h => h) hm f L a w hc (Region.free_spec hi' hf) hr' (hy w hS) hS (h.goes (hc.set hr') hS)
theorem left_readE {l : List Oper} {f : Nat} {L : Array Bool} {a : Act} {w : World} (i : Nat) {o : Oper} (hi : l[i]? = some o) (hg : o.guard = none)
 (hB : (Region.noSelect l.toArray && (Region.ready .any l.toArray L).contains i && Region.free .any l.toArray L i && (decide (l.toArray.size ≤ m) || reaches l.toArray l.toArray.size i m)) = true)
 (h : ∃ v, (∀ w, S w → (execOp a.eval o).run P w = .ok (.value v) w) ∧ Left P l Q S m f (L.setIfInBounds i true) (a.put o.dst v) w) : Left P l Q S m (f + 1) L a w := by
 obtain ⟨v, h1, h2⟩ := h
 exact left_read i o v hi hB (fun w _ => .inl ⟨by simp [Region.wanted, hg], h1⟩) h2
theorem left_alts {l : List Oper} {f : Nat} {L : Array Bool} {a : Act} {w : World} (is : List Nat) (hr : (decide (Region.ready .any l.toArray L = is) && !is.isEmpty) = true)
 (h : ∀ i ∈ is, S w → ∀ o, l[i]? = some o → Region.wanted o (yielded l.toArray a.tmps) = true ∧ o.wp P a w (fun a' w' => S w' ∧ Left P l Q S m f (L.setIfInBounds i true) a' w') (NP Q)) : Left P l Q S m (f + 1) L a w := by
 refine ⟨fun hc hS => ?_⟩
 simp only [Bool.and_eq_true, decide_eq_true_eq] at hr
 obtain ⟨hr, hne⟩ := hr
 refine ⟨fun h0 => (by rw [h0] at hr; subst hr; simp at hne), fun i hi => ?_⟩
 have hi2 : i ∈ is := by rw [← hr]; exact hi
 obtain ⟨_, o, ho, _⟩ := mem_ready.1 hi
 obtain ⟨hw, hwp⟩ := h i hi2 hS o (by simpa using ho)
 unfold wpOp
 rw [ho]
 simp only [hw, if_true]
 left
 refine Oper.wp_mono ?_ hwp
 intro a' w' ⟨h1, h2⟩
 exact ⟨.inr h1, h2.goes (hc.set hi) h1⟩
theorem left_end {l : List Oper} {L : Array Bool} {a : Act} {w : World} (hr : (Region.ready .any l.toArray L).isEmpty = true) (h : Q .normal a w) : Left P l Q S m 0 L a w :=
 ⟨fun _ _ => ⟨by simpa [List.isEmpty_iff] using hr, h⟩⟩
theorem oper_value {o : Oper} {a : Act} {w w' : World} {v : Value} {K : Act → World → Prop} {Q : Exit → Act → World → Prop} (he : (execOp a.eval o).run P w = .ok (.value v) w') (h : K (a.put o.dst v) w') : o.wp P a w K Q := by
 unfold Oper.wp
 rw [he]; exact h
end
open Go.RowKit
def pool0 (room : Nat) : PoolD := ⟨room, [rn0], [false], [], 0⟩
abbrev slotsObj : Obj := .cells #[.int .i64 0, .int .i64 0, .int .i64 0, .int .i64 0, .int .i64 0] 157
abbrev takenObj : Obj := .cells #[.bool false] 4
theorem pool0_at {o : Own} {w : World} {pb gs gt room : Nat} (hr : room ≤ 1048576) (hop : o pb = some .pool) (hos : o gs = some .slots) (hot : o gt = some .taken)
 (hpb : w.heap[pb]? = some (.cells #[.int .i64 room, .slice (some ⟨gs, 0, none⟩) 1 1, .slice (some ⟨gt, 0, none⟩) 1 1, .slice none 0 0, .int .i64 0] 190 (0, 0)))
 (hs : w.heap[gs]? = some slotsObj) (ht : w.heap[gt]? = some takenObj) : PoolAt o w pb (pool0 room) := by
 refine ⟨hop, ⟨_, _, _, hpb, ⟨rfl, .inr ⟨gs, 1, _, rfl, hos, hs, Nat.le_refl _, by decide, by decide, rfl⟩⟩, ⟨rfl, .inr ⟨gt, 1, _, rfl, hot, ht, Nat.le_refl _, by decide, by decide, rfl⟩⟩, RowR.nil _ _ _ _ _⟩, rfl, hr, by simp [pool0], rfl, by simp [pool0], ?_, rfl, by simp [pool0], by simp [pool0], ?_⟩
 ·
  intro i hi
  have : (pool0 room).tk i = false := by
   cases i <;> rfl
  rw [this] at hi; cases hi
 ·
  simp [pool0, sumTo, PoolD.tk]
theorem made_slots : madeCells (Value.cells (.agg #[.int .i64 0, .int .i64 0, .int .i64 0, .int .i64 0, .int .i64 0])) (Int.toNat 1 * 5) = #[.int .i64 0, .int .i64 0, .int .i64 0, .int .i64 0, .int .i64 0] := by kernel_rfl
theorem made_taken : madeCells (Value.cells (.bool false)) (Int.toNat 1 * 1) = #[.bool false] := by kernel_rfl
theorem run_makeSlots (w : World) : (Instr.makeSlice 186 (.int .i64 1) (.int .i64 1)).run Tryz.prog w = .ok (.slice (some ⟨w.heap.size, 0, none⟩) 1 1) (w.alloc slotsObj) := by
 have s := infoNode
 cases hi : Tryz.prog.info? 157 with
 | none => rw [hi] at s; cases s
 | some i =>
   rw [hi] at s
   simp only [Option.map_some, Option.some.injEq, Prod.mk.injEq] at s
   obtain ⟨hz, hs, hb⟩ := s
   have := run_make (P := Tryz.prog) w 186 157 i _ Tryz.underlying186 hi hz .i64 .i64 1 1 (by decide) (by decide) (by rw [hb]; decide) (by decide)
   rw [hs, made_slots] at this
   exact this
theorem run_makeTaken (w : World) : (Instr.makeSlice 36 (.int .i64 1) (.int .i64 1)).run Tryz.prog w = .ok (.slice (some ⟨w.heap.size, 0, none⟩) 1 1) (w.alloc takenObj) := by
 have s := infoBool
 cases hi : Tryz.prog.info? 4 with
 | none => rw [hi] at s; cases s
 | some i =>
   rw [hi] at s
   simp only [Option.map_some, Option.some.injEq, Prod.mk.injEq] at s
   obtain ⟨hz, hs, hb⟩ := s
   have := run_make (P := Tryz.prog) w 36 4 i _ Tryz.underlying36 hi hz .i64 .i64 1 1 (by decide) (by decide) (by rw [hb]; decide) (by decide)
   rw [hs, made_taken] at this
   exact this
abbrev NewR (r : Role) : Prop := r = .pool ∨ r = .slots ∨ r = .taken
theorem made2 {o : Own} {w : World} (hlt : OwnLt o w) (A B C : Obj) (ra rb : Role) (h1 : NewR ra) (h2 : NewR rb) :
 ∃ o', o' w.heap.size = some ra ∧ o' (w.heap.size + 1) = some rb ∧ o' (w.heap.size + 2) = some .pool ∧ Chg NewR o o' w (((w.alloc A).alloc B).alloc C) ∧ OwnLt o' (((w.alloc A).alloc B).alloc C) ∧
  (((w.alloc A).alloc B).alloc C).heap[w.heap.size]? = some A ∧ (((w.alloc A).alloc B).alloc C).heap[w.heap.size + 1]? = some B ∧ (((w.alloc A).alloc B).alloc C).heap[w.heap.size + 2]? = some C := by
 have z1 : (w.alloc A).heap.size = w.heap.size + 1 := by simp
 have z2 : ((w.alloc A).alloc B).heap.size = w.heap.size + 2 := by simp
 have l1 := hlt.allocR A ra
 have c1 := (Chg.refl NewR o w).allocR hlt A h1
 have l2 := l1.allocR B rb
 have c2 := c1.allocR l1 B h2
 have l3 := l2.allocR C .pool
 have c3 := c2.allocR l2 C (show NewR .pool from .inl rfl)
 refine ⟨_, ?_, ?_, ?_, c3, l3, ?_, ?_, ?_⟩
 ·
  exact ownAt_old l2 (Nat.le_refl _) (ownAt_old l1 (Nat.le_refl _) (ownAt_same _ _ _))
 ·
  rw [← z1]; exact ownAt_old l2 (Nat.le_refl _) (ownAt_same _ _ _)
 ·
  rw [← z2]; exact ownAt_same _ _ _
 ·
  rw [Go.heap_alloc_old _ _ (by omega), Go.heap_alloc_old _ _ (by omega)]; exact heap_alloc_new w A
 ·
  rw [Go.heap_alloc_old _ _ (by omega), ← z1]; exact heap_alloc_new _ B
 ·
  rw [← z2]; exact heap_alloc_new _ C
set_option maxRecDepth 100000 in
theorem new_pool (o : Own) (room : Nat) (w : World) (hlt : OwnLt o w) (h1 : 1 ≤ room) (h2 : room ≤ 1048576) :
 Calls Tryz.prog 113 #[.int .i64 room] w fun x w' => ∃ pb o', x = .returned (.tuple #[.pointer (some ⟨pb, 0, none⟩), .int .i64 0]) ∧ PoolAt o' w' pb (pool0 room) ∧ Chg NewR o o' w w' ∧ OwnLt o' w' ∧ w.heap.size ≤ pb := by
 have HL := Lib.hid hlt
 have b1 : (1 : Int) ≤ room := by omega
 have b2 : (room : Int) ≤ 1048576 := by omega
 have HMS := Lib.hid run_makeSlots
 have HMT := Lib.hid run_makeTaken
 clear hlt
 go_enter Tryz.func113, Tryz.ntmps113
 go_upto_region 3 with fail
 refine wp_region_left (fun W => True) 7 (by kernel_rfl) trivial ?_
 refine left_readE 0 rfl rfl (by kernel_rfl) ?_
 apply Exists.intro
 refine ⟨fun w' hw => ?_, ?_⟩
 ·
  go_simp
  rfl
 simp only [putLz]
 refine left_alts [1, 2] (by kernel_rfl) (fun i hi hS o ho => ?_)
 simp only [memLz] at hi
 rcases hi with rfl | rfl
 ·
  simp only [altLz] at ho
  subst ho
  refine ⟨rfl, ?_⟩
  have hm := HMS.out w.drew
  rw [show w.drew.heap.size = w.heap.size from rfl] at hm
  refine oper_value (v := .slice (some ⟨w.heap.size, 0, none⟩) 1 1) (w' := w.drew.alloc slotsObj) (by go_simp) ⟨trivial, ?_⟩
  simp only [putLz]
  refine left_alts [2] (by kernel_rfl) (fun i hi hS o ho => ?_)
  simp only [memLz] at hi
  subst hi
  simp only [altLz] at ho
  subst ho
  refine ⟨rfl, ?_⟩
  have hm : (Instr.makeSlice 36 (.int .i64 1) (.int .i64 1)).run Tryz.prog (w.alloc slotsObj).drew = .ok (.slice (some ⟨w.heap.size + 1, 0, none⟩) 1 1) ((w.alloc slotsObj).alloc takenObj).drew := by
   have := HMT.out (w.alloc slotsObj).drew
   rw [show (w.alloc slotsObj).drew.heap.size = w.heap.size + 1 from World.size_alloc w _] at this
   exact this
  refine oper_value (v := .slice (some ⟨w.heap.size + 1, 0, none⟩) 1 1) (w' := ((w.alloc slotsObj).alloc takenObj).drew) (by go_simp) ⟨trivial, ?_⟩
  simp only [putLz]
  refine left_readE 3 rfl rfl (by kernel_rfl) ?_
  apply Exists.intro
  refine ⟨fun w' hw => ?_, ?_⟩
  ·
   go_simp
   rfl
  simp only [putLz]
  refine left_alts [4] (by kernel_rfl) (fun i hi hS o ho => ?_)
  simp only [memLz] at hi
  subst hi
  simp only [altLz] at ho
  subst ho
  refine ⟨rfl, ?_⟩
  have hz : ((w.alloc slotsObj).alloc takenObj).heap.size = w.heap.size + 2 := by simp
  refine oper_value (v := .pointer (some ⟨w.heap.size + 2, 0, none⟩)) (w' := (((w.alloc slotsObj).alloc takenObj).alloc (.cells #[.int .i64 room, .slice (some ⟨w.heap.size, 0, none⟩) 1 1, .slice (some ⟨(w.heap.size + 1), 0, none⟩) 1 1, .slice none 0 0, .int .i64 0] 190)).drew) (by go_simp) ⟨trivial, ?_⟩
  simp only [putLz]
  refine left_readE 5 rfl rfl (by kernel_rfl) ?_
  apply Exists.intro
  refine ⟨fun w' hw => ?_, ?_⟩
  ·
   go_simp
   rfl
  simp only [putLz]
  refine left_readE 6 rfl rfl (by kernel_rfl) ?_
  apply Exists.intro
  refine ⟨fun w' hw => ?_, ?_⟩
  ·
   go_simp
   rfl
  simp only [putLz]
  refine left_end (by kernel_rfl) ?_
  obtain ⟨o', q1, q2, q3, q4, q5, q6, q7, q8⟩ := made2 HL.out slotsObj takenObj (.cells #[.int .i64 room, .slice (some ⟨w.heap.size, 0, none⟩) 1 1, .slice (some ⟨(w.heap.size + 1), 0, none⟩) 1 1, .slice none 0 0, .int .i64 0] 190) .slots .taken (.inr (.inl rfl)) (.inr (.inr rfl))
  have hfin : PoolAt o' (((w.alloc slotsObj).alloc takenObj).alloc (.cells #[.int .i64 room, .slice (some ⟨w.heap.size, 0, none⟩) 1 1, .slice (some ⟨(w.heap.size + 1), 0, none⟩) 1 1, .slice none 0 0, .int .i64 0] 190)).drew (w.heap.size + 2) (pool0 room) := pool0_at h2 q3 q1 q2 q8 q6 q7
  have q4' := q4.drew
  have q5' : OwnLt o' (((w.alloc slotsObj).alloc takenObj).alloc (.cells #[.int .i64 room, .slice (some ⟨w.heap.size, 0, none⟩) 1 1, .slice (some ⟨(w.heap.size + 1), 0, none⟩) 1 1, .slice none 0 0, .int .i64 0] 190)).drew := q5
  clear q1 q2 q3 q4 q5 q6 q7 q8 hm hz
  go_wp2_with fail
  go_ret2
  exact ⟨w.heap.size + 2, o', rfl, hfin, q4', q5', by omega⟩
 ·
  simp only [altLz] at ho
  subst ho
  refine ⟨rfl, ?_⟩
  have hm := HMT.out w.drew
  rw [show w.drew.heap.size = w.heap.size from rfl] at hm
  refine oper_value (v := .slice (some ⟨w.heap.size, 0, none⟩) 1 1) (w' := w.drew.alloc takenObj) (by go_simp) ⟨trivial, ?_⟩
  simp only [putLz]
  refine left_alts [1] (by kernel_rfl) (fun i hi hS o ho => ?_)
  simp only [memLz] at hi
  subst hi
  simp only [altLz] at ho
  subst ho
  refine ⟨rfl, ?_⟩
  have hm : (Instr.makeSlice 186 (.int .i64 1) (.int .i64 1)).run Tryz.prog (w.alloc takenObj).drew = .ok (.slice (some ⟨w.heap.size + 1, 0, none⟩) 1 1) ((w.alloc takenObj).alloc slotsObj).drew := by
   have := HMS.out (w.alloc takenObj).drew
   rw [show (w.alloc takenObj).drew.heap.size = w.heap.size + 1 from World.size_alloc w _] at this
   exact this
  refine oper_value (v := .slice (some ⟨w.heap.size + 1, 0, none⟩) 1 1) (w' := ((w.alloc takenObj).alloc slotsObj).drew) (by go_simp) ⟨trivial, ?_⟩
  simp only [putLz]
  refine left_readE 3 rfl rfl (by kernel_rfl) ?_
  apply Exists.intro
  refine ⟨fun w' hw => ?_, ?_⟩
  ·
   go_simp
   rfl
  simp only [putLz]
  refine left_alts [4] (by kernel_rfl) (fun i hi hS o ho => ?_)
  simp only [memLz] at hi
  subst hi
  simp only [altLz] at ho
  subst ho
  refine ⟨rfl, ?_⟩
  have hz : ((w.alloc takenObj).alloc slotsObj).heap.size = w.heap.size + 2 := by simp
  refine oper_value (v := .pointer (some ⟨w.heap.size + 2, 0, none⟩)) (w' := (((w.alloc takenObj).alloc slotsObj).alloc (.cells #[.int .i64 room, .slice (some ⟨(w.heap.size + 1), 0, none⟩) 1 1, .slice (some ⟨w.heap.size, 0, none⟩) 1 1, .slice none 0 0, .int .i64 0] 190)).drew) (by go_simp) ⟨trivial, ?_⟩
  simp only [putLz]
  refine left_readE 5 rfl rfl (by kernel_rfl) ?_
  apply Exists.intro
  refine ⟨fun w' hw => ?_, ?_⟩
  ·
   go_simp
   rfl
  simp only [putLz]
  refine left_readE 6 rfl rfl (by kernel_rfl) ?_
  apply Exists.intro
  refine ⟨fun w' hw => ?_, ?_⟩
  ·
   go_simp
   rfl
  simp only [putLz]
  refine left_end (by kernel_rfl) ?_
  obtain ⟨o', q1, q2, q3, q4, q5, q6, q7, q8⟩ := made2 HL.out takenObj slotsObj (.cells #[.int .i64 room, .slice (some ⟨(w.heap.size + 1), 0, none⟩) 1 1, .slice (some ⟨w.heap.size, 0, none⟩) 1 1, .slice none 0 0, .int .i64 0] 190) .taken .slots (.inr (.inr rfl)) (.inr (.inl rfl))
  have hfin : PoolAt o' (((w.alloc takenObj).alloc slotsObj).alloc (.cells #[.int .i64 room, .slice (some ⟨(w.heap.size + 1), 0, none⟩) 1 1, .slice (some ⟨w.heap.size, 0, none⟩) 1 1, .slice none 0 0, .int .i64 0] 190)).drew (w.heap.size + 2) (pool0 room) := pool0_at h2 q3 q2 q1 q8 q7 q6
  have q4' := q4.drew
  have q5' : OwnLt o' (((w.alloc takenObj).alloc slotsObj).alloc (.cells #[.int .i64 room, .slice (some ⟨(w.heap.size + 1), 0, none⟩) 1 1, .slice (some ⟨w.heap.size, 0, none⟩) 1 1, .slice none 0 0, .int .i64 0] 190)).drew := q5
  clear q1 q2 q3 q4 q5 q6 q7 q8 hm hz
  go_wp2_with fail
  go_ret2
  exact ⟨w.heap.size + 2, o', rfl, hfin, q4', q5', by omega⟩
open Go.RowKit
structure StoreD where
 vars : List Nat
 level : List Nat
 pool : PoolD
 tab : Nat → Nat × Nat → Option Nat
 counts : List Nat
 dead : Nat
structure StoreW where
 lb : Nat
 pb : Nat
 vv : Value
 vl : Value
 vt : Value
 vc : Value
 ts : List Nat
def ptrV (b : Nat) : Value := .pointer (some ⟨b, 0, none⟩)
structure StoreIn (o : Own) (w : World) (sb : Nat) (d : StoreD) (s : StoreW) : Prop where
 own : o sb = some .store
 ownl : o s.lb = some .levels
 blk : w.heap[sb]? = some (.cells #[.pointer (some ⟨s.lb, 0, none⟩), .pointer (some ⟨s.pb, 0, none⟩), s.vt, s.vc, .int .i64 d.dead] 145 (0, 0))
 lev : w.heap[s.lb]? = some (.cells #[s.vv, s.vl] 142 (0, 0))
 vars : RowR o w .vars 3 1 s.vv d.vars.length (d.vars.map nat64)
 level : RowR o w .level 3 1 s.vl d.level.length (d.level.map nat64)
 pool : PoolAt o w s.pb d.pool
 tabs : RowR o w .tabs 146 1 s.vt s.ts.length (s.ts.map ptrV)
 tab : ∀ v, v < s.ts.length → TabIs o w v (s.ts.getD v 0) (d.tab v)
 counts : RowR o w .counts 3 1 s.vc d.counts.length (d.counts.map nat64)
 len : d.level.length = d.vars.length
 tlen : s.ts.length = d.vars.length
def StoreAt (o : Own) (w : World) (sb : Nat) (d : StoreD) : Prop := ∃ s, StoreIn o w sb d s
theorem StoreIn.below {o : Own} {w w' : World} {sb : Nat} {d : StoreD} {s : StoreW} (h : StoreIn o w sb d s) (hlt : OwnLt o w) (hb : Below w.heap.size w w') : StoreIn o w' sb d s :=
 ⟨h.own, h.ownl, (hb.block sb (hlt _ _ h.own)).trans h.blk, (hb.block s.lb (hlt _ _ h.ownl)).trans h.lev, h.vars.below hlt hb, h.level.below hlt hb, h.pool.below hb hlt, h.tabs.below hlt hb, fun v hv => (h.tab v hv).below hb hlt, h.counts.below hlt hb, h.len, h.tlen⟩
def StoreD.levelOf (d : StoreD) (v : Nat) : Int := if v < d.level.length then (d.level.getD v 0 : Nat) else -1
theorem cells2 {w : World} {g : Nat} {a b : Value} {T : TypeId} (h : w.heap[g]? = some (.cells #[a, b] T (0, 0))) : w.cell? ⟨g, 0, none⟩ = some a ∧ w.cell? ⟨g, 1, none⟩ = some b ∧ (∀ k, w.frozen? ⟨g, k, none⟩ = false) :=
 ⟨by rw [cell_of_row w g 0 _ _ _ h]; rfl, by rw [cell_of_row w g 1 _ _ _ h]; rfl, fun k => by simp [World.frozen?, h]⟩
set_option maxRecDepth 100000 in
theorem levelsLevel_any {o : Own} {w : World} {sb : Nat} {d : StoreD} {s : StoreW} (h : StoreIn o w sb d s) (v : Nat) (hbig : d.level.length < 1000000) :
 Calls Tryz.prog 116 #[.pointer (some ⟨s.lb, 0, none⟩), .int .i64 v] w fun x w' => x = .returned (.int .i64 (d.levelOf v)) ∧ w = w' := by
 obtain ⟨c0, c1, _⟩ := cells2 h.lev
 obtain ⟨a, cap, hvl, _⟩ := h.level.slice
 rw [hvl] at c1
 have hrow := h.level
 rw [hvl] at hrow
 by_cases hv : v < d.level.length
 ·
  obtain ⟨g, cap', he, _⟩ := hrow.shape (by omega)
  cases he
  have hx := hrow.cell v (by simpa using hv)
  have hval : (d.level.map nat64)[v]? = some (.int .i64 ((d.level.getD v 0 : Nat) : Int)) := by
   rw [List.getElem?_map, List.getElem?_eq_getElem hv]; simp [nat64, List.getD, hv]
  rw [hval] at hx
  have hv' : (v : Int) < d.level.length := by omega
  have hr : d.levelOf v = ((d.level.getD v 0 : Nat) : Int) := by simp [StoreD.levelOf, hv]
  rw [hr]
  obtain ⟨L, hL⟩ : ∃ L : Int, L = ((d.level.getD v 0 : Nat) : Int) := ⟨_, rfl⟩
  rw [← hL] at hx ⊢
  clear h hrow hvl hval hr hL
  go_enter Tryz.func116, Tryz.ntmps116
  go_wp2_with fail
  go_ret
  exact ⟨rfl, rfl⟩
 ·
  have hv' : (d.level.length : Int) ≤ v := by omega
  have hr : d.levelOf v = -1 := by simp [StoreD.levelOf, hv]
  rw [hr]
  clear h hrow hvl hr
  go_enter Tryz.func116, Tryz.ntmps116
  go_wp2_with fail
  go_ret
  exact ⟨rfl, rfl⟩
set_option maxRecDepth 100000 in
theorem storeLevel_any {o : Own} {w : World} {sb : Nat} {d : StoreD} {s : StoreW} (h : StoreIn o w sb d s) (v : Nat) (hbig : d.level.length < 1000000) :
 Calls Tryz.prog 77 #[.pointer (some ⟨sb, 0, none⟩), .int .i64 v] w fun x w' => x = .returned (.int .i64 (d.levelOf v)) ∧ w = w' := by
 obtain ⟨c0, c1, c2, c3, c4, f0⟩ := cells5 h.blk
 have HC := Lib.hid (levelsLevel_any h v hbig)
 clear h
 go_enter Tryz.func77, Tryz.ntmps77
 go_wp2_with fail
 refine HC.out.mono ?_
 rintro x w' ⟨rfl, rfl⟩
 go_wp2_with fail
 go_ret
 exact ⟨rfl, rfl⟩
end Go.Proofs.YtchliiaknmknhaaGreat
