/- Several texts in one file. The manager's methods at nil (printed by gennil.py). The manager's Do, where no event comes and there is room. The manager's Var, where no event comes and there is room. Looking handles up: Ctx.Edge, Man.Same, Man.Handles, Man.Is. The manager's Ite, where no event comes and there is room. The manager's Ite. A new manager. The manager's small methods: Vars, Room, Len. The manager's Eval. dd.New out of range. The order of the variables. A manager without events and with room enough: its handles and their functions. lives of law 13: the chapter's example. -/
import Derived.Test.YtchliiaknmknhaaGreatM6
set_option linter.unusedSimpArgs false
set_option linter.unusedVariables false
set_option linter.unusedSectionVars false
set_option linter.unnecessarySimpa false

-- ManNil
namespace Go.Proofs.YtchliiaknmknhaaGreat
open Go.RowKit

set_option maxRecDepth 100000 in
theorem nilVar (v : Int) (w : World) : Calls Tryz.prog 15 #[.pointer none, .int .i64 v] w fun x w' => x = .returned (.tuple #[.int .i64 0, .int .i64 5]) ∧ Below w.heap.size w w' := by
  go_enter Tryz.func15, Tryz.ntmps15
  go_wp2_with fail
  go_ret2
  first | exact ⟨rfl, Below.refl _ _⟩ | exact ⟨rfl, below_new1 _ _⟩
set_option maxRecDepth 100000 in
theorem nilCopy (v : Int) (w : World) : Calls Tryz.prog 48 #[.pointer none, .int .i64 v] w fun x w' => x = .returned (.tuple #[.int .i64 0, .int .i64 5]) ∧ Below w.heap.size w w' := by
  go_enter Tryz.func48, Tryz.ntmps48
  go_wp2_with fail
  go_ret2
  first | exact ⟨rfl, Below.refl _ _⟩ | exact ⟨rfl, below_new1 _ _⟩
set_option maxRecDepth 100000 in
theorem nilSame (v u : Int) (w : World) : Calls Tryz.prog 56 #[.pointer none, .int .i64 v, .int .i64 u] w fun x w' => x = .returned (.tuple #[.bool false, .int .i64 5]) ∧ Below w.heap.size w w' := by
  go_enter Tryz.func56, Tryz.ntmps56
  go_wp2_with fail
  go_ret2
  first | exact ⟨rfl, Below.refl _ _⟩ | exact ⟨rfl, below_new1 _ _⟩
set_option maxRecDepth 100000 in
theorem nilEval (v : Int) (u : Value) (w : World) : Calls Tryz.prog 58 #[.pointer none, .int .i64 v, u] w fun x w' => x = .returned (.tuple #[.bool false, .int .i64 5]) ∧ Below w.heap.size w w' := by
  go_enter Tryz.func58, Tryz.ntmps58
  go_wp2_with fail
  go_ret2
  first | exact ⟨rfl, Below.refl _ _⟩ | exact ⟨rfl, below_new1 _ _⟩
set_option maxRecDepth 100000 in
theorem nilNot (v : Int) (w : World) : Calls Tryz.prog 47 #[.pointer none, .int .i64 v] w fun x w' => x = .returned (.tuple #[.int .i64 0, .int .i64 5]) ∧ Below w.heap.size w w' := by
  go_enter Tryz.func47, Tryz.ntmps47
  go_wp2_with fail
  go_ret2
  first | exact ⟨rfl, Below.refl _ _⟩ | exact ⟨rfl, below_new1 _ _⟩
set_option maxRecDepth 100000 in
theorem nilDo (g : Fn) (fs cs : Array Value) (w : World) : Calls Tryz.prog 24 #[.pointer none, .func g fs cs] w fun x w' => x = .returned (.tuple #[.int .i64 0, .int .i64 5]) ∧ Below w.heap.size w w' := by
  go_enter Tryz.func24, Tryz.ntmps24
  go_wp2_with fail
  go_ret2
  first | exact ⟨rfl, Below.refl _ _⟩ | exact ⟨rfl, below_new1 _ _⟩
set_option maxRecDepth 100000 in
theorem nilDrop (u : Value) (w : World) : Calls Tryz.prog 49 #[.pointer none, u] w fun x w' => x = .returned (.int .i64 5) ∧ Below w.heap.size w w' := by
  go_enter Tryz.func49, Tryz.ntmps49
  go_wp2_with fail
  go_ret
  first | exact ⟨rfl, Below.refl _ _⟩ | exact ⟨rfl, below_new1 _ _⟩
set_option maxRecDepth 100000 in
theorem nilLook (u : Value) (w : World) : Calls Tryz.prog 60 #[.pointer none, u] w fun x w' => x = .returned (.int .i64 5) ∧ Below w.heap.size w w' := by
  go_enter Tryz.func60, Tryz.ntmps60
  go_wp2_with fail
  go_ret
  first | exact ⟨rfl, Below.refl _ _⟩ | exact ⟨rfl, below_new1 _ _⟩
set_option maxRecDepth 100000 in
theorem nilSwap (v : Int) (w : World) : Calls Tryz.prog 45 #[.pointer none, .int .i64 v] w fun x w' => x = .returned (.int .i64 5) ∧ Below w.heap.size w w' := by
  go_enter Tryz.func45, Tryz.ntmps45
  go_wp2_with fail
  go_ret
  first | exact ⟨rfl, Below.refl _ _⟩ | exact ⟨rfl, below_new1 _ _⟩
set_option maxRecDepth 100000 in
theorem nilPlan (u : Value) (w : World) : Calls Tryz.prog 37 #[.pointer none, u] w fun x w' => x = .returned (.int .i64 5) ∧ Below w.heap.size w w' := by
  go_enter Tryz.func37, Tryz.ntmps37
  go_wp2_with fail
  go_ret
  first | exact ⟨rfl, Below.refl _ _⟩ | exact ⟨rfl, below_new1 _ _⟩
set_option maxRecDepth 100000 in
theorem nilVars  (w : World) : Calls Tryz.prog 51 #[.pointer none] w fun x w' => x = .returned (.int .i64 0) ∧ Below w.heap.size w w' := by
  go_enter Tryz.func51, Tryz.ntmps51
  go_wp2_with fail
  go_ret
  first | exact ⟨rfl, Below.refl _ _⟩ | exact ⟨rfl, below_new1 _ _⟩
set_option maxRecDepth 100000 in
theorem nilRoom  (w : World) : Calls Tryz.prog 52 #[.pointer none] w fun x w' => x = .returned (.int .i64 0) ∧ Below w.heap.size w w' := by
  go_enter Tryz.func52, Tryz.ntmps52
  go_wp2_with fail
  go_ret
  first | exact ⟨rfl, Below.refl _ _⟩ | exact ⟨rfl, below_new1 _ _⟩
set_option maxRecDepth 100000 in
theorem nilLen  (w : World) : Calls Tryz.prog 22 #[.pointer none] w fun x w' => x = .returned (.int .i64 0) ∧ Below w.heap.size w w' := by
  go_enter Tryz.func22, Tryz.ntmps22
  go_wp2_with fail
  go_ret
  first | exact ⟨rfl, Below.refl _ _⟩ | exact ⟨rfl, below_new1 _ _⟩
set_option maxRecDepth 100000 in
theorem nilHandles  (w : World) : Calls Tryz.prog 70 #[.pointer none] w fun x w' => x = .returned (.int .i64 0) ∧ Below w.heap.size w w' := by
  go_enter Tryz.func70, Tryz.ntmps70
  go_wp2_with fail
  go_ret
  first | exact ⟨rfl, Below.refl _ _⟩ | exact ⟨rfl, below_new1 _ _⟩
set_option maxRecDepth 100000 in
theorem nilCollect  (w : World) : Calls Tryz.prog 46 #[.pointer none] w fun x w' => x = .returned (.int .i64 0) ∧ Below w.heap.size w w' := by
  go_enter Tryz.func46, Tryz.ntmps46
  go_wp2_with fail
  go_ret
  first | exact ⟨rfl, Below.refl _ _⟩ | exact ⟨rfl, below_new1 _ _⟩
set_option maxRecDepth 100000 in
theorem nilWaits  (w : World) : Calls Tryz.prog 30 #[.pointer none] w fun x w' => x = .returned (.int .i64 0) ∧ Below w.heap.size w w' := by
  go_enter Tryz.func30, Tryz.ntmps30
  go_wp2_with fail
  go_ret
  first | exact ⟨rfl, Below.refl _ _⟩ | exact ⟨rfl, below_new1 _ _⟩
set_option maxRecDepth 100000 in
theorem nilIs (v : Int) (w : World) : Calls Tryz.prog 50 #[.pointer none, .int .i64 v] w fun x w' => x = .returned (.bool false) ∧ Below w.heap.size w w' := by
  go_enter Tryz.func50, Tryz.ntmps50
  go_wp2_with fail
  go_ret
  first | exact ⟨rfl, Below.refl _ _⟩ | exact ⟨rfl, below_new1 _ _⟩
set_option maxRecDepth 100000 in
theorem nilOrder  (w : World) : Calls Tryz.prog 42 #[.pointer none] w fun x w' => x = .returned (.slice none 0 0) ∧ Below w.heap.size w w' := by
  go_enter Tryz.func42, Tryz.ntmps42
  go_wp2_with fail
  go_ret
  first | exact ⟨rfl, Below.refl _ _⟩ | exact ⟨rfl, below_new1 _ _⟩
set_option maxRecDepth 100000 in
theorem nilEach  (w : World) : Calls Tryz.prog 71 #[.pointer none] w fun x w' => x = .returned (.func (.func 108) #[] #[]) ∧ Below w.heap.size w w' := by
  go_enter Tryz.func71, Tryz.ntmps71
  go_wp2_with fail
  go_ret
  first | exact ⟨rfl, Below.refl _ _⟩ | exact ⟨rfl, below_new1 _ _⟩
set_option maxRecDepth 100000 in
theorem nilIte (v u t : Int) (w : World) : Calls Tryz.prog 18 #[.pointer none, .int .i64 v, .int .i64 u, .int .i64 t] w fun x w' => x = .returned (.tuple #[.int .i64 0, .int .i64 5]) ∧ Below w.heap.size w w' := by
  have hmf : ∀ (fn : Fn) (first cap : Array Value) (w : World), (Instr.makeFunc fn first cap).run Tryz.prog w = .ok (.func fn first cap) w := fun _ _ _ _ => rfl
  have HD := Lib.hid (fun W g fs cs => nilDo g fs cs W)
  go_enter Tryz.func18, Tryz.ntmps18
  go_wp2_with fail
  refine (HD.out _ _ _ _).mono ?_
  rintro x w' ⟨rfl, hb⟩
  have HB := Lib.hid (((((below_new1 w _).alloc (by simp) _).alloc (by simp; omega) _)).trans (hb.mono (by simp; omega)))
  clear hb
  go_wp2_with fail
  go_ret2
  exact ⟨rfl, HB.out⟩
end Go.Proofs.YtchliiaknmknhaaGreat

-- Do
namespace Go.Proofs.YtchliiaknmknhaaGreat
open Go.RowKit

theorem step_ali {K : Law} {o o' : Own} {w W0 W1 W2 : World} {mb : Nat} {m m' : ManD} {V V' : Nat → BF} {M : Nat → Prop} (hb : Below w.heap.size w W0) (hlt : OwnLt o w) (st : Step K o W0 mb m V o' W1 m' V') (a : Wr M W1 W2) (hs : ∀ k, M k → w.heap.size ≤ k ∧ k < W0.heap.size) :
    Step K o w mb m V o' W2 m' V' := by
  have hno : ∀ q, w.heap.size ≤ q → q < W0.heap.size → o' q = none := fun q h1 h2 => by
    by_cases e : o' q = o q
    · rw [e]; exact hlt.none h1
    · have := (st.chg.new q e).1; omega
  have hk : ∀ g r, o' g = some r → W2.heap[g]? = W1.heap[g]? := fun g r hg => a.keep g (st.lt g r hg) (fun e => by
    have := hno g (hs g e).1 (hs g e).2; rw [hg] at this; cases this)
  obtain ⟨ss, hm⟩ := st.is
  have h1 := st.chg.size
  refine ⟨⟨ss, hm.keep hk (fun _ _ h => h)⟩, st.lt.mono a.size, ⟨?_, ?_, ?_, ?_, fun k hk' hr => ?_, st.chg.ext, fun k hk' => ?_⟩, st.ok, st.ext, st.hs, st.next⟩
  · rw [a.os, st.chg.os, hb.os]
  · rw [a.tape, st.chg.tape, hb.tape]
  · rw [a.output, st.chg.output, hb.output]
  · have := a.size; have := hb.size; omega
  · have h2 := hb.size
    rw [a.keep k (by omega) (fun e => by have := (hs k e).1; omega), st.chg.block k (by omega) hr]
    exact hb.block k hk'
  · have h2 := hb.size
    have h3 := st.chg.new k hk'
    exact ⟨by omega, h3.2⟩
theorem handles_step {K : Law} {o o' : Own} {w w' : World} {mb : Nat} {m m' : ManD} {V V' : Nat → BF} (h : HandlesOK m) (st : Step K o w mb m V o' w' m' V') : HandlesOK m' := by
  have e1 := st.hs
  have e2 := st.next
  refine ⟨by rw [e1]; exact h.nodup, by rw [e1]; exact h.zero, by rw [e1]; exact h.one, by rw [e1, e2]; exact h.lt, by rw [e2]; exact h.next, fun p hp => ?_, by rw [e1, e2]; exact h.len, fun i b hb => ?_⟩
  · rw [e1] at hp; exact st.ext.ok (h.ok p hp)
  · rw [e1]
    cases hn : nodesOf m.d i with
    | some b0 => rw [st.ext.ext i b0 hn]; exact h.refs i b0 hn
    | none =>
      rw [st.ext.ext0 i hn]
      have hi : i ≠ 0 := by rintro rfl; rw [st.ok.dag.none0] at hb; cases hb
      have : refsOf m.hs i = 0 := by
        unfold refsOf
        rw [List.length_eq_zero_iff, List.filter_eq_nil_iff]
        intro p hp
        have ho := h.ok p hp
        simp only [Bool.and_eq_true, decide_eq_true_eq, beq_iff_eq, not_and]
        rintro _ rfl
        rcases ho with h0 | ⟨b1, hb1⟩
        · exact hi h0
        · rw [hn] at hb1; cases hb1
      rw [this]; rfl
/-- What an operation with a result leaves: a new handle. -/
structure Did (K : Law) (o : Own) (w : World) (mb : Nat) (m : ManD) (V : Nat → BF) (r : Nat) (o' : Own) (w' : World) (m' : ManD) (V' : Nat → BF) : Prop where
  is : ManAt (K m'.d V') o' w' mb m'
  lt : OwnLt o' w'
  chg : Chg (fun _ => True) o o' w w'
  ok : ManOK m' V'
  hs : m'.hs = m.hs ++ [(m.next, r)]
  next : m'.next = m.next + 1
  waits : m'.waits = m.waits
  vars : m'.d.vars = m.d.vars
  level : m'.d.level = m.d.level
  room : m'.d.pool.room = m.d.pool.room
  nodes : ∀ i b, nodesOf m.d i = some b → nodesOf m'.d i = some b
  val : ∀ i, (i = 0 ∨ ∃ b, nodesOf m.d i = some b) → V' i = V i
theorem did_of {K : Law} {o o' o'' : Own} {w w' w'' : World} {mb : Nat} {m m' m'' : ManD} {V V' : Nat → BF} {r : Nat} (st : Step K o w mb m V o' w' m' V') (hw : m'.waits = m.waits) (g : Gave K o' w' mb m' V' r o'' w'' m'') : Did K o w mb m V r o'' w'' m'' V' :=
  ⟨g.is, g.lt, st.chg.trans g.chg, g.ok, by rw [g.hs, st.hs, st.next], by rw [g.next, st.next], g.waits.trans hw, g.vars.trans st.ext.vars, g.level.trans st.ext.level, g.room.trans st.ext.room, fun i b h => by rw [g.nodes]; exact st.ext.nodes i b h, st.ext.val⟩
/-- What the user's operation has to do. -/
def OpOk (K : Law) (o : Own) (w : World) (mb : Nat) (m : ManD) (V : Nat → BF) (gop : Nat) (lop : Array Value) (Q : ManD → (Nat → BF) → Nat → Prop) : Prop :=
  ∀ (W : World) (xb : Nat), Below w.heap.size w W → CtxAt o W xb mb → Calls Tryz.prog gop (#[.pointer (some ⟨xb, 0, none⟩)] ++ lop) W fun e w' => ∃ (o' : Own) (m' : ManD) (V' : Nat → BF) (r : Nat), e = .returned (.int .i64 r) ∧ Step K o W mb m V o' w' m' V' ∧ m'.waits = m.waits ∧ okE (nodesOf m'.d) r ∧ Q m' V' r
set_option maxRecDepth 100000 in
set_option maxHeartbeats 1000000 in
theorem do1_any (gop : Nat) (lop : Array Value) (W : World) (xb ob fb : Nat) (old : Value) (R : Nat → World → Prop) (eg : ∀ args w, (callFunc gop args).run Tryz.prog w = .ok (.enter gop args) w)
    (hob : W.cell? ⟨ob, 0, none⟩ = some (.func (.func gop) #[] lop)) (hop : Calls Tryz.prog gop (#[.pointer (some ⟨xb, 0, none⟩)] ++ lop) W fun e w' => ∃ r : Nat, e = .returned (.int .i64 r) ∧ R r w' ∧ (∃ z : Int, w'.cell? ⟨fb, 0, none⟩ = some (.int .i64 z)) ∧ w'.frozen? ⟨fb, 0, none⟩ = false) :
    Calls Tryz.prog 86 #[.pointer (some ⟨xb, 0, none⟩), .pointer (some ⟨ob, 0, none⟩), .pointer (some ⟨fb, 0, none⟩)] W fun e w' => e = .returned (.tuple #[]) ∧ ∃ r w1, R r w1 ∧ w' = w1.setCell ⟨fb, 0, none⟩ (.int .i64 (r : Nat)) := by
  have HOP := Lib.hid hop
  clear hop
  go_enter Tryz.func86, Tryz.ntmps86
  go_wp2_with fail
  refine HOP.out.mono ?_
  rintro e w' ⟨r, rfl, hr, ⟨z, hc⟩, hf⟩
  have HR := Lib.hid hr
  clear hr
  go_wp2_with fail
  go_end0
  exact ⟨rfl, r, w', HR.out, rfl⟩
def doW (gop : Nat) (lop : Array Value) (w : World) : World := (w.alloc (.cells #[.func (.func gop) #[] lop] 54)).alloc (.cells #[.int .i64 0] 52)
theorem enters_do1 : ∀ args w, (callFunc 86 args).run Tryz.prog w = .ok (.enter 86 args) w := enters_of Tryz.func86 (by kernel_rfl) rfl
/-- Behind run: the operation's result lies in its box. -/
def DoFin (K : Law) (o : Own) (w : World) (mb : Nat) (m : ManD) (V : Nat → BF) (Q : ManD → (Nat → BF) → Nat → Prop) (er : Int) (W : World) : Prop :=
  er = 0 ∧ ∃ (o' : Own) (m' : ManD) (V' : Nat → BF) (r : Nat), Step K o w mb m V o' W m' V' ∧ m'.waits = m.waits ∧ okE (nodesOf m'.d) r ∧ Q m' V' r ∧ W.cell? ⟨w.heap.size + 1, 0, none⟩ = some (.int .i64 r)
theorem do_run {K : Law} {o : Own} {w : World} {mb : Nat} {m : ManD} {V : Nat → BF} (hlt : OwnLt o w) (gop : Nat) (lop : Array Value) (Q : ManD → (Nat → BF) → Nat → Prop) (eg : ∀ args w, (callFunc gop args).run Tryz.prog w = .ok (.enter gop args) w)
    (hop : OpOk K o w mb m V gop lop Q) :
    Calls Tryz.prog 85 #[.pointer (some ⟨mb, 0, none⟩), .func (.func 86) #[] #[.pointer (some ⟨w.heap.size, 0, none⟩), .pointer (some ⟨w.heap.size + 1, 0, none⟩)]] (doW gop lop w) fun x w' => ∃ er, x = .returned (.int .i64 er) ∧ DoFin K o w mb m V Q er w' := by
  have hz : (doW gop lop w).heap.size = w.heap.size + 2 := by simp [doW]
  have hz0 : (tryW mb (doW gop lop w)).heap.size = w.heap.size + 5 := by unfold tryW; simp [hz]
  have hb : Below w.heap.size w (doW gop lop w) := (below_new1 w _).alloc (by simp) _
  have hbt : Below (doW gop lop w).heap.size (doW gop lop w) (tryW mb (doW gop lop w)) := ((below_new1 _ _).alloc (by simp) _).alloc (by simp; omega) _
  have hb0 : Below w.heap.size w (tryW mb (doW gop lop w)) := hb.trans (hbt.mono (by omega))
  have hfb : (doW gop lop w).heap[w.heap.size + 1]? = some (.cells #[.int .i64 0] 52 (0, 0)) := by
    have := heap_alloc_new (w.alloc (.cells #[.func (.func gop) #[] lop] 54)) (.cells #[.int .i64 0] 52)
    rw [World.size_alloc] at this; exact this
  have hob : (doW gop lop w).heap[w.heap.size]? = some (.cells #[.func (.func gop) #[] lop] 54 (0, 0)) := (Go.heap_alloc_old _ _ (by simp)).trans (heap_alloc_new w _)
  have hfb0 := (hbt.block (w.heap.size + 1) (by omega)).trans hfb
  have hob0 := (hbt.block w.heap.size (by omega)).trans hob
  refine run_any mb _ _ _ enters_do1 (fun n room W => n = 0 ∧ room = false ∧ W = doW gop lop w) _ ?_ 0 ⟨rfl, rfl, rfl⟩
  rintro n room W ⟨rfl, rfl, rfl⟩
  refine ⟨fun st W1 => st = none ∧ ∃ (o' : Own) (m' : ManD) (V' : Nat → BF) (r : Nat) (w1 : World), Step K o (tryW mb (doW gop lop w)) mb m V o' w1 m' V' ∧ m'.waits = m.waits ∧ okE (nodesOf m'.d) r ∧ Q m' V' r ∧ W1 = w1.setCell ⟨w.heap.size + 1, 0, none⟩ (.int .i64 (r : Nat)), ?_, ?_, ?_, ?_, ?_⟩
  · unfold TryOp
    have hcx : CtxAt o (tryW mb (doW gop lop w)) ((doW gop lop w).heap.size + 2) mb := by
      refine ⟨?_, hlt.none (by omega)⟩
      have h1 : (tryW mb (doW gop lop w)).heap[(doW gop lop w).heap.size + 2]? = some (.cells #[.pointer (some ⟨mb, 0, none⟩)] 114 (0, 0)) := by
        have := heap_alloc_new (((doW gop lop w).alloc (.cells #[.int .i64 0, .bool false, .int .i64 0, .int .i64 0, .int .i64 0] 116)).alloc (.cells #[.bool false] 4)) (.cells #[.pointer (some ⟨mb, 0, none⟩)] 114)
        rw [World.size_alloc, World.size_alloc] at this; exact this
      rw [cell_of_row _ _ 0 _ _ _ h1]; rfl
    refine (do1_any gop lop _ _ w.heap.size (w.heap.size + 1) (.int .i64 0) (fun r w1 => ∃ (o' : Own) (m' : ManD) (V' : Nat → BF), Step K o (tryW mb (doW gop lop w)) mb m V o' w1 m' V' ∧ m'.waits = m.waits ∧ okE (nodesOf m'.d) r ∧ Q m' V' r) eg (by rw [cell_of_row _ _ 0 _ _ _ hob0]; rfl) ?_).mono ?_
    · refine (hop _ _ hb0 hcx).mono ?_
      rintro e w' ⟨o', m', V', r, rfl, st, h1, h2, h3⟩
      have hbl := (st.chg.alien (by omega) (hlt.none (show w.heap.size ≤ w.heap.size + 1 by omega))).trans hfb0
      exact ⟨r, rfl, ⟨o', m', V', st, h1, h2, h3⟩, ⟨0, by rw [cell_of_row _ _ 0 _ _ _ hbl]; rfl⟩, by simp [World.frozen?, hbl]⟩
    · rintro e w' ⟨rfl, r, w1, ⟨o', m', V', st, h1, h2, h3⟩, rfl⟩
      refine ⟨by simp [World.setCell]; exact st.chg.size, ?_, ?_, .inl ⟨rfl, rfl, o', m', V', r, w1, st, h1, h2, h3, rfl⟩⟩
      · exact (heap_setCell_ne (by show _ ≠ w.heap.size + 1; omega) _).trans (st.chg.alien (by omega) (hlt.none (by omega)))
      · exact (heap_setCell_ne (by show _ ≠ w.heap.size + 1; omega) _).trans (st.chg.alien (by omega) (hlt.none (by omega)))
  · rintro W1 W2 ⟨_, o', m', V', r, w1, st, h1, h2, h3, rfl⟩ a
    have hbl := (st.chg.alien (by omega) (hlt.none (show w.heap.size ≤ w.heap.size + 1 by omega))).trans hfb0
    have hb2 := (a.keep (w.heap.size + 1) (by simp [World.setCell]; have := st.chg.size; omega) (by omega)).trans (heap_setCell_same hbl _)
    refine ⟨rfl, o', m', V', r, step_ali hb0 hlt st (M := fun k => k = w.heap.size + 1 ∨ k = (doW gop lop w).heap.size ∨ k = (doW gop lop w).heap.size + 1) (Wr.trans ((Wr.refl (fun k => k = w.heap.size + 1) w1).setCell (p := ⟨w.heap.size + 1, 0, none⟩) (.inl rfl) _) a (fun k _ e => .inl e) (fun k _ e => .inr e)) ?_, h1, h2, h3, by rw [cell_of_row _ _ 0 _ _ _ hb2]; rfl⟩
    rintro k (rfl | rfl | rfl) <;> omega
  · rintro er ev W1 W2 ⟨h, _⟩; cases h
  · rintro ev W1 W2 ⟨h, _⟩; cases h
  · rintro er ev W1 W2 ⟨h, _⟩; cases h
theorem eqNilF (w : World) (g : Fn) (fs cs : Array Value) : (binOp .eql 54 (.func g fs cs) .nilFunc).run Tryz.prog w = .ok (.bool false) w := by
  have hd : Op.maxDepth = 9999 + 1 := rfl
  have h : (Op.equal 54 (.func g fs cs) .nilFunc).run Tryz.prog w = .ok false w := by
    unfold Op.equal
    rw [hd]
    unfold Op.equalIn
    simp only [Sem.run_bind, run_underlying Tryz.underlying54, Result.andThen_ok]
    simp
  simp only [binOp]
  simp [h]
set_option maxRecDepth 100000 in
set_option maxHeartbeats 2000000 in
theorem do_any {K : Law} (hK : LawOK K) {o : Own} {w : World} {mb : Nat} {m : ManD} {V : Nat → BF} (hlt : OwnLt o w) (hk : ManOK m V) (hn : m.next < 1099511627776) (gop : Nat) (lop : Array Value) (Q : ManD → (Nat → BF) → Nat → Prop)
    (eg : ∀ args w, (callFunc gop args).run Tryz.prog w = .ok (.enter gop args) w) (hop : OpOk K o w mb m V gop lop Q) :
    Calls Tryz.prog 24 #[.pointer (some ⟨mb, 0, none⟩), .func (.func gop) #[] lop] w fun x w' => x = .returned (.tuple #[.int .i64 m.next, .int .i64 0]) ∧
      ∃ o' m1 m' V' r, Did K o w mb m V r o' w' m' V' ∧ okE (nodesOf m1.d) r ∧ Q m1 V' r ∧ nodesOf m'.d = nodesOf m1.d ∧ m'.d.vars = m1.d.vars ∧ m'.d.level = m1.d.level ∧ m'.d.pool.many = m1.d.pool.many := by
  have hmf : ∀ (fn : Fn) (first cap : Array Value) (w : World), (Instr.makeFunc fn first cap).run Tryz.prog w = .ok (.func fn first cap) w := fun _ _ _ _ => rfl
  have HRUN := Lib.hid (do_run hlt gop lop Q eg hop)
  have HK := Lib.hid hk
  have HLAW := Lib.hid hK
  have hnf := eqNilF (w.alloc (.cells #[.func (.func gop) #[] lop] 54)) (.func gop) #[] lop
  have HW : Hid ((w.alloc (.cells #[.func (.func gop) #[] lop] 54)).alloc (.cells #[.int .i64 0] 52) = doW gop lop w) := Lib.hid rfl
  clear hlt hk hK hop
  go_enter Tryz.func24, Tryz.ntmps24
  go_wp2_with fail
  rw [HW.out]
  refine HRUN.out.mono ?_
  rintro x w1 ⟨er, rfl, rfl, o1, m1, V1, r, st, hwt, hr, hq, hcf⟩
  obtain ⟨s1, hm1⟩ := st.is
  obtain ⟨c0, c1, c2, c3, c4, c5, f0⟩ := cells6 hm1.blk
  obtain ⟨ss, hss⟩ := hm1.store
  have hrlt : r < eMax := by have := hss.edge_lt hr; unfold eMax; omega
  have HIS : Hid (Calls Tryz.prog 87 #[.pointer (some ⟨s1.sb, 0, none⟩), .int .i64 r] w1.drew fun x w' => x = .returned (.bool true) ∧ Below w1.heap.size w1 w') := by
    have h1 := storeIs_any (hss.below st.lt (below_draw w1 1)) (st.lt.mono (below_draw w1 1).size) r hrlt
    rw [is_eq hr] at h1
    exact Lib.hid (h1.mono fun x w' ⟨a, b⟩ => ⟨a, belowOf (n := 1) b⟩)
  have HST := Lib.hid st
  have HR := Lib.hid hr
  have HQ := Lib.hid hq
  have HWT := Lib.hid hwt
  have lmb : mb < w1.heap.size := lt_of_cell c0
  have lfb : w.heap.size + 1 < w1.heap.size := lt_of_cell hcf
  clear st hm1 hss hr hq hwt HRUN HW
  go_upto_region 9 with fail
  refine wp_region_left (fun W : World => Below w1.heap.size w1 W) 7 (by kernel_rfl) (below_draw w1 1) ?_
  refine left_readE 0 rfl rfl (by kernel_rfl) ?_
  apply Exists.intro
  refine ⟨fun w' hw => ?_, ?_⟩
  · have q1 := (hw.cell (p := ⟨mb, 0, none⟩) lmb).trans c0
    have q2 := (hw.cell (p := ⟨w.heap.size + 1, 0, none⟩) lfb).trans hcf
    go_simp
    rfl
  simp only [Act.put, List.setIfInBounds_toArray, List.set_cons_zero, List.set_cons_succ]
  refine left_readE 1 rfl rfl (by kernel_rfl) ?_
  apply Exists.intro
  refine ⟨fun w' hw => ?_, ?_⟩
  · have q1 := (hw.cell (p := ⟨mb, 0, none⟩) lmb).trans c0
    have q2 := (hw.cell (p := ⟨w.heap.size + 1, 0, none⟩) lfb).trans hcf
    go_simp
    rfl
  simp only [Act.put, List.setIfInBounds_toArray, List.set_cons_zero, List.set_cons_succ]
  refine left_readE 2 rfl rfl (by kernel_rfl) ?_
  apply Exists.intro
  refine ⟨fun w' hw => ?_, ?_⟩
  · have q1 := (hw.cell (p := ⟨mb, 0, none⟩) lmb).trans c0
    have q2 := (hw.cell (p := ⟨w.heap.size + 1, 0, none⟩) lfb).trans hcf
    go_simp
    rfl
  simp only [Act.put, List.setIfInBounds_toArray, List.set_cons_zero, List.set_cons_succ]
  refine left_readE 3 rfl rfl (by kernel_rfl) ?_
  apply Exists.intro
  refine ⟨fun w' hw => ?_, ?_⟩
  · have q1 := (hw.cell (p := ⟨mb, 0, none⟩) lmb).trans c0
    have q2 := (hw.cell (p := ⟨w.heap.size + 1, 0, none⟩) lfb).trans hcf
    go_simp
    rfl
  simp only [Act.put, List.setIfInBounds_toArray, List.set_cons_zero, List.set_cons_succ]
  refine left_readE 4 rfl rfl (by kernel_rfl) ?_
  apply Exists.intro
  refine ⟨fun w' hw => ?_, ?_⟩
  · have q1 := (hw.cell (p := ⟨mb, 0, none⟩) lmb).trans c0
    have q2 := (hw.cell (p := ⟨w.heap.size + 1, 0, none⟩) lfb).trans hcf
    go_simp
    rfl
  simp only [Act.put, List.setIfInBounds_toArray, List.set_cons_zero, List.set_cons_succ]
  refine left_alts [5] (by kernel_rfl) (fun i hi hS o ho => ?_)
  simp only [List.mem_cons, List.not_mem_nil, or_false] at hi
  subst hi
  simp only [List.getElem?_cons_zero, List.getElem?_cons_succ, Option.some.injEq] at ho
  subst ho
  refine ⟨rfl, ?_⟩
  refine oper_call (v := .bool true) (R := fun w' => Below w1.heap.size w1 w') (by go_simp) HIS.out ?_
  rintro w2 hb2
  refine ⟨hb2, ?_⟩
  simp only [Act.put, List.setIfInBounds_toArray, List.set_cons_zero, List.set_cons_succ]
  have hcf2 := (hb2.cell (p := ⟨w.heap.size + 1, 0, none⟩) lfb).trans hcf
  have d0 := (hb2.cell (p := ⟨mb, 0, none⟩) lmb).trans c0
  have HST2 := Lib.hid (HST.out.below hb2)
  refine left_readE 6 rfl rfl (by kernel_rfl) ?_
  apply Exists.intro
  refine ⟨fun w' hw => ?_, ?_⟩
  · have q1 := (hw.cell (p := ⟨mb, 0, none⟩) lmb).trans c0
    have q2 := (hw.cell (p := ⟨w.heap.size + 1, 0, none⟩) lfb).trans hcf
    go_simp
    rfl
  simp only [Act.put, List.setIfInBounds_toArray, List.set_cons_zero, List.set_cons_succ]
  clear c0 c1 c2 c3 c4 c5 f0 hcf hb2
  refine left_end (by kernel_rfl) ?_
  have HG := Lib.hid (give_any HLAW.out HST2.out.is HST2.out.lt ⟨HST2.out.ok, handles_step HK.out.handles HST2.out⟩ r HR.out (by rw [HST2.out.next]; exact hn))
  go_wp2_with fail
  refine HG.out.mono ?_
  rintro x w3 ⟨rfl, o3, m3, hg⟩
  have HGV := Lib.hid hg
  have HNX : Hid (m1.next = m.next) := Lib.hid HST2.out.next
  clear hg
  go_wp2_with fail
  go_ret2
  exact ⟨by rw [← HNX.out]; rfl, o3, m1, m3, V1, r, did_of HST2.out HWT.out HGV.out, HR.out, HQ.out, HGV.out.nodes, HGV.out.vars, HGV.out.level, HGV.out.many⟩
end Go.Proofs.YtchliiaknmknhaaGreat

-- Var
namespace Go.Proofs.YtchliiaknmknhaaGreat
open Go.RowKit

/-- A variable's function. -/
def varF (v : Nat) : BF := fun ρ => ρ v
def VarQ (many v : Nat) (m' : ManD) (V' : Nat → BF) (r : Nat) : Prop := ef V' r = varF v ∧ m'.d.pool.many ≤ many + 1
set_option maxRecDepth 100000 in
theorem var1_ok {K : Law} (hK : LawOK K) {o : Own} {w : World} {mb : Nat} {m : ManD} {V : Nat → BF} (hm : ManAt (K m.d V) o w mb m) (hlt : OwnLt o w) (hk : ManOK m V) (v vb : Nat) (hv : v < m.d.vars.length) (hw : m.waits = []) (hroom : m.d.pool.many < m.d.pool.room)
    (hvb : w.cell? ⟨vb, 0, none⟩ = some (.int .i64 v)) : OpOk K o w mb m V 78 #[.pointer (some ⟨vb, 0, none⟩)] (VarQ m.d.pool.many v) := by
  intro W xb hb hx
  obtain ⟨s, hm⟩ := hm
  have hks := hk.store
  have o0 : okE (nodesOf m.d) 0 := .inl rfl
  have o1 : okE (nodesOf m.d) 1 := .inl rfl
  have hl0 : lvE m.d.vars.length (levN m.d) (nodesOf m.d) 0 = m.d.vars.length := lvE_const hks rfl
  have hl1 : lvE m.d.vars.length (levN m.d) (nodesOf m.d) 1 = m.d.vars.length := lvE_const hks rfl
  have hlv := hks.dag.lt v hv
  have HMK := Lib.hid (ctxMk_any hK ⟨s, hm.below hlt hb⟩ (hlt.mono hb.size) hx hks v 1 0 o1 o0)
  have cvb := (hb.cell (p := ⟨vb, 0, none⟩) (lt_of_cell hvb)).trans hvb
  have HFIN : Hid (∀ e w', CtxMkPost K o W mb m V v 1 0 e w' → ∃ (o' : Own) (m' : ManD) (V' : Nat → BF) (r : Nat), e = .returned (.int .i64 r) ∧ Step K o W mb m V o' w' m' V' ∧ m'.waits = m.waits ∧ okE (nodesOf m'.d) r ∧ VarQ m.d.pool.many v m' V' r) := by
    refine Lib.hid ?_
    rintro e w' ⟨o', m', V', st, (⟨ev, h1, _⟩ | ⟨h1, _, _, (⟨er, her, _⟩ | ⟨_, _, r, rfl, h2, h3, _, h5⟩)⟩)⟩
    · rw [hw] at h1; cases h1
    · exfalso
      rcases her with ⟨_, h⟩ | ⟨_, _, _, h⟩ | ⟨_, h⟩
      · exact h ⟨by omega, by omega⟩
      · simp only [Int.toNat_natCast] at h; omega
      · omega
    · refine ⟨o', m', V', r, rfl, st, h1, h2, ?_, h5⟩
      rw [h3]
      funext ρ
      have a0 := ef_zero hks.dag.one ρ
      have a1 := ef_one hks.dag.one ρ
      simp only [iteF, varF, Int.toNat_natCast, a0, a1]
      cases ρ v <;> rfl
  clear hm hks o0 o1 hl0 hl1 hlv hk hx hb hvb hK hroom hw hv hlt
  go_enter Tryz.func78, Tryz.ntmps78
  go_wp2_with fail
  refine HMK.out.mono ?_
  intro e w' hp
  obtain ⟨o', m', V', r, rfl, hst⟩ := HFIN.out e w' hp
  have HST := Lib.hid hst
  clear hp hst
  go_wp2_with fail
  go_ret
  exact ⟨o', m', V', r, rfl, HST.out⟩
theorem enters_var1 : ∀ args w, (callFunc 78 args).run Tryz.prog w = .ok (.enter 78 args) w := enters_of Tryz.func78 (by kernel_rfl) rfl
theorem did_below {K : Law} {o o' : Own} {w W w' : World} {mb : Nat} {m m' : ManD} {V V' : Nat → BF} {r : Nat} (hb : Below w.heap.size w W) (hlt : OwnLt o w) (d : Did K o W mb m V r o' w' m' V') : Did K o w mb m V r o' w' m' V' :=
  ⟨d.is, d.lt, (Chg.of_below hb _ o).trans d.chg, d.ok, d.hs, d.next, d.waits, d.vars, d.level, d.room, d.nodes, d.val⟩
set_option maxRecDepth 100000 in
set_option maxHeartbeats 1000000 in
theorem var_any {K : Law} (hK : LawOK K) {o : Own} {w : World} {mb : Nat} {m : ManD} {V : Nat → BF} (hm : ManAt (K m.d V) o w mb m) (hlt : OwnLt o w) (hk : ManOK m V) (hn : m.next < 1099511627776) (v : Nat) (hv : v < m.d.vars.length) (hw : m.waits = []) (hroom : m.d.pool.many < m.d.pool.room) :
    Calls Tryz.prog 15 #[.pointer (some ⟨mb, 0, none⟩), .int .i64 v] w fun x w' => x = .returned (.tuple #[.int .i64 m.next, .int .i64 0]) ∧
      ∃ o' m' V' r, Did K o w mb m V r o' w' m' V' ∧ ef V' r = varF v ∧ m'.d.pool.many ≤ m.d.pool.many + 1 := by
  have hmf : ∀ (fn : Fn) (first cap : Array Value) (w : World), (Instr.makeFunc fn first cap).run Tryz.prog w = .ok (.func fn first cap) w := fun _ _ _ _ => rfl
  obtain ⟨w1, hw1⟩ : ∃ w1, w1 = w.alloc (.cells #[.int .i64 (v : Nat)] 3) := ⟨_, rfl⟩
  have hb1 : Below w.heap.size w w1 := by rw [hw1]; exact below_new1 w _
  have hvb : w1.heap[w.heap.size]? = some (.cells #[.int .i64 (v : Nat)] 3 (0, 0)) := by rw [hw1]; exact heap_alloc_new w _
  have cvb : w1.cell? ⟨w.heap.size, 0, none⟩ = some (.int .i64 (v : Nat)) := by rw [cell_of_row _ _ 0 _ _ _ hvb]; rfl
  obtain ⟨s, hms⟩ := hm
  have hm1 := hms.below hlt hb1
  obtain ⟨c0, c1, c2, c3, c4, c5, f0⟩ := cells6 hm1.blk
  obtain ⟨ss, hss⟩ := hm1.store
  have hlz : levelZ m.d v = (levN m.d v : Nat) := levelZ_of (by rw [hss.len]; exact hv)
  have HLV : Hid (∀ n, Calls Tryz.prog 77 #[.pointer (some ⟨s.sb, 0, none⟩), .int .i64 (v : Nat)] (w1.drewN n) fun x w' => x = .returned (.int .i64 (levN m.d v : Nat)) ∧ w1.drewN n = w') := by
    refine Lib.hid fun n => ?_
    have := storeLevelZ (hss.below (hlt.mono hb1.size) (below_draw w1 n)) v (by rw [hss.len]; have := hk.store.small; omega)
    rw [hlz] at this; exact this
  have HDO : Hid (∀ n, Calls Tryz.prog 24 #[.pointer (some ⟨mb, 0, none⟩), .func (.func 78) #[] #[.pointer (some ⟨w.heap.size, 0, none⟩)]] (w1.drewN n) fun x w' => x = .returned (.tuple #[.int .i64 m.next, .int .i64 0]) ∧
      ∃ o' m' V' r, Did K o w mb m V r o' w' m' V' ∧ ef V' r = varF v ∧ m'.d.pool.many ≤ m.d.pool.many + 1) := by
    refine Lib.hid fun n => ?_
    have hbn := below_draw w1 n
    have hb2 : Below w.heap.size w (w1.drewN n) := hb1.trans (hbn.mono hb1.size)
    refine (do_any hK (hlt.mono hb2.size) hk hn _ _ _ enters_var1 (var1_ok hK ⟨s, hms.below hlt hb2⟩ (hlt.mono hb2.size) hk v w.heap.size hv hw hroom cvb)).mono ?_
    rintro x w' ⟨h1, o', m1, m', V', r, hd, _, ⟨hq1, hq2⟩, e1, e2, e3, e4⟩
    exact ⟨h1, o', m', V', r, did_below hb2 hlt hd, hq1, by omega⟩
  have HW : Hid (w.alloc (.cells #[.int .i64 (v : Nat)] 3) = w1) := Lib.hid hw1.symm
  clear hm1 hss hlz hms hb1 hvb hw1 hK hk hlt hn hv hw hroom
  go_enter Tryz.func15, Tryz.ntmps15
  go_upto_region 3 with fail
  rw [HW.out]
  go_quiet (with_reducible exact quiet_of_eq (HLV.out _))
  go_wp2_with fail
  refine (HDO.out _).mono ?_
  rintro x w' ⟨rfl, hd⟩
  have HD := Lib.hid hd
  clear hd
  go_wp2_with fail
  go_ret2
  exact ⟨rfl, HD.out⟩
end Go.Proofs.YtchliiaknmknhaaGreat

-- Hand
namespace Go.Proofs.YtchliiaknmknhaaGreat
open Go.RowKit

theorem zeroEdge (w : World) : (zeroValue 52).run Tryz.prog w = .ok (.int .i64 0) w := by
  have s : (Tryz.prog.info? 52).map (fun i => i.zero) = some (some (.int .i64 0)) := by kernel_rfl
  cases hi : Tryz.prog.info? 52 with
  | none => rw [hi] at s; cases s
  | some i =>
    rw [hi] at s
    simp only [Option.map_some, Option.some.injEq] at s
    simp [zeroValue, typeInfo, hi, s]
theorem encH_nodup {hs : List (Int × Nat)} (h : (hs.map Prod.fst).Nodup) : ((encH hs).map Prod.fst).Nodup := by
  have : (encH hs).map Prod.fst = hs.map Prod.fst := by simp [encH]
  rw [this]; exact h
section
variable {F : Phi} {o : Own} {w : World} {mb : Nat} {m : ManD} {s : ManW}
theorem look_yes (h : ManIn F o w mb m s) (hn : (m.hs.map Prod.fst).Nodup) {k : Int} {f : Nat} (hk : (k, f) ∈ m.hs) :
    (Instr.lookup 101 (.map (some s.hb)) (.int .i64 k) true).run Tryz.prog w = .ok (.tuple #[.int .i64 f, .bool true]) w := by
  have h1 := h.map.lookup kI Tryz.underlying101 zeroEdge k true
  have h2 : getL (encH m.hs) k = some (.int .i64 (f : Nat)) := getL_of_mem (encH_nodup hn) (List.mem_map.2 ⟨(k, f), hk, rfl⟩)
  rw [h1, h2]; rfl
theorem look_no (h : ManIn F o w mb m s) {k : Int} (hk : ∀ f, (k, f) ∉ m.hs) :
    (Instr.lookup 101 (.map (some s.hb)) (.int .i64 k) true).run Tryz.prog w = .ok (.tuple #[.int .i64 0, .bool false]) w := by
  have h1 := h.map.lookup kI Tryz.underlying101 zeroEdge k true
  have h2 : getL (encH m.hs) k = none := getL_none.2 (by
    rintro p hp rfl
    obtain ⟨q, hq, rfl⟩ := List.mem_map.1 hp
    exact hk q.2 hq)
  rw [h1, h2]; rfl
end
set_option maxRecDepth 100000 in
theorem ctxEdge_yes {F : Phi} {o : Own} {w : World} {xb mb : Nat} {m : ManD} (h : ManAt F o w mb m) (hx : CtxAt o w xb mb) (hn : (m.hs.map Prod.fst).Nodup) {k : Int} {f : Nat} (hk : (k, f) ∈ m.hs) :
    Calls Tryz.prog 34 #[.pointer (some ⟨xb, 0, none⟩), .int .i64 k] w fun x w' => x = .returned (.int .i64 f) ∧ w = w' := by
  obtain ⟨s, h⟩ := h
  obtain ⟨c0, c1, c2, c3, c4, c5, f0⟩ := cells6 h.blk
  have cx := hx.cell
  have hl := look_yes h hn hk
  clear h hx hn hk
  go_enter Tryz.func34, Tryz.ntmps34
  go_wp2_with fail
  go_ret
  exact ⟨rfl, rfl⟩
set_option maxRecDepth 100000 in
theorem ctxEdge_no {F : Phi} {o : Own} {w : World} {xb mb : Nat} {m : ManD} (h : ManAt F o w mb m) (hx : CtxAt o w xb mb) {k : Int} (hk : ∀ f, (k, f) ∉ m.hs) :
    Calls Tryz.prog 34 #[.pointer (some ⟨xb, 0, none⟩), .int .i64 k] w fun x w' => x = stopP 8 false ev0 ∧ w = w' := by
  obtain ⟨s, h⟩ := h
  obtain ⟨c0, c1, c2, c3, c4, c5, f0⟩ := cells6 h.blk
  have cx := hx.cell
  have hl := look_no h hk
  clear h hx hk
  go_enter Tryz.func34, Tryz.ntmps34
  go_wp2_with fail
  exact ⟨rfl, rfl, rfl⟩
set_option maxRecDepth 100000 in
theorem same_yes {F : Phi} {o : Own} {w : World} {mb : Nat} {m : ManD} (h : ManAt F o w mb m) (hn : (m.hs.map Prod.fst).Nodup) {k l : Int} {f g : Nat} (hk : (k, f) ∈ m.hs) (hl : (l, g) ∈ m.hs) :
    Calls Tryz.prog 56 #[.pointer (some ⟨mb, 0, none⟩), .int .i64 k, .int .i64 l] w fun x w' => x = .returned (.tuple #[.bool (f == g), .int .i64 0]) ∧ w = w' := by
  obtain ⟨s, h⟩ := h
  obtain ⟨c0, c1, c2, c3, c4, c5, f0⟩ := cells6 h.blk
  have h1 := look_yes h hn hk
  have h2 := look_yes h hn hl
  have HE : Hid (((f : Int) == (g : Int)) = (f == g)) := by
    show ((f : Int) == (g : Int)) = (f == g)
    by_cases e : f = g
    · subst e; rw [beq_self_eq_true, beq_self_eq_true]
    · rw [beq_eq_false_iff_ne.2 (show (f : Int) ≠ g by omega), beq_eq_false_iff_ne.2 e]
  clear h hn hk hl
  go_enter Tryz.func56, Tryz.ntmps56
  go_wp2_with fail
  go_ret2
  exact ⟨by rw [← HE.out]; rfl, rfl⟩
set_option maxRecDepth 100000 in
theorem handles_any {F : Phi} {o : Own} {w : World} {mb : Nat} {m : ManD} (h : ManAt F o w mb m) :
    Calls Tryz.prog 70 #[.pointer (some ⟨mb, 0, none⟩)] w fun x w' => x = .returned (.int .i64 m.hs.length) ∧ w = w' := by
  obtain ⟨s, h⟩ := h
  obtain ⟨c0, c1, c2, c3, c4, c5, f0⟩ := cells6 h.blk
  have hl := h.map.size (P := Tryz.prog) Tryz.underlying101 3
  have e : (encH m.hs).length = m.hs.length := by simp [encH]
  rw [e] at hl
  clear h e
  go_enter Tryz.func70, Tryz.ntmps70
  go_wp2_with fail
  go_ret
  exact ⟨rfl, rfl⟩
end Go.Proofs.YtchliiaknmknhaaGreat

-- ManIte
namespace Go.Proofs.YtchliiaknmknhaaGreat
open Go.RowKit

theorem oper_callR {P : Program} {o : Oper} {a : Act} {w : World} {K : Act → World → Prop} {Q : Exit → Act → World → Prop} {f : FuncId} {args : Array Value} {R : Value → World → Prop} (he : (execOp a.eval o).run P w = .ok (.enter f args) w)
    (hc : Calls P f args w fun e w' => ∃ v, e = .returned v ∧ R v w') (h : ∀ v w', R v w' → K (a.put o.dst v) w') : o.wp P a w K Q := by
  unfold Oper.wp
  simp only [he, Oper.upon]
  exact hc.mono fun e w' ⟨v, h1, h2⟩ => by subst h1; exact h v w' h2
def IteQ (many n f g h : Nat) (m' : ManD) (V' : Nat → BF) (r : Nat) : Prop := IteP m'.d V' f g h r ∧ m'.d.pool.many + 1 ≤ many + 2 ^ n
set_option maxRecDepth 100000 in
set_option maxHeartbeats 1000000 in
theorem ite1_ok {K : Law} (hK : LawOK K) {o : Own} {w : World} {mb : Nat} {m : ManD} {V : Nat → BF} (hm : ManAt (K m.d V) o w mb m) (hlt : OwnLt o w) (hk : ManOK m V) (bf bg bh : Nat) (kf kg kh : Int) (f g h : Nat)
    (hf : (kf, f) ∈ m.hs) (hg : (kg, g) ∈ m.hs) (hh : (kh, h) ∈ m.hs) (hw : m.waits = []) (hroom : m.d.pool.many + 2 ^ m.d.vars.length < m.d.pool.room + 2)
    (cf : w.cell? ⟨bf, 0, none⟩ = some (.int .i64 kf)) (cg : w.cell? ⟨bg, 0, none⟩ = some (.int .i64 kg)) (ch : w.cell? ⟨bh, 0, none⟩ = some (.int .i64 kh)) (of : o bf = none) (og : o bg = none) (oh : o bh = none) :
    OpOk K o w mb m V 80 #[.pointer (some ⟨bf, 0, none⟩), .pointer (some ⟨bg, 0, none⟩), .pointer (some ⟨bh, 0, none⟩)] (IteQ m.d.pool.many m.d.vars.length f g h) := by
  intro W xb hb hx
  obtain ⟨s, hm⟩ := hm
  have hks := hk.store
  have hbd : Below W.heap.size W W.drew := below_draw W 1
  have hb2 : Below w.heap.size w W.drew := hb.trans (hbd.mono hb.size)
  have hmW := hm.below hlt hb2
  have hlW := hlt.mono hb2.size
  have hxW : CtxAt o W.drew xb mb := ⟨(hbd.cell (p := ⟨xb, 0, none⟩) (lt_of_cell hx.cell)).trans hx.cell, hx.own⟩
  have df := (hb2.cell (p := ⟨bf, 0, none⟩) (lt_of_cell cf)).trans cf
  have dg := (hb2.cell (p := ⟨bg, 0, none⟩) (lt_of_cell cg)).trans cg
  have dh := (hb2.cell (p := ⟨bh, 0, none⟩) (lt_of_cell ch)).trans ch
  have HEF := Lib.hid (ctxEdge_yes ⟨s, hmW⟩ hxW hk.handles.nodup hf)
  have HEG := Lib.hid (ctxEdge_yes ⟨s, hmW⟩ hxW hk.handles.nodup hg)
  have HEH := Lib.hid (ctxEdge_yes ⟨s, hmW⟩ hxW hk.handles.nodup hh)
  have HITE := Lib.hid (ctxIte_any hK m.d.vars.length o W.drew xb mb m V f g h ⟨s, hmW⟩ hlW hxW hks (hk.handles.ok _ hf) (hk.handles.ok _ hg) (hk.handles.ok _ hh) (by omega))
  have HFIN : Hid (∀ e w', ItePost K m.d.vars.length o W.drew mb m V f g h e w' → ∃ v, e = .returned v ∧ (w'.cell? ⟨bf, 0, none⟩ = some (.int .i64 kf) ∧ w'.cell? ⟨bg, 0, none⟩ = some (.int .i64 kg) ∧ w'.cell? ⟨bh, 0, none⟩ = some (.int .i64 kh)) ∧
      ∃ (o' : Own) (m' : ManD) (V' : Nat → BF) (r : Nat), v = .int .i64 r ∧ Step K o W mb m V o' w' m' V' ∧ m'.waits = m.waits ∧ okE (nodesOf m'.d) r ∧ IteQ m.d.pool.many m.d.vars.length f g h m' V' r) := by
    refine Lib.hid ?_
    rintro e w' ⟨o', m', V', st, (⟨r, rfl, h1, h2, h3⟩ | ⟨_, _, h2, h3⟩ | ⟨ev, _, h1⟩)⟩
    · refine ⟨_, rfl, ⟨st.chg.cell df of, st.chg.cell dg og, st.chg.cell dh oh⟩, o', m', V', r, rfl, ⟨st.is, st.lt, (Chg.of_below hbd _ o).trans st.chg, st.ok, st.ext, st.hs, st.next⟩, h2, h1.okR, h1, h3⟩
    · have := st.ext.room; omega
    · rw [hw] at h1; cases h1
  clear hm hks hk hx hb hK hroom hw hlt hf hg hh cf cg ch of og oh hb2 hmW hlW hxW hbd
  go_enter Tryz.func80, Tryz.ntmps80
  go_upto_region 1 with fail
  refine wp_region_left (fun W : World => W.cell? ⟨bf, 0, none⟩ = some (.int .i64 kf) ∧ W.cell? ⟨bg, 0, none⟩ = some (.int .i64 kg) ∧ W.cell? ⟨bh, 0, none⟩ = some (.int .i64 kh)) 12 (by kernel_rfl) ⟨df, dg, dh⟩ ?_
  refine left_readE 0 rfl rfl (by kernel_rfl) ?_
  apply Exists.intro
  refine ⟨fun w' hw => ?_, ?_⟩
  · obtain ⟨q1, q2, q3⟩ := hw
    go_simp
    rfl
  simp only [Act.put, List.setIfInBounds_toArray, List.set_cons_zero, List.set_cons_succ]
  refine left_readE 1 rfl rfl (by kernel_rfl) ?_
  apply Exists.intro
  refine ⟨fun w' hw => ?_, ?_⟩
  · obtain ⟨q1, q2, q3⟩ := hw
    go_simp
    rfl
  simp only [Act.put, List.setIfInBounds_toArray, List.set_cons_zero, List.set_cons_succ]
  refine left_readE 2 rfl rfl (by kernel_rfl) ?_
  apply Exists.intro
  refine ⟨fun w' hw => ?_, ?_⟩
  · obtain ⟨q1, q2, q3⟩ := hw
    go_simp
    rfl
  simp only [Act.put, List.setIfInBounds_toArray, List.set_cons_zero, List.set_cons_succ]
  refine left_readE 4 rfl rfl (by kernel_rfl) ?_
  apply Exists.intro
  refine ⟨fun w' hw => ?_, ?_⟩
  · obtain ⟨q1, q2, q3⟩ := hw
    go_simp
    rfl
  simp only [Act.put, List.setIfInBounds_toArray, List.set_cons_zero, List.set_cons_succ]
  refine left_readE 5 rfl rfl (by kernel_rfl) ?_
  apply Exists.intro
  refine ⟨fun w' hw => ?_, ?_⟩
  · obtain ⟨q1, q2, q3⟩ := hw
    go_simp
    rfl
  simp only [Act.put, List.setIfInBounds_toArray, List.set_cons_zero, List.set_cons_succ]
  refine left_readE 7 rfl rfl (by kernel_rfl) ?_
  apply Exists.intro
  refine ⟨fun w' hw => ?_, ?_⟩
  · obtain ⟨q1, q2, q3⟩ := hw
    go_simp
    rfl
  simp only [Act.put, List.setIfInBounds_toArray, List.set_cons_zero, List.set_cons_succ]
  refine left_readE 8 rfl rfl (by kernel_rfl) ?_
  apply Exists.intro
  refine ⟨fun w' hw => ?_, ?_⟩
  · obtain ⟨q1, q2, q3⟩ := hw
    go_simp
    rfl
  simp only [Act.put, List.setIfInBounds_toArray, List.set_cons_zero, List.set_cons_succ]
  refine left_alts [3] (by kernel_rfl) (fun i hi hS o ho => ?_)
  simp only [List.mem_cons, List.not_mem_nil, or_false] at hi
  subst hi
  simp only [List.getElem?_cons_zero, List.getElem?_cons_succ, Option.some.injEq] at ho
  subst ho
  refine ⟨rfl, ?_⟩
  refine oper_call (v := .int .i64 (f : Nat)) (R := fun w' => W.drew = w') (by go_simp) HEF.out ?_
  rintro w' rfl
  refine ⟨⟨df, dg, dh⟩, ?_⟩
  simp only [Act.put, List.setIfInBounds_toArray, List.set_cons_zero, List.set_cons_succ]
  refine left_alts [6] (by kernel_rfl) (fun i hi hS o ho => ?_)
  simp only [List.mem_cons, List.not_mem_nil, or_false] at hi
  subst hi
  simp only [List.getElem?_cons_zero, List.getElem?_cons_succ, Option.some.injEq] at ho
  subst ho
  refine ⟨rfl, ?_⟩
  refine oper_call (v := .int .i64 (g : Nat)) (R := fun w' => W.drew = w') (by go_simp) HEG.out ?_
  rintro w' rfl
  refine ⟨⟨df, dg, dh⟩, ?_⟩
  simp only [Act.put, List.setIfInBounds_toArray, List.set_cons_zero, List.set_cons_succ]
  refine left_alts [9] (by kernel_rfl) (fun i hi hS o ho => ?_)
  simp only [List.mem_cons, List.not_mem_nil, or_false] at hi
  subst hi
  simp only [List.getElem?_cons_zero, List.getElem?_cons_succ, Option.some.injEq] at ho
  subst ho
  refine ⟨rfl, ?_⟩
  refine oper_call (v := .int .i64 (h : Nat)) (R := fun w' => W.drew = w') (by go_simp) HEH.out ?_
  rintro w' rfl
  refine ⟨⟨df, dg, dh⟩, ?_⟩
  simp only [Act.put, List.setIfInBounds_toArray, List.set_cons_zero, List.set_cons_succ]
  refine left_alts [10] (by kernel_rfl) (fun i hi hS o ho => ?_)
  simp only [List.mem_cons, List.not_mem_nil, or_false] at hi
  subst hi
  simp only [List.getElem?_cons_zero, List.getElem?_cons_succ, Option.some.injEq] at ho
  subst ho
  refine ⟨rfl, ?_⟩
  refine oper_callR (R := fun v w' => (w'.cell? ⟨bf, 0, none⟩ = some (.int .i64 kf) ∧ w'.cell? ⟨bg, 0, none⟩ = some (.int .i64 kg) ∧ w'.cell? ⟨bh, 0, none⟩ = some (.int .i64 kh)) ∧
      ∃ (o' : Own) (m' : ManD) (V' : Nat → BF) (r : Nat), v = .int .i64 r ∧ Step K o W mb m V o' w' m' V' ∧ m'.waits = m.waits ∧ okE (nodesOf m'.d) r ∧ IteQ m.d.pool.many m.d.vars.length f g h m' V' r) (by go_simp) (HITE.out.mono HFIN.out) ?_
  rintro v w' ⟨hS, o', m', V', r, rfl, hst⟩
  refine ⟨hS, ?_⟩
  have HST := Lib.hid hst
  clear hst
  simp only [Act.put, List.setIfInBounds_toArray, List.set_cons_zero, List.set_cons_succ]
  refine left_readE 11 rfl rfl (by kernel_rfl) ?_
  apply Exists.intro
  refine ⟨fun w' hw => ?_, ?_⟩
  · go_simp
    rfl
  simp only [Act.put, List.setIfInBounds_toArray, List.set_cons_zero, List.set_cons_succ]
  refine left_end (by kernel_rfl) ?_
  clear hS df dg dh
  go_wp2_with fail
  go_ret
  exact ⟨o', m', V', r, rfl, HST.out⟩
end Go.Proofs.YtchliiaknmknhaaGreat

-- ManIte2
namespace Go.Proofs.YtchliiaknmknhaaGreat
open Go.RowKit

theorem enters_ite1 : ∀ args w, (callFunc 80 args).run Tryz.prog w = .ok (.enter 80 args) w := enters_of Tryz.func80 (by kernel_rfl) rfl
def box3 (a b c : Int) (w : World) : World := ((w.alloc (.cells #[.int .i64 a] 3)).alloc (.cells #[.int .i64 b] 3)).alloc (.cells #[.int .i64 c] 3)
theorem box3_ok (a b c : Int) (w : World) : Below w.heap.size w (box3 a b c w) ∧ (box3 a b c w).cell? ⟨w.heap.size, 0, none⟩ = some (.int .i64 a) ∧ (box3 a b c w).cell? ⟨w.heap.size + 1, 0, none⟩ = some (.int .i64 b) ∧ (box3 a b c w).cell? ⟨w.heap.size + 2, 0, none⟩ = some (.int .i64 c) := by
  have h0 := heap_alloc_new w (.cells #[.int .i64 a] 3)
  have h1 := heap_alloc_new (w.alloc (.cells #[.int .i64 a] 3)) (.cells #[.int .i64 b] 3)
  have h2 := heap_alloc_new ((w.alloc (.cells #[.int .i64 a] 3)).alloc (.cells #[.int .i64 b] 3)) (.cells #[.int .i64 c] 3)
  rw [World.size_alloc] at h1
  rw [World.size_alloc, World.size_alloc] at h2
  have a0 : (box3 a b c w).heap[w.heap.size]? = some (.cells #[.int .i64 a] 3 (0, 0)) := (Go.heap_alloc_old _ _ (by simp; omega)).trans ((Go.heap_alloc_old _ _ (by simp)).trans h0)
  have a1 : (box3 a b c w).heap[w.heap.size + 1]? = some (.cells #[.int .i64 b] 3 (0, 0)) := (Go.heap_alloc_old _ _ (by simp)).trans h1
  have a2 : (box3 a b c w).heap[w.heap.size + 2]? = some (.cells #[.int .i64 c] 3 (0, 0)) := h2
  exact ⟨((below_new1 w _).alloc (by simp) _).alloc (by simp; omega) _, by rw [cell_of_row _ _ 0 _ _ _ a0]; rfl, by rw [cell_of_row _ _ 0 _ _ _ a1]; rfl, by rw [cell_of_row _ _ 0 _ _ _ a2]; rfl⟩
set_option maxRecDepth 100000 in
set_option maxHeartbeats 1000000 in
theorem manIte_any {K : Law} (hK : LawOK K) {o : Own} {w : World} {mb : Nat} {m : ManD} {V : Nat → BF} (hm : ManAt (K m.d V) o w mb m) (hlt : OwnLt o w) (hk : ManOK m V) (hn : m.next < 1099511627776) (kf kg kh : Int) (f g h : Nat)
    (hf : (kf, f) ∈ m.hs) (hg : (kg, g) ∈ m.hs) (hh : (kh, h) ∈ m.hs) (hw : m.waits = []) (hroom : m.d.pool.many + 2 ^ m.d.vars.length < m.d.pool.room + 2) :
    Calls Tryz.prog 18 #[.pointer (some ⟨mb, 0, none⟩), .int .i64 kf, .int .i64 kg, .int .i64 kh] w fun x w' => x = .returned (.tuple #[.int .i64 m.next, .int .i64 0]) ∧
      ∃ o' m' V' r, Did K o w mb m V r o' w' m' V' ∧ (∀ ρ, ef V' r ρ = iteB (ef V' f ρ) (ef V' g ρ) (ef V' h ρ)) ∧ m'.d.pool.many + 1 ≤ m.d.pool.many + 2 ^ m.d.vars.length := by
  have hmf : ∀ (fn : Fn) (first cap : Array Value) (w : World), (Instr.makeFunc fn first cap).run Tryz.prog w = .ok (.func fn first cap) w := fun _ _ _ _ => rfl
  obtain ⟨hb, cf, cg, ch⟩ := box3_ok kf kg kh w
  obtain ⟨s, hms⟩ := hm
  have HDO : Hid (Calls Tryz.prog 24 #[.pointer (some ⟨mb, 0, none⟩), .func (.func 80) #[] #[.pointer (some ⟨w.heap.size, 0, none⟩), .pointer (some ⟨w.heap.size + 1, 0, none⟩), .pointer (some ⟨w.heap.size + 1 + 1, 0, none⟩)]] (box3 kf kg kh w) fun x w' => x = .returned (.tuple #[.int .i64 m.next, .int .i64 0]) ∧
      ∃ o' m' V' r, Did K o w mb m V r o' w' m' V' ∧ (∀ ρ, ef V' r ρ = iteB (ef V' f ρ) (ef V' g ρ) (ef V' h ρ)) ∧ m'.d.pool.many + 1 ≤ m.d.pool.many + 2 ^ m.d.vars.length) := by
    refine Lib.hid ?_
    refine (do_any hK (hlt.mono hb.size) hk hn _ _ _ enters_ite1 (ite1_ok hK ⟨s, hms.below hlt hb⟩ (hlt.mono hb.size) hk _ _ _ kf kg kh f g h hf hg hh hw hroom cf cg ch (hlt.none (Nat.le_refl _)) (hlt.none (by omega)) (hlt.none (by omega)))).mono ?_
    rintro x w' ⟨h1, o', m1, m', V', r, hd, _, ⟨hq1, hq2⟩, e1, e2, e3, e4⟩
    exact ⟨h1, o', m', V', r, did_below hb hlt hd, hq1.val, by omega⟩
  have HW : Hid (_ = box3 kf kg kh w) := Lib.hid (show ((w.alloc (.cells #[.int .i64 kf] 3)).alloc (.cells #[.int .i64 kg] 3)).alloc (.cells #[.int .i64 kh] 3) = box3 kf kg kh w from rfl)
  clear hms hK hk hlt hn hf hg hh hw hroom hb cf cg ch
  go_enter Tryz.func18, Tryz.ntmps18
  go_wp2_with fail
  rw [HW.out]
  refine HDO.out.mono ?_
  rintro x w' ⟨rfl, hd⟩
  have HD := Lib.hid hd
  clear hd
  go_wp2_with fail
  go_ret2
  exact ⟨rfl, HD.out⟩
end Go.Proofs.YtchliiaknmknhaaGreat

-- ManNew
namespace Go.Proofs.YtchliiaknmknhaaGreat
open Go.RowKit

def man0 (n room : Nat) : ManD := ⟨store0 n room, [(0, 1), (1, 0)], 2, [], 0⟩
theorem nodes0 (n room : Nat) : nodesOf (store0 n room) = fun _ => none := by
  funext i
  have ht : (pool0 room).tk i = false := by
    unfold PoolD.tk pool0
    cases i with
    | zero => rfl
    | succ i => rfl
  unfold nodesOf store0 PoolD.get
  simp [ht]
theorem ext0 (n room : Nat) (i : Nat) : extOf (store0 n room) i = 0 := extOf_none (by rw [nodes0])
theorem range_getD (n v : Nat) (h : v < n) : (List.range n).getD v 0 = v := by simp [List.getD, h]
theorem store0_ok (n room : Nat) (hn : n ≤ 64) : StoreOK (store0 n room) (fun _ _ => true) := by
  have hl : ∀ v, v < n → levN (store0 n room) v = v := fun v hv => range_getD n v hv
  have hlen : (store0 n room).vars.length = n := by simp [store0]
  have hno : ∀ i b, nodesOf (store0 n room) i = some b → False := fun i b h => by rw [nodes0] at h; cases h
  refine ⟨⟨fun _ => rfl, by rw [nodes0], fun i b h => (hno i b h).elim, fun u v hu hv e => ?_, fun v hv => ?_, fun i b h => (hno i b h).elim, fun i b h => (hno i b h).elim, fun i b h => (hno i b h).elim, fun i b h => (hno i b h).elim, fun i b h => (hno i b h).elim, fun i b h => (hno i b h).elim, fun i j b h => (hno i b h).elim, fun i b h => (hno i b h).elim⟩,
    ?_, fun v hv lo hi id => ⟨fun h => absurd (show (none : Option Nat) = some id from h) (by simp), fun h => (hno _ _ h).elim⟩, by simp [store0], by rw [hlen]; exact hn, fun v hv => ?_, fun i hi => ?_⟩
  · rw [hlen] at hu hv; rw [hl u hu, hl v hv] at e; exact e
  · rw [hlen] at hv ⊢; rw [hl v hv]; exact hv
  · refine ⟨⟨fun i b h => (hno i b h).elim, fun i b h => (hno i b h).elim⟩, ?_, fun i b h => (hno i b h).elim⟩
    have h1 : deadN (store0 n room).pool.at_.length (nodesOf (store0 n room)) (cntOf (store0 n room)) = sumTo (store0 n room).pool.at_.length (dead1 (nodesOf (store0 n room)) (cntOf (store0 n room))) := rfl
    rw [h1, nodes0]
    have h2 : dead1 (fun _ => none) (cntOf (store0 n room)) 0 = 0 := rfl
    show (0 : Int) = sumTo 1 _
    simp [sumTo, h2]
  · rw [hlen] at hv; rw [hl v hv]; exact range_getD n v hv
  · rw [hlen] at hi ⊢
    have e : (store0 n room).vars.getD i 0 = i := range_getD n i hi
    rw [e]; exact ⟨hi, hl i hi⟩
theorem man0_ok (n room : Nat) (hn : n ≤ 64) : ManOK (man0 n room) (fun _ _ => true) :=
  ⟨store0_ok n room hn, ⟨by simp [man0], by simp [man0], by simp [man0], by simp [man0], by simp [man0], fun p hp => by simp [man0] at hp; rcases hp with rfl | rfl <;> exact .inl rfl, by simp [man0], fun i b h => by rw [show (man0 n room).d = store0 n room from rfl, nodes0] at h; cases h⟩⟩
/-- The law of a table that holds Ite's answers alone. -/
def iteLaw : Law := fun d V op a b c r => op = 1 → IteP d V a b c r
theorem iteLaw_ok : LawOK iteLaw := ⟨fun d V a b c r => ⟨fun h => h rfl, fun h _ => h⟩, fun d V d' V' op a b c r hk hk' x h e => (h e).ext x hk hk', fun d d' V op a b c r h1 h2 h3 h e => by
  have q := h e
  have hl : levN d' = levN d := by funext v; unfold levN; rw [h2]
  have hm : minL d' a b c = minL d a b c := by unfold minL; rw [h1, hl, h3]
  exact ⟨by rw [h3]; exact q.okA, by rw [h3]; exact q.okB, by rw [h3]; exact q.okC, by rw [h3]; exact q.okR, q.val, by rw [hm, h1, hl, h3]; exact q.lev⟩⟩
set_option maxRecDepth 100000 in
set_option maxHeartbeats 1000000 in
theorem new_man {F : Phi} (o : Own) (n room : Nat) (w : World) (hlt : OwnLt o w) (hn : n ≤ 64) (h1 : 1 ≤ room) (h2 : room ≤ 1048576) :
    Calls Tryz.prog 14 #[.int .i64 n, .int .i64 room] w fun x w' => ∃ mb o', x = .returned (.tuple #[.pointer (some ⟨mb, 0, none⟩), .int .i64 0]) ∧ ManAt F o' w' mb (man0 n room) ∧ Chg (fun _ => True) o o' w w' ∧ OwnLt o' w' ∧ w.heap.size ≤ mb := by
  have HS := Lib.hid (new_store o n room w hlt hn h1 h2)
  clear hlt hn h1 h2
  go_enter Tryz.func14, Tryz.ntmps14
  go_wp2_with fail
  refine HS.out.mono ?_
  rintro x w1 ⟨sb, o1, rfl, hst, hc1, hl1, hsb⟩
  have HST := Lib.hid hst
  have HC1 := Lib.hid hc1
  have HL1 := Lib.hid hl1
  clear hst hc1 hl1
  have hmk := makeMap_run (P := Tryz.prog) w1 101
  obtain ⟨wA, hrA, hmA, hgA⟩ := (mapIs_new w1 (Value.int .i64)).update (P := Tryz.prog) kI Tryz.underlying101 0 (.int .i64 1)
  obtain ⟨wB, hrB, hmB, hgB⟩ := hmA.update (P := Tryz.prog) kI Tryz.underlying101 1 (.int .i64 0)
  have hl0 := HL1.out.allocR (.map #[] 0) .handles
  have hcB : Chg (fun _ => True) o (ownAt o1 w1.heap.size .handles) w wB :=
    ((HC1.out.any.allocR (r := .handles) HL1.out (.map #[] 0) trivial).grown hgA (fun g hg => by cases hg; exact ⟨_, ownAt_same _ _ _, trivial⟩)).grown hgB (fun g hg => by cases hg; exact ⟨_, ownAt_same _ _ _, trivial⟩)
  have hlB : OwnLt (ownAt o1 w1.heap.size .handles) wB := hl0.mono (Nat.le_trans hgA.size hgB.size)
  have hne : ∀ g r, o1 g = some r → g ≠ w1.heap.size := fun g r hg e => by have := HL1.out g r hg; omega
  have hkeep : ∀ g r, o1 g = some r → wB.heap[g]? = w1.heap[g]? := fun g r hg => by
    have a0 := HL1.out g r hg
    have a1 : g < (w1.alloc (.map #[] 0)).heap.size := by simp; omega
    rw [hgB.block g (Nat.lt_of_lt_of_le a1 hgA.size) (by intro e; cases e; exact hne _ _ hg rfl), hgA.block g a1 (by intro e; cases e; exact hne _ _ hg rfl)]
    exact Go.heap_alloc_old _ _ a0
  have HSB := Lib.hid (HST.out.keepR (o' := ownAt o1 w1.heap.size .handles) (fun g r hg _ => hkeep g r hg) (fun g r hg => ownAt_old HL1.out (Nat.le_refl _) hg))
  have HMB : Hid (MapIs wB w1.heap.size (Value.int .i64) [(0, .int .i64 1), (1, .int .i64 0)]) := Lib.hid hmB
  have HCB := Lib.hid hcB
  have HLB := Lib.hid hlB
  have HME := Lib.hid (new_memo (ownAt o1 w1.heap.size .handles) F wB hlB)
  have hgs : w1.heap.size < wB.heap.size := hmB.lt
  clear hmA hgA hmB hgB hl0 hcB hlB hne hkeep
  go_wp2_with fail
  refine HME.out.mono ?_
  rintro x w2 ⟨me, o2, rfl, hme, hc2, hl2, hge⟩
  have hst2 := HSB.out.keepR (o' := o2) (w' := w2) (fun g r hg hr => hc2.same HLB.out hg (by rintro rfl; simp [RStore, RPool] at hr)) hc2.ext
  have hmap2 := HMB.out.keepB (hc2.same HLB.out (ownAt_same o1 w1.heap.size .handles) (by simp))
  have hoh := hc2.ext _ _ (ownAt_same o1 w1.heap.size .handles)
  have HF : Hid (∀ w3, w3 = w2.alloc (.cells #[.pointer (some ⟨sb, 0, none⟩), .pointer (some ⟨me, 0, none⟩), .map (some w1.heap.size), .int .i64 2, .slice none 0 0, .int .i64 0] 105) → ManAt F (ownAt o2 w2.heap.size .man) w3 w2.heap.size (man0 n room) ∧ Chg (fun _ => True) o (ownAt o2 w2.heap.size .man) w w3 ∧ OwnLt (ownAt o2 w2.heap.size .man) w3 ∧ w.heap.size ≤ w2.heap.size) := by
    refine Lib.hid ?_
    rintro w3 rfl
    have hk3 : ∀ g r, o2 g = some r → (w2.alloc (.cells #[.pointer (some ⟨sb, 0, none⟩), .pointer (some ⟨me, 0, none⟩), .map (some w1.heap.size), .int .i64 2, .slice none 0 0, .int .i64 0] 105)).heap[g]? = w2.heap[g]? := fun g r hg => Go.heap_alloc_old _ _ (hl2 g r hg)
    have ho3 : ∀ g r, o2 g = some r → ownAt o2 w2.heap.size .man g = some r := fun g r hg => ownAt_old hl2 (Nat.le_refl _) hg
    exact ⟨⟨⟨sb, me, w1.heap.size, .slice none 0 0⟩, ownAt_same _ _ _, heap_alloc_new w2 _, hst2.keepR (fun g r hg _ => hk3 g r hg) ho3, hme.keep (fun g r hg _ => hk3 g r hg) ho3, ho3 _ _ hoh, hmap2.keepB (hk3 _ _ hoh), WaitsAt.nil _ _⟩,
      (HCB.out.trans hc2.any).allocR hl2 _ trivial, hl2.allocR _ _, (HCB.out.trans hc2.any).size⟩
  clear hst2 hmap2 hoh hme hc2 hl2
  go_wp2_with fail
  go_ret2
  obtain ⟨a1, a2, a3, a4⟩ := HF.out _ rfl
  exact ⟨_, _, rfl, a1, a2, a3, a4⟩
end Go.Proofs.YtchliiaknmknhaaGreat

-- ManSmall
namespace Go.Proofs.YtchliiaknmknhaaGreat
open Go.RowKit

section
variable {F : Phi} {o : Own} {w : World} {sb mb : Nat} {d : StoreD} {m : ManD}
set_option maxRecDepth 100000 in
theorem storeVars_any (h : StoreAt o w sb d) : Calls Tryz.prog 104 #[.pointer (some ⟨sb, 0, none⟩)] w fun x w' => x = .returned (.int .i64 d.vars.length) ∧ w = w' := by
  obtain ⟨s, h⟩ := h
  obtain ⟨c0, c1, c2, c3, c4, f0⟩ := cells5 h.blk
  obtain ⟨d0, d1, _⟩ := cells2 h.lev
  obtain ⟨a, cap, hv, _⟩ := h.vars.slice
  rw [hv] at d0
  clear h hv
  go_enter Tryz.func104, Tryz.ntmps104
  go_wp2_with fail
  go_ret
  exact ⟨rfl, rfl⟩
set_option maxRecDepth 100000 in
theorem storeRoom_any (h : StoreAt o w sb d) : Calls Tryz.prog 105 #[.pointer (some ⟨sb, 0, none⟩)] w fun x w' => x = .returned (.int .i64 d.pool.room) ∧ w = w' := by
  obtain ⟨s, h⟩ := h
  obtain ⟨c0, c1, c2, c3, c4, f0⟩ := cells5 h.blk
  have HP := Lib.hid (poolRoom_any o s.pb d.pool w h.pool)
  clear h
  go_enter Tryz.func105, Tryz.ntmps105
  go_wp2_with fail
  refine HP.out.mono ?_
  rintro x w' ⟨rfl, rfl⟩
  go_wp2_with fail
  go_ret
  exact ⟨rfl, rfl⟩
set_option maxRecDepth 100000 in
theorem storeLen_any (h : StoreAt o w sb d) : Calls Tryz.prog 81 #[.pointer (some ⟨sb, 0, none⟩)] w fun x w' => x = .returned (.int .i64 d.pool.many) ∧ w = w' := by
  obtain ⟨s, h⟩ := h
  obtain ⟨c0, c1, c2, c3, c4, f0⟩ := cells5 h.blk
  have HP := Lib.hid (poolLen_any o s.pb d.pool w h.pool)
  clear h
  go_enter Tryz.func81, Tryz.ntmps81
  go_wp2_with fail
  refine HP.out.mono ?_
  rintro x w' ⟨rfl, rfl⟩
  go_wp2_with fail
  go_ret
  exact ⟨rfl, rfl⟩
set_option maxRecDepth 100000 in
theorem manVars_any (h : ManAt F o w mb m) : Calls Tryz.prog 51 #[.pointer (some ⟨mb, 0, none⟩)] w fun x w' => x = .returned (.int .i64 m.d.vars.length) ∧ w = w' := by
  obtain ⟨s, h⟩ := h
  obtain ⟨c0, c1, c2, c3, c4, c5, f0⟩ := cells6 h.blk
  have HP := Lib.hid (storeVars_any h.store)
  clear h
  go_enter Tryz.func51, Tryz.ntmps51
  go_wp2_with fail
  refine HP.out.mono ?_
  rintro x w' ⟨rfl, rfl⟩
  go_wp2_with fail
  go_ret
  exact ⟨rfl, rfl⟩
set_option maxRecDepth 100000 in
theorem manRoom_any (h : ManAt F o w mb m) : Calls Tryz.prog 52 #[.pointer (some ⟨mb, 0, none⟩)] w fun x w' => x = .returned (.int .i64 m.d.pool.room) ∧ w = w' := by
  obtain ⟨s, h⟩ := h
  obtain ⟨c0, c1, c2, c3, c4, c5, f0⟩ := cells6 h.blk
  have HP := Lib.hid (storeRoom_any h.store)
  clear h
  go_enter Tryz.func52, Tryz.ntmps52
  go_wp2_with fail
  refine HP.out.mono ?_
  rintro x w' ⟨rfl, rfl⟩
  go_wp2_with fail
  go_ret
  exact ⟨rfl, rfl⟩
set_option maxRecDepth 100000 in
theorem manLen_any (h : ManAt F o w mb m) : Calls Tryz.prog 22 #[.pointer (some ⟨mb, 0, none⟩)] w fun x w' => x = .returned (.int .i64 m.d.pool.many) ∧ w = w' := by
  obtain ⟨s, h⟩ := h
  obtain ⟨c0, c1, c2, c3, c4, c5, f0⟩ := cells6 h.blk
  have HP := Lib.hid (storeLen_any h.store)
  clear h
  go_enter Tryz.func22, Tryz.ntmps22
  go_wp2_with fail
  refine HP.out.mono ?_
  rintro x w' ⟨rfl, rfl⟩
  go_wp2_with fail
  go_ret
  exact ⟨rfl, rfl⟩
end
end Go.Proofs.YtchliiaknmknhaaGreat

-- Eval
namespace Go.Proofs.YtchliiaknmknhaaGreat
open Go.RowKit

structure BoolsAt (w : World) (a : Option Addr) (bs : List Bool) : Prop where
  len : bs.length ≤ 1000000
  cells : ∀ k, k < bs.length → ∃ b off, a = some ⟨b, off, none⟩ ∧ w.cell? ⟨b, off + k, none⟩ = some (.bool (bs.getD k false))
theorem BoolsAt.below {w w' : World} {a : Option Addr} {bs : List Bool} (h : BoolsAt w a bs) (hb : Below w.heap.size w w') : BoolsAt w' a bs :=
  ⟨h.len, fun k hk => by
    obtain ⟨b, off, rfl, hc⟩ := h.cells k hk
    exact ⟨b, off, rfl, (hb.cell (p := ⟨b, off + k, none⟩) (lt_of_cell hc)).trans hc⟩⟩
def envOf (bs : List Bool) : Nat → Bool := fun v => bs.getD v false
set_option maxRecDepth 100000 in
set_option maxHeartbeats 2000000 in
theorem eval_yes {F : Phi} {o : Own} {w : World} {mb : Nat} {m : ManD} {V : Nat → BF} (h : ManAt F o w mb m) (hlt : OwnLt o w) (hk : ManOK m V) {k : Int} {f : Nat} (hkf : (k, f) ∈ m.hs) (a : Option Addr) (c : Nat) (bs : List Bool) (hbs : BoolsAt w a bs) :
    Calls Tryz.prog 58 #[.pointer (some ⟨mb, 0, none⟩), .int .i64 k, .slice a bs.length c] w fun x w' => x = .returned (.tuple #[.bool (ef V f (envOf bs)), .int .i64 0]) ∧ Below w.heap.size w w' := by
  obtain ⟨s, h⟩ := h
  obtain ⟨c0, c1, c2, c3, c4, c5, f0⟩ := cells6 h.blk
  have hlk := look_yes h hk.handles.nodup hkf
  have HM := Lib.hid h
  have HLT := Lib.hid hlt
  have HK := Lib.hid hk.store
  have HOKF := Lib.hid (hk.handles.ok _ hkf)
  have HBS := Lib.hid hbs
  have hbl := hbs.len
  clear h hlt hk hkf hbs
  go_enter Tryz.func58, Tryz.ntmps58
  go_wp2_with fail
  go_loopg [8] (m.d.vars.length - lvE m.d.vars.length (levN m.d) (nodesOf m.d) f) (fun gk s8 wx => ∃ e : Nat, s8 = .int .i64 e ∧ okE (nodesOf m.d) e ∧ ef V e (envOf bs) = ef V f (envOf bs) ∧ Below w.heap.size w wx ∧ gk = m.d.vars.length - lvE m.d.vars.length (levN m.d) (nodesOf m.d) e)
  case atStart => exact ⟨f, rfl, HOKF.out, rfl, Below.refl _ _, rfl⟩
  case round =>
    obtain ⟨e, rfl, hok, hev, hB, hgk⟩ := hrel
    clear c0 c1 c2 c3 c4 c5 f0 hlk
    have hm := HM.out.below HLT.out hB
    obtain ⟨c0, c1, c2, c3, c4, c5, f0⟩ := cells6 hm.blk
    have hel : e < eMax := by
      obtain ⟨ss, hss⟩ := hm.store
      have := hss.edge_lt hok; unfold eMax; omega
    have HC := Lib.hid (fun W => const_any e W hel)
    have HA := Lib.hid (storeAt_ok hm.store (HLT.out.mono hB.size) HK.out e hok)
    have HEV := Lib.hid hev
    have HB := Lib.hid hB
    have HGK := Lib.hid hgk
    clear hm hel hev hB hgk
    cases hb : nodesOf m.d (e / 2) with
    | none =>
      have h0 : e / 2 = 0 := by
        rcases hok with h | ⟨b, hb'⟩
        · exact h
        · rw [hb] at hb'; cases hb'
      have he : decide (enode e = 0) = true := by simp [enode, h0]
      rw [he] at HC
      have HR : Hid (ef V f (envOf bs) = ((e : Int) == 0)) := by
        show _ = _
        rw [← HEV.out]
        have h1 := HK.out.dag.one (envOf bs)
        have h2 : e = 0 ∨ e = 1 := by omega
        rcases h2 with rfl | rfl <;> simp [ef, h1]
      clear hok hb h0 he
      go_wp2_with fail
      refine (HC.out _).mono ?_
      rintro x w' ⟨rfl, rfl⟩
      go_wp2_with fail
      go_ret2
      exact ⟨by rw [HR.out]; rfl, HB.out⟩
    | some b =>
      have hbv := HK.out.dag.var _ _ hb
      have hlv : lvE m.d.vars.length (levN m.d) (nodesOf m.d) e = levN m.d b.v := by unfold lvE; rw [hb]
      have hco := cofs_ok HK.out hok hbv (by rw [hlv]; exact Nat.le_refl _)
      have hcf : cofs m.d e b.v = (eflip b.lo (eneg e), eflip b.hi (eneg e)) := by unfold cofs; rw [hb]; simp
      rw [hcf] at hco
      obtain ⟨k1, k2, k3, k4, k5⟩ := hco
      have k5 := k5 (envOf bs)
      dsimp only at k1 k2 k3 k4 k5
      have hlt2 := HK.out.dag.lt _ hbv
      have hne : decide (enode e = 0) = false := by
        have : enode e ≠ 0 := by rintro h0; have h1 : e / 2 = 0 := h0; rw [h1, HK.out.dag.none0] at hb; cases hb
        simp [this]
      rw [hne] at HC
      unfold atV at HA
      rw [hb] at HA
      obtain ⟨L, hL⟩ : ∃ L, L = eflip b.lo (eneg e) := ⟨_, rfl⟩
      obtain ⟨H, hH⟩ : ∃ H, H = eflip b.hi (eneg e) := ⟨_, rfl⟩
      rw [← hL, ← hH] at k5
      rw [← hL] at k1 k3
      rw [← hH] at k2 k4
      dsimp only at HA
      rw [← hL, ← hH] at HA
      rw [hlv] at HGK
      have HK1 := Lib.hid k1
      have HK2 := Lib.hid k2
      have HK3 := Lib.hid k3
      have HK4 := Lib.hid k4
      have HK5 := Lib.hid k5
      have HL2 := Lib.hid hlt2
      clear hok hb hbv hlv hcf k1 k2 k3 k4 k5 hlt2 hne hL hH
      go_wp2_with fail
      refine (HC.out _).mono ?_
      rintro x w' ⟨rfl, rfl⟩
      go_wp2_with fail
      refine HA.out.mono ?_
      rintro x w2 ⟨rfl, hb2⟩
      have HB2 := Lib.hid (HB.out.trans (hb2.mono HB.out.size))
      clear hb2 c0 c1 c2 c3 c4 c5 f0
      by_cases hv : b.v < bs.length
      · obtain ⟨b0, off, ha, hcell⟩ := (HBS.out.below HB2.out).cells b.v hv
        subst ha
        have hv' : (b.v : Int) < bs.length := by omega
        have hx : envOf bs b.v = bs.getD b.v false := rfl
        rw [← hx] at hcell
        cases hxx : envOf bs b.v with
        | true =>
          rw [hxx] at hcell HK5
          clear hxx hx
          go_wp2_with fail
          go_roundg (m.d.vars.length - lvE m.d.vars.length (levN m.d) (nodesOf m.d) H)
          case rel => exact ⟨H, rfl, HK2.out, by rw [← HEV.out, HK5.out]; rfl, HB2.out, rfl⟩
          case measure => have h1 := HGK.out; have h2 := HK4.out; have h3 := HL2.out; omega
        | false =>
          rw [hxx] at hcell HK5
          clear hxx hx
          go_wp2_with fail
          go_roundg (m.d.vars.length - lvE m.d.vars.length (levN m.d) (nodesOf m.d) L)
          case rel => exact ⟨L, rfl, HK1.out, by rw [← HEV.out, HK5.out]; rfl, HB2.out, rfl⟩
          case measure => have h1 := HGK.out; have h2 := HK3.out; have h3 := HL2.out; omega
      · have hv' : ¬ (b.v : Int) < bs.length := by omega
        have hx : envOf bs b.v = false := by unfold envOf; simp [List.getD, List.getElem?_eq_none (Nat.le_of_not_lt hv)]
        rw [hx] at HK5
        clear hx
        go_wp2_with fail
        go_roundg (m.d.vars.length - lvE m.d.vars.length (levN m.d) (nodesOf m.d) L)
        case rel => exact ⟨L, rfl, HK1.out, by rw [← HEV.out, HK5.out]; rfl, HB2.out, rfl⟩
        case measure => have h1 := HGK.out; have h2 := HK3.out; have h3 := HL2.out; omega
end Go.Proofs.YtchliiaknmknhaaGreat

-- NewBad
namespace Go.Proofs.YtchliiaknmknhaaGreat
open Go.RowKit
set_option maxRecDepth 100000 in
theorem newStore_vars (v room : Int) (w : World) (h : v < 0 ∨ 64 < v) : Calls Tryz.prog 75 #[.int .i64 v, .int .i64 room] w fun x w' => x = .returned (.tuple #[.pointer none, .int .i64 2]) ∧ w = w' := by
  rcases h with h | h
  · go_enter Tryz.func75, Tryz.ntmps75
    go_wp2_with fail
    go_ret2
    exact ⟨rfl, rfl⟩
  · have h0 : ¬ v < 0 := by omega
    go_enter Tryz.func75, Tryz.ntmps75
    go_wp2_with fail
    go_ret2
    exact ⟨rfl, rfl⟩
set_option maxRecDepth 100000 in
theorem newPool_bad (room : Int) (w : World) (h : room < 1 ∨ 1048576 < room) : Calls Tryz.prog 113 #[.int .i64 room] w fun x w' => x = .returned (.tuple #[.pointer none, .int .i64 2]) ∧ w = w' := by
  rcases h with h | h
  · go_enter Tryz.func113, Tryz.ntmps113
    go_wp2_with fail
    go_ret2
    exact ⟨rfl, rfl⟩
  · have h0 : ¬ room < 1 := by omega
    go_enter Tryz.func113, Tryz.ntmps113
    go_wp2_with fail
    go_ret2
    exact ⟨rfl, rfl⟩
set_option maxRecDepth 100000 in
theorem newStore_room (v room : Int) (w : World) (h0 : 0 ≤ v) (h1 : v ≤ 64) (h : room < 1 ∨ 1048576 < room) : Calls Tryz.prog 75 #[.int .i64 v, .int .i64 room] w fun x w' => x = .returned (.tuple #[.pointer none, .int .i64 2]) ∧ w = w' := by
  have HP := Lib.hid (newPool_bad room w h)
  clear h
  go_enter Tryz.func75, Tryz.ntmps75
  go_wp2_with fail
  refine HP.out.mono ?_
  rintro x w' ⟨rfl, rfl⟩
  go_wp2_with fail
  go_ret2
  exact ⟨rfl, rfl⟩
set_option maxRecDepth 100000 in
theorem newMan_bad (v room : Int) (w : World) (h : v < 0 ∨ 64 < v ∨ room < 1 ∨ 1048576 < room) : Calls Tryz.prog 14 #[.int .i64 v, .int .i64 room] w fun x w' => x = .returned (.tuple #[.pointer none, .int .i64 2]) ∧ w = w' := by
  have HP : Hid (Calls Tryz.prog 75 #[.int .i64 v, .int .i64 room] w fun x w' => x = .returned (.tuple #[.pointer none, .int .i64 2]) ∧ w = w') := by
    refine Lib.hid ?_
    by_cases h1 : v < 0 ∨ 64 < v
    · exact newStore_vars v room w h1
    · exact newStore_room v room w (by omega) (by omega) (by omega)
  clear h
  go_enter Tryz.func14, Tryz.ntmps14
  go_wp2_with fail
  refine HP.out.mono ?_
  rintro x w' ⟨rfl, rfl⟩
  go_wp2_with fail
  go_ret2
  exact ⟨rfl, rfl⟩
end Go.Proofs.YtchliiaknmknhaaGreat

-- Order
namespace Go.Proofs.YtchliiaknmknhaaGreat
open Go.RowKit

theorem intsAt_row {o : Own} {w : World} {r : Role} {a : Option Addr} {cap : Nat} {xs : List Nat} (h : RowR o w r 3 1 (.slice a xs.length cap) xs.length (xs.map nat64)) (hl : xs.length ≤ 1000000) : IntsAt w a (xs.map Int.ofNat) := by
  refine ⟨by simp; omega, fun k hk => ?_⟩
  simp only [List.length_map] at hk
  obtain ⟨g, cap', he, _⟩ := h.shape (by omega)
  cases he
  refine ⟨g, 0, rfl, ?_⟩
  have h1 := h.cell k (by simpa using hk)
  rw [Nat.zero_add, h1, at0_eq (by simpa using hk)]
  simp [nat64, hk]
set_option maxRecDepth 100000 in
set_option maxHeartbeats 1000000 in
theorem storeOrder_any {o : Own} {w : World} {sb : Nat} {d : StoreD} (h : StoreAt o w sb d) (hlt : OwnLt o w) (hl : d.vars.length ≤ 64) :
    Calls Tryz.prog 97 #[.pointer (some ⟨sb, 0, none⟩)] w fun x w' => ∃ v, x = .returned v ∧ OwnI w' w.heap.size v (d.vars.map Int.ofNat) ∧ Below w.heap.size w w' := by
  obtain ⟨s, h⟩ := h
  obtain ⟨c0, c1, c2, c3, c4, f0⟩ := cells5 h.blk
  obtain ⟨d0, d1, _⟩ := cells2 h.lev
  have lsb : sb < w.heap.size := lt_of_cell c0
  have llb : s.lb < w.heap.size := lt_of_cell d0
  obtain ⟨a, cap, hv, _, _, hnil, _⟩ := h.vars.slice
  have hrow := h.vars
  rw [hv] at d0 hrow
  have HI := Lib.hid (intsAt_row hrow (by omega))
  have HN := Lib.hid hnil
  have e : d.vars.length = (d.vars.map Int.ofNat).length := by simp
  rw [e] at d0
  have hl' : (d.vars.map Int.ofNat).length ≤ 64 := by rw [← e]; exact hl
  generalize d.vars.map Int.ofNat = zs at *
  clear h hv hrow e hnil hl
  go_enter Tryz.func97, Tryz.ntmps97
  go_wp2_with (at_builtin; refine wpList_appAll rfl _ _ rfl w.heap.size w _ [] zs _ _ rfl rfl (ownI_new w w.heap.size (Nat.le_refl _)) (HI.out.below (below_new1 _ _)) (by simp; omega) (by simp) (below_new1 _ _) HN.out ?_; intro v1 w1 hown1 hbel1 hsz1 hkb1)
  go_ret
  exact ⟨_, rfl, by simpa using hown1, hbel1⟩
set_option maxRecDepth 100000 in
theorem manOrder_any {F : Phi} {o : Own} {w : World} {mb : Nat} {m : ManD} (h : ManAt F o w mb m) (hlt : OwnLt o w) (hl : m.d.vars.length ≤ 64) :
    Calls Tryz.prog 42 #[.pointer (some ⟨mb, 0, none⟩)] w fun x w' => ∃ v, x = .returned v ∧ OwnI w' w.heap.size v (m.d.vars.map Int.ofNat) ∧ Below w.heap.size w w' := by
  obtain ⟨s, h⟩ := h
  obtain ⟨c0, c1, c2, c3, c4, c5, f0⟩ := cells6 h.blk
  have HP := Lib.hid (storeOrder_any h.store hlt hl)
  clear h hlt hl
  go_enter Tryz.func42, Tryz.ntmps42
  go_wp2_with fail
  refine HP.out.mono ?_
  rintro x w' ⟨v, rfl, h1, h2⟩
  have H1 := Lib.hid h1
  have H2 := Lib.hid h2
  clear h1 h2
  go_wp2_with fail
  go_ret
  exact ⟨v, rfl, H1.out, H2.out⟩
end Go.Proofs.YtchliiaknmknhaaGreat

-- Sat
namespace Go.Proofs.YtchliiaknmknhaaGreat
open Go.RowKit

/-- What is known of a manager that has waiting events none: the functions of its handles. -/
structure SatI (n room : Nat) (w0 : World) (mb : Nat) (fs : List (Int × BF)) (many : Nat) (w : World) (o : Own) (m : ManD) (V : Nat → BF) : Prop where
  is : ManAt (iteLaw m.d V) o w mb m
  lt : OwnLt o w
  ok : ManOK m V
  vars : m.d.vars.length = n
  room : m.d.pool.room = room
  many : m.d.pool.many ≤ many
  waits : m.waits = []
  next : m.next = fs.length
  hs : m.hs.map (fun p => (p.1, ef V p.2)) = fs
  chg : Chg (fun _ => True) (fun _ => none) o w0 w
def Sat (n room : Nat) (w0 : World) (mb : Nat) (fs : List (Int × BF)) (many : Nat) (w : World) : Prop := ∃ o m V, SatI n room w0 mb fs many w o m V
section
variable {n room : Nat} {w0 w : World} {mb : Nat} {fs : List (Int × BF)} {many : Nat}
theorem Sat.below {w' : World} (h : Sat n room w0 mb fs many w) (hb : Below w.heap.size w w') : Sat n room w0 mb fs many w' := by
  obtain ⟨o, m, V, h⟩ := h
  obtain ⟨s, hs⟩ := h.is
  exact ⟨o, m, V, ⟨s, hs.below h.lt hb⟩, h.lt.mono hb.size, h.ok, h.vars, h.room, h.many, h.waits, h.next, h.hs, h.chg.trans (Chg.of_below hb _ o)⟩
theorem SatI.find {o : Own} {m : ManD} {V : Nat → BF} (h : SatI n room w0 mb fs many w o m V) {k : Int} {F : BF} (hk : (k, F) ∈ fs) : ∃ f, (k, f) ∈ m.hs ∧ ef V f = F := by
  rw [← h.hs] at hk
  obtain ⟨p, hp, e⟩ := List.mem_map.1 hk
  cases e
  exact ⟨p.2, hp, rfl⟩
theorem SatI.grow {o o' : Own} {m m' : ManD} {V V' : Nat → BF} {w' : World} {r : Nat} (h : SatI n room w0 mb fs many w o m V) (d : Did iteLaw o w mb m V r o' w' m' V') {F : BF} {many' : Nat} (hF : ef V' r = F) (hm : m'.d.pool.many ≤ many') :
    Sat n room w0 mb (fs ++ [(((fs.length : Nat) : Int), F)]) many' w' := by
  refine ⟨o', m', V', d.is, d.lt, d.ok, by rw [d.vars]; exact h.vars, by rw [d.room]; exact h.room, hm, d.waits.trans h.waits, by rw [d.next, h.next]; simp, ?_, h.chg.trans d.chg⟩
  rw [d.hs, List.map_append, ← h.next, ← h.hs]
  congr 1
  · refine List.map_congr_left fun p hp => ?_
    have := h.ok.handles.ok p hp
    have e : ef V' p.2 = ef V p.2 := by
      funext ρ
      unfold ef
      rw [d.val (p.2 / 2) this]
    rw [e]
  · simp [hF]
theorem Sat.var (h : Sat n room w0 mb fs many w) (v : Nat) (hv : v < n) (hr : many < room) (hl : fs.length < 1000000) :
    Calls Tryz.prog 15 #[.pointer (some ⟨mb, 0, none⟩), .int .i64 v] w fun x w' => x = .returned (.tuple #[.int .i64 (fs.length : Nat), .int .i64 0]) ∧ Sat n room w0 mb (fs ++ [(((fs.length : Nat) : Int), varF v)]) (many + 1) w' := by
  obtain ⟨o, m, V, h⟩ := h
  have hm := h.many
  refine (var_any iteLaw_ok h.is h.lt h.ok (by rw [h.next]; omega) v (by rw [h.vars]; exact hv) h.waits (by rw [h.room]; omega)).mono ?_
  rintro x w' ⟨rfl, o', m', V', r, d, h1, h2⟩
  exact ⟨by rw [h.next], h.grow d h1 (by omega)⟩
theorem Sat.ite (h : Sat n room w0 mb fs many w) {kf kg kh : Int} {F G H : BF} (hf : (kf, F) ∈ fs) (hg : (kg, G) ∈ fs) (hh : (kh, H) ∈ fs) (hr : many + 2 ^ n < room + 2) (hl : fs.length < 1000000) :
    Calls Tryz.prog 18 #[.pointer (some ⟨mb, 0, none⟩), .int .i64 kf, .int .i64 kg, .int .i64 kh] w fun x w' => x = .returned (.tuple #[.int .i64 (fs.length : Nat), .int .i64 0]) ∧ Sat n room w0 mb (fs ++ [(((fs.length : Nat) : Int), fun ρ => iteB (F ρ) (G ρ) (H ρ))]) (many + 2 ^ n - 1) w' := by
  obtain ⟨o, m, V, h⟩ := h
  have hm := h.many
  obtain ⟨f, hf, e1⟩ := h.find hf
  obtain ⟨g, hg, e2⟩ := h.find hg
  obtain ⟨k, hk, e3⟩ := h.find hh
  refine (manIte_any iteLaw_ok h.is h.lt h.ok (by rw [h.next]; omega) kf kg kh f g k hf hg hk h.waits (by rw [h.room, h.vars]; omega)).mono ?_
  rintro x w' ⟨rfl, o', m', V', r, d, h1, h2⟩
  rw [h.vars] at h2
  have ho : ∀ p ∈ m.hs, ef V' p.2 = ef V p.2 := fun p hp => by
    funext ρ
    unfold ef
    rw [d.val (p.2 / 2) (h.ok.handles.ok p hp)]
  refine ⟨by rw [h.next], h.grow d ?_ (by omega)⟩
  funext ρ
  have q1 : ef V' f = F := (ho _ hf).trans e1
  have q2 : ef V' g = G := (ho _ hg).trans e2
  have q3 : ef V' k = H := (ho _ hk).trans e3
  rw [h1 ρ, q1, q2, q3]
theorem Sat.same (h : Sat n room w0 mb fs many w) {k l : Int} {F G : BF} (hk : (k, F) ∈ fs) (hl : (l, G) ∈ fs) {b : Bool} (hb : b = true ↔ F = G) :
    Calls Tryz.prog 56 #[.pointer (some ⟨mb, 0, none⟩), .int .i64 k, .int .i64 l] w fun x w' => x = .returned (.tuple #[.bool b, .int .i64 0]) ∧ w = w' := by
  obtain ⟨o, m, V, h⟩ := h
  obtain ⟨f, hf, e1⟩ := h.find hk
  obtain ⟨g, hg, e2⟩ := h.find hl
  have hc := h.ok.store.dag.canon_iff (h.ok.handles.ok _ hf) (h.ok.handles.ok _ hg)
  rw [e1, e2] at hc
  have e : (f == g) = b := by
    rw [Bool.eq_iff_iff]
    simp only [beq_iff_eq]
    exact hc.symm.trans hb.symm
  rw [← e]
  exact same_yes h.is h.ok.handles.nodup hf hg
theorem Sat.eval (h : Sat n room w0 mb fs many w) {k : Int} {F : BF} (hk : (k, F) ∈ fs) (a : Option Addr) (c : Nat) (bs : List Bool) (hbs : BoolsAt w a bs) :
    Calls Tryz.prog 58 #[.pointer (some ⟨mb, 0, none⟩), .int .i64 k, .slice a bs.length c] w fun x w' => x = .returned (.tuple #[.bool (F (envOf bs)), .int .i64 0]) ∧ Below w.heap.size w w' := by
  obtain ⟨o, m, V, h⟩ := h
  obtain ⟨f, hf, e1⟩ := h.find hk
  rw [← e1]
  exact eval_yes h.is h.lt h.ok hf a c bs hbs
theorem Sat.handles (h : Sat n room w0 mb fs many w) :
    Calls Tryz.prog 70 #[.pointer (some ⟨mb, 0, none⟩)] w fun x w' => x = .returned (.int .i64 (fs.length : Nat)) ∧ w = w' := by
  obtain ⟨o, m, V, h⟩ := h
  have e : fs.length = m.hs.length := by rw [← h.hs, List.length_map]
  rw [e]
  exact handles_any h.is
theorem new_sat (n room : Nat) (w : World) (hn : n ≤ 64) (h1 : 1 ≤ room) (h2 : room ≤ 1048576) :
    Calls Tryz.prog 14 #[.int .i64 n, .int .i64 room] w fun x w' => ∃ mb, x = .returned (.tuple #[.pointer (some ⟨mb, 0, none⟩), .int .i64 0]) ∧ Sat n room w mb [(0, fun _ => false), (1, fun _ => true)] 0 w' := by
  refine (new_man (F := iteLaw (man0 n room).d (fun _ _ => true)) (fun _ => none) n room w (fun k r h => by cases h) hn h1 h2).mono ?_
  rintro x w1 ⟨mb, o1, rfl, hm0, hc0, hl0, _⟩
  exact ⟨mb, rfl, o1, man0 n room, _, hm0, hl0, man0_ok n room hn, by simp [man0, store0], by simp [man0, store0, pool0], by simp [man0, store0, pool0], rfl, rfl, by simp [man0, ef]; constructor <;> rfl, hc0⟩
theorem Sat.below0 (h : Sat n room w0 mb fs many w) : Below w0.heap.size w0 w := by
  obtain ⟨o, m, V, h⟩ := h
  exact ⟨h.chg.os, h.chg.tape, h.chg.output, h.chg.size, fun k hk => h.chg.block k hk (by rintro r e; cases e)⟩
end
end Go.Proofs.YtchliiaknmknhaaGreat

-- Lives
namespace Go.Proofs.YtchliiaknmknhaaGreat
open Go.RowKit

theorem boolsAt_new {w w2 : World} {bs : List Bool} (hl : bs.length ≤ 1000000) (h : w2.heap[w.heap.size]? = some (.cells (bs.map Value.bool).toArray 4 (0, 0))) : BoolsAt w2 (some ⟨w.heap.size, 0, none⟩) bs :=
  ⟨hl, fun k hk => ⟨w.heap.size, 0, rfl, by
    rw [Nat.zero_add, cell_of_row _ _ k _ _ _ h]
    simp [List.getD, hk]⟩⟩
def lf2 : List (Int × BF) := [(0, fun _ => false), (1, fun _ => true)]
def lf3 : List (Int × BF) := lf2 ++ [(2, varF 0)]
def lf4 : List (Int × BF) := lf3 ++ [(3, varF 1)]
def lf5 : List (Int × BF) := lf4 ++ [(4, fun ρ => iteB (varF 0 ρ) (varF 1 ρ) false)]
def lf6 : List (Int × BF) := lf5 ++ [(5, fun ρ => iteB (varF 1 ρ) (varF 0 ρ) false)]
section
variable {w0 w : World} {mb : Nat}
theorem lv1 (h : Sat 2 100 w0 mb lf2 0 w) : Calls Tryz.prog 15 #[.pointer (some ⟨mb, 0, none⟩), .int .i64 0] w fun x w' => x = .returned (.tuple #[.int .i64 2, .int .i64 0]) ∧ Sat 2 100 w0 mb lf3 1 w' :=
  h.var 0 (by omega) (by omega) (by simp [lf2])
theorem lv2 (h : Sat 2 100 w0 mb lf3 1 w) : Calls Tryz.prog 15 #[.pointer (some ⟨mb, 0, none⟩), .int .i64 1] w fun x w' => x = .returned (.tuple #[.int .i64 3, .int .i64 0]) ∧ Sat 2 100 w0 mb lf4 2 w' :=
  h.var 1 (by omega) (by omega) (by simp [lf2, lf3])
theorem lv3 (h : Sat 2 100 w0 mb lf4 2 w) : Calls Tryz.prog 18 #[.pointer (some ⟨mb, 0, none⟩), .int .i64 2, .int .i64 3, .int .i64 0] w fun x w' => x = .returned (.tuple #[.int .i64 4, .int .i64 0]) ∧ Sat 2 100 w0 mb lf5 5 w' :=
  h.ite (F := varF 0) (G := varF 1) (H := fun _ => false) (by simp [lf2, lf3, lf4]) (by simp [lf2, lf3, lf4]) (by simp [lf2, lf3, lf4]) (by omega) (by simp [lf2, lf3, lf4])
theorem lv4 (h : Sat 2 100 w0 mb lf5 5 w) : Calls Tryz.prog 18 #[.pointer (some ⟨mb, 0, none⟩), .int .i64 3, .int .i64 2, .int .i64 0] w fun x w' => x = .returned (.tuple #[.int .i64 5, .int .i64 0]) ∧ Sat 2 100 w0 mb lf6 8 w' :=
  h.ite (F := varF 1) (G := varF 0) (H := fun _ => false) (by simp [lf2, lf3, lf4, lf5]) (by simp [lf2, lf3, lf4, lf5]) (by simp [lf2, lf3, lf4, lf5]) (by omega) (by simp [lf2, lf3, lf4, lf5])
theorem lv5 (h : Sat 2 100 w0 mb lf6 8 w) : Calls Tryz.prog 56 #[.pointer (some ⟨mb, 0, none⟩), .int .i64 4, .int .i64 5] w fun x w' => x = .returned (.tuple #[.bool true, .int .i64 0]) ∧ w = w' :=
  h.same (F := fun ρ => iteB (varF 0 ρ) (varF 1 ρ) false) (G := fun ρ => iteB (varF 1 ρ) (varF 0 ρ) false) (by simp [lf5, lf6]) (by simp [lf6]) (by
    simp only [true_iff]
    funext ρ
    unfold iteB varF
    cases ρ 0 <;> cases ρ 1 <;> rfl)
theorem lv6 (h : Sat 2 100 w0 mb lf6 8 w) (bs : List Bool) (yes : Bool) (hy : iteB (varF 0 (envOf bs)) (varF 1 (envOf bs)) false = yes) (a : Option Addr) (c : Nat) (hbs : BoolsAt w a bs) :
    Calls Tryz.prog 58 #[.pointer (some ⟨mb, 0, none⟩), .int .i64 4, .slice a bs.length c] w fun x w' => x = .returned (.tuple #[.bool yes, .int .i64 0]) ∧ Below w.heap.size w w' := by
  rw [← hy]
  exact h.eval (F := fun ρ => iteB (varF 0 ρ) (varF 1 ρ) false) (by simp [lf5, lf6]) a c bs hbs
theorem lv7 (h : Sat 2 100 w0 mb lf6 8 w) : Calls Tryz.prog 70 #[.pointer (some ⟨mb, 0, none⟩)] w fun x w' => x = .returned (.int .i64 6) ∧ w = w' := h.handles
end
set_option maxRecDepth 100000 in
set_option maxHeartbeats 2000000 in
theorem lives13 (w : World) : Calls Tryz.prog 13 #[] w fun x w' => x = .returned (.bool true) ∧ Below w.heap.size w w' := by
  have HNEW := Lib.hid (new_sat 2 100 w (by omega) (by omega) (by omega))
  go_enter Tryz.func13, Tryz.ntmps13
  go_wp2_with fail
  refine HNEW.out.mono ?_
  rintro x w1 ⟨mb, rfl, h1⟩
  have H1 := Lib.hid (lv1 h1)
  clear h1 HNEW
  go_wp2_with fail
  refine H1.out.mono ?_
  rintro x w2 ⟨rfl, h2⟩
  have H2 := Lib.hid (lv2 h2)
  clear h2 H1
  go_wp2_with fail
  refine H2.out.mono ?_
  rintro x w3 ⟨rfl, h3⟩
  have H3 := Lib.hid (lv3 h3)
  clear h3 H2
  go_wp2_with fail
  refine H3.out.mono ?_
  rintro x w4 ⟨rfl, h4⟩
  have H4 := Lib.hid (lv4 h4)
  clear h4 H3
  go_wp2_with fail
  refine H4.out.mono ?_
  rintro x w5 ⟨rfl, h5⟩
  have H5 := Lib.hid (lv5 h5)
  have H5' := Lib.hid h5
  clear h5 H4
  go_wp2_with fail
  refine H5.out.mono ?_
  rintro x w6 ⟨rfl, rfl⟩
  obtain ⟨w6, hw6⟩ : ∃ w6, w6 = w5.alloc (.cells #[.bool true, .bool true] 4) := ⟨_, rfl⟩
  have hb6 : Below w5.heap.size w5 w6 := by rw [hw6]; exact below_new1 _ _
  have H6' := Lib.hid (H5'.out.below hb6)
  have hA6 : BoolsAt w6 (some ⟨w5.heap.size, 0, none⟩) [true, true] := boolsAt_new (by simp) (by rw [hw6]; exact heap_alloc_new _ _)
  have H6 := Lib.hid (lv6 H6'.out [true, true] true rfl _ 2 hA6)
  have HW6 : Hid (_ = w6) := Lib.hid hw6.symm
  clear hb6 hA6 hw6 H5'
  go_wp2_with fail
  rw [HW6.out]
  refine H6.out.mono ?_
  rintro x w7 ⟨rfl, hb7⟩
  have H7' := Lib.hid (H6'.out.below hb7)
  clear hb7 H6' HW6
  obtain ⟨w8, hw8⟩ : ∃ w8, w8 = w7.alloc (.cells #[.bool true] 4) := ⟨_, rfl⟩
  have hb8 : Below w7.heap.size w7 w8 := by rw [hw8]; exact below_new1 _ _
  have H8' := Lib.hid (H7'.out.below hb8)
  have hA8 : BoolsAt w8 (some ⟨w7.heap.size, 0, none⟩) [true] := boolsAt_new (by simp) (by rw [hw8]; exact heap_alloc_new _ _)
  have H8 := Lib.hid (lv6 H8'.out [true] false rfl _ 1 hA8)
  have HW8 : Hid (_ = w8) := Lib.hid hw8.symm
  clear hb8 hA8 hw8 H7'
  go_wp2_with fail
  rw [HW8.out]
  refine H8.out.mono ?_
  rintro x w9 ⟨rfl, hb9⟩
  have H9' := Lib.hid (H8'.out.below hb9)
  have H9 := Lib.hid (lv7 H9'.out)
  clear hb9 H8' HW8
  go_wp2_with fail
  refine H9.out.mono ?_
  rintro x w10 ⟨rfl, rfl⟩
  go_wp2_with fail
  go_ret
  exact ⟨rfl, H9'.out.below0⟩
end Go.Proofs.YtchliiaknmknhaaGreat
