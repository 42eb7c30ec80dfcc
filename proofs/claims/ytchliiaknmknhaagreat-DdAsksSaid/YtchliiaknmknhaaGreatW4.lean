/- Several texts in one file: contracts of the program's functions and what follows from them. -/
import Derived.Test.YtchliiaknmknhaaGreatW3
import Derived.Recover
import Derived.Defers
set_option linter.unusedSimpArgs false
set_option linter.unusedVariables false
set_option linter.unusedSectionVars false
set_option linter.unnecessarySimpa false
set_option maxRecDepth 100000
set_option maxHeartbeats 8000000
namespace Go.Proofs.YtchliiaknmknhaaGreat
open Go.RowKit
structure Caught (sb : Nat) (er : Int) (evt : Bool) (ev : Ev) (w w' : World) : Prop where
 size : w.heap.size <= w'.heap.size
 os : w'.os = w.os
 tape : w'.tape = w.tape
 output : w'.output = w.output
 keep : ∀ k, k < w.heap.size -> k ≠ sb -> w'.heap[k]? = w.heap[k]?
 blk : w'.heap[sb]? = some (.cells #[.int .i64 er, .bool evt, .int .i64 ev.after, .int .i64 ev.kind, .int .i64 ev.level] 116 (0, 0))
theorem caught_of {sb : Nat} {er : Int} {evt : Bool} {ev : Ev} {w : World} {a0 a1 a2 a3 a4 : Value} (hs : w.heap[sb]? = some (.cells #[a0, a1, a2, a3, a4] 116 (0, 0))) (ob : Obj) :
 Caught sb er evt ev w ((((((w.setCell ⟨sb, 0, none⟩ (.int .i64 er)).setCell ⟨sb, 1, none⟩ (.bool evt)).setCell ⟨sb, 2, none⟩ (.int .i64 ev.after)).setCell ⟨sb, 3, none⟩ (.int .i64 ev.kind)).setCell ⟨sb, 4, none⟩ (.int .i64 ev.level)).alloc ob) := by
 have w1 := (Wr.refl (· = sb) w).setCell (p := ⟨sb, 0, none⟩) (.inl rfl) (.int .i64 er);have h1 : (w.setCell ⟨sb, 0, none⟩ (.int .i64 er)).heap[sb]? = some (.cells #[.int .i64 er, a1, a2, a3, a4] 116 (0, 0)) := heap_setCell_same hs _
 generalize w.setCell ⟨sb, 0, none⟩ (.int .i64 er) = W1 at *
 have w2 := w1.setCell (p := ⟨sb, 1, none⟩) (.inl rfl) (.bool evt);have h2 : (W1.setCell ⟨sb, 1, none⟩ (.bool evt)).heap[sb]? = some (.cells #[.int .i64 er, .bool evt, a2, a3, a4] 116 (0, 0)) := heap_setCell_same h1 _
 generalize W1.setCell ⟨sb, 1, none⟩ (.bool evt) = W2 at *
 have w3 := w2.setCell (p := ⟨sb, 2, none⟩) (.inl rfl) (.int .i64 ev.after);have h3 : (W2.setCell ⟨sb, 2, none⟩ (.int .i64 ev.after)).heap[sb]? = some (.cells #[.int .i64 er, .bool evt, .int .i64 ev.after, a3, a4] 116 (0, 0)) := heap_setCell_same h2 _
 generalize W2.setCell ⟨sb, 2, none⟩ (.int .i64 ev.after) = W3 at *
 have w4 := w3.setCell (p := ⟨sb, 3, none⟩) (.inl rfl) (.int .i64 ev.kind);have h4 : (W3.setCell ⟨sb, 3, none⟩ (.int .i64 ev.kind)).heap[sb]? = some (.cells #[.int .i64 er, .bool evt, .int .i64 ev.after, .int .i64 ev.kind, a4] 116 (0, 0)) := heap_setCell_same h3 _
 generalize W3.setCell ⟨sb, 3, none⟩ (.int .i64 ev.kind) = W4 at *
 have w5 := w4.setCell (p := ⟨sb, 4, none⟩) (.inl rfl) (.int .i64 ev.level);have h5 : (W4.setCell ⟨sb, 4, none⟩ (.int .i64 ev.level)).heap[sb]? = some (.cells #[.int .i64 er, .bool evt, .int .i64 ev.after, .int .i64 ev.kind, .int .i64 ev.level] 116 (0, 0)) := heap_setCell_same h4 _
 generalize W4.setCell ⟨sb, 4, none⟩ (.int .i64 ev.level) = W5 at *
 have w6 := w5.alloc ob;exact ⟨w6.size, w6.os, w6.tape, w6.output, fun k hk hne => w6.keep k hk hne, (Go.heap_alloc_old _ _ (Array.getElem?_eq_some_iff.1 h5).1).trans h5⟩
theorem run_assertStop (v : Value) (w : World) : (Instr.typeAssert (.iface 116 v) 20 116 true).run Tryz.prog w = .ok (.tuple #[v, .bool true]) w := by
 simp [Instr.typeAssert, run_underlying Tryz.underlying116, go_sem, Result.andThen]
theorem catch_idle (dn st : Addr) (w : World) (hd : w.cell? dn = some (.bool true)) :
 CallsD Tryz.prog 150 #[.pointer (some dn), .pointer (some st)] .returning w fun e u' w' => e = .returned (.tuple #[]) /\ u' = .returning /\ w' = w := by
 refine callsD_of_wpS Tryz.func150 rfl fun c₀ cs hu => ?_
 apply wpS_seq;apply wpS_seq;apply wpS_region;simp [wpOpsS, go_sem, hd, Tryz.ntmps150, Exit.thenS];refine wpS_cond (t := true) (by simp [Act.eval, Array.replicate]) ?_;simp only [if_true];refine wpS_of_wp (wp_ret ?_);cases c₀
 simp_all [Exit.thenS, bodyPostS, results, Tryz.results150]
theorem catch_panicking (dn sb : Nat) (er : Int) (evt : Bool) (ev : Ev) (older : List PanicEntry) (w : World) (a0 a1 a2 a3 a4 : Value) (hd : w.cell? ⟨dn, 0, none⟩ = some (.bool false)) (hs : w.heap[sb]? = some (.cells #[a0, a1, a2, a3, a4] 116 (0, 0))) :
 CallsD Tryz.prog 150 #[.pointer (some ⟨dn, 0, none⟩), .pointer (some ⟨sb, 0, none⟩)] (.panicking ({ v := .iface 116 (.agg #[.int .i64 er, .bool evt, .int .i64 ev.after, .int .i64 ev.kind, .int .i64 ev.level]), recovered := false } :: older)) w fun e u' w' =>
  e = .returned (.tuple #[]) /\ u' = .panicking ({ v := .iface 116 (.agg #[.int .i64 er, .bool evt, .int .i64 ev.after, .int .i64 ev.kind, .int .i64 ev.level]), recovered := true } :: older) /\
  Caught sb er evt ev w w' := by
 refine callsD_of_wpS Tryz.func150 rfl fun c₀ cs hu => ?_
 simp only [Tryz.ntmps150, List.size_toArray, List.length_cons, List.length_nil, Nat.reduceAdd, Nat.reduceSub, Array.replicate_succ, Array.replicate_zero, List.push_toArray, List.append_toArray, List.nil_append, List.cons_append];apply wpS_seq;apply wpS_seq;apply wpS_region;simp [wpOpsS, go_sem, hd, Exit.thenS];refine wpS_cond (t := false) (by simp [Act.eval]) ?_;simp only [Bool.false_eq_true, if_false];refine wpS_of_wp (wp_skip ?_);simp only [Exit.thenS];apply wpS_seq;apply wpS_region;simp [wpOpsS, go_sem, recoverD, hu, Exit.thenS];have lsb : sb < w.heap.size := (Array.getElem?_eq_some_iff.1 hs).1;obtain ⟨c0, c1, c2, c3, c4, f0⟩ := cells5 hs;refine wpS_of_wp (wp_mono (Q := fun e a' w' => e = .normal /\ a'.defers = [] /\ Caught sb er evt ev w w') ?_ ?_)
 ·
  have HS := Lib.hid hs;have hta := fun v => run_assertStop v w
  clear hs;go_wp2_with fail
  first | exact ⟨rfl, rfl, caught_of HS.out _⟩ | exact caught_of HS.out _
 ·
  rintro e a' w' ⟨rfl, h1, h2⟩;refine ⟨h1, _, rfl, _, results_none rfl _ _ _, ?_⟩;exact ⟨rfl, rfl, h2⟩
open Go.RowKit
abbrev Stop := Int × Bool × Ev
def stopA (r : Option Stop) : Value :=
 match r with
 | some (er, evt, ev) => .agg #[.int .i64 er, .bool evt, .int .i64 ev.after, .int .i64 ev.kind, .int .i64 ev.level]
 | none => .agg #[.int .i64 0, .bool false, .int .i64 0, .int .i64 0, .int .i64 0]
def tryW (mb : Nat) (w : World) : World :=
 ((w.alloc (.cells #[.int .i64 0, .bool false, .int .i64 0, .int .i64 0, .int .i64 0] 116)).alloc (.cells #[.bool false] 4)).alloc (.cells #[.pointer (some ⟨mb, 0, none⟩)] 114)
def TryPost (w : World) (R : Option Stop -> World -> Prop) (x : Ending) (w' : World) : Prop :=
 ∃ r W', R r W' /\ Wr (fun k => k = w.heap.size \/ k = w.heap.size + 1) W' w' /\ x = .returned (.tuple #[stopA r, .bool r.isNone])
def TryOp (gf : Nat) (lb : Array Value) (mb : Nat) (w : World) (R : Option Stop -> World -> Prop) : Prop :=
 Calls Tryz.prog gf (#[.pointer (some ⟨w.heap.size + 2, 0, none⟩)] ++ lb) (tryW mb w) fun e W' =>
  (tryW mb w).heap.size <= W'.heap.size /\ W'.heap[w.heap.size]? = (tryW mb w).heap[w.heap.size]? /\ W'.heap[w.heap.size + 1]? = (tryW mb w).heap[w.heap.size + 1]? /\
   ((e = .returned (.tuple #[]) /\ R none W') \/ ∃ er evt ev, e = stopP er evt ev /\ R (some (er, evt, ev)) W')
theorem done_world {s : Nat} {W : World} (h0 : W.heap[s]? = some (.cells #[.int .i64 0, .bool false, .int .i64 0, .int .i64 0, .int .i64 0] 116 (0, 0))) (h1 : W.heap[s + 1]? = some (.cells #[.bool false] 4 (0, 0))) {W2 : World}
 (hW : W2 = (((((W.setCell ⟨s, 0, none⟩ (.int .i64 0)).setCell ⟨s, 1, none⟩ (.bool false)).setCell ⟨s, 2, none⟩ (.int .i64 0)).setCell ⟨s, 3, none⟩ (.int .i64 0)).setCell ⟨s, 4, none⟩ (.int .i64 0)).setCell ⟨s + 1, 0, none⟩ (.bool true)) :
 Wr (fun k => k = s \/ k = s + 1) W W2 /\ W2.heap[s]? = some (.cells #[.int .i64 0, .bool false, .int .i64 0, .int .i64 0, .int .i64 0] 116 (0, 0)) /\ W2.heap[s + 1]? = some (.cells #[.bool true] 4 (0, 0)) := by
 have n1 : s + 1 ≠ s := by omega
 have w1 := (Wr.refl (fun k => k = s \/ k = s + 1) W).setCell (p := ⟨s, 0, none⟩) (.inl (.inl rfl)) (.int .i64 0);have a1 : (W.setCell ⟨s, 0, none⟩ (.int .i64 0)).heap[s]? = some (.cells #[.int .i64 0, .bool false, .int .i64 0, .int .i64 0, .int .i64 0] 116 (0, 0)) := heap_setCell_same h0 _;have b1 := (heap_setCell_ne (p := ⟨s, 0, none⟩) (w := W) n1 (.int .i64 0)).trans h1
 generalize W.setCell ⟨s, 0, none⟩ (.int .i64 0) = W1 at *
 have w2 := w1.setCell (p := ⟨s, 1, none⟩) (.inl (.inl rfl)) (.bool false);have a2 : (W1.setCell ⟨s, 1, none⟩ (.bool false)).heap[s]? = some (.cells #[.int .i64 0, .bool false, .int .i64 0, .int .i64 0, .int .i64 0] 116 (0, 0)) := heap_setCell_same a1 _;have b2 := (heap_setCell_ne (p := ⟨s, 1, none⟩) (w := W1) n1 (.bool false)).trans b1
 generalize W1.setCell ⟨s, 1, none⟩ (.bool false) = W3 at *
 have w3 := w2.setCell (p := ⟨s, 2, none⟩) (.inl (.inl rfl)) (.int .i64 0);have a3 : (W3.setCell ⟨s, 2, none⟩ (.int .i64 0)).heap[s]? = some (.cells #[.int .i64 0, .bool false, .int .i64 0, .int .i64 0, .int .i64 0] 116 (0, 0)) := heap_setCell_same a2 _;have b3 := (heap_setCell_ne (p := ⟨s, 2, none⟩) (w := W3) n1 (.int .i64 0)).trans b2
 generalize W3.setCell ⟨s, 2, none⟩ (.int .i64 0) = W4 at *
 have w4 := w3.setCell (p := ⟨s, 3, none⟩) (.inl (.inl rfl)) (.int .i64 0);have a4 : (W4.setCell ⟨s, 3, none⟩ (.int .i64 0)).heap[s]? = some (.cells #[.int .i64 0, .bool false, .int .i64 0, .int .i64 0, .int .i64 0] 116 (0, 0)) := heap_setCell_same a3 _;have b4 := (heap_setCell_ne (p := ⟨s, 3, none⟩) (w := W4) n1 (.int .i64 0)).trans b3
 generalize W4.setCell ⟨s, 3, none⟩ (.int .i64 0) = W5 at *
 have w5 := w4.setCell (p := ⟨s, 4, none⟩) (.inl (.inl rfl)) (.int .i64 0);have a5 : (W5.setCell ⟨s, 4, none⟩ (.int .i64 0)).heap[s]? = some (.cells #[.int .i64 0, .bool false, .int .i64 0, .int .i64 0, .int .i64 0] 116 (0, 0)) := heap_setCell_same a4 _;have b5 := (heap_setCell_ne (p := ⟨s, 4, none⟩) (w := W5) n1 (.int .i64 0)).trans b4
 generalize W5.setCell ⟨s, 4, none⟩ (.int .i64 0) = W6 at *
 subst hW;exact ⟨w5.setCell (p := ⟨s + 1, 0, none⟩) (.inl (.inr rfl)) _, (heap_setCell_ne (Ne.symm n1) _).trans a5, heap_setCell_same b5 _⟩
theorem try_any (mb gf : Nat) (lb : Array Value) (w : World) (R : Option Stop -> World -> Prop) (eg : ∀ args w, (callFunc gf args).run Tryz.prog w = .ok (.enter gf args) w) (hop : TryOp gf lb mb w R) :
 Calls Tryz.prog 121 #[.pointer (some ⟨mb, 0, none⟩), .func (.func gf) #[] lb] w (TryPost w R) := by
 have hmf : ∀ (fn : Fn) (first cap : Array Value) (w : World), (Instr.makeFunc fn first cap).run Tryz.prog w = .ok (.func fn first cap) w := fun _ _ _ _ => rfl
 unfold TryOp at hop;obtain ⟨W, hW⟩ : ∃ W, W = tryW mb w := ⟨_, rfl⟩;have HW : Hid (_ = W) := Lib.hid hW.symm;rw [<- hW] at hop;have HOP := Lib.hid hop;clear hop hW
 go_enter_defers Tryz.func121, Tryz.ntmps121
 go_wp2_with fail
 change Calls _ _ _ (tryW mb w) _
 have hT0 : (tryW mb w).heap[w.heap.size]? = some (.cells #[.int .i64 0, .bool false, .int .i64 0, .int .i64 0, .int .i64 0] 116 (0, 0)) := by
  unfold tryW;exact (Go.heap_alloc_old _ _ (by simp; omega)).trans ((Go.heap_alloc_old _ _ (by simp)).trans (heap_alloc_new w _))
 have hT1 : (tryW mb w).heap[w.heap.size + 1]? = some (.cells #[.bool false] 4 (0, 0)) := by
  unfold tryW;refine (Go.heap_alloc_old _ _ (by simp)).trans ?_;have := heap_alloc_new (w.alloc (.cells #[.int .i64 0, .bool false, .int .i64 0, .int .i64 0, .int .i64 0] 116)) (.cells #[.bool false] 4)
  rwa [World.size_alloc] at this
 rw [HW.out] at hT0 hT1 ⊢;have hsz0 : W.heap.size = w.heap.size + 3 := by rw [<- HW.out]; simp [tryW]
 refine HOP.out.mono ?_;rintro e W' ⟨hsz, hk1, hk2, hcase⟩;have hb0 := hk1.trans hT0;have hb1 := hk2.trans hT1;obtain ⟨c0, c1, c2, c3, c4, f0⟩ := cells5 hb0;have c5 : W'.cell? ⟨w.heap.size + 1, 0, none⟩ = some (.bool false) := by rw [cell_of_row W' _ 0 _ _ _ hb1]; rfl
 have f1 : ∀ k, W'.frozen? ⟨w.heap.size + 1, k, none⟩ = false := fun k => by simp [World.frozen?, hb1]
 obtain ⟨s, hs⟩ : ∃ s, s = w.heap.size := ⟨_, rfl⟩;rw [<- hs] at hb0 hb1 c0 c1 c2 c3 c4 f0 c5 f1 ⊢;have hs1 : s < W'.heap.size := by omega
 have hs2 : s + 1 < W'.heap.size := by omega
 have HB0 := Lib.hid hb0;have HB1 := Lib.hid hb1;have HS := Lib.hid hs;clear hT0 hT1 hk1 hk2 hb0 hb1 hs hsz0 hsz HOP HW;rcases hcase with ⟨rfl, hr⟩ | ⟨er, evt, ev, rfl, hr⟩
 ·
  have HR := Lib.hid hr;clear hr;go_wp2_with fail;obtain ⟨W2, hW2⟩ : ∃ W2, W2 = (((((W'.setCell ⟨s, 0, none⟩ (.int .i64 0)).setCell ⟨s, 1, none⟩ (.bool false)).setCell ⟨s, 2, none⟩ (.int .i64 0)).setCell ⟨s, 3, none⟩ (.int .i64 0)).setCell ⟨s, 4, none⟩ (.int .i64 0)).setCell ⟨s + 1, 0, none⟩ (.bool true) := ⟨_, rfl⟩;obtain ⟨q1, q2, q3⟩ := done_world HB0.out HB1.out hW2;rw [<- hW2];clear hW2 c0 c1 c2 c3 c4 f0 c5 f1;obtain ⟨c0, c1, c2, c3, c4, f0⟩ := cells5 q2;have c5 : W2.cell? ⟨s + 1, 0, none⟩ = some (.bool true) := by rw [cell_of_row W2 _ 0 _ _ _ q3]; rfl
  refine leaves_cons (f := 150) (args := #[.pointer (some ⟨s + 1, 0, none⟩), .pointer (some ⟨s, 0, none⟩)]) (by simp) (by simp [go_sem]) ?_;refine (catch_idle ⟨s + 1, 0, none⟩ ⟨s, 0, none⟩ _ c5).mono ?_;rintro e u' w'' ⟨rfl, rfl, rfl⟩;simp [Leaves, settle, results, Tryz.results121, go_sem, c0, c1, c2, c3, c4, c5];exact ⟨none, W', HR.out, by rw [<- HS.out]; exact q1, rfl⟩
 ·
  have HR := Lib.hid hr;clear hr;unfold stopP;go_wp2_with fail;refine leaves_cons (f := 150) (args := #[.pointer (some ⟨s + 1, 0, none⟩), .pointer (some ⟨s, 0, none⟩)]) (by simp) (by simp [go_sem]) ?_;refine (catch_panicking (s + 1) s er evt ev [] _ _ _ _ _ _ c5 HB0.out).mono ?_;rintro e u' w'' ⟨rfl, rfl, hc⟩;have q3 := (hc.keep (s + 1) hs2 (by omega)).trans HB1.out;clear c0 c1 c2 c3 c4 f0 c5 f1;obtain ⟨c0, c1, c2, c3, c4, f0⟩ := cells5 hc.blk;have c5 : w''.cell? ⟨s + 1, 0, none⟩ = some (.bool false) := by rw [cell_of_row w'' _ 0 _ _ _ q3]; rfl
  simp [Leaves, settle, results, Tryz.results121, go_sem, c0, c1, c2, c3, c4, c5];exact ⟨some (er, evt, ev), W', HR.out, ⟨hc.os, hc.tape, hc.output, hc.size, fun k hk hn => hc.keep k hk (fun e => hn (.inl (e.trans HS.out)))⟩, rfl⟩
open Go.RowKit
abbrev Ali (s : Nat) (W W' : World) : Prop := Wr (fun k => k = s \/ k = s + 1) W W'
structure RunOp (gf : Nat) (lb : Array Value) (mb : Nat) (I : Nat -> Bool -> World -> Prop) (Fin : Int -> World -> Prop) (n : Nat) (room : Bool) (W : World) (R : Option Stop -> World -> Prop) : Prop where
 op : TryOp gf lb mb W R
 fin : ∀ W1 W2, R none W1 -> Ali W.heap.size W1 W2 -> Fin 0 W2
 event : ∀ er ev W1 W2, R (some (er, true, ev)) W1 -> Ali W.heap.size W1 W2 -> Calls Tryz.prog 122 #[.pointer (some ⟨mb, 0, none⟩), evA ev] W2 fun x w' => x = .returned (.tuple #[]) /\ ∃ n', n' < n /\ I n' false w'
 full : ∀ ev W1 W2, R (some (7, false, ev)) W1 -> Ali W.heap.size W1 W2 -> room = false -> Calls Tryz.prog 46 #[.pointer (some ⟨mb, 0, none⟩)] W2 fun x w' => (∃ v, x = .returned v) /\ I n true w'
 err : ∀ er ev W1 W2, R (some (er, false, ev)) W1 -> Ali W.heap.size W1 W2 -> ¬ (er = 7 /\ room = false) -> Fin er W2
theorem run_any (mb gf : Nat) (lb : Array Value) (w : World) (eg : ∀ args w, (callFunc gf args).run Tryz.prog w = .ok (.enter gf args) w) (I : Nat -> Bool -> World -> Prop) (Fin : Int -> World -> Prop)
 (hI : ∀ n room W, I n room W -> ∃ R, RunOp gf lb mb I Fin n room W R) (n0 : Nat) (h0 : I n0 false w) :
 Calls Tryz.prog 85 #[.pointer (some ⟨mb, 0, none⟩), .func (.func gf) #[] lb] w fun x w' => ∃ er, x = .returned (.int .i64 er) /\ Fin er w' := by
 have HI := Lib.hid hI;clear hI
 go_enter Tryz.func85, Tryz.ntmps85
 go_wp2_with fail
 go_loopg [5] (2 * n0 + 1) (fun gk s5 wx => ∃ (n : Nat) (room : Bool), s5 = .bool room /\ I n room wx /\ gk = 2 * n + (if room then 0 else 1))
 case atStart => exact ⟨n0, false, rfl, h0, rfl⟩
 case round =>
  obtain ⟨n, room, rfl, hi, hgk⟩ := hrel;obtain ⟨R, hR⟩ := HI.out n room wr hi;have HTRY := Lib.hid (try_any mb gf lb wr R eg hR.op);have HR := Lib.hid hR;have HGK := Lib.hid hgk;clear hi hR hgk h0;go_wp2_with fail;refine HTRY.out.mono ?_;rintro x w2 ⟨r, W1, hr, hw, rfl⟩;obtain ⟨bx, hbx⟩ : ∃ bx, bx = w2.heap.size := ⟨_, rfl⟩;cases r with
  | none =>
    have HF := Lib.hid fun W2 (h : Wr (fun _ => False) w2 W2) => HR.out.fin W1 W2 hr (hw.trans h (fun _ _ e => e) (fun _ _ e => e.elim))
    clear hr hw;unfold stopA;go_wp2_with fail;go_ret;exact ⟨0, rfl, HF.out _ ((Wr.refl _ w2).alloc _)⟩
  | some st =>
    obtain ⟨er, evt, ev⟩ := st;unfold stopA;cases evt with
    | true =>
      have HF := Lib.hid fun W2 (h : Wr (fun _ => False) w2 W2) => HR.out.event er ev W1 W2 hr (hw.trans h (fun _ _ e => e) (fun _ _ e => e.elim))
      clear hr hw;go_wp2_with fail;refine (HF.out _ ((Wr.refl _ w2).alloc _)).mono ?_;rintro x w3 ⟨rfl, n', hn', hi'⟩;have HN' := Lib.hid hn';have HI' := Lib.hid hi';clear hn' hi';go_wp2_with fail
      go_roundg (2 * n' + 1)
      case rel => exact ⟨n', false, rfl, HI'.out, rfl⟩
      case measure => have h1 := HN'.out; have h2 := HGK.out; omega
    | false =>
      have HW := Lib.hid fun W2 (h : Wr (fun _ => False) w2 W2) => hw.trans h (N := fun k => k = wr.heap.size \/ k = wr.heap.size + 1) (fun _ _ e => e) (fun _ _ e => e.elim)
      have HRR := Lib.hid hr;clear hr hw
      by_cases h7 : er = 7
      ·
       subst h7;cases room with
       | false =>
         have HF := Lib.hid fun W2 (h : Wr (fun _ => False) w2 W2) => HR.out.full ev W1 W2 HRR.out (HW.out W2 h) rfl
         go_wp2_with fail;refine (HF.out _ ((Wr.refl _ w2).alloc _)).mono ?_;rintro x w3 ⟨⟨vv, rfl⟩, hi'⟩;have HI' := Lib.hid hi';clear hi';go_wp2_with fail
         go_roundg (2 * n)
         case rel => exact ⟨n, true, rfl, HI'.out, rfl⟩
         case measure => have h2 := HGK.out; simp at h2; omega
       | true =>
         have HF := Lib.hid fun W2 (h : Wr (fun _ => False) w2 W2) => HR.out.err 7 ev W1 W2 HRR.out (HW.out W2 h) (by simp)
         go_wp2_with fail;go_ret;exact ⟨_, rfl, HF.out _ ((Wr.refl _ w2).alloc _)⟩
      ·
       have H7 : ((er : Int) == 7) = false := by simpa using h7
       have HF := Lib.hid fun W2 (h : Wr (fun _ => False) w2 W2) => HR.out.err er ev W1 W2 HRR.out (HW.out W2 h) (fun e => h7 e.1)
       go_wp2_with fail;go_ret;exact ⟨_, rfl, HF.out _ ((Wr.refl _ w2).alloc _)⟩
open Go.RowKit
theorem acy_of {d : StoreD} {V : Nat -> BF} (hk : StoreOK d V) : Acy (nodesOf d) (fun i => d.vars.length - lvE d.vars.length (levN d) (nodesOf d) (2 * i)) := by
 have e2 : ∀ i : Nat, 2 * i / 2 = i := fun i => by omega
 have hl : ∀ i b, nodesOf d i = some b -> lvE d.vars.length (levN d) (nodesOf d) (2 * i) = levN d b.v := fun i b h => by unfold lvE; rw [e2, h]
 have hh : ∀ e, lvE d.vars.length (levN d) (nodesOf d) (2 * (e / 2)) = lvE d.vars.length (levN d) (nodesOf d) e := fun e => lvE_halves (e2 _)
 refine ⟨hk.dag.none0, hk.dag.okLo, hk.dag.okHi, fun i b c h1 h2 => ?_, fun i b c h1 h2 => ?_⟩
 ·
  have a1 := hk.dag.lvLo _ _ h1;have a2 := hk.dag.lt _ (hk.dag.var _ _ h1);have a3 := hh b.lo;rw [hl i b h1];omega
 ·
  have a1 := hk.dag.lvHi _ _ h1;have a2 := hk.dag.lt _ (hk.dag.var _ _ h1);have a3 := hh b.hi;rw [hl i b h1];omega
theorem hold_ok {o : Own} {w : World} {sb : Nat} {d : StoreD} {V : Nat -> BF} (h : StoreAt o w sb d) (hlt : OwnLt o w) (hk : StoreOK d V) (f : Nat) (hf : okE (nodesOf d) f) (htop : ∀ y b, nodesOf d y = some b -> extOf d y < 1099511627776) :
 Calls Tryz.prog 125 #[.pointer (some ⟨sb, 0, none⟩), .int .i64 f] w fun x w' => x = .returned (.int .i64 0) /\ ∃ d', StoreAt o w' sb d' /\ OwnLt o w' /\ HoldRel d d' f 1 /\ Chg RStore o o w w' := by
 obtain ⟨s, h⟩ := h;have hlt' := h.edge_lt hf;rcases hf with h0 | ⟨b, hb⟩
 ·
  refine (storeHold_none h hlt hk.live f (by unfold eMax; omega) h0).mono ?_;rintro e w' ⟨d', h1, h2, h3, h4, h5⟩;exact ⟨h1, d', ⟨s, h2⟩, h3, h4, h5⟩
 ·
  refine (storeHold_node h hlt hk.live (acy_of hk) f (b := b) hb htop).mono ?_;rintro e w' ⟨d', h1, h2, h3, h4, h5⟩;exact ⟨h1, d', ⟨s, h2⟩, h3, h4, h5⟩
theorem HoldRel.ok {d d' : StoreD} {V : Nat -> BF} {f : Nat} {sg : Int} (r : HoldRel d d' f sg) (hk : StoreOK d V) : StoreOK d' V := by
 have hl : levN d' = levN d := by funext v; unfold levN; rw [r.level]
 exact ⟨by rw [r.vars, hl, r.nodes]; exact hk.dag, r.live, by rw [r.vars, r.nodes, r.tab]; exact hk.tab, by rw [r.clen]; exact hk.clen, by rw [r.vars]; exact hk.small, by rw [r.vars, hl]; exact hk.inv, by rw [r.vars, hl]; exact hk.vlt⟩
theorem refsOf_append (hs : List (Int × Nat)) (n : Int) (f i : Nat) (hn : 1 < n) : refsOf (hs ++ [(n, f)]) i = refsOf hs i + (if f / 2 = i then 1 else 0) := by
 unfold refsOf;rw [List.filter_append, List.length_append];congr 1
 by_cases e : f / 2 = i
 ·
  simp [e, hn]
 ·
  have : (f / 2 == i) = false := by simp [e]
  simp [e, this, List.filter]
theorem refsOf_le (hs : List (Int × Nat)) (i : Nat) : refsOf hs i <= hs.length := List.length_filter_le _ _
structure Gave (K : Law) (o : Own) (w : World) (mb : Nat) (m : ManD) (V : Nat -> BF) (f : Nat) (o' : Own) (w' : World) (m' : ManD) : Prop where
 is : ManAt (K m'.d V) o' w' mb m'
 lt : OwnLt o' w'
 chg : Chg (fun _ => True) o o' w w'
 ok : ManOK m' V
 hs : m'.hs = m.hs ++ [(m.next, f)]
 next : m'.next = m.next + 1
 waits : m'.waits = m.waits
 calls : m'.calls = m.calls
 nodes : nodesOf m'.d = nodesOf m.d
 vars : m'.d.vars = m.d.vars
 level : m'.d.level = m.d.level
 room : m'.d.pool.room = m.d.pool.room
 many : m'.d.pool.many = m.d.pool.many
theorem handles_give {m : ManD} {d' : StoreD} {f : Nat} (h : HandlesOK m) (r : HoldRel m.d d' f 1) (hf : okE (nodesOf m.d) f) (h0 : nodesOf m.d 0 = none) : HandlesOK { m with d := d', hs := m.hs ++ [(m.next, f)], next := m.next + 1 } := by
 have hn := h.next
 refine ⟨?_, by simp [h.zero], by simp [h.one], ?_, by dsimp only; omega, ?_, ?_, ?_⟩
 ·
  dsimp only;rw [List.map_append, List.nodup_append];refine ⟨h.nodup, by simp, fun a ha b hb => ?_⟩;simp at hb;subst hb;rintro rfl;obtain ⟨p, hp, e⟩ := List.mem_map.1 ha;have := (h.lt p hp).2;omega
 ·
  intro p hp;rcases List.mem_append.1 hp with hp | hp
  ·
   have := h.lt p hp; dsimp only; omega
  ·
   simp at hp; subst hp; dsimp only; omega
 ·
  intro p hp;dsimp only;rw [r.nodes];rcases List.mem_append.1 hp with hp | hp
  ·
   exact h.ok p hp
  ·
   simp at hp; subst hp; exact hf
 ·
  have := h.len; simp; omega
 ·
  intro i b hb;dsimp only at hb ⊢;rw [r.nodes] at hb;have hi : i ≠ 0 := by rintro rfl; rw [h0] at hb; cases hb
  rw [r.ext i hi, h.refs i b hb, refsOf_append _ _ _ _ (by omega)];unfold toE;split <;> simp
theorem putL_new {k : Int} {v : Value} {l : List (Int × Value)} (h : ∀ p ∈ l, p.1 ≠ k) : putL k v l = l ++ [(k, v)] := by
 have h1 := getL_none.2 h;unfold getL at h1;unfold putL;cases e : findL k l 0 with
 | none => rfl
 | some p => rw [e] at h1; cases h1
theorem ManIn.setMap {F : Phi} {o : Own} {w w' : World} {mb : Nat} {m : ManD} {s : ManW} (h : ManIn F o w mb m s) (hlt : OwnLt o w) {hs' : List (Int × Nat)} (hm : MapIs w' s.hb (Value.int .i64) (encH hs')) (hg : w.grownBy w' (some s.hb)) : ManIn F o w' mb { m with hs := hs' } s := by
 have k : ∀ {g r}, o g = some r -> r ≠ .handles -> w'.heap[g]? = w.heap[g]? := fun hq hr => hg.block _ (hlt _ _ hq) (fun e => by cases e; have := h.ownh; rw [hq] at this; cases this; exact hr rfl)
 exact ⟨h.own, (k h.own (by simp)).trans h.blk, h.store.keepR (fun g r hq hr => k hq (by rintro rfl; simp [RStore, RPool] at hr)) (fun _ _ h => h), h.memo.keep (fun g r hq hr => k hq (by rintro rfl; rcases hr with e | e <;> cases e)) (fun _ _ h => h), h.ownh, hm,
  h.waits.keep (fun g hq => k hq (by simp)) (fun _ h => h)⟩
theorem kI : KeyOk Tryz.prog 3 (Value.int .i64) := keyOk_int Tryz.underlying3
theorem give_any {K : Law} (hK : LawOK K) {o : Own} {w : World} {mb : Nat} {m : ManD} {V : Nat -> BF} (hm : ManAt (K m.d V) o w mb m) (hlt : OwnLt o w) (hk : ManOK m V) (f : Nat) (hf : okE (nodesOf m.d) f) (hb : m.next < 1099511627776) :
 Calls Tryz.prog 88 #[.pointer (some ⟨mb, 0, none⟩), .int .i64 f] w fun x w' => x = .returned (.int .i64 m.next) /\ ∃ o' m', Gave K o w mb m V f o' w' m' := by
 obtain ⟨s, hm⟩ := hm;obtain ⟨c0, c1, c2, c3, c4, c5, f0⟩ := cells6 hm.blk
 have HHO := Lib.hid (hold_ok hm.store hlt hk.store f hf (fun y b hy => by
  rw [hk.handles.refs y b hy];have h1 := refsOf_le m.hs y;have h2 := hk.handles.len;omega))
 have hn2 := hk.handles.next
 have HM := Lib.hid hm;have HL := Lib.hid hlt;have HK := Lib.hid hk;have HF := Lib.hid hf;have HLAW := Lib.hid hK;clear hm hlt hk hf hK
 go_enter Tryz.func88, Tryz.ntmps88
 go_wp2_with fail;refine HHO.out.mono ?_;rintro x w1 ⟨rfl, d', hst, hl1, hr, hc1⟩;have hM1 := HM.out.setStore HL.out hst hc1;have hfresh : ∀ p ∈ encH m.hs, p.1 ≠ m.next := by
  intro p hp e0;obtain ⟨q, hq, rfl⟩ := List.mem_map.1 hp;have h1 := HK.out.handles.lt q hq;have h2 : q.1 < m.next := h1.2
  have h3 : q.1 = m.next := e0
  omega
 have HFR := Lib.hid hfresh;have HM1 := Lib.hid hM1;have HL1 := Lib.hid hl1;have HR := Lib.hid hr;have HC1 := Lib.hid hc1;clear hst hl1 hr hc1 hfresh c0 c1 c2 c3 c4 c5 f0;obtain ⟨c0, c1, c2, c3, c4, c5, f0⟩ := cells6 hM1.blk;clear hM1;go_upto_region 3 with fail
 go_wp2_with (refine wpList_updateM (l := encH m.hs) rfl _ _ _ rfl kI Tryz.underlying101 m.next (.int .i64 (f : Nat)) rfl rfl rfl HM1.out.map ?_
              intro w2 hm2 hg2;have hl2 : OwnLt o w2 := HL1.out.mono hg2.size;rw [putL_new HFR.out] at hm2;have hM2 := HM1.out.setMap HL1.out (hs' := m.hs ++ [(m.next, f)]) (by simpa [encH] using hm2) hg2;have hc2 : Chg (fun _ => True) o o w w2 := HC1.out.any.grown hg2 (fun g hg => by cases hg; exact ⟨_, HM1.out.ownh, trivial⟩);have HM2 := Lib.hid hM2;have HL2 := Lib.hid hl2;have HC2 := Lib.hid hc2;clear c0 c1 c2 c3 c4 c5 f0 hm2 hg2 hl2 hc2;obtain ⟨c0, c1, c2, c3, c4, c5, f0⟩ := cells6 hM2.blk;clear hM2)
 go_ret;have hr := HR.out;have hM3 : ManIn (K m.d V) o (w2.setCell ⟨mb, 3, none⟩ (.int .i64 (m.next + 1))) mb { m with d := d', hs := m.hs ++ [(m.next, f)], next := m.next + 1 } s := HM2.out.field rfl rfl rfl rfl rfl HM2.out.waits rfl;refine ⟨rfl, o, _, ⟨⟨s, hM3.mono fun op a b c r h => HLAW.out.same _ _ _ _ _ _ _ _ hr.vars hr.level hr.nodes h⟩, HL2.out.mono (by simp [World.setCell]), HC2.out.setCell (p := ⟨mb, 3, none⟩) HM2.out.own trivial _, ⟨hr.ok HK.out.store, handles_give HK.out.handles hr HF.out HK.out.store.dag.none0⟩, rfl, rfl, rfl, rfl, hr.nodes, hr.vars, hr.level, hr.room, hr.many⟩⟩
open Go.RowKit
end Go.Proofs.YtchliiaknmknhaaGreat

namespace Go.Proofs.YtchliiaknmknhaaGreat
open Go.RowKit
def doW (gop : Nat) (lop : Array Value) (w : World) : World := (w.alloc (.cells #[.func (.func gop) #[] lop] 54)).alloc (.cells #[.int .i64 0] 52)
theorem enters_do1 : ∀ args w, (callFunc 86 args).run Tryz.prog w = .ok (.enter 86 args) w := enters_of Tryz.func86 (by kernel_rfl) rfl
theorem eqNilF (w : World) (g : Fn) (fs cs : Array Value) : (binOp .eql 54 (.func g fs cs) .nilFunc).run Tryz.prog w = .ok (.bool false) w := by
 have hd : Op.maxDepth = 9999 + 1 := rfl;have h : (Op.equal 54 (.func g fs cs) .nilFunc).run Tryz.prog w = .ok false w := by
  unfold Op.equal;rw [hd];unfold Op.equalIn;simp only [Sem.run_bind, run_underlying Tryz.underlying54, Result.andThen_ok];simp
 simp only [binOp];simp [h]
open Go.RowKit
def varF (v : Nat) : BF := fun ρ => ρ v
theorem enters_var1 : ∀ args w, (callFunc 78 args).run Tryz.prog w = .ok (.enter 78 args) w := enters_of Tryz.func78 (by kernel_rfl) rfl
open Go.RowKit
theorem zeroEdge (w : World) : (zeroValue 52).run Tryz.prog w = .ok (.int .i64 0) w := by
 have s : (Tryz.prog.info? 52).map (fun i => i.zero) = some (some (.int .i64 0)) := by kernel_rfl
 cases hi : Tryz.prog.info? 52 with
 | none => rw [hi] at s; cases s
 | some i =>
   rw [hi] at s;simp only [Option.map_some, Option.some.injEq] at s;simp [zeroValue, typeInfo, hi, s]
theorem encH_nodup {hs : List (Int × Nat)} (h : (hs.map Prod.fst).Nodup) : ((encH hs).map Prod.fst).Nodup := by
 have : (encH hs).map Prod.fst = hs.map Prod.fst := by simp [encH]
 rw [this]; exact h
section
variable {F : Phi} {o : Own} {w : World} {mb : Nat} {m : ManD} {s : ManW}
theorem look_yes (h : ManIn F o w mb m s) (hn : (m.hs.map Prod.fst).Nodup) {k : Int} {f : Nat} (hk : (k, f) ∈ m.hs) :
 (Instr.lookup 101 (.map (some s.hb)) (.int .i64 k) true).run Tryz.prog w = .ok (.tuple #[.int .i64 f, .bool true]) w := by
 have h1 := h.map.lookup kI Tryz.underlying101 zeroEdge k true;have h2 : getL (encH m.hs) k = some (.int .i64 (f : Nat)) := getL_of_mem (encH_nodup hn) (List.mem_map.2 ⟨(k, f), hk, rfl⟩);rw [h1, h2]; rfl
end
theorem ctxEdge_yes {F : Phi} {o : Own} {w : World} {xb mb : Nat} {m : ManD} (h : ManAt F o w mb m) (hx : CtxAt o w xb mb) (hn : (m.hs.map Prod.fst).Nodup) {k : Int} {f : Nat} (hk : (k, f) ∈ m.hs) :
 Calls Tryz.prog 34 #[.pointer (some ⟨xb, 0, none⟩), .int .i64 k] w fun x w' => x = .returned (.int .i64 f) /\ w = w' := by
 obtain ⟨s, h⟩ := h;obtain ⟨c0, c1, c2, c3, c4, c5, f0⟩ := cells6 h.blk;have cx := hx.cell;have hl := look_yes h hn hk;clear h hx hn hk
 go_enter Tryz.func34, Tryz.ntmps34
 go_wp2_with fail;go_ret;exact ⟨rfl, rfl⟩
theorem same_yes {F : Phi} {o : Own} {w : World} {mb : Nat} {m : ManD} (h : ManAt F o w mb m) (hn : (m.hs.map Prod.fst).Nodup) {k l : Int} {f g : Nat} (hk : (k, f) ∈ m.hs) (hl : (l, g) ∈ m.hs) :
 Calls Tryz.prog 56 #[.pointer (some ⟨mb, 0, none⟩), .int .i64 k, .int .i64 l] w fun x w' => x = .returned (.tuple #[.bool (f == g), .int .i64 0]) /\ w = w' := by
 obtain ⟨s, h⟩ := h;obtain ⟨c0, c1, c2, c3, c4, c5, f0⟩ := cells6 h.blk;have h1 := look_yes h hn hk;have h2 := look_yes h hn hl;have HE : Hid (((f : Int) == (g : Int)) = (f == g)) := by
  show ((f : Int) == (g : Int)) = (f == g)
  by_cases e : f = g
  ·
   subst e; rw [beq_self_eq_true, beq_self_eq_true]
  ·
   rw [beq_eq_false_iff_ne.2 (show (f : Int) ≠ g by omega), beq_eq_false_iff_ne.2 e]
 clear h hn hk hl
 go_enter Tryz.func56, Tryz.ntmps56
 go_wp2_with fail
 go_ret2
 exact ⟨by rw [<- HE.out]; rfl, rfl⟩
theorem handles_any {F : Phi} {o : Own} {w : World} {mb : Nat} {m : ManD} (h : ManAt F o w mb m) :
 Calls Tryz.prog 70 #[.pointer (some ⟨mb, 0, none⟩)] w fun x w' => x = .returned (.int .i64 m.hs.length) /\ w = w' := by
 obtain ⟨s, h⟩ := h;obtain ⟨c0, c1, c2, c3, c4, c5, f0⟩ := cells6 h.blk;have hl := h.map.size (P := Tryz.prog) Tryz.underlying101 3;have e : (encH m.hs).length = m.hs.length := by simp [encH]
 rw [e] at hl;clear h e
 go_enter Tryz.func70, Tryz.ntmps70
 go_wp2_with fail;go_ret;exact ⟨rfl, rfl⟩
open Go.RowKit
end Go.Proofs.YtchliiaknmknhaaGreat

namespace Go.Proofs.YtchliiaknmknhaaGreat
open Go.RowKit
theorem enters_ite1 : ∀ args w, (callFunc 80 args).run Tryz.prog w = .ok (.enter 80 args) w := enters_of Tryz.func80 (by kernel_rfl) rfl
def box3 (a b c : Int) (w : World) : World := ((w.alloc (.cells #[.int .i64 a] 3)).alloc (.cells #[.int .i64 b] 3)).alloc (.cells #[.int .i64 c] 3)
theorem box3_ok (a b c : Int) (w : World) : Below w.heap.size w (box3 a b c w) /\ (box3 a b c w).cell? ⟨w.heap.size, 0, none⟩ = some (.int .i64 a) /\ (box3 a b c w).cell? ⟨w.heap.size + 1, 0, none⟩ = some (.int .i64 b) /\ (box3 a b c w).cell? ⟨w.heap.size + 2, 0, none⟩ = some (.int .i64 c) := by
 have h0 := heap_alloc_new w (.cells #[.int .i64 a] 3);have h1 := heap_alloc_new (w.alloc (.cells #[.int .i64 a] 3)) (.cells #[.int .i64 b] 3);have h2 := heap_alloc_new ((w.alloc (.cells #[.int .i64 a] 3)).alloc (.cells #[.int .i64 b] 3)) (.cells #[.int .i64 c] 3);rw [World.size_alloc] at h1;rw [World.size_alloc, World.size_alloc] at h2;have a0 : (box3 a b c w).heap[w.heap.size]? = some (.cells #[.int .i64 a] 3 (0, 0)) := (Go.heap_alloc_old _ _ (by simp; omega)).trans ((Go.heap_alloc_old _ _ (by simp)).trans h0);have a1 : (box3 a b c w).heap[w.heap.size + 1]? = some (.cells #[.int .i64 b] 3 (0, 0)) := (Go.heap_alloc_old _ _ (by simp)).trans h1;have a2 : (box3 a b c w).heap[w.heap.size + 2]? = some (.cells #[.int .i64 c] 3 (0, 0)) := h2;exact ⟨((below_new1 w _).alloc (by simp) _).alloc (by simp; omega) _, by rw [cell_of_row _ _ 0 _ _ _ a0]; rfl, by rw [cell_of_row _ _ 0 _ _ _ a1]; rfl, by rw [cell_of_row _ _ 0 _ _ _ a2]; rfl⟩
open Go.RowKit
def man0 (n room : Nat) : ManD := ⟨store0 n room, [(0, 1), (1, 0)], 2, [], 0⟩
theorem nodes0 (n room : Nat) : nodesOf (store0 n room) = fun _ => none := by
 funext i;have ht : (pool0 room).tk i = false := by
  unfold PoolD.tk pool0;cases i with
  | zero => rfl
  | succ i => rfl
 unfold nodesOf store0 PoolD.get;simp [ht]
theorem range_getD (n v : Nat) (h : v < n) : (List.range n).getD v 0 = v := by simp [List.getD, h]
theorem store0_ok (n room : Nat) (hn : n <= 64) : StoreOK (store0 n room) (fun _ _ => true) := by
 have hl : ∀ v, v < n -> levN (store0 n room) v = v := fun v hv => range_getD n v hv
 have hlen : (store0 n room).vars.length = n := by simp [store0]
 have hno : ∀ i b, nodesOf (store0 n room) i = some b -> False := fun i b h => by rw [nodes0] at h; cases h
 refine ⟨⟨fun _ => rfl, by rw [nodes0], fun i b h => (hno i b h).elim, fun u v hu hv e => ?_, fun v hv => ?_, fun i b h => (hno i b h).elim, fun i b h => (hno i b h).elim, fun i b h => (hno i b h).elim, fun i b h => (hno i b h).elim, fun i b h => (hno i b h).elim, fun i b h => (hno i b h).elim, fun i j b h => (hno i b h).elim, fun i b h => (hno i b h).elim⟩,
  ?_, fun v hv lo hi id => ⟨fun h => absurd (show (none : Option Nat) = some id from h) (by simp), fun h => (hno _ _ h).elim⟩, by simp [store0], by rw [hlen]; exact hn, fun v hv => ?_, fun i hi => ?_⟩
 ·
  rw [hlen] at hu hv; rw [hl u hu, hl v hv] at e; exact e
 ·
  rw [hlen] at hv ⊢; rw [hl v hv]; exact hv
 ·
  refine ⟨⟨fun i b h => (hno i b h).elim, fun i b h => (hno i b h).elim⟩, ?_, fun i b h => (hno i b h).elim⟩;have h1 : deadN (store0 n room).pool.at_.length (nodesOf (store0 n room)) (cntOf (store0 n room)) = sumTo (store0 n room).pool.at_.length (dead1 (nodesOf (store0 n room)) (cntOf (store0 n room))) := rfl;rw [h1, nodes0];have h2 : dead1 (fun _ => none) (cntOf (store0 n room)) 0 = 0 := rfl
  show (0 : Int) = sumTo 1 _
  simp [sumTo, h2]
 ·
  rw [hlen] at hv; rw [hl v hv]; exact range_getD n v hv
 ·
  rw [hlen] at hi ⊢;have e : (store0 n room).vars.getD i 0 = i := range_getD n i hi;rw [e]; exact ⟨hi, hl i hi⟩
theorem man0_ok (n room : Nat) (hn : n <= 64) : ManOK (man0 n room) (fun _ _ => true) :=
 ⟨store0_ok n room hn, ⟨by simp [man0], by simp [man0], by simp [man0], by simp [man0], by simp [man0], fun p hp => by simp [man0] at hp; rcases hp with rfl | rfl <;> exact .inl rfl, by simp [man0], fun i b h => by rw [show (man0 n room).d = store0 n room from rfl, nodes0] at h; cases h⟩⟩
def iteLaw : Law := fun d V op a b c r => op = 1 -> IteP d V a b c r
theorem iteLaw_ok : LawOK iteLaw := ⟨fun d V a b c r => ⟨fun h => h rfl, fun h _ => h⟩, fun d V d' V' op a b c r hk hk' x h e => (h e).ext x hk hk', fun d d' V op a b c r h1 h2 h3 h e => by
 have q := h e;have hl : levN d' = levN d := by funext v; unfold levN; rw [h2]
 have hm : minL d' a b c = minL d a b c := by unfold minL; rw [h1, hl, h3]
 exact ⟨by rw [h3]; exact q.okA, by rw [h3]; exact q.okB, by rw [h3]; exact q.okC, by rw [h3]; exact q.okR, q.val, by rw [hm, h1, hl, h3]; exact q.lev⟩⟩
theorem new_man {F : Phi} (o : Own) (n room : Nat) (w : World) (hlt : OwnLt o w) (hn : n <= 64) (h1 : 1 <= room) (h2 : room <= 1048576) :
 Calls Tryz.prog 14 #[.int .i64 n, .int .i64 room] w fun x w' => ∃ mb o', x = .returned (.tuple #[.pointer (some ⟨mb, 0, none⟩), .int .i64 0]) /\ ManAt F o' w' mb (man0 n room) /\ Chg (fun _ => True) o o' w w' /\ OwnLt o' w' /\ w.heap.size <= mb := by
 have HS := Lib.hid (new_store o n room w hlt hn h1 h2);clear hlt hn h1 h2
 go_enter Tryz.func14, Tryz.ntmps14
 go_wp2_with fail;refine HS.out.mono ?_;rintro x w1 ⟨sb, o1, rfl, hst, hc1, hl1, hsb⟩;have HST := Lib.hid hst;have HC1 := Lib.hid hc1;have HL1 := Lib.hid hl1;clear hst hc1 hl1;have hmk := makeMap_run (P := Tryz.prog) w1 101;obtain ⟨wA, hrA, hmA, hgA⟩ := (mapIs_new w1 (Value.int .i64)).update (P := Tryz.prog) kI Tryz.underlying101 0 (.int .i64 1);obtain ⟨wB, hrB, hmB, hgB⟩ := hmA.update (P := Tryz.prog) kI Tryz.underlying101 1 (.int .i64 0);have hl0 := HL1.out.allocR (.map #[] 0) .handles;have hcB : Chg (fun _ => True) o (ownAt o1 w1.heap.size .handles) w wB :=
  ((HC1.out.any.allocR (r := .handles) HL1.out (.map #[] 0) trivial).grown hgA (fun g hg => by cases hg; exact ⟨_, ownAt_same _ _ _, trivial⟩)).grown hgB (fun g hg => by cases hg; exact ⟨_, ownAt_same _ _ _, trivial⟩)
 have hlB : OwnLt (ownAt o1 w1.heap.size .handles) wB := hl0.mono (Nat.le_trans hgA.size hgB.size);have hne : ∀ g r, o1 g = some r -> g ≠ w1.heap.size := fun g r hg e => by have := HL1.out g r hg; omega
 have hkeep : ∀ g r, o1 g = some r -> wB.heap[g]? = w1.heap[g]? := fun g r hg => by
  have a0 := HL1.out g r hg;have a1 : g < (w1.alloc (.map #[] 0)).heap.size := by simp; omega
  rw [hgB.block g (Nat.lt_of_lt_of_le a1 hgA.size) (by intro e; cases e; exact hne _ _ hg rfl), hgA.block g a1 (by intro e; cases e; exact hne _ _ hg rfl)];exact Go.heap_alloc_old _ _ a0
 have HSB := Lib.hid (HST.out.keepR (o' := ownAt o1 w1.heap.size .handles) (fun g r hg _ => hkeep g r hg) (fun g r hg => ownAt_old HL1.out (Nat.le_refl _) hg));have HMB : Hid (MapIs wB w1.heap.size (Value.int .i64) [(0, .int .i64 1), (1, .int .i64 0)]) := Lib.hid hmB;have HCB := Lib.hid hcB;have HLB := Lib.hid hlB;have HME := Lib.hid (new_memo (ownAt o1 w1.heap.size .handles) F wB hlB);have hgs : w1.heap.size < wB.heap.size := hmB.lt;clear hmA hgA hmB hgB hl0 hcB hlB hne hkeep;go_wp2_with fail;refine HME.out.mono ?_;rintro x w2 ⟨me, o2, rfl, hme, hc2, hl2, hge⟩;have hst2 := HSB.out.keepR (o' := o2) (w' := w2) (fun g r hg hr => hc2.same HLB.out hg (by rintro rfl; simp [RStore, RPool] at hr)) hc2.ext;have hmap2 := HMB.out.keepB (hc2.same HLB.out (ownAt_same o1 w1.heap.size .handles) (by simp));have hoh := hc2.ext _ _ (ownAt_same o1 w1.heap.size .handles);have HF : Hid (∀ w3, w3 = w2.alloc (.cells #[.pointer (some ⟨sb, 0, none⟩), .pointer (some ⟨me, 0, none⟩), .map (some w1.heap.size), .int .i64 2, .slice none 0 0, .int .i64 0] 105) -> ManAt F (ownAt o2 w2.heap.size .man) w3 w2.heap.size (man0 n room) /\ Chg (fun _ => True) o (ownAt o2 w2.heap.size .man) w w3 /\ OwnLt (ownAt o2 w2.heap.size .man) w3 /\ w.heap.size <= w2.heap.size) := by
  refine Lib.hid ?_;rintro w3 rfl;have hk3 : ∀ g r, o2 g = some r -> (w2.alloc (.cells #[.pointer (some ⟨sb, 0, none⟩), .pointer (some ⟨me, 0, none⟩), .map (some w1.heap.size), .int .i64 2, .slice none 0 0, .int .i64 0] 105)).heap[g]? = w2.heap[g]? := fun g r hg => Go.heap_alloc_old _ _ (hl2 g r hg)
  have ho3 : ∀ g r, o2 g = some r -> ownAt o2 w2.heap.size .man g = some r := fun g r hg => ownAt_old hl2 (Nat.le_refl _) hg
  exact ⟨⟨⟨sb, me, w1.heap.size, .slice none 0 0⟩, ownAt_same _ _ _, heap_alloc_new w2 _, hst2.keepR (fun g r hg _ => hk3 g r hg) ho3, hme.keep (fun g r hg _ => hk3 g r hg) ho3, ho3 _ _ hoh, hmap2.keepB (hk3 _ _ hoh), WaitsAt.nil _ _⟩,
   (HCB.out.trans hc2.any).allocR hl2 _ trivial, hl2.allocR _ _, (HCB.out.trans hc2.any).size⟩
 clear hst2 hmap2 hoh hme hc2 hl2;go_wp2_with fail
 go_ret2
 obtain ⟨a1, a2, a3, a4⟩ := HF.out _ rfl;exact ⟨_, _, rfl, a1, a2, a3, a4⟩
open Go.RowKit
section
variable {F : Phi} {o : Own} {w : World} {sb mb : Nat} {d : StoreD} {m : ManD}
theorem storeVars_any (h : StoreAt o w sb d) : Calls Tryz.prog 104 #[.pointer (some ⟨sb, 0, none⟩)] w fun x w' => x = .returned (.int .i64 d.vars.length) /\ w = w' := by
 obtain ⟨s, h⟩ := h;obtain ⟨c0, c1, c2, c3, c4, f0⟩ := cells5 h.blk;obtain ⟨d0, d1, _⟩ := cells2 h.lev;obtain ⟨a, cap, hv, _⟩ := h.vars.slice;rw [hv] at d0;clear h hv
 go_enter Tryz.func104, Tryz.ntmps104
 go_wp2_with fail;go_ret;exact ⟨rfl, rfl⟩
theorem storeRoom_any (h : StoreAt o w sb d) : Calls Tryz.prog 105 #[.pointer (some ⟨sb, 0, none⟩)] w fun x w' => x = .returned (.int .i64 d.pool.room) /\ w = w' := by
 obtain ⟨s, h⟩ := h;obtain ⟨c0, c1, c2, c3, c4, f0⟩ := cells5 h.blk;have HP := Lib.hid (poolRoom_any o s.pb d.pool w h.pool);clear h
 go_enter Tryz.func105, Tryz.ntmps105
 go_wp2_with fail;refine HP.out.mono ?_;rintro x w' ⟨rfl, rfl⟩;go_wp2_with fail;go_ret;exact ⟨rfl, rfl⟩
theorem storeLen_any (h : StoreAt o w sb d) : Calls Tryz.prog 81 #[.pointer (some ⟨sb, 0, none⟩)] w fun x w' => x = .returned (.int .i64 d.pool.many) /\ w = w' := by
 obtain ⟨s, h⟩ := h;obtain ⟨c0, c1, c2, c3, c4, f0⟩ := cells5 h.blk;have HP := Lib.hid (poolLen_any o s.pb d.pool w h.pool);clear h
 go_enter Tryz.func81, Tryz.ntmps81
 go_wp2_with fail;refine HP.out.mono ?_;rintro x w' ⟨rfl, rfl⟩;go_wp2_with fail;go_ret;exact ⟨rfl, rfl⟩
theorem manVars_any (h : ManAt F o w mb m) : Calls Tryz.prog 51 #[.pointer (some ⟨mb, 0, none⟩)] w fun x w' => x = .returned (.int .i64 m.d.vars.length) /\ w = w' := by
 obtain ⟨s, h⟩ := h;obtain ⟨c0, c1, c2, c3, c4, c5, f0⟩ := cells6 h.blk;have HP := Lib.hid (storeVars_any h.store);clear h
 go_enter Tryz.func51, Tryz.ntmps51
 go_wp2_with fail;refine HP.out.mono ?_;rintro x w' ⟨rfl, rfl⟩;go_wp2_with fail;go_ret;exact ⟨rfl, rfl⟩
end
open Go.RowKit
structure BoolsAt (w : World) (a : Option Addr) (bs : List Bool) : Prop where
 len : bs.length <= 1000000
 cells : ∀ k, k < bs.length -> ∃ b off, a = some ⟨b, off, none⟩ /\ w.cell? ⟨b, off + k, none⟩ = some (.bool (bs.getD k false))
theorem BoolsAt.below {w w' : World} {a : Option Addr} {bs : List Bool} (h : BoolsAt w a bs) (hb : Below w.heap.size w w') : BoolsAt w' a bs :=
 ⟨h.len, fun k hk => by
  obtain ⟨b, off, rfl, hc⟩ := h.cells k hk;exact ⟨b, off, rfl, (hb.cell (p := ⟨b, off + k, none⟩) (lt_of_cell hc)).trans hc⟩⟩
def envOf (bs : List Bool) : Nat -> Bool := fun v => bs.getD v false
theorem eval_yes {F : Phi} {o : Own} {w : World} {mb : Nat} {m : ManD} {V : Nat -> BF} (h : ManAt F o w mb m) (hlt : OwnLt o w) (hk : ManOK m V) {k : Int} {f : Nat} (hkf : (k, f) ∈ m.hs) (a : Option Addr) (c : Nat) (bs : List Bool) (hbs : BoolsAt w a bs) :
 Calls Tryz.prog 58 #[.pointer (some ⟨mb, 0, none⟩), .int .i64 k, .slice a bs.length c] w fun x w' => x = .returned (.tuple #[.bool (ef V f (envOf bs)), .int .i64 0]) /\ Below w.heap.size w w' := by
 obtain ⟨s, h⟩ := h;obtain ⟨c0, c1, c2, c3, c4, c5, f0⟩ := cells6 h.blk;have hlk := look_yes h hk.handles.nodup hkf;have HM := Lib.hid h;have HLT := Lib.hid hlt;have HK := Lib.hid hk.store;have HOKF := Lib.hid (hk.handles.ok _ hkf);have HBS := Lib.hid hbs;have hbl := hbs.len;clear h hlt hk hkf hbs
 go_enter Tryz.func58, Tryz.ntmps58
 go_wp2_with fail
 go_loopg [8] (m.d.vars.length - lvE m.d.vars.length (levN m.d) (nodesOf m.d) f) (fun gk s8 wx => ∃ e : Nat, s8 = .int .i64 e /\ okE (nodesOf m.d) e /\ ef V e (envOf bs) = ef V f (envOf bs) /\ Below w.heap.size w wx /\ gk = m.d.vars.length - lvE m.d.vars.length (levN m.d) (nodesOf m.d) e)
 case atStart => exact ⟨f, rfl, HOKF.out, rfl, Below.refl _ _, rfl⟩
 case round =>
  obtain ⟨e, rfl, hok, hev, hB, hgk⟩ := hrel;clear c0 c1 c2 c3 c4 c5 f0 hlk;have hm := HM.out.below HLT.out hB;obtain ⟨c0, c1, c2, c3, c4, c5, f0⟩ := cells6 hm.blk;have hel : e < eMax := by
   obtain ⟨ss, hss⟩ := hm.store;have := hss.edge_lt hok; unfold eMax; omega
  have HC := Lib.hid (fun W => const_any e W hel);have HA := Lib.hid (storeAt_ok hm.store (HLT.out.mono hB.size) HK.out e hok);have HEV := Lib.hid hev;have HB := Lib.hid hB;have HGK := Lib.hid hgk;clear hm hel hev hB hgk;cases hb : nodesOf m.d (e / 2) with
  | none =>
    have h0 : e / 2 = 0 := by
     rcases hok with h | ⟨b, hb'⟩
     ·
      exact h
     ·
      rw [hb] at hb'; cases hb'
    have he : decide (enode e = 0) = true := by simp [enode, h0]
    rw [he] at HC;have HR : Hid (ef V f (envOf bs) = ((e : Int) == 0)) := by
     show _ = _
     rw [<- HEV.out];have h1 := HK.out.dag.one (envOf bs);have h2 : e = 0 \/ e = 1 := by omega
     rcases h2 with rfl | rfl <;> simp [ef, h1]
    clear hok hb h0 he;go_wp2_with fail;refine (HC.out _).mono ?_;rintro x w' ⟨rfl, rfl⟩;go_wp2_with fail
    go_ret2
    exact ⟨by rw [HR.out]; rfl, HB.out⟩
  | some b =>
    have hbv := HK.out.dag.var _ _ hb;have hlv : lvE m.d.vars.length (levN m.d) (nodesOf m.d) e = levN m.d b.v := by unfold lvE; rw [hb]
    have hco := cofs_ok HK.out hok hbv (by rw [hlv]; exact Nat.le_refl _);have hcf : cofs m.d e b.v = (eflip b.lo (eneg e), eflip b.hi (eneg e)) := by unfold cofs; rw [hb]; simp
    rw [hcf] at hco;obtain ⟨k1, k2, k3, k4, k5⟩ := hco;have k5 := k5 (envOf bs);dsimp only at k1 k2 k3 k4 k5;have hlt2 := HK.out.dag.lt _ hbv;have hne : decide (enode e = 0) = false := by
     have : enode e ≠ 0 := by rintro h0; have h1 : e / 2 = 0 := h0; rw [h1, HK.out.dag.none0] at hb; cases hb
     simp [this]
    rw [hne] at HC;unfold atV at HA;rw [hb] at HA;obtain ⟨L, hL⟩ : ∃ L, L = eflip b.lo (eneg e) := ⟨_, rfl⟩;obtain ⟨H, hH⟩ : ∃ H, H = eflip b.hi (eneg e) := ⟨_, rfl⟩;rw [<- hL, <- hH] at k5;rw [<- hL] at k1 k3;rw [<- hH] at k2 k4;dsimp only at HA;rw [<- hL, <- hH] at HA;rw [hlv] at HGK;have HK1 := Lib.hid k1;have HK2 := Lib.hid k2;have HK3 := Lib.hid k3;have HK4 := Lib.hid k4;have HK5 := Lib.hid k5;have HL2 := Lib.hid hlt2;clear hok hb hbv hlv hcf k1 k2 k3 k4 k5 hlt2 hne hL hH;go_wp2_with fail;refine (HC.out _).mono ?_;rintro x w' ⟨rfl, rfl⟩;go_wp2_with fail;refine HA.out.mono ?_;rintro x w2 ⟨rfl, hb2⟩;have HB2 := Lib.hid (HB.out.trans (hb2.mono HB.out.size));clear hb2 c0 c1 c2 c3 c4 c5 f0
    by_cases hv : b.v < bs.length
    ·
     obtain ⟨b0, off, ha, hcell⟩ := (HBS.out.below HB2.out).cells b.v hv;subst ha;have hv' : (b.v : Int) < bs.length := by omega
     have hx : envOf bs b.v = bs.getD b.v false := rfl;rw [<- hx] at hcell;cases hxx : envOf bs b.v with
     | true =>
       rw [hxx] at hcell HK5;clear hxx hx;go_wp2_with fail
       go_roundg (m.d.vars.length - lvE m.d.vars.length (levN m.d) (nodesOf m.d) H)
       case rel => exact ⟨H, rfl, HK2.out, by rw [<- HEV.out, HK5.out]; rfl, HB2.out, rfl⟩
       case measure => have h1 := HGK.out; have h2 := HK4.out; have h3 := HL2.out; omega
     | false =>
       rw [hxx] at hcell HK5;clear hxx hx;go_wp2_with fail
       go_roundg (m.d.vars.length - lvE m.d.vars.length (levN m.d) (nodesOf m.d) L)
       case rel => exact ⟨L, rfl, HK1.out, by rw [<- HEV.out, HK5.out]; rfl, HB2.out, rfl⟩
       case measure => have h1 := HGK.out; have h2 := HK3.out; have h3 := HL2.out; omega
    ·
     have hv' : ¬ (b.v : Int) < bs.length := by omega
     have hx : envOf bs b.v = false := by unfold envOf; simp [List.getD, List.getElem?_eq_none (Nat.le_of_not_lt hv)]
     rw [hx] at HK5;clear hx;go_wp2_with fail
     go_roundg (m.d.vars.length - lvE m.d.vars.length (levN m.d) (nodesOf m.d) L)
     case rel => exact ⟨L, rfl, HK1.out, by rw [<- HEV.out, HK5.out]; rfl, HB2.out, rfl⟩
     case measure => have h1 := HGK.out; have h2 := HK3.out; have h3 := HL2.out; omega
open Go.RowKit
structure ElemT (T ST : TypeId) (z : Value) (b : Nat) : Prop where
 under : Tryz.prog.underlying ST = some (.slice T)
 info : (Tryz.prog.info? T).map (fun i => (i.zero, i.size, i.bytes)) = some (some z, 1, b)
 one : z.cells = #[z]
 small : b <= 100
theorem elemInt : ElemT 3 22 (.int .i64 0) 8 := ⟨Tryz.underlying22, by kernel_rfl, rfl, by omega⟩
theorem elemBool : ElemT 4 36 (.bool false) 1 := ⟨Tryz.underlying36, by kernel_rfl, rfl, by omega⟩
theorem elemRow : ElemT 36 33 (.slice none 0 0) 24 := ⟨Tryz.underlying33, by kernel_rfl, rfl, by omega⟩
def OwnC (T : TypeId) (w : World) (base : Nat) (v : Value) (xs : List Value) : Prop := w.ownsRow base T 1 v xs.length xs
section
variable {T ST : TypeId} {z : Value} {b : Nat} {w w' : World} {base : Nat} {v : Value} {xs : List Value}
theorem OwnC.alloc (h : OwnC T w base v xs) (o : Obj) : OwnC T (w.alloc o) base v xs := World.ownsRow.alloc h o
theorem OwnC.lt (h : OwnC T w base v xs) : ∀ k, v.ownBlock = some k -> base <= k /\ k < w.heap.size := World.ownsRow.lt h
theorem OwnC.same (h : OwnC T w base v xs) (hk : ∀ k, v.ownBlock = some k -> w'.heap[k]? = w.heap[k]?) : OwnC T w' base v xs := by
 refine ⟨h.1, ?_⟩;rcases h.2 with hn | ⟨g, cap, cur, rfl, hb, hgg, rest⟩
 ·
  exact .inl hn
 ·
  refine .inr ⟨g, cap, cur, rfl, hb, ?_, rest⟩;rw [hk g rfl]; exact hgg
theorem OwnC.below (h : OwnC T w base v xs) (hb : Below w.heap.size w w') : OwnC T w' base v xs := h.same fun k hk => hb.block k (h.lt k hk).2
theorem OwnC.shape (h : OwnC T w base v xs) (hp : 0 < xs.length) : ∃ g cap, v = .slice (some ⟨g, 0, none⟩) xs.length cap /\ base <= g /\ g < w.heap.size := by
 rcases h.2 with ⟨_, h0⟩ | ⟨g, cap, cur, hv, hg, hh, _⟩
 ·
  omega
 ·
  exact ⟨g, cap, hv, hg, (Array.getElem?_eq_some_iff.1 hh).1⟩
theorem OwnC.slice (h : OwnC T w base v xs) : ∃ a cap, v = .slice a xs.length cap /\ (a = none -> cap = 0) := by
 rcases h.2 with ⟨hv, h0⟩ | ⟨g, cap, cur, hv, hg, hh, _⟩
 ·
  exact ⟨none, 0, by rw [hv, h0], fun _ => rfl⟩
 ·
  exact ⟨_, cap, hv, by simp⟩
theorem OwnC.cell {g cap n : Nat} (h : OwnC T w base (.slice (some ⟨g, 0, none⟩) n cap) xs) (k : Nat) (hk : k < xs.length) : w.cell? ⟨g, k, none⟩ = xs[k]? := by
 have hn : n = xs.length := by
  rcases h.2 with ⟨hv, _⟩ | ⟨_, _, _, hv, _⟩
  ·
   cases hv
  ·
   cases hv; rfl
 subst hn;exact World.ownsRow.cellAt h k (by omega)
theorem OwnC.frozen {g cap n : Nat} (h : OwnC T w base (.slice (some ⟨g, 0, none⟩) n cap) xs) (k : Nat) : w.frozen? ⟨g, k, none⟩ = false := by
 rcases h.2 with ⟨hv, _⟩ | ⟨_, _, _, hv, _⟩
 ·
  cases hv
 ·
  cases hv; exact World.ownsRow.frozenAt h k
theorem OwnC.stored {g cap n : Nat} (h : OwnC T w base (.slice (some ⟨g, 0, none⟩) n cap) xs) (k : Nat) (y : Value) : OwnC T (w.setCell ⟨g, k, none⟩ y) base (.slice (some ⟨g, 0, none⟩) n cap) (xs.set k y) := by
 rcases h.2 with ⟨hv, _⟩ | ⟨_, _, _, hv, _⟩
 ·
  cases hv
 ·
  cases hv;have := (World.ownsRow.stored h k y).1;unfold OwnC;rw [List.length_set];exact this
theorem OwnC.typed (h : OwnC T w base v xs) : ∀ k, v.ownBlock = some k -> ∃ cur, w.heap[k]? = some (.cells cur T (0, 0)) := by
 intro k hk;rcases h.2 with ⟨rfl, _⟩ | ⟨g, cap, cur, rfl, _, hg, _⟩
 ·
  cases hk
 ·
  cases hk; exact ⟨cur, hg⟩
theorem ownC_new (T : TypeId) (w : World) (base : Nat) (hb : base <= w.heap.size) : OwnC T (w.alloc (.cells #[] T)) base (.slice (some ⟨w.heap.size, 0, none⟩) 0 0) [] :=
 World.ownsRow_made w #[] 0 hb (by unfold maxLen; omega) (by simp)
theorem ownC_nil (T : TypeId) (w : World) (base : Nat) : OwnC T w base (.slice none 0 0) [] := World.ownsRow_nil w base T 1
theorem wpList_appC (E : ElemT T ST z b) (wr : World) {ops : Array Oper} {rest : List Oper} {o : Oper} {a : Act} {Q : Exit -> Act -> World -> Prop} {W : World} (hgd : o.guard = none) (s x : Operand)
 (ho : o.op = .call { callee := .builtin .append, args := #[s, x], argTypes := #[ST, ST] })
 (base : Nat) (v : Value) (xs : List Value) (y : Value) (hs : a.eval s = v) {N : Nat} (hx : a.eval x = .slice (some ⟨N, 0, none⟩) 1 1)
 (hW : W = wr.alloc (.cells #[y] T)) (hN : N = wr.heap.size) (hy : y.oneCell' = true)
 (hown : OwnC T wr base v xs) (hlen : xs.length < 1099511627776) (hbase : base <= wr.heap.size)
 (h : ∀ v' w', OwnC T w' base v' (xs ++ [y]) -> w'.os = wr.os -> w'.tape = wr.tape -> w'.output = wr.output -> wr.heap.size <= w'.heap.size -> KeepApp v v' wr w' -> wpList Tryz.prog ops Q rest (a.put o.dst v') w') :
 wpList Tryz.prog ops Q (o :: rest) a W := by
 obtain ⟨i, hi, hz, hsz, hby⟩ := info_parts E.info;subst hN; subst hW
 have hsm := E.small;refine wpList_append_own_at (w := wr.alloc (.cells #[y] T)) hgd s x ST ho base T i z 1 b E.under hi hz hsz hby (by rw [E.one]; rfl) (by decide)
  v xs.length xs hs (hown.alloc _) ⟨wr.heap.size, 0, none⟩ 1 1 [y] hx rfl (cell_one_new _ _ _) (by intro u hu; simp at hu; subst hu; exact hy) (by unfold maxLen; omega) (by
   have h1 : (xs.length + 1) * b <= 1099511627776 * 100 := Nat.mul_le_mul (by omega) hsm;omega) (by simp; omega) ?_
 intro v' w' h1 h2 _ hloc;refine h v' w' ?_ h2.os h2.tape h2.output ?_ ⟨keepBut_of_grown h2, hloc.imp id fun e => ⟨_, e, by simp⟩⟩
 ·
  unfold OwnC;rw [List.length_append]; exact h1
 ·
  have := h2.size; simp at this; omega
theorem below_app {w0 wr w' : World} {v' : Value} (hb : Below base w0 wr) (hown : OwnC T wr base v xs) (h1 : w'.os = wr.os) (h2 : w'.tape = wr.tape) (h3 : w'.output = wr.output) (h4 : wr.heap.size <= w'.heap.size) (hk : KeepApp v v' wr w') (hbase : base <= wr.heap.size) : Below base w0 w' :=
 ⟨h1.trans hb.os, h2.trans hb.tape, h3.trans hb.output, Nat.le_trans hb.size h4, fun k hkb => (hk.keep k (by omega) (fun e => by have := (hown.lt k e.symm).1; omega)).trans (hb.block k hkb)⟩
theorem wpList_makeC (E : ElemT T ST z b) {ops : Array Oper} {rest : List Oper} {o : Oper} {a : Act} {Q : Exit -> Act -> World -> Prop} {wr : World} (hgd : o.guard = none) (l c : Operand)
 (ho : o.op = .makeSlice ST l c) (base : Nat) (w0 : World) (L : Int) (n : Nat) (hl : a.eval l = .int .i64 L) (hc : a.eval c = .int .i64 L) (hL : L = n) (hn : n < 1099511627776)
 (hbase : base <= wr.heap.size) (hb : Below base w0 wr)
 (h : ∀ g w', OwnC T w' base (.slice (some ⟨g, 0, none⟩) n n) (List.replicate n z) -> Below base w0 w' -> base <= w'.heap.size -> KeepBut none wr w' -> base <= g -> g = wr.heap.size ->
  wpList Tryz.prog ops Q rest (a.put o.dst (.slice (some ⟨g, 0, none⟩) n n)) w') :
 wpList Tryz.prog ops Q (o :: rest) a wr := by
 obtain ⟨i, hi, hz, hsz, hby⟩ := info_parts E.info;have hsm := E.small
 refine wpList_make_full wr hgd l c ST ho base T i z 1 E.under hi hz hsz .i64 .i64 L L n hl hc hL hL (by
  have h1 : i.bytes * n <= 100 * 1099511627776 := Nat.mul_le_mul (by omega) (by omega);omega) (by unfold maxLen; omega) hbase ?_
 intro w' h1 h2;refine h wr.heap.size w' ?_ (hb.grown h2 hbase (by simp)) (by have := h2.size; omega) (keepBut_of_grown0 h2) hbase rfl;unfold OwnC;have e1 : List.replicate n z = (madeCells z.cells (n * 1)).toList := by
  rw [E.one];simp [madeCells];apply List.ext_getElem
  ·
   simp
  ·
   intro j h3 h4; simp [Nat.mod_one]
 rw [List.length_replicate, e1]; exact h1
end
def boolsV (bs : List Bool) : List Value := bs.map Value.bool
theorem boolsV_length (bs : List Bool) : (boolsV bs).length = bs.length := by simp [boolsV]
theorem getElem?_boolsV {bs : List Bool} {k : Nat} (h : k < bs.length) : (boolsV bs)[k]? = some (.bool (bs.getD k false)) := by
 simp [boolsV, List.getD, h]
abbrev OwnB (w : World) (base : Nat) (v : Value) (bs : List Bool) : Prop := OwnC 4 w base v (boolsV bs)
def BoolsIs (w : World) (v : Value) (bs : List Bool) : Prop := ∃ a c, v = .slice a bs.length c /\ BoolsAt w a bs /\ (a = none -> c = 0)
theorem BoolsIs.below {w w' : World} {v : Value} {bs : List Bool} (h : BoolsIs w v bs) (hb : Below w.heap.size w w') : BoolsIs w' v bs := by
 obtain ⟨a, c, rfl, h1, h2⟩ := h;exact ⟨a, c, rfl, h1.below hb, h2⟩
theorem BoolsIs.same {w w' : World} {v : Value} {bs : List Bool} (h : BoolsIs w v bs) (hk : ∀ k, v.ownBlock = some k -> w'.heap[k]? = w.heap[k]?) : BoolsIs w' v bs := by
 obtain ⟨a, c, rfl, h1, h2⟩ := h;refine ⟨a, c, rfl, ⟨h1.len, fun k hlt => ?_⟩, h2⟩;obtain ⟨g, off, rfl, hc⟩ := h1.cells k hlt;exact ⟨g, off, rfl, (World.cell?_of_block (w := w) (a := ⟨g, off + k, none⟩) (hk g rfl)).trans hc⟩
theorem OwnC.boolsIs {w : World} {base : Nat} {v : Value} {bs : List Bool} (h : OwnB w base v bs) (hl : bs.length <= 1000000) : BoolsIs w v bs := by
 obtain ⟨a, c, hv, hn⟩ := h.slice;have hv0 := hv;rw [boolsV_length] at hv0;refine ⟨a, c, hv0, ⟨hl, fun k hk => ?_⟩, hn⟩;obtain ⟨g, cap, hv2, hb, hg⟩ := h.shape (by rw [boolsV_length]; omega);have ea : a = some ⟨g, 0, none⟩ := by rw [hv] at hv2; injection hv2
 subst ea;refine ⟨g, 0, rfl, ?_⟩;subst hv;rw [Nat.zero_add, h.cell k (by rw [boolsV_length]; exact hk), getElem?_boolsV hk]
theorem OwnC.setB {w : World} {base g cap n : Nat} {bs : List Bool} (h : OwnB w base (.slice (some ⟨g, 0, none⟩) n cap) bs) (k : Nat) (y : Bool) : OwnB (w.setCell ⟨g, k, none⟩ (.bool y)) base (.slice (some ⟨g, 0, none⟩) n cap) (bs.set k y) := by
 have := h.stored k (.bool y);unfold OwnB;rw [show boolsV (bs.set k y) = (boolsV bs).set k (.bool y) by simp [boolsV, List.map_set]];exact this
theorem OwnC.cellB {w : World} {base g cap n : Nat} {bs : List Bool} (h : OwnB w base (.slice (some ⟨g, 0, none⟩) n cap) bs) (k : Nat) (hk : k < bs.length) : w.cell? ⟨g, k, none⟩ = some (.bool (bs.getD k false)) := by
 rw [h.cell k (by rw [boolsV_length]; exact hk), getElem?_boolsV hk]
open Go.RowKit
def bitB (i v : Nat) : Bool := decide (i / 2 ^ v % 2 = 1)
def bitsL (i n : Nat) : List Bool := (List.range n).map (bitB i)
def tabB (n : Nat) (F : BF) : List Bool := (List.range (2 ^ n)).map fun i => F (envOf (bitsL i n))
theorem bitsL_length (i n : Nat) : (bitsL i n).length = n := by simp [bitsL]
theorem tabB_length (n : Nat) (F : BF) : (tabB n F).length = 2 ^ n := by simp [tabB]
theorem tabB_get {n : Nat} {F : BF} {i : Nat} (hi : i < 2 ^ n) : (tabB n F).getD i false = F (envOf (bitsL i n)) := by simp [tabB, List.getD, hi]
theorem envOf_bits {i n v : Nat} : envOf (bitsL i n) v = (decide (v < n) && bitB i v) := by
 unfold envOf bitsL
 by_cases h : v < n
 ·
  simp [List.getD, h]
 ·
  simp [List.getD, h]
theorem tab_ext {bs : List Bool} {n : Nat} {F : BF} (hl : bs.length = 2 ^ n) (h : ∀ i, i < 2 ^ n -> bs.getD i false = F (envOf (bitsL i n))) : bs = tabB n F := by
 refine List.ext_getElem (by rw [hl, tabB_length]) fun i h1 h2 => ?_
 have := h i (by omega);have e : (tabB n F).getD i false = F (envOf (bitsL i n)) := tabB_get (by omega);rw [<- this] at e;simpa [List.getD, h1, h2] using e.symm
theorem pow_small {k : Nat} (h : k <= 20) : 2 ^ k <= 1048576 := Nat.pow_le_pow_right (by omega) h
theorem bit_any (v : Nat) (hv : v <= 20) (w : World) : Calls Tryz.prog 98 #[.int .i64 v] w fun x w' => x = .returned (.int .i64 (2 ^ v : Nat)) /\ w = w' := by
 have HS : Hid (∀ k, k <= v -> 2 ^ k <= 1048576) := Lib.hid fun k hk => pow_small (by omega)
 go_enter Tryz.func98, Tryz.ntmps98
 go_wp2_with fail
 go_loopw [3, 4] (fun s3 s4 wr => ∃ k p : Nat, k <= v /\ s3 = .int .i64 p /\ s4 = .int .i64 k /\ w = wr /\ Hid (2 ^ k = p)) (fun _ s4 _ => v - (intOf s4).toNat)
 case atStart => exact ⟨0, 1, Nat.zero_le _, rfl, rfl, rfl, Lib.hid rfl⟩
 case round =>
  obtain ⟨k, p, hk, rfl, rfl, rfl, HP⟩ := hrel
  by_cases hlt : k < v
  ·
   have hp : p <= 1048576 := by rw [<- HP.out]; exact HS.out k hk
   go_wp2_with fail;go_roundw
   case rel => exact ⟨k + 1, 2 * p, by omega, by go_num, by go_num, by simp, Lib.hid (by rw [Nat.pow_succ, HP.out]; omega)⟩
   case measure => simp [intOf]; omega
  ·
   have he : k = v := by omega
   have HE : Hid (2 ^ v = p) := by rw [<- he]; exact HP
   clear he;go_wp2_with fail;go_ret;exact ⟨by rw [HE.out]; rfl, rfl⟩
theorem truth_any (i v : Nat) (hi : i <= 1048576) (hv : v <= 20) (w : World) : Calls Tryz.prog 79 #[.int .i64 i, .int .i64 v] w fun x w' => x = .returned (.bool (bitB i v)) /\ w = w' := by
 have HB := Lib.hid (bit_any v hv w);have hpos : 0 < 2 ^ v := Nat.pow_pos (by omega);have hsm := pow_small hv;obtain ⟨p, hp⟩ : ∃ p, p = 2 ^ v := ⟨_, rfl⟩;rw [<- hp] at hpos hsm HB;have hdiv : i / p <= i := Nat.div_le_self _ _;have HF : Hid (((wrap64 ((i : Int) / (p : Int))).tmod 2 == 1) = bitB i v) := by
  refine Lib.hid ?_;unfold bitB;rw [<- hp];have e0 : (i : Int) / (p : Int) = ((i / p : Nat) : Int) := rfl;rw [e0]
  generalize i / p = q at hdiv ⊢
  rw [IntWalk.wrap64_in _ (by omega)];have e1 : Int.tmod (q : Int) 2 = ((q % 2 : Nat) : Int) := by rw [Int.tmod_eq_emod_of_nonneg (by omega)]; rfl
  rw [e1]
  by_cases h : q % 2 = 1
  ·
   rw [h]; rfl
  ·
   have : ((q % 2 : Nat) : Int) ≠ 1 := by omega
   rw [beq_eq_false_iff_ne.2 this, decide_eq_false h]
 clear hp
 go_enter Tryz.func79, Tryz.ntmps79
 go_wp2_with fail;refine HB.out.mono ?_;rintro x w' ⟨rfl, rfl⟩;go_wp2_with fail;go_ret;exact ⟨by rw [<- HF.out]; rfl, rfl⟩
theorem set_replicate {α : Type} (a b : α) (k n : Nat) (h : k < n) : (List.replicate k a ++ List.replicate (n - k) b).set k a = List.replicate (k + 1) a ++ List.replicate (n - (k + 1)) b := by
 have e : n - k = (n - (k + 1)) + 1 := by omega
 rw [e, List.replicate_succ, List.set_append_right _ _ (by simp), List.length_replicate, Nat.sub_self, List.set_cons_zero, List.replicate_succ', List.append_assoc]; rfl
theorem refConst_any (b : Bool) (n : Nat) (hn : n <= 16) (w : World) : Calls Tryz.prog 27 #[.bool b, .int .i64 n] w fun x w' => ∃ g, x = .returned (.slice (some ⟨g, 0, none⟩) (2 ^ n) (2 ^ n)) /\ OwnB w' w.heap.size (.slice (some ⟨g, 0, none⟩) (2 ^ n) (2 ^ n)) (List.replicate (2 ^ n) b) /\ Below w.heap.size w w' := by
 have HS : Hid (∀ k, k <= n -> 2 ^ k <= 1048576) := Lib.hid fun k hk => pow_small (by omega)
 obtain ⟨L, hL⟩ : ∃ L, L = 2 ^ n := ⟨_, rfl⟩;have HL := Lib.hid hL;have hLs : L <= 1048576 := by rw [hL]; exact pow_small (by omega)
 rw [<- hL];clear hL
 go_enter Tryz.func27, Tryz.ntmps27
 go_wp2_with fail
 go_loopw [5, 6] (fun s5 s6 wr => ∃ k p : Nat, k <= n /\ s5 = .int .i64 p /\ s6 = .int .i64 k /\ w = wr /\ Hid (2 ^ k = p)) (fun _ s6 _ => n - (intOf s6).toNat)
 case atStart => exact ⟨0, 1, Nat.zero_le _, rfl, rfl, rfl, Lib.hid rfl⟩
 case round =>
  obtain ⟨k, p, hk, rfl, rfl, rfl, HP⟩ := hrel
  by_cases hlt : k < n
  ·
   have hp : p <= 1048576 := by rw [<- HP.out]; exact HS.out k hk
   go_wp2_with fail;go_roundw
   case rel => exact ⟨k + 1, 2 * p, by omega, by go_num, by go_num, by simp, Lib.hid (by rw [Nat.pow_succ, HP.out]; omega)⟩
   case measure => simp [intOf]; omega
  ·
   have he : k = n := by omega
   have hp : p = L := by rw [<- HP.out, he, HL.out]
   subst hp;clear he;go_wp2_with (at_make; refine wpList_makeC elemBool rfl _ _ rfl w.heap.size w _ p rfl rfl rfl (by omega) (Nat.le_refl _) (Below.refl _ _) ?_; intro g w1 hown1 hb1 hs1 hk1 hg1 hgx; clear hgx)
   go_loopw [8] (fun i wr => ∃ j : Nat, j <= p /\ i = .int .i64 j /\ OwnB wr w.heap.size (.slice (some ⟨g, 0, none⟩) p p) (List.replicate j b ++ List.replicate (p - j) false) /\ Below w.heap.size w wr) (fun i _ => p - (intOf i).toNat)
   case atStart => exact ⟨0, by omega, rfl, by unfold OwnB; rw [show boolsV (List.replicate 0 b ++ List.replicate (p - 0) false) = List.replicate p (Value.bool false) by simp [boolsV]]; exact hown1, hb1⟩
   case round =>
    obtain ⟨j, hj, rfl, hown, hbel⟩ := hrel
    by_cases hlt : j < p
    ·
     have q0 := hown.cellB j (by simp; omega);have p0 := hown.frozen j;go_wp2_with fail;go_roundw
     case rel => exact ⟨j + 1, by omega, by go_num, by rw [<- set_replicate b false j p hlt]; exact hown.setB j b, hbel.setCell hg1 _⟩
     case measure => simp [intOf]; omega
    ·
     obtain rfl : j = p := by omega
     go_wp2_with fail;go_ret;exact ⟨_, rfl, by simpa using hown, hbel⟩
theorem list_take_set {α : Type} {l m : List α} {k : Nat} {y : α} (hk : k < l.length) (hm : k < m.length) (hy : m[k] = y) : (m.take k ++ l.drop k).set k y = m.take (k + 1) ++ l.drop (k + 1) := by
 have h1 : (m.take k).length = k := by simp; omega
 rw [List.set_append_right _ _ (by omega), h1, Nat.sub_self, List.drop_eq_getElem_cons hk, List.set_cons_zero, List.take_succ_eq_append_getElem hm, hy, List.append_assoc]; rfl
theorem refVar_any (v n : Nat) (hv : v <= 16) (hn : n <= 16) (w : World) : Calls Tryz.prog 16 #[.int .i64 v, .int .i64 n] w fun x w' => ∃ g, x = .returned (.slice (some ⟨g, 0, none⟩) (2 ^ n) (2 ^ n)) /\ OwnB w' w.heap.size (.slice (some ⟨g, 0, none⟩) (2 ^ n) (2 ^ n)) ((List.range (2 ^ n)).map (fun i => bitB i v)) /\ Below w.heap.size w w' := by
 have HCONST := Lib.hid (refConst_any false n hn w);have hLs : 2 ^ n <= 1048576 := pow_small (by omega);have HTR : Hid (∀ i, i <= 1048576 -> ∀ W, Calls Tryz.prog 79 #[.int .i64 (i : Nat), .int .i64 (v : Nat)] W fun x w' => x = .returned (.bool (bitB i v)) /\ W = w') := Lib.hid fun i hi W => truth_any i v hi (by omega) W
 obtain ⟨L, hL⟩ : ∃ L, L = 2 ^ n := ⟨_, rfl⟩;rw [<- hL] at hLs HCONST ⊢;clear hL
 go_enter Tryz.func16, Tryz.ntmps16
 go_wp2_with fail;refine HCONST.out.mono ?_;rintro x w1 ⟨g, rfl, hown, hb1⟩;have hg1 : w.heap.size <= g := (hown.lt g rfl).1;clear HCONST;go_wp2_with fail
 go_loopw [6] (fun s6 wr => ∃ j : Nat, j <= L /\ s6 = .int .i64 j /\ OwnB wr w.heap.size (.slice (some ⟨g, 0, none⟩) L L) (((List.range L).map (fun i => bitB i v)).take j ++ (List.replicate L false).drop j) /\ Below w.heap.size w wr) (fun s6 _ => L - (intOf s6).toNat)
 case atStart => exact ⟨0, by omega, rfl, by simpa using hown, hb1⟩
 case round =>
  clear hown hb1;obtain ⟨j, hj, rfl, hown, hbel⟩ := hrel
  by_cases hlt : j < L
  ·
   have q0 := hown.cellB j (by simp; omega);have p0 := hown.frozen j;have HOWN := Lib.hid hown;have HBEL := Lib.hid hbel;clear hown hbel;go_wp2_with fail;refine (HTR.out j (by omega) _).mono ?_;rintro x w2 ⟨rfl, rfl⟩;go_wp2_with fail;go_roundw
   case rel => exact ⟨j + 1, by omega, by go_num, by rw [<- list_take_set (by simp; omega) (by simp; omega) (y := bitB j v) (by simp)]; exact HOWN.out.setB j _, HBEL.out.setCell hg1 _⟩
   case measure => simp [intOf]; omega
  ·
   obtain rfl : j = L := by omega
   go_wp2_with fail;go_ret;exact ⟨g, rfl, by simpa [List.take_of_length_le] using hown, hbel⟩
theorem hold02_any (n : Nat) (hn : n <= 64) (w : World) : Calls Tryz.prog 131 #[.int .i64 n, .int .i64 0, .int .i64 64] w fun x w' => x = .returned (.int .i64 n) /\ w = w' := by
 go_enter Tryz.func131, Tryz.ntmps131
 go_wp2_with fail;go_ret;exact ⟨rfl, rfl⟩
theorem bitsL_succ (i n : Nat) : bitsL i (n + 1) = bitsL i n ++ [bitB i n] := by simp [bitsL, List.range_succ]
theorem refOf_any (i n : Nat) (hi : i <= 1048576) (hn : n <= 16) (w : World) : Calls Tryz.prog 90 #[.int .u64 i, .int .i64 n] w fun x w' => ∃ v, x = .returned v /\ OwnB w' w.heap.size v (bitsL i n) /\ Below w.heap.size w w' := by
 have HH : Hid (∀ W, Calls Tryz.prog 131 #[.int .i64 (n : Nat), .int .i64 0, .int .i64 64] W fun x w' => x = .returned (.int .i64 (n : Nat)) /\ W = w') := Lib.hid fun W => hold02_any n (by omega) W
 go_enter Tryz.func90, Tryz.ntmps90
 go_wp2_with fail
 go_loopw [0, 5, 6] (fun s0 s5 s6 wr => ∃ j q : Nat, j <= n /\ q <= 1048576 /\ s6 = .int .i64 j /\ s0 = .int .u64 q /\ Hid (i / 2 ^ j = q) /\ OwnB wr w.heap.size s5 (bitsL i j) /\ w.heap.size <= wr.heap.size /\ Below w.heap.size w wr) (fun _ _ s6 _ => n - (intOf s6).toNat)
 case atStart => exact ⟨0, i, Nat.zero_le _, hi, rfl, rfl, Lib.hid (by simp), ownC_new _ w _ (Nat.le_refl _), by simp, below_new1 w _⟩
 case round =>
  obtain ⟨j, q, hj, hq, rfl, rfl, HQ, hown, hsz, hbel⟩ := hrel
  by_cases hlt : j < n
  ·
   have HB : Hid (((q : Int).tmod 2 == 1) = bitB i j) := by
    refine Lib.hid ?_
    show ((q : Int).tmod 2 == 1) = bitB i j
    unfold bitB;rw [HQ.out];have e1 : Int.tmod (q : Int) 2 = ((q % 2 : Nat) : Int) := by rw [Int.tmod_eq_emod_of_nonneg (by omega)]; rfl
    rw [e1]
    by_cases h : q % 2 = 1
    ·
     rw [h]; rfl
    ·
     have : ((q % 2 : Nat) : Int) ≠ 1 := by omega
     rw [beq_eq_false_iff_ne.2 this, decide_eq_false h]
   have HOWN := Lib.hid hown;have HBEL := Lib.hid hbel;clear hown hbel;go_wp2_with fail;refine (HH.out _).mono ?_;rintro x w2 ⟨rfl, rfl⟩;go_wp2_with (at_builtin; refine wpList_appC elemBool _ rfl _ _ rfl w.heap.size _ (boolsV (bitsL i j)) _ rfl rfl rfl rfl rfl (by exact HOWN.out) (by simp [boolsV, bitsL_length]; omega) hsz ?_; intro v1 w1 hown1 e1 e2 e3 e4 hk1);go_roundw
   case rel =>
    refine ⟨j + 1, q / 2, by omega, by omega, by go_num, rfl, Lib.hid ?_, ?_, by omega, below_app HBEL.out HOWN.out e1 e2 e3 e4 hk1 hsz⟩
    ·
     rw [Nat.pow_succ, <- Nat.div_div_eq_div_mul, HQ.out]
    ·
     rw [bitsL_succ];have e5 : boolsV (bitsL i j ++ [bitB i j]) = boolsV (bitsL i j) ++ [.bool (bitB i j)] := by simp [boolsV]
     unfold OwnB;rw [e5, <- HB.out];exact hown1
   case measure => simp [intOf]; omega
  ·
   have he : j = n := by omega
   subst he;have HOWN := Lib.hid hown;have HBEL := Lib.hid hbel;clear hown hbel;go_wp2_with fail;refine (HH.out _).mono ?_;rintro x w2 ⟨rfl, rfl⟩;go_wp2_with fail;go_ret;exact ⟨_, rfl, HOWN.out, HBEL.out⟩
open Go.RowKit
end Go.Proofs.YtchliiaknmknhaaGreat

namespace Go.Proofs.YtchliiaknmknhaaGreat
open Go.RowKit
theorem intsAt_row {o : Own} {w : World} {r : Role} {a : Option Addr} {cap : Nat} {xs : List Nat} (h : RowR o w r 3 1 (.slice a xs.length cap) xs.length (xs.map nat64)) (hl : xs.length <= 1000000) : IntsAt w a (xs.map Int.ofNat) := by
 refine ⟨by simp; omega, fun k hk => ?_⟩;simp only [List.length_map] at hk;obtain ⟨g, cap', he, _⟩ := h.shape (by omega);cases he;refine ⟨g, 0, rfl, ?_⟩;have h1 := h.cell k (by simpa using hk);rw [Nat.zero_add, h1, at0_eq (by simpa using hk)];simp [nat64, hk]
theorem storeOrder_any {o : Own} {w : World} {sb : Nat} {d : StoreD} (h : StoreAt o w sb d) (hlt : OwnLt o w) (hl : d.vars.length <= 64) :
 Calls Tryz.prog 97 #[.pointer (some ⟨sb, 0, none⟩)] w fun x w' => ∃ v, x = .returned v /\ OwnI w' w.heap.size v (d.vars.map Int.ofNat) /\ Below w.heap.size w w' := by
 obtain ⟨s, h⟩ := h;obtain ⟨c0, c1, c2, c3, c4, f0⟩ := cells5 h.blk;obtain ⟨d0, d1, _⟩ := cells2 h.lev;have lsb : sb < w.heap.size := lt_of_cell c0;have llb : s.lb < w.heap.size := lt_of_cell d0;obtain ⟨a, cap, hv, _, _, hnil, _⟩ := h.vars.slice;have hrow := h.vars;rw [hv] at d0 hrow;have HI := Lib.hid (intsAt_row hrow (by omega));have HN := Lib.hid hnil;have e : d.vars.length = (d.vars.map Int.ofNat).length := by simp
 rw [e] at d0;have hl' : (d.vars.map Int.ofNat).length <= 64 := by rw [<- e]; exact hl
 generalize d.vars.map Int.ofNat = zs at *
 clear h hv hrow e hnil hl
 go_enter Tryz.func97, Tryz.ntmps97
 go_wp2_with (at_builtin; refine wpList_appAll rfl _ _ rfl w.heap.size w _ [] zs _ _ rfl rfl (ownI_new w w.heap.size (Nat.le_refl _)) (HI.out.below (below_new1 _ _)) (by simp; omega) (by simp) (below_new1 _ _) HN.out ?_; intro v1 w1 hown1 hbel1 hsz1 hkb1);go_ret;exact ⟨_, rfl, by simpa using hown1, hbel1⟩
theorem manOrder_any {F : Phi} {o : Own} {w : World} {mb : Nat} {m : ManD} (h : ManAt F o w mb m) (hlt : OwnLt o w) (hl : m.d.vars.length <= 64) :
 Calls Tryz.prog 42 #[.pointer (some ⟨mb, 0, none⟩)] w fun x w' => ∃ v, x = .returned v /\ OwnI w' w.heap.size v (m.d.vars.map Int.ofNat) /\ Below w.heap.size w w' := by
 obtain ⟨s, h⟩ := h;obtain ⟨c0, c1, c2, c3, c4, c5, f0⟩ := cells6 h.blk;have HP := Lib.hid (storeOrder_any h.store hlt hl);clear h hlt hl
 go_enter Tryz.func42, Tryz.ntmps42
 go_wp2_with fail;refine HP.out.mono ?_;rintro x w' ⟨v, rfl, h1, h2⟩;have H1 := Lib.hid h1;have H2 := Lib.hid h2;clear h1 h2;go_wp2_with fail;go_ret;exact ⟨v, rfl, H1.out, H2.out⟩
open Go.RowKit
section
variable {n room : Nat} {w0 w : World} {mb : Nat} {fs : List (Int × BF)} {many : Nat}
end
open Go.RowKit
section
variable {w0 w : World} {mb : Nat}
end
end Go.Proofs.YtchliiaknmknhaaGreat

namespace Go.Proofs.YtchliiaknmknhaaGreat
open Go.RowKit Go.Shelf
attribute [local go_sem] Oper.semAt_some
def takenU (p : PoolD) (k : Nat) : List Nat := (List.range k).filter p.tk
def takenL (p : PoolD) : List Nat := takenU p p.at_.length
theorem takenU_yes {p : PoolD} {k : Nat} (h : p.tk k = true) : takenU p (k + 1) = takenU p k ++ [k] := by
 unfold takenU; rw [List.range_succ, List.filter_append]; simp [h]
theorem takenU_no {p : PoolD} {k : Nat} (h : p.tk k = false) : takenU p (k + 1) = takenU p k := by
 unfold takenU; rw [List.range_succ, List.filter_append]; simp [h]
theorem takenU_pre (p : PoolD) {k m : Nat} : k <= m -> ∃ suf, takenU p k ++ suf = takenU p m := by
 induction m with
 | zero => intro h; obtain rfl : k = 0 := by omega
           exact ⟨[], by simp⟩
 | succ m ih =>
   intro h
   by_cases e : k = m + 1
   ·
    subst e; exact ⟨[], by simp⟩
   ·
    obtain ⟨suf, hs⟩ := ih (by omega);cases h2 : p.tk m with
    | false => exact ⟨suf, by rw [takenU_no h2]; exact hs⟩
    | true => exact ⟨suf ++ [m], by rw [takenU_yes h2, <- hs, List.append_assoc]⟩
theorem takenU_suf {p : PoolD} {k : Nat} (h : p.tk k = true) (hk : k < p.at_.length) : ∃ suf, takenU p k ++ k :: suf = takenL p := by
 obtain ⟨suf, hs⟩ := takenU_pre p (k := k + 1) (m := p.at_.length) (by omega);rw [takenU_yes h, List.append_assoc] at hs;exact ⟨suf, hs⟩
theorem mem_takenL {p : PoolD} {pre suf : List Nat} {x : Nat} (h : pre ++ x :: suf = takenL p) : p.tk x = true := by
 have : x ∈ takenL p := by rw [<- h]; simp
 exact (List.mem_filter.1 this).2
structure ItS (n₀ : Nat) (o : Own) (w0 : World) (pb : Nat) (p : PoolD) (Bp : Nat) (M0 M : Nat -> Prop) (W0 W : World) : Prop where
 low : Below n₀ w0 W
 box : W.cell? ⟨Bp, 0, none⟩ = some (.pointer (some ⟨pb, 0, none⟩))
 wr : Wr (fun k => n₀ <= k) W0 W
 sub : ∀ k, M k -> M0 k \/ W0.heap.size <= k
 nb : ¬ M Bp
theorem ItS.go {n₀ : Nat} {o : Own} {w0 : World} {pb : Nat} {p : PoolD} {Bp : Nat} {M0 M M' : Nat -> Prop} {W0 W W' : World} (h : ItS n₀ o w0 pb p Bp M0 M W0 W) (hn : n₀ <= W0.heap.size) (hge : ∀ k, M k -> n₀ <= k) (hw : Wr M W W')
 (hM : ∀ k, M' k -> M k \/ W.heap.size <= k) : ItS n₀ o w0 pb p Bp M0 M' W0 W' := by
 have hs := h.wr.size;have hb := lt_of_cell h.box;refine ⟨h.low.trans (hw.below hge (by omega)), ?_, h.wr.trans hw (fun _ _ h => h) (fun k _ hk => hge k hk), fun k hk => ?_, fun e => ?_⟩
 ·
  exact (World.cell?_of_block (w := W) (a := ⟨Bp, 0, none⟩) (hw.keep Bp hb h.nb)).trans h.box
 ·
  rcases hM k hk with h1 | h1
  ·
   exact h.sub k h1
  ·
   right; omega
 ·
  rcases hM Bp e with h1 | h1
  ·
   exact h.nb h1
  ·
   have hb' : Bp < W.heap.size := hb;omega
theorem ids1_gives (F : Fence) (n : Nat) (hF : F.fn 169) (hro : F.round = none) (hn : 1 <= n) (Bp n₀ pb : Nat) {o : Own} {w0 : World} {p : PoolD} (hp : PoolAt o w0 pb p) (hlt : OwnLt o w0) (h0 : w0.heap.size <= n₀) (w : World)
 (hw : Below n₀ w0 w) (hn0 : n₀ <= w.heap.size) (hBp : w.cell? ⟨Bp, 0, none⟩ = some (.pointer (some ⟨pb, 0, none⟩))) :
 Gives F n 0 Tryz.prog 169 #[.pointer (some ⟨Bp, 0, none⟩)] (fun i : Nat => #[.int .i64 i]) n₀ (· = Bp) (takenL p) w := by
 intro l J M W hOw hMi hWr hBM hY hJ;have hb0 := lt_of_cell hBp;have hS0 : ItS n₀ o w0 pb p Bp M M W W := ⟨hw.trans (hWr.below (fun k h => h.1) hn0), (World.cell?_of_block (w := w) (a := ⟨Bp, 0, none⟩) (hWr.keep Bp hb0 (fun h => h.2 rfl))).trans hBp, Wr.refl _ _, fun k h => .inl h, hBM Bp rfl⟩;have hnW : n₀ <= W.heap.size := Nat.le_trans hn0 hWr.size;have HP : ∀ W', Below n₀ w0 W' -> PoolAt o W' pb p := fun W' hb => hp.below (hb.mono h0) hlt
 obtain ⟨vs, vt, vf, c0, c1, c2, c3, c4, hs, ht, _⟩ := (HP W hS0.low).cells;have hbx := hS0.box;have hpos := hp.pos;obtain ⟨gs, cs, rfl, _⟩ := hs.shape hpos;have hlen := hp.len;have htop := hp.top;have hroom := hp.room;have HPH := Lib.hid HP;have HYH := Lib.hid hY;have HSH := Lib.hid hS0;have HOW := Lib.hid hOw;clear HP hY hs ht hp hlt h0 hS0 hOw hMi hWr hBM hw hn0 hBp hb0;refine callsIn_of_wp Tryz.func169 rfl hF ?_ hro;simp only [Tryz.ntmps169, List.size_toArray, List.length_cons, List.length_nil, Nat.reduceAdd, Nat.reduceSub, Array.replicate_succ, Array.replicate_zero, List.push_toArray, List.append_toArray, List.nil_append, List.cons_append]
 gi_wp2
 gi_loopw [11] (fun i wr => ∃ (k : Nat) (M1 : Nat -> Prop), k <= p.at_.length /\ i = .int .i64 k /\ J (takenU p k) M1 wr /\ ItS n₀ o w0 pb p Bp M M1 W wr) (fun i _ => p.at_.length - (intOf i).toNat)
 case atStart => exact ⟨0, M, Nat.zero_le _, rfl, hJ, HSH.out⟩
 case round =>
  obtain ⟨k, M1, hk, rfl, hJs, hS⟩ := hrel
  by_cases hlt : k < p.at_.length
  ·
   obtain ⟨vs, vt, vf, d0, d1, d2, d3, d4, hs, ht, _⟩ := (HPH.out wr hS.low).cells;have hbx := hS.box;obtain ⟨gt, ct, rfl, _⟩ := ht.shape (by rw [hlen]; exact hpos);have hcf := PoolAt.flag ht (k := k) (by omega);rw [hlen] at d2;have hlt' : (k : Int) < p.at_.length := by omega
   have HS := Lib.hid hS;cases hB : p.tk k with
   | false =>
     rw [hB] at hcf;have HJS : Hid (J (takenU p (k + 1)) M1 wr) := by show J _ _ _; rw [takenU_no hB]; exact hJs
     clear hB hs ht hS hJs hJ
     gi_wp2
     refine ⟨fun _ h => (by cases h), ?_⟩
     gi_wp2
     go_roundw
     case rel => exact ⟨k + 1, M1, by omega, by simp, HJS.out, HS.out⟩
     case measure => simp [intOf]; omega
   | true =>
     rw [hB] at hcf;have HGE := Lib.hid (fun q (hq : M1 q) => (HOW.out _ _ _ hJs q hq).1);obtain ⟨fn, tmps, assign, body, hy, hR⟩ := HYH.out _ k M1 wr hJs (takenU_suf hB hlt);have HU := Lib.hid (takenU_yes hB);have HR := Lib.hid hR;clear hs ht hS hJs hR hB hJ
     gi_wp2
     refine HR.out.mono ?_;rintro e W3 ⟨rfl, M3, hJ3, hw3, hM3⟩;have HJ3 := Lib.hid hJ3;have HK3 := Lib.hid (HS.out.go hnW HGE.out hw3 hM3);clear hJ3 hw3 hM3
     gi_wp2
     go_roundw
     case rel => exact ⟨k + 1, M3, by omega, by simp, by rw [HU.out]; exact HJ3.out, HK3.out⟩
     case measure => simp [intOf]; omega
  ·
   obtain rfl : k = p.at_.length := by omega
   have HJS := Lib.hid hJs;have HS := Lib.hid hS;clear hJs hS hJ
   gi_wp2
   go_end0;exact ⟨⟨_, rfl⟩, M1, HJS.out, HS.out.wr, HS.out.sub⟩
theorem ids_in (F : Fence) (n : Nat) (hF : F.fn 158) (hro : F.round = none) (pb : Nat) (w : World) :
 CallsIn F n Tryz.prog 158 #[.pointer (some ⟨pb, 0, none⟩)] w fun e w' => e = .returned (.func (.func 169) #[] #[.pointer (some ⟨w.heap.size, 0, none⟩)]) /\ w' = w.alloc (.cells #[.pointer (some ⟨pb, 0, none⟩)] 136) := by
 refine callsIn_of_wp Tryz.func158 rfl hF ?_ hro;simp only [Tryz.ntmps158, List.size_toArray, List.length_cons, List.length_nil, Nat.reduceAdd, Nat.reduceSub, Array.replicate_succ, Array.replicate_zero, List.push_toArray, List.append_toArray, List.nil_append, List.cons_append]
 gi_wp2
 go_ret;exact ⟨rfl, rfl⟩
theorem each_in (F : Fence) (n : Nat) (hF : F.fn 143) (hro : F.round = none) (pb : Nat) (w : World) :
 CallsIn F n Tryz.prog 143 #[.pointer (some ⟨pb, 0, none⟩)] w fun e w' => e = .returned (.func (.func 157) #[] #[.pointer (some ⟨w.heap.size, 0, none⟩)]) /\ w' = w.alloc (.cells #[.pointer (some ⟨pb, 0, none⟩)] 136) := by
 refine callsIn_of_wp Tryz.func143 rfl hF ?_ hro;simp only [Tryz.ntmps143, List.size_toArray, List.length_cons, List.length_nil, Nat.reduceAdd, Nat.reduceSub, Array.replicate_succ, Array.replicate_zero, List.push_toArray, List.append_toArray, List.nil_append, List.cons_append]
 gi_wp2
 go_ret;exact ⟨rfl, rfl⟩
end Go.Proofs.YtchliiaknmknhaaGreat

namespace Go.Proofs.YtchliiaknmknhaaGreat
open Go.RowKit Go.Shelf
attribute [local go_sem] Oper.semAt_some
structure EaS (n₀ : Nat) (o : Own) (w0 : World) (pb : Nat) (p : PoolD) (Bp By l : Nat) (M0 M : Nat -> Prop) (W0 W : World) : Prop where
 it : ItS n₀ o w0 pb p Bp M0 M W0 W
 boxy : W.cell? ⟨By, 0, none⟩ = some (.func (.yield l) #[] #[])
 ny : ¬ M By
 ge : ∀ k, M k -> n₀ <= k
theorem cell_wr {M : Nat -> Prop} {W W' : World} {b k : Nat} {v : Value} (h : Wr M W W') (hc : W.cell? ⟨b, k, none⟩ = some v) (hn : ¬ M b) : W'.cell? ⟨b, k, none⟩ = some v :=
 (World.cell?_of_block (w := W) (a := ⟨b, k, none⟩) (h.keep b (lt_of_cell hc) hn)).trans hc
theorem EaS.go {n₀ : Nat} {o : Own} {w0 : World} {pb : Nat} {p : PoolD} {Bp By l : Nat} {M0 M M' : Nat -> Prop} {W0 W W' : World} (h : EaS n₀ o w0 pb p Bp By l M0 M W0 W) (hn : n₀ <= W0.heap.size) (hw : Wr M W W')
 (hM : ∀ k, M' k -> M k \/ W.heap.size <= k) : EaS n₀ o w0 pb p Bp By l M0 M' W0 W' := by
 have hs := h.it.wr.size;have hb : By < W.heap.size := lt_of_cell h.boxy;refine ⟨h.it.go hn h.ge hw hM, cell_wr hw h.boxy h.ny, fun e => ?_, fun k hk => ?_⟩
 ·
  rcases hM By e with h1 | h1
  ·
   exact h.ny h1
  ·
   omega
 ·
  rcases hM k hk with h1 | h1
  ·
   exact h.ge k h1
  ·
   omega
theorem each1_gives (F : Fence) (n : Nat) (hF1 : F.fn 157) (hF2 : F.fn 158) (hF3 : F.fn 169) (hro : F.round = none) (hn : 4 <= n) (Bp n₀ pb : Nat) {o : Own} {w0 : World} {p : PoolD} (hp : PoolAt o w0 pb p) (hlt : OwnLt o w0) (h0 : w0.heap.size <= n₀) (w : World)
 (hw : Below n₀ w0 w) (hn0 : n₀ <= w.heap.size) (hBn : n₀ <= Bp) (hBp : w.cell? ⟨Bp, 0, none⟩ = some (.pointer (some ⟨pb, 0, none⟩))) :
 Gives F n 2 Tryz.prog 157 #[.pointer (some ⟨Bp, 0, none⟩)] (fun i : Nat => #[rnAgg (p.nd i)]) n₀ (· = Bp) (takenL p) w := by
 intro l J M W hOw hMi hWr hBM hY hJ;have hb0 : Bp < w.heap.size := lt_of_cell hBp;have hBW : Bp < W.heap.size := Nat.lt_of_lt_of_le hb0 hWr.size;have hnW : n₀ <= W.heap.size := Nat.le_trans hn0 hWr.size;have hbW : W.cell? ⟨Bp, 0, none⟩ = some (.pointer (some ⟨pb, 0, none⟩)) := cell_wr hWr hBp (fun h => h.2 rfl);have hlW : Below n₀ w0 W := hw.trans (hWr.below (fun k h => h.1) hn0);obtain ⟨V, hV⟩ : ∃ V, V = (W.alloc (.cells #[.func (.yield l) #[] #[]] 132)).alloc (.cells #[.pointer (some ⟨pb, 0, none⟩)] 136) := ⟨_, rfl⟩;have hWV : ∀ N, Wr N W V := fun N => by rw [hV]; exact ((Wr.refl N W).alloc _).alloc _
 have hJV : J [] M V := hMi _ _ _ _ hJ (hWV _);have hMlt := hOw _ _ _ hJ;have hyV : V.cell? ⟨W.heap.size, 0, none⟩ = some (.func (.yield l) #[] #[]) := by rw [hV]; simp
 have hpV : V.cell? ⟨W.heap.size + 1, 0, none⟩ = some (.pointer (some ⟨pb, 0, none⟩)) := by rw [hV]; simp
 have hBV : V.cell? ⟨Bp, 0, none⟩ = some (.pointer (some ⟨pb, 0, none⟩)) := cell_wr (hWV (fun _ => False)) hbW (fun h => h);have hlowV : Below n₀ w0 V := hlW.trans ((hWV (fun k => n₀ <= k)).below (fun _ h => h) hnW);have hVs : V.heap.size = W.heap.size + 2 := by rw [hV]; simp
 have hEa : EaS n₀ o w0 pb p Bp W.heap.size l M M V V := ⟨⟨hlowV, hBV, Wr.refl _ _, fun k h => .inl h, hBM Bp rfl⟩, hyV, fun e => by have := (hMlt _ e).2; omega, fun k h => (hMlt k h).1⟩;have HP : ∀ W', Below n₀ w0 W' -> PoolAt o W' pb p := fun W' hb => hp.below (hb.mono h0) hlt
 have HG := Lib.hid (ids1_gives F (n - 1) hF3 hro (by omega) (W.heap.size + 1) n₀ pb hp hlt h0 V hlowV (by omega) hpV);have HPH := Lib.hid HP;have HYH := Lib.hid hY;have HEA := Lib.hid hEa;have HOW := Lib.hid hOw;have HMlt := Lib.hid hMlt;have HMI := Lib.hid hMi;have HJV := Lib.hid hJV;have HWV := Lib.hid hWV;have hlen := hp.len;have hpos := hp.pos;have htop := hp.top;have hroom := hp.room;have h1 : 1 <= n := by omega
 have hbA : (W.alloc (.cells #[.func (.yield l) #[] #[]] 132)).cell? ⟨Bp, 0, none⟩ = some (.pointer (some ⟨pb, 0, none⟩)) := cell_wr ((Wr.refl (fun _ => False) W).alloc _) hbW (fun h => h);refine callsIn_of_wp_marks Tryz.func157 rfl hF1 ?_ hro;simp only [Tryz.ntmps157, List.size_toArray, List.length_cons, List.length_nil, Nat.reduceAdd, Nat.reduceSub, Array.replicate_succ, Array.replicate_zero, List.push_toArray, List.append_toArray, List.nil_append, List.cons_append];clear hOw hMi hWr hBM hY hJ hJV hMlt hyV hpV hBV hlowV hEa HP hp hlt h0 hw hBp hlW hWV hVs
 gi_wp2_with (gi_at_call 158; refine (ids_in F (n - 1) hF2 hro _ _).mono ?_; rintro e w' ⟨rfl, rfl⟩)
 rw [<- hV];have hVs : V.heap.size = W.heap.size + 2 := by rw [hV]; simp
 clear hV;have hmx : Tryz.prog.follows .mixedOrders = true := by kernel_rfl
 refine wp_range hro h1 (gf := 169) (lb := #[.pointer (some ⟨W.heap.size + 1, 0, none⟩)]) rfl hF3 (enters_of Tryz.func169 (by kernel_rfl) rfl) HG.out
  (by omega) (by rintro k rfl; omega) (fun x => rfl)
  (fun pre N V' => ∃ M1, (∀ k, N k ↔ M1 k \/ k = W.heap.size \/ k = Bp) /\ J pre M1 V' /\ EaS n₀ o w0 pb p Bp W.heap.size l M M1 V V')
  ?_ ?_ (fun k => M k \/ k = W.heap.size \/ k = Bp) ?_ ⟨M, fun k => Iff.rfl, HJV.out, HEA.out⟩
  (fun x a' _ _ => a' = {
   tmps :=
    #[Value.func (Fn.yield l) #[] #[], Value.pointer (some { block := Bp, off := 0 }),
     Value.pointer (some { block := W.heap.size, off := 0 }), Value.int IntKind.i64 ↑x,
     Value.pointer (some { block := pb, off := 0 }),
     Value.func (Fn.func 169) #[] #[Value.pointer (some { block := W.heap.size + 1, off := 0 })],
     Value.int IntKind.i64 ↑x, undef, undef, undef, undef, undef, undef, undef, undef, undef, undef],
   defers := [] }) ?_ ?_ ?_ ?_
 ·
  rintro pre N V' ⟨M1, hN, hj, hE⟩ k hk;rcases (hN k).1 hk with h | h | h
  ·
   exact HOW.out _ _ _ hj k h
  ·
   subst h; exact ⟨hnW, lt_of_cell hE.boxy⟩
  ·
   subst h; exact ⟨hBn, lt_of_cell hE.it.box⟩
 ·
  rintro pre N V' V'' ⟨M1, hN, hj, hE⟩ hw
  have hkeep : ∀ k, k < V'.heap.size -> (k < n₀ \/ N k) -> V''.heap[k]? = V'.heap[k]? := fun k hk hn => hw.keep k hk (fun ⟨a, b⟩ => by
   rcases hn with h | h
   ·
    omega
   ·
    exact b h)
  refine ⟨M1, hN, HMI.out _ _ _ _ hj (hw.mono fun k ⟨a, b⟩ => ⟨a, fun h => b ((hN k).2 (.inl h))⟩), ⟨⟨?_, ?_, ?_, hE.it.sub, hE.it.nb⟩, ?_, hE.ny, hE.ge⟩⟩
  ·
   exact hE.it.low.trans (hw.below (fun k h => h.1) (by have := hE.it.wr.size; omega))
  ·
   exact (World.cell?_of_block (w := V') (a := ⟨Bp, 0, none⟩) (hkeep _ (lt_of_cell hE.it.box) (.inr ((hN _).2 (.inr (.inr rfl)))))).trans hE.it.box
  ·
   exact hE.it.wr.trans hw (fun _ _ h => h) (fun k _ h => h.1)
  ·
   exact (World.cell?_of_block (w := V') (a := ⟨W.heap.size, 0, none⟩) (hkeep _ (lt_of_cell hE.boxy) (.inr ((hN _).2 (.inr (.inl rfl)))))).trans hE.boxy
 ·
  rintro k rfl h;have hM1 : W.heap.size + 1 < W.heap.size \/ W.heap.size + 1 = W.heap.size \/ W.heap.size + 1 = Bp := by
   rcases h with h | h
   ·
    left; exact (HMlt.out _ h).2
   ·
    right; exact h
  omega
 ·
  intro x a' W' W1 W2 l' _ h _;exact h
 ·
  intro l' pre x N V' K hI hK
  gi_wp2
  exact hK _ _ (Wr.refl _ _) rfl
 ·
  rintro l' pre x a' N W0 W1 ⟨M1, hN, hj, hE⟩ rfl hs0 hs1 hsuf;obtain ⟨suf, hsuf⟩ := hsuf;have hx : p.tk x = true := mem_takenL hsuf;obtain ⟨vs, vt, vf, d0, d1, d2, d3, d4, hs, ht, _⟩ := (HPH.out W1 hE.it.low).cells;have hbx := hE.it.box;have hby := hE.boxy;obtain ⟨gs, cs, rfl, hsl⟩ := hs.shape hpos;have hxl := ((HPH.out W1 hE.it.low).tk_lt hx).2;have hcn := PoolAt.node hs (k := x) hxl;have hxi : (x : Int) < p.at_.length := by omega
  obtain ⟨fn, tmps, assign, body, hy, hR⟩ := HYH.out _ x M1 W1.drew (HMI.out _ _ _ _ hj ((Wr.refl _ W1).drew)) ⟨suf, hsuf⟩;simp only [rnAgg] at hy;have HR := Lib.hid hR;have HE := Lib.hid hE;have HN := Lib.hid hN;clear hs hE hj hR hN hsuf hsl
  gi_wp2
  gi_region_with_o (refine ⟨fun _ => by omega, HR.out.mono ?_⟩; rintro e W3 ⟨rfl, M3, hJ3, hw3, hM3⟩)
  all_goals gi_wp2
  all_goals exact ⟨fun k => M3 k \/ k = W.heap.size \/ k = Bp, ⟨M3, fun k => Iff.rfl, hJ3, HE.out.go (by omega) (Wr.trans ((Wr.refl M1 W1).drew) hw3 (fun _ _ h => h) (fun _ _ h => h)) hM3⟩,
   Wr.trans ((Wr.refl M1 W1).drew) hw3 (fun k _ h => .inl ((HN.out k).2 (.inl h))) (fun k _ h => .inl ((HN.out k).2 (.inl h))),
   fun k hk => by
    rcases hk with hk | hk
    ·
     rcases hM3 k hk with h | h
     ·
      exact .inl ((HN.out k).2 (.inl h))
     ·
      right; have : W1.heap.size <= k := h; omega
    ·
     exact .inl ((HN.out k).2 (.inr hk))⟩
 ·
  rintro D N W2 hD1 hD2 ⟨M1, hN, hj, hE⟩ hN2 hw2 hD3
  gi_wp2
  refine ⟨by simp, .inl ⟨_, _, rfl, run_takeDeferred hD3, ?_⟩⟩;have hDb : n₀ <= D := by omega
  refine ⟨_, results_none rfl _ _ _, ⟨_, rfl⟩, M1, ?_, ?_, ?_⟩
  ·
   exact HMI.out _ _ _ _ hj ((Wr.refl _ _).putObj (.inl ⟨hDb, fun h => hD2 ((hN D).2 (.inl h))⟩) _)
  ·
   exact ((HWV.out (fun k => n₀ <= k)).trans hw2 (fun _ _ h => h) (fun _ _ h => h)).putObj (.inl hDb) _
  ·
   intro k hk;rcases hE.it.sub k hk with h | h
   ·
    exact .inl h
   ·
    right; omega
open Go.RowKit
def deadL (d : StoreD) : List Nat := (takenL d.pool).filter (fun i => decide (cntOf d i = 0))
theorem takenL_nodup (p : PoolD) : (takenL p).Nodup := (List.nodup_range).filter _
theorem deadL_nodup (d : StoreD) : (deadL d).Nodup := (takenL_nodup d.pool).filter _
theorem mem_deadL {d : StoreD} {i : Nat} (h : i ∈ deadL d) : d.pool.tk i = true /\ cntOf d i = 0 := by
 unfold deadL at h;rw [List.mem_filter] at h;exact ⟨(List.mem_filter.1 h.1).2, by simpa using h.2⟩
theorem filter_sum (f g : Nat -> Bool) : ∀ k, ((((List.range k).filter f).filter g).length : Int) = sumTo k (fun i => if f i = true then (if g i = true then 1 else 0) else 0)
 | 0 => by simp [sumTo]
 | k + 1 => by
   rw [List.range_succ, List.filter_append, List.filter_append, List.length_append];have ih := filter_sum f g k;rw [Int.natCast_add, ih];cases hf : f k <;> cases hg : g k <;> simp [sumTo, hf, hg, List.filter]
theorem deadL_len {d : StoreD} {ext : Nat -> Int} (h : LiveC d ext) : (deadL d).length = d.dead := by
 have h1 := h.dead;have h2 : ((deadL d).length : Int) = sumTo d.pool.at_.length (dead1 (nodesOf d) (cntOf d)) := by
  unfold deadL takenL takenU;rw [filter_sum];refine sumTo_congr _ fun i _ => ?_
  unfold dead1 nodesOf PoolD.get;cases ht : d.pool.tk i <;> simp
 unfold deadN at h1;omega
structure DropRel (d : StoreD) (k : Nat) (d' : StoreD) : Prop where
 vars : d'.vars = d.vars
 level : d'.level = d.level
 counts : d'.counts = d.counts
 dead : d'.dead = d.dead
 room : d'.pool.room = d.pool.room
 alen : d'.pool.at_.length = d.pool.at_.length
 keep : ∀ i, i ∉ (deadL d).take k -> d'.pool.tk i = d.pool.tk i /\ d'.pool.nd i = d.pool.nd i
 gone : ∀ i, i ∈ (deadL d).take k -> d'.pool.tk i = false
 tab : ∀ v, v < d.vars.length -> ∀ lo hi id, d'.tab v (lo, hi) = some id ↔ nodesOf d' id = some ⟨v, lo, hi⟩
 many : d'.pool.many + k = d.pool.many
theorem DropRel.start {d : StoreD} (ht : ∀ v, v < d.vars.length -> ∀ lo hi id, d.tab v (lo, hi) = some id ↔ nodesOf d id = some ⟨v, lo, hi⟩) : DropRel d 0 d :=
 ⟨rfl, rfl, rfl, rfl, rfl, rfl, fun _ _ => ⟨rfl, rfl⟩, fun i h => by simp at h, ht, rfl⟩
def dropAt (d : StoreD) (i : Nat) (b : BN) : StoreD := { d with pool := d.pool.give i, tab := fun v => if v = b.v then putF (d.tab v) (b.lo, b.hi) none else d.tab v }
theorem DropRel.at {d d' : StoreD} {k i : Nat} (h : DropRel d k d') (hi : (deadL d)[k]? = some i) : d'.pool.tk i = true /\ d'.pool.nd i = d.pool.nd i := by
 obtain ⟨hlt, e⟩ := List.getElem?_eq_some_iff.1 hi;have hm : i ∈ deadL d := e ▸ List.getElem_mem hlt;have hn : i ∉ (deadL d).take k := by
  intro hh;rw [List.mem_take_iff_getElem] at hh;obtain ⟨j, hj, e2⟩ := hh;have hne := List.pairwise_iff_getElem.1 (deadL_nodup d) j k (by omega) hlt (by omega);exact hne (e2.trans e.symm)
 have := h.keep i hn;exact ⟨this.1.trans (mem_deadL hm).1, this.2⟩
theorem DropRel.next {d d' : StoreD} {k i : Nat} (h : DropRel d k d') (hi : (deadL d)[k]? = some i) (hl : d'.pool.taken.length = d'.pool.at_.length) (hat : i < d'.pool.at_.length) (hm : 1 <= d'.pool.many) :
 DropRel d (k + 1) (dropAt d' i (bnOf (d'.pool.nd i))) := by
 obtain ⟨hlt, e⟩ := List.getElem?_eq_some_iff.1 hi;obtain ⟨ht, hnd⟩ := h.at hi;have e1 : (deadL d).take (k + 1) = (deadL d).take k ++ [i] := by rw [List.take_succ_eq_append_getElem hlt, e]
 have tk : ∀ j, (d'.pool.give i).tk j = if j = i then false else d'.pool.tk j := fun j => tk_setT (by rw [hl]; exact hat) j
 have nd : ∀ j, (d'.pool.give i).nd j = if j = i then rn0 else d'.pool.nd j := fun j => nd_set hat j
 have hni : nodesOf d' i = some (bnOf (d'.pool.nd i)) := by unfold nodesOf PoolD.get; rw [if_pos ht]; rfl
 have hno : ∀ j, nodesOf (dropAt d' i (bnOf (d'.pool.nd i))) j = if j = i then none else nodesOf d' j := fun j => by
  unfold nodesOf
  show ((d'.pool.give i).get j).map bnOf = _
  rw [PoolD.give_get (by rw [hl]; exact hat) hat]
  by_cases e : j = i <;> simp [e]
 refine ⟨h.vars, h.level, h.counts, h.dead, h.room, ?_, fun j hj => ?_, fun j hj => ?_, fun v hv lo hY id => ?_, ?_⟩
 ·
  show (d'.pool.at_.set i rn0).length = _
  rw [List.length_set]; exact h.alen
 ·
  rw [e1] at hj;simp only [List.mem_append, List.mem_singleton, not_or] at hj
  show (d'.pool.give i).tk j = _ /\ (d'.pool.give i).nd j = _
  rw [tk, nd, if_neg hj.2, if_neg hj.2];exact h.keep j hj.1
 ·
  rw [e1] at hj;simp only [List.mem_append, List.mem_singleton] at hj
  show (d'.pool.give i).tk j = _
  rw [tk]
  by_cases e2 : j = i
  ·
   rw [if_pos e2]
  ·
   rw [if_neg e2]; exact h.gone j (hj.resolve_right e2)
 ·
  rw [hno];have h0 := h.tab v hv lo hY id
  show (if v = (bnOf (d'.pool.nd i)).v then putF (d'.tab v) ((bnOf (d'.pool.nd i)).lo, (bnOf (d'.pool.nd i)).hi) none else d'.tab v) (lo, hY) = some id ↔ _
  by_cases e2 : id = i
  ·
   subst e2;simp only [if_true];constructor
   ·
    intro hh;exfalso
    by_cases e3 : v = (bnOf (d'.pool.nd id)).v
    ·
     rw [if_pos e3] at hh;unfold putF at hh
     by_cases e4 : (lo, hY) = ((bnOf (d'.pool.nd id)).lo, (bnOf (d'.pool.nd id)).hi)
     ·
      rw [if_pos e4] at hh; cases hh
     ·
      rw [if_neg e4, h0, hni] at hh;cases hh;exact e4 rfl
    ·
     rw [if_neg e3, h0, hni] at hh;cases hh;exact e3 rfl
   ·
    intro hh; cases hh
  ·
   rw [if_neg e2, <- h0]
   by_cases e3 : v = (bnOf (d'.pool.nd i)).v
   ·
    rw [if_pos e3];unfold putF
    by_cases e4 : (lo, hY) = ((bnOf (d'.pool.nd i)).lo, (bnOf (d'.pool.nd i)).hi)
    ·
     rw [if_pos e4];constructor
     ·
      intro hh; cases hh
     ·
      intro hh;exfalso;have q := (h.tab v hv lo hY i).2 (by rw [hni]; cases e4; rw [e3]);rw [hh] at q;cases q;exact e2 rfl
    ·
     rw [if_neg e4]
   ·
    rw [if_neg e3]
 ·
  show d'.pool.many - 1 + (k + 1) = _
  have := h.many; omega
structure CollRel (d d' : StoreD) : Prop where
 vars : d'.vars = d.vars
 level : d'.level = d.level
 counts : d'.counts = d.counts
 room : d'.pool.room = d.pool.room
 dead : d'.dead = 0
 alen : d'.pool.at_.length = d.pool.at_.length
 nodes : ∀ i, nodesOf d' i = if 0 < cntOf d i then nodesOf d i else none
 ext : ∀ i b, nodesOf d' i = some b -> extOf d' i = extOf d i
 tab : ∀ v, v < d.vars.length -> ∀ lo hi id, d'.tab v (lo, hi) = some id ↔ nodesOf d' id = some ⟨v, lo, hi⟩
 many : d'.pool.many + d.dead = d.pool.many
theorem DropRel.done {d d' : StoreD} {ext : Nat -> Int} (h : DropRel d (deadL d).length d') (hl : LiveC d ext) (hat : ∀ i, d.pool.tk i = true -> i < d.pool.at_.length) : CollRel d { d' with dead := 0 } := by
 have hk : (deadL d).take (deadL d).length = deadL d := List.take_length;have hmem : ∀ i, d.pool.tk i = true -> cntOf d i = 0 -> i ∈ deadL d := fun i h1 h2 => by
  unfold deadL takenL takenU;simp only [List.mem_filter, List.mem_range, decide_eq_true_eq];exact ⟨⟨hat i h1, h1⟩, h2⟩
 refine ⟨h.vars, h.level, h.counts, h.room, rfl, h.alen, fun i => ?_, fun i b hb => ?_, h.tab, by rw [<- deadL_len hl]; exact h.many⟩
 ·
  show (d'.pool.get i).map bnOf = if 0 < cntOf d i then (d.pool.get i).map bnOf else none
  unfold PoolD.get
  by_cases hc : i ∈ deadL d
  ·
   have h1 := h.gone i (by rw [hk]; exact hc);have h2 := (mem_deadL hc).2;simp [h1, h2]
  ·
   obtain ⟨h1, h2⟩ := h.keep i (by rw [hk]; exact hc);rw [h1, h2]
   by_cases h3 : 0 < cntOf d i
   ·
    rw [if_pos h3]
   ·
    rw [if_neg h3];cases ht : d.pool.tk i with
    | false => rfl
    | true => exact absurd (hmem i ht (by omega)) hc
 ·
  have hb' : (d'.pool.get i).map bnOf = some b := hb;have ht : d'.pool.tk i = true := by
   unfold PoolD.get at hb';cases ht : d'.pool.tk i with
   | true => rfl
   | false => rw [ht] at hb'; simp at hb'
  have hc : i ∉ deadL d := fun hc => by rw [h.gone i (by rw [hk]; exact hc)] at ht; cases ht
  obtain ⟨h1, h2⟩ := h.keep i (by rw [hk]; exact hc)
  show (if d'.pool.tk i = true then ((d'.pool.nd i).refs : Int) else 0) = if d.pool.tk i = true then ((d.pool.nd i).refs : Int) else 0
  rw [h1, h2]
theorem live_pos {d : StoreD} {ext : Nat -> Int} (hl : LiveC d ext) (h0 : d.dead = 0) {i : Nat} {b : BN} (hb : nodesOf d i = some b) : 0 < cntOf d i := by
 have h1 := hl.dead;rw [h0] at h1;have h2 := sumTo_ge (f := dead1 (nodesOf d) (cntOf d)) d.pool.at_.length (fun i _ => dead1_nonneg _ _ i) (hl.cnt.lt i b hb);unfold deadN at h1;unfold dead1 at h2;rw [hb] at h2
 by_cases h : cntOf d i = 0
 ·
  simp only [h, if_true] at h2;unfold dead1 at h1;omega
 ·
  omega
theorem CollRel.none {d : StoreD} {V : Nat -> BF} (hk : StoreOK d V) (h0 : d.dead = 0) : CollRel d d := by
 refine ⟨rfl, rfl, rfl, rfl, h0, rfl, fun i => ?_, fun _ _ _ => rfl, hk.tab, by omega⟩;cases hb : nodesOf d i with
 | none => simp
 | some b => rw [if_pos (live_pos hk.live h0 hb)]
theorem extOf_nonneg (d : StoreD) (i : Nat) : 0 <= extOf d i := by unfold extOf; split <;> omega
section
variable {d d' : StoreD} {V : Nat -> BF}
theorem CollRel.sub (r : CollRel d d') {i : Nat} {b : BN} (h : nodesOf d' i = some b) : nodesOf d i = some b /\ 0 < cntOf d i := by
 rw [r.nodes] at h;split at h
 ·
  rename_i hc; exact ⟨h, hc⟩
 ·
  cases h
theorem CollRel.cnt (r : CollRel d d') : cntOf d' = cntOf d := by funext i; unfold cntOf; rw [r.counts]
theorem CollRel.lev (r : CollRel d d') : levN d' = levN d := by funext v; unfold levN; rw [r.level]
theorem CollRel.kid (r : CollRel d d') (hk : StoreOK d V) {i : Nat} {b : BN} (h : nodesOf d' i = some b) {e : Nat} (he : e = b.lo \/ e = b.hi) : okE (nodesOf d') e := by
 obtain ⟨h1, h2⟩ := r.sub h;have ho : okE (nodesOf d) e := by
  rcases he with rfl | rfl
  ·
   exact hk.dag.okLo i b h1
  ·
   exact hk.dag.okHi i b h1
 rcases ho with h0 | ⟨c, hc⟩
 ·
  exact .inl h0
 ·
  refine .inr ⟨c, ?_⟩;rw [r.nodes, if_pos (hk.live.cnt.pos_of_live h1 h2 he hc (extOf_nonneg d _))];exact hc
theorem CollRel.lvE (r : CollRel d d') (h0 : nodesOf d 0 = Option.none) {n : Nat} {lev : Nat -> Nat} {e : Nat} (he : okE (nodesOf d') e) : Go.Proofs.YtchliiaknmknhaaGreat.lvE n lev (nodesOf d') e = Go.Proofs.YtchliiaknmknhaaGreat.lvE n lev (nodesOf d) e := by
 unfold Go.Proofs.YtchliiaknmknhaaGreat.lvE;rcases he with he | ⟨b, hb⟩
 ·
  have : nodesOf d' 0 = Option.none := by rw [r.nodes, h0]; simp
  rw [he, h0, this]
 ·
  rw [hb, (r.sub hb).1]
theorem CollRel.ok (r : CollRel d d') (hk : StoreOK d V) : StoreOK d' V := by
 have hlv : ∀ e, okE (nodesOf d') e -> Go.Proofs.YtchliiaknmknhaaGreat.lvE d.vars.length (levN d) (nodesOf d') e = Go.Proofs.YtchliiaknmknhaaGreat.lvE d.vars.length (levN d) (nodesOf d) e := fun e he => r.lvE hk.dag.none0 he
 refine ⟨?_, ⟨?_, ?_, fun i b hb => by rw [r.counts]; exact hk.live.has i b (r.sub hb).1⟩, by rw [r.vars]; exact r.tab, by rw [r.counts]; exact hk.clen, by rw [r.vars]; exact hk.small, by rw [r.vars, r.lev]; exact hk.inv, by rw [r.vars, r.lev]; exact hk.vlt⟩
 ·
  rw [r.vars, r.lev];exact hk.dag.restrict (nodesOf d') (fun i b h => (r.sub h).1) (fun i b h => ⟨r.kid hk h (.inl rfl), r.kid hk h (.inr rfl)⟩)
 ·
  rw [r.alen, r.cnt];exact (hk.live.cnt.collect (nodesOf d') r.nodes).congr (fun x b hb => r.ext x b hb)
 ·
  rw [r.dead];unfold deadN;rw [sumTo_congr (g := fun _ => 0) _ (fun i _ => ?_), sumTo_zero]
  ·
   rfl
  ·
   unfold dead1;cases hb : nodesOf d' i with
   | none => rfl
   | some b => have := (r.sub hb).2; rw [r.cnt]; simp; omega
end
end Go.Proofs.YtchliiaknmknhaaGreat

namespace Go.Proofs.YtchliiaknmknhaaGreat
open Go.RowKit Go.Shelf
attribute [local go_sem] Oper.semAt_some
theorem wpListIn_appOne {F : Fence} {fu : Nat} (T e : TypeId) (size bytes : Nat) (z : Value) (hT : Tryz.prog.underlying T = some (.slice e)) (he : (Tryz.prog.info? e).map (fun i => (i.zero, i.size, i.bytes)) = some (some z, size, bytes)) (hzs : z.cells.size = size) (hsz : 0 < size)
 {wr : World} {ops : Array Oper} {rest : List Oper} {op : Oper} {a : Act} {Q : Exit -> Act -> World -> Prop} {W : World} (hgd : op.guard = none) (s x : Operand)
 (hop : op.op = .call { callee := .builtin .append, args := #[s, x], argTypes := #[T, T] })
 {o : Own} {r : Role} {v : Value} {n : Nat} {xs : List Value} (hs : a.eval s = v) {N : Nat} (hx : a.eval x = .slice (some ⟨N, 0, none⟩) 1 1) {news : Array Value}
 (hW : W = wr.alloc (.cells news e)) (hN : N = wr.heap.size) (hl : news.size = size) (h1 : ∀ u ∈ news.toList, u.oneCell' = true) (h : RowR o wr r e size v n xs) (hlt : OwnLt o wr) (hn : n < 1000000000) (hb : bytes <= 10000)
 (hK : ∀ g cap w' o', RowR o' w' r e size (.slice (some ⟨g, 0, none⟩) (n + 1) cap) (n + 1) (xs ++ news.toList) -> Chg (· = r) o o' wr w' -> OwnLt o' w' -> wpListIn F fu Tryz.prog ops Q rest (a.put op.dst (.slice (some ⟨g, 0, none⟩) (n + 1) cap)) w') : wpListIn F fu Tryz.prog ops Q (op :: rest) a W := by
 subst hN; subst hW
 obtain ⟨g, cap, w', o', hr, h2, h3, h4⟩ := run_appOne T e op.type size bytes z hT he hzs hsz news hl h1 h hlt hn hb;refine wpListIn_plain hgd fun K hKK => ?_
 unfold Oper.wpIn;refine ⟨?_, ?_⟩
 ·
  simp [Oper.about, hop, resolve, Target.leads, Sem.run_pure]
 ·
  rw [Oper.semAt_plain F _ _ (by rw [hop]; intro c hc'; cases hc')];simp only [execOp, hop, resolve, invoke, builtin, Sem.run_bind, Sem.run_pure, Result.andThen_ok, List.map_toArray, List.map_cons, List.map_nil, hs, hx, hr];exact hKK _ _ (hK g cap w' o' h2 h3 h4)
theorem drew_alloc (w : World) (o : Obj) : (w.alloc o).drew = w.drew.alloc o := rfl
theorem wpIn_same {F : Fence} {n : Nat} {P : Program} {c : Code} {Q : Exit -> Act -> World -> Prop} {a : Act} {w : World} (W1 : World) (h : ∃ A, c.wpIn F n P (fun e a' W' => e = .normal /\ a' = A /\ W' = W1) a w /\ Q .normal A W1) : c.wpIn F n P Q a w := by
 obtain ⟨A, h1, h2⟩ := h;refine wpIn_mono h1 ?_;rintro _ _ _ ⟨rfl, rfl, rfl⟩;exact h2
def goneL (d : StoreD) (pre : List Nat) : List Nat := pre.filter (fun i => decide (cntOf d i = 0))
structure GatS (d : StoreD) (w : World) (sb : Nat) (pre : List Nat) (M : Nat -> Prop) (W : World) (v : Value) (oG : Own) : Prop where
 mm : ∀ k, M k ↔ (k = w.heap.size \/ k = w.heap.size + 1 \/ oG k = some .slots)
 low : Below w.heap.size w W
 boxs : W.heap[w.heap.size]? = some (.cells #[.pointer (some ⟨sb, 0, none⟩)] 98 (0, 0))
 boxg : W.heap[w.heap.size + 1]? = some (.cells #[v] 186 (0, 0))
 row : RowR oG W .slots 157 5 v (goneL d pre).length ((goneL d pre).flatMap fun i => rnV (d.pool.nd i))
 lt : OwnLt oG W
 ge : ∀ k r, oG k = some r -> r = .slots /\ w.heap.size + 2 <= k
def Gat (d : StoreD) (w : World) (sb : Nat) (pre : List Nat) (M : Nat -> Prop) (W : World) : Prop := ∃ v oG, GatS d w sb pre M W v oG
theorem GatS.minds {d : StoreD} {w : World} {sb : Nat} {pre : List Nat} {M : Nat -> Prop} {W W' : World} {v : Value} {oG : Own} (h : GatS d w sb pre M W v oG) (hw : Wr (fun k => w.heap.size <= k /\ ¬ M k) W W') : GatS d w sb pre M W' v oG := by
 have hk : ∀ k, k < W.heap.size -> M k -> W'.heap[k]? = W.heap[k]? := fun k h1 h2 => hw.keep k h1 (fun e => e.2 h2)
 have hm := h.mm
 refine ⟨hm, h.low.trans (hw.below (fun k h => h.1) h.low.size), (hk _ (Array.getElem?_eq_some_iff.1 h.boxs).1 ((hm _).2 (.inl rfl))).trans h.boxs, (hk _ (Array.getElem?_eq_some_iff.1 h.boxg).1 ((hm _).2 (.inr (.inl rfl)))).trans h.boxg,
  h.row.keep (fun g hg => hk g (h.lt g _ hg) ((hm g).2 (.inr (.inr hg)))) (fun _ h => h), h.lt.mono hw.size, h.ge⟩
theorem goneL_yes {d : StoreD} {pre : List Nat} {x : Nat} (h : cntOf d x = 0) : goneL d (pre ++ [x]) = goneL d pre ++ [x] := by unfold goneL; rw [List.filter_append]; simp [h]
theorem goneL_no {d : StoreD} {pre : List Nat} {x : Nat} (h : cntOf d x ≠ 0) : goneL d (pre ++ [x]) = goneL d pre := by unfold goneL; rw [List.filter_append]; simp [h]
theorem GatS.add {d : StoreD} {w : World} {sb : Nat} {pre : List Nat} {M : Nat -> Prop} {W W1 : World} {v v' : Value} {oG oG' : Own} {x : Nat} (h : GatS d w sb pre M W v oG) (hc : cntOf d x = 0)
 (hr : RowR oG' W1 .slots 157 5 v' ((goneL d pre).length + 1) (((goneL d pre).flatMap fun i => rnV (d.pool.nd i)) ++ rnV (d.pool.nd x))) (hg : Chg (· = .slots) oG oG' W W1) (hl : OwnLt oG' W1) {n : Nat} (hn : n <= W.heap.size) :
 ∃ M', Gat d w sb (pre ++ [x]) M' (W1.setCell ⟨w.heap.size + 1, 0, none⟩ v') /\ Wr (fun k => M k \/ n <= k) W (W1.setCell ⟨w.heap.size + 1, 0, none⟩ v') /\ ∀ k, M' k -> M k \/ n <= k := by
 have none : ∀ k, k < w.heap.size + 2 -> oG k = Option.none := fun k hk => by
  cases e : oG k with
  | none => rfl
  | some r => have := (h.ge k r e).2; omega
 have hb1 : w.heap.size + 1 < W.heap.size := (Array.getElem?_eq_some_iff.1 h.boxg).1;have k0 := (hg.alien (by omega) (none w.heap.size (by omega))).trans h.boxs;have k1 := (hg.alien hb1 (none (w.heap.size + 1) (by omega))).trans h.boxg;have ge' : ∀ k r, oG' k = some r -> r = .slots /\ w.heap.size + 2 <= k := fun k r hk => by
  by_cases e : oG' k = oG k
  ·
   rw [e] at hk; exact h.ge k r hk
  ·
   obtain ⟨a1, q, a2, a3⟩ := hg.new k e;rw [hk] at a2; cases a2
   exact ⟨a3, by omega⟩
 refine ⟨fun k => k = w.heap.size \/ k = w.heap.size + 1 \/ oG' k = some .slots, ⟨v', oG', ⟨fun k => Iff.rfl, ?_, ?_, heap_setCell_same k1 _, ?_, hl.mono (by simp [World.setCell]), ge'⟩⟩, ?_, fun k hk => ?_⟩
 ·
  have : Below w.heap.size w W1 := h.low.trans ⟨hg.os, hg.tape, hg.output, hg.size, fun k hk => hg.alien (Nat.lt_of_lt_of_le hk h.low.size) (none k (by omega))⟩;exact this.setCell (p := ⟨w.heap.size + 1, 0, Option.none⟩) (by show _ <= w.heap.size + 1; omega) _
 ·
  exact (heap_setCell_ne (by show _ ≠ w.heap.size + 1; omega) _).trans k0
 ·
  rw [goneL_yes hc, List.length_append, List.flatMap_append];simp only [List.length_singleton, List.flatMap_cons, List.flatMap_nil, List.append_nil];exact hr.setCell_other (fun e => by have := (ge' _ _ e).2; simp at this) _
 ·
  have : Wr (fun k => M k \/ n <= k) W W1 := ⟨hg.os, hg.tape, hg.output, hg.size, fun k hk hm => hg.block k hk fun r hr e => hm (.inl ((h.mm k).2 (.inr (.inr (by rw [hr, e])))))⟩;exact this.setCell (p := ⟨w.heap.size + 1, 0, Option.none⟩) (.inl (.inl ((h.mm _).2 (.inr (.inl rfl))))) _
 ·
  rcases hk with hk | hk | hk
  ·
   exact .inl ((h.mm k).2 (.inl hk))
  ·
   exact .inl ((h.mm k).2 (.inr (.inl hk)))
  ·
   by_cases e : oG' k = oG k
   ·
    rw [e] at hk; exact .inl ((h.mm k).2 (.inr (.inr hk)))
   ·
    have := (hg.new k e).1; right; omega
theorem GatS.no {d : StoreD} {w : World} {sb : Nat} {pre : List Nat} {M : Nat -> Prop} {W : World} {v : Value} {oG : Own} (h : GatS d w sb pre M W v oG) (k : Nat) (hk : k < w.heap.size + 2) : oG k = none := by
 cases e : oG k with
 | none => rfl
 | some r => have := (h.ge k r e).2; omega
theorem GatS.drew {d : StoreD} {w : World} {sb : Nat} {pre : List Nat} {M : Nat -> Prop} {W : World} {v : Value} {oG : Own} (h : GatS d w sb pre M W v oG) : GatS d w sb pre M W.drew v oG := h.minds ((Wr.refl _ W).drew)
def DropS (o : Own) (W2 : World) (sb : Nat) (d : StoreD) (s : StoreW) (k : Nat) (wr : World) : Prop := ∃ o1 d1, StoreIn o1 wr sb d1 s /\ OwnLt o1 wr /\ DropRel d k d1 /\ Chg RStore o o1 W2 wr
theorem DropS.next {o o1 o2 : Own} {W2 wr w3 w4 w4' w5 : World} {sb : Nat} {d d1 : StoreD} {s : StoreW} {k i : Nat} {N : RN} (hs1 : StoreIn o1 wr sb d1 s) (hl1 : OwnLt o1 wr) (hr1 : DropRel d k d1) (hc1 : Chg RStore o o1 W2 wr) (hi : (deadL d)[k]? = some i) (hN : d1.pool.nd i = N) (hb3 : Below wr.heap.size wr w3)
 (ht : TabIs o1 w4 N.v (s.ts.getD N.v 0) (putF (d1.tab N.v) (N.lo, N.hi) none)) (hct : Chg (· = .tmap N.v) o1 o1 w3 w4) (hl4 : OwnLt o1 w4) (hb : Below w4.heap.size w4 w4')
 (hp : PoolAt o2 w5 s.pb (d1.pool.give i)) (hcp : Chg (fun r => r = .pool \/ r = .slots \/ r = .taken \/ r = .free) o1 o2 w4' w5) (hl5 : OwnLt o2 w5) : DropS o W2 sb d s (k + 1) w5 := by
 have h3 := hs1.below hl1 hb3;have hl3 := hl1.mono hb3.size;have h4 := h3.setTab hl3 ht hct;have h4' := h4.below hl4 hb;have h5 := h4'.setPool (hl4.mono hb.size) hp hcp;have hat : i < d1.pool.at_.length := (hs1.pool.tk_lt (hr1.at hi).1).2;have e : (fun u => if u = N.v then putF (d1.tab N.v) (N.lo, N.hi) none else d1.tab u) = (fun u => if u = N.v then putF (d1.tab u) (N.lo, N.hi) none else d1.tab u) := by
  funext u
  by_cases h : u = N.v
  ·
   subst h; rfl
  ·
   simp [h]
 rw [e] at h5;refine ⟨o2, dropAt d1 i (bnOf N), h5, hl5, ?_, hc1.trans ((Chg.of_below hb3 _ o1).trans ((hct.mono ?_).trans ((Chg.of_below hb _ o1).trans (hcp.mono ?_))))⟩
 ·
  have := hr1.next hi hs1.pool.len hat (by
   have h1 := hs1.pool.cnt;have h2 := sumTo_pos (f := fun j => if d1.pool.tk j = true then (1 : Int) else 0) (fun j _ => by split <;> omega) hat (by simp [(hr1.at hi).1]);omega)
  rw [hN] at this;exact this
 ·
  rintro r rfl; exact .inr (.inr (.inr (.inr (.inr (.inr (.inl ⟨_, .inr rfl⟩))))))
 ·
  rintro r h; exact .inr (.inr (.inr (.inr (.inl h))))
theorem mix_lastCall {P : Program} {S : World -> Prop} {Q : Exit -> Act -> World -> Prop} {ops : Array Oper} {o : Oper} {a : Act} {w : World} {f : FuncId} {args : Array Value} {R : Value -> World -> Prop} (hg : o.guard = none)
 (he : (execOp a.eval o).run P w = .ok (.enter f args) w) (hc : Calls P f args w fun e w' => ∃ v, e = .returned v /\ R v w') (h : ∀ v w', R v w' -> Q .normal (a.put o.dst v) w') : wpMix P ops Q S true [(some o, true)] a w := by
 refine mix_last hg fun K hK => ?_
 unfold Oper.wp;simp only [he, Oper.upon];exact hc.mono fun e w' ⟨v, h1, h2⟩ => by subst h1; exact hK _ _ (h v w' h2)
theorem collect_early {o : Own} {w : World} {sb : Nat} {d : StoreD} (h : StoreAt o w sb d) (h0 : d.dead = 0) :
 Calls Tryz.prog 101 #[.pointer (some ⟨sb, 0, none⟩)] w fun x w' => x = .returned (.int .i64 0) /\ Below w.heap.size w w' := by
 obtain ⟨s, h⟩ := h;obtain ⟨c0, c1, c2, c3, c4, f0⟩ := cells5 h.blk;rw [h0] at c4;obtain ⟨w1, hw1⟩ : ∃ w1, w1 = w.alloc (.cells #[.pointer (some ⟨sb, 0, none⟩)] 98) := ⟨_, rfl⟩;have hb1 : Below w.heap.size w w1 := by rw [hw1]; exact below_new1 w _
 have cB : w1.cell? ⟨w.heap.size, 0, none⟩ = some (.pointer (some ⟨sb, 0, none⟩)) := by rw [hw1]; exact cell1 (heap_alloc_new w _)
 have c4' := (hb1.cell (p := ⟨sb, 4, none⟩) (lt_of_cell c4)).trans c4;have HW : Hid (_ = w1) := Lib.hid hw1.symm;have HB := Lib.hid hb1;clear h c0 c1 c2 c3 c4 f0 hw1 hb1 h0;refine (callsIn_wide (n := 9)).1 ?_;refine callsIn_of_wp_marks Tryz.func101 rfl trivial ?_;refine wpIn_wide.2 ?_;simp only [Tryz.ntmps101, List.size_toArray, List.length_cons, List.length_nil, Nat.reduceAdd, Nat.reduceSub, Array.replicate_succ, Array.replicate_zero, List.push_toArray, List.append_toArray, List.nil_append, List.cons_append];go_upto_region 1 with fail;rw [HW.out];go_wp2_with fail;exact ⟨_, results_tmp rfl _ _ _, rfl, HB.out⟩
theorem collect_any {o : Own} {w : World} {sb : Nat} {d : StoreD} {V : Nat -> BF} (h : StoreAt o w sb d) (hlt : OwnLt o w) (hk : StoreOK d V) (h0 : d.dead ≠ 0) :
 Calls Tryz.prog 101 #[.pointer (some ⟨sb, 0, none⟩)] w fun x w' => x = .returned (.int .i64 d.dead) /\ ∃ o' d', StoreAt o' w' sb d' /\ OwnLt o' w' /\ CollRel d d' /\ Chg RStore o o' w w' := by
 obtain ⟨s, h⟩ := h;obtain ⟨c0, c1, c2, c3, c4, f0⟩ := cells5 h.blk;have hd1 : ((d.dead : Int) == 0) = false := by simpa using h0
 obtain ⟨w1, hw1⟩ : ∃ w1, w1 = w.alloc (.cells #[.pointer (some ⟨sb, 0, none⟩)] 98) := ⟨_, rfl⟩;have hb1 : Below w.heap.size w w1 := by rw [hw1]; exact below_new1 w _
 have hB : w1.heap[w.heap.size]? = some (.cells #[.pointer (some ⟨sb, 0, none⟩)] 98 (0, 0)) := by rw [hw1]; exact heap_alloc_new w _
 have hs1 : w1.heap.size = w.heap.size + 1 := by rw [hw1]; simp
 obtain ⟨w2, hw2⟩ : ∃ w2, w2 = w1.alloc (.cells #[.slice none 0 0] 186) := ⟨_, rfl⟩;have hb2 : Below w.heap.size w w2 := by rw [hw2]; exact hb1.alloc (by omega) _
 have hB2 : w2.heap[w.heap.size]? = some (.cells #[.pointer (some ⟨sb, 0, none⟩)] 98 (0, 0)) := by rw [hw2]; exact (Below.heap_alloc w1 _ _ (by omega)).trans hB
 have hG2 : w2.heap[w.heap.size + 1]? = some (.cells #[.slice none 0 0] 186 (0, 0)) := by rw [hw2, <- hs1]; exact heap_alloc_new w1 _
 have hs2 : w2.heap.size = w.heap.size + 2 := by rw [hw2]; simp [hs1]
 have cB1 := cell1 hB;have cB2 := cell1 hB2;have cS1 := (hb1.cell (p := ⟨sb, 4, none⟩) (lt_of_cell c4)).trans c4;have cS2 := (hb2.cell (p := ⟨sb, 1, none⟩) (lt_of_cell c1)).trans c1;have HW1 : Hid (_ = w1) := Lib.hid hw1.symm;have HW2 : Hid (_ = w2) := Lib.hid hw2.symm;have HB2 := Lib.hid hb2;have HH := Lib.hid h;have HE := Lib.hid (callsIn_wide.1 (each_in Fence.wide 9 trivial rfl s.pb w2));clear h c0 c1 c2 c3 c4 f0 hw1 hw2 hb1 hb2;refine (callsIn_wide (n := 9)).1 ?_;refine callsIn_of_wp_marks Tryz.func101 rfl trivial ?_;refine wpIn_wide.2 ?_;simp only [Tryz.ntmps101, List.size_toArray, List.length_cons, List.length_nil, Nat.reduceAdd, Nat.reduceSub, Array.replicate_succ, Array.replicate_zero, List.push_toArray, List.append_toArray, List.nil_append, List.cons_append];go_upto_region 1 with fail;rw [HW1.out];go_upto_region 4 with fail;rw [HW2.out];go_wp2_with fail;refine HE.out.mono ?_;rintro x w3 ⟨rfl, hw3⟩;go_wp2_with fail;obtain ⟨w3', hw3'⟩ : ∃ w3', w3' = w2.alloc (.cells #[.pointer (some ⟨s.pb, 0, none⟩)] 136) := ⟨_, rfl⟩;rw [<- hw3'];have hs3 : w3'.heap.size = w.heap.size + 3 := by rw [hw3']; simp [hs2]
 have hb3 : Below w.heap.size w w3' := by rw [hw3']; exact HB2.out.alloc (by omega) _
 have hB3 : w3'.heap[w.heap.size]? = some (.cells #[.pointer (some ⟨sb, 0, none⟩)] 98 (0, 0)) := by rw [hw3']; exact (Below.heap_alloc w2 _ _ (by omega)).trans hB2
 have hG3 : w3'.heap[w.heap.size + 1]? = some (.cells #[.slice none 0 0] 186 (0, 0)) := by rw [hw3']; exact (Below.heap_alloc w2 _ _ (by omega)).trans hG2
 have hP3 : w3'.cell? ⟨w.heap.size + 2, 0, none⟩ = some (.pointer (some ⟨s.pb, 0, none⟩)) := by rw [hw3', <- hs2]; exact cell1 (heap_alloc_new w2 _)
 have HST : Hid (StoreIn o w sb d s) := HH;have HLT := Lib.hid hlt;have HK := Lib.hid hk;have HG := Lib.hid (each1_gives Fence.wide 8 trivial trivial trivial rfl (by omega) (w.heap.size + 2) w.heap.size s.pb HH.out.pool hlt (Nat.le_refl _) w3' hb3 (by omega) (by omega) hP3);clear hw3' hB hB2 hG2 cB1 cB2 cS1 cS2 HE HW1 HW2 hs1 hs2 hP3;refine (wpIn_wide (n := 9)).1 ?_;refine wp_range rfl (by omega) (gf := 157) (lb := #[.pointer (some ⟨w.heap.size + 2, 0, none⟩)]) rfl trivial (enters_of Tryz.func157 (by kernel_rfl) rfl) HG.out (by omega) (by rintro k rfl; omega) (fun x => rfl)
  (Gat d w sb) ?_ ?_ (fun k => k = w.heap.size \/ k = w.heap.size + 1) (by rintro k rfl h; omega) ⟨.slice none 0 0, fun _ => none, (⟨fun k => by simp, hb3, hB3, hG3, RowR.nil _ _ _ _ _, fun k r h => (by cases h), fun k r h => (by cases h)⟩ : GatS d w sb [] _ w3' (.slice none 0 0) (fun _ => none))⟩
  (fun x a' W W1 => ∃ Bn, W.heap.size <= Bn /\ W1.heap[Bn]? = some (.cells #[.int .i64 (d.pool.nd x).id, .int .i64 (d.pool.nd x).v, .int .i64 (d.pool.nd x).lo, .int .i64 (d.pool.nd x).hi, .int .i64 (d.pool.nd x).refs] 157 (0, 0)) /\ a' = { tmps := #[Value.pointer (some { block := sb, off := 0 }), Value.pointer (some { block := w.heap.size, off := 0 }), Value.int IntKind.i64 0, Value.pointer (some { block := w.heap.size + 1, off := 0 }), Value.pointer (some { block := Bn, off := 0 }), undef, undef, Value.pointer (some { block := sb, off := 0 }), Value.bool false, Value.bool false, Value.pointer (some { block := sb, off := 0 }), Value.pointer (some { block := sb, off := 0 }), Value.pointer (some { block := sb, off := 4 }), Value.int IntKind.i64 ↑d.dead, Value.bool false, Value.bool false, Value.pointer (some { block := sb, off := 0 }), Value.pointer (some { block := sb, off := 0 }), Value.pointer (some { block := sb, off := 1 }), Value.pointer (some { block := s.pb, off := 0 }), Value.func (Fn.func 157) #[] #[Value.pointer (some { block := w.heap.size + 2, off := 0 })], rnAgg (d.pool.nd x), undef, undef, undef, undef, undef, undef, undef, undef, undef, undef, undef, undef, undef, undef, undef, undef, undef, undef, undef, undef, undef, undef, undef, undef, undef, undef, undef, undef, undef, undef, undef, undef, undef, undef, undef, undef, undef, undef, undef, undef, undef, undef, undef, undef, undef], defers := [] }) ?_ ?_ ?_ ?_
 ·
  rintro pre M W ⟨v, oG, hS⟩ k hk;rcases (hS.mm k).1 hk with rfl | rfl | hg
  ·
   exact ⟨Nat.le_refl _, (Array.getElem?_eq_some_iff.1 hS.boxs).1⟩
  ·
   exact ⟨by omega, (Array.getElem?_eq_some_iff.1 hS.boxg).1⟩
  ·
   have := (hS.ge k _ hg).2; exact ⟨by omega, hS.lt k _ hg⟩
 ·
  rintro pre M W W' ⟨v, oG, hS⟩ hw;exact ⟨v, oG, hS.minds hw⟩
 ·
  rintro x a' W W1 W2 l hl ⟨Bn, h1, h2, h3⟩ hw;exact ⟨Bn, h1, (hw.keep Bn (Array.getElem?_eq_some_iff.1 h2).1 (by omega)).trans h2, h3⟩
 ·
  intro l pre x M W K hI hK;simp only [rnAgg]
  gi_wp2
  exact hK _ _ ((Wr.refl _ W).alloc _) ⟨W.heap.size, Nat.le_refl _, heap_alloc_new W _, rfl⟩
 ·
  rintro l pre x a' M W0 W ⟨v, oG, hS⟩ ⟨Bn, hBn, hbn, rfl⟩ hs0 hs1 hsuf;obtain ⟨suf, hsuf⟩ := hsuf;have hx : d.pool.tk x = true := mem_takenL hsuf;have hst := HST.out.below HLT.out hS.low;obtain ⟨q0, q1, q2, q3, q4, _⟩ := cells5 hst.blk;obtain ⟨n0, n1, n2, n3, n4, _⟩ := cells5 hbn;have hid := hst.pool.id x hx;rw [hid] at n0;have hbx : nodesOf d x = some (bnOf (d.pool.nd x)) := by unfold nodesOf PoolD.get; rw [if_pos hx]; rfl
  have hxl : x < d.counts.length := HK.out.live.has x _ hbx;obtain ⟨gc, cc, hvc, _⟩ := hst.counts.shape (by omega);have hcell := hst.counts;rw [hvc] at hcell q3;have hcc := hcell.cell x (by simpa using hxl);have hval : (d.counts.map nat64)[x]? = some (.int .i64 (cntOf d x : Nat)) := by
   rw [List.getElem?_map, List.getElem?_eq_getElem hxl]; simp [nat64, cntOf, List.getD, hxl]
  rw [hval] at hcc;have hxi : (x : Int) < d.counts.length := by omega
  have cb := cell1 hS.boxs;have cg := cell1 hS.boxg;have HS := Lib.hid hS;have HBN := Lib.hid hbn;have HSUF := Lib.hid hsuf;have HID := Lib.hid hid;have hmx : Tryz.prog.follows .mixedOrders = true := by kernel_rfl
  clear hst hcell hval hvc hsuf hS hid hbx
  by_cases hc : cntOf d x = 0
  ·
   rw [hc] at hcc;have hlen : (goneL d pre).length < 1000000000 := by
    have h1 := HST.out.below HLT.out HS.out.low;have h2 := h1.pool.top;have h3 := h1.pool.room;have h4 : (goneL d pre).length <= (takenL d.pool).length := by rw [<- HSUF.out]; unfold goneL; refine Nat.le_trans (List.length_filter_le _ _) ?_; simp
    have h5 : (takenL d.pool).length <= d.pool.at_.length := by unfold takenL takenU; refine Nat.le_trans (List.length_filter_le _ _) ?_; simp
    omega
   have HLEN := Lib.hid hlen;have HC := Lib.hid hc;clear hlen
   gi_wp2
   refine wpIn_same W.drew ?_;apply Exists.intro;refine ⟨?_, ?_⟩
   ·
    gi_region_o
    all_goals exact ⟨rfl, rfl, rfl⟩
   gi_wp2_with (gi_at_builtin
                rw [drew_alloc];refine wpListIn_appOne (wr := W.drew) 186 157 5 40 _ Tryz.underlying186 infoNode rfl (by decide) rfl _ _ rfl rfl rfl rfl rfl rfl (by simp [Value.oneCell']) HS.out.drew.row HS.out.drew.lt HLEN.out (by decide) ?_;intro g1 k1 w1 o1 hr1 hc1 hl1;have HR1 := Lib.hid hr1;have HC1 := Lib.hid hc1;have HL1 := Lib.hid hl1;clear hr1 hc1 hl1 q0 q1 q2 q3 q4 cb;have hbg1 := (HC1.out.alien (Array.getElem?_eq_some_iff.1 HS.out.boxg).1 (HS.out.no _ (by omega))).trans HS.out.boxg;have cg1 := cell1 hbg1;have fz : ∀ k, w1.frozen? ⟨w.heap.size + 1, k, none⟩ = false := fun k => by simp [World.frozen?, hbg1]
                clear cg hbg1)
   have hadd := HS.out.drew.add HC.out (W1 := w1) (v' := .slice (some ⟨g1, 0, none⟩) ((goneL d pre).length + 1) k1) (by
    have e : rnV (d.pool.nd x) = [.int .i64 (x : Nat), .int .i64 (d.pool.nd x).v, .int .i64 (d.pool.nd x).lo, .int .i64 (d.pool.nd x).hi, .int .i64 (d.pool.nd x).refs] := by unfold rnV; rw [HID.out]
    rw [e]; exact HR1.out) HC1.out HL1.out hs0
   obtain ⟨M', a1, a2, a3⟩ := hadd;exact ⟨M', a1, Wr.trans ((Wr.refl (fun _ => False) W).drew) a2 (fun _ _ e => e.elim) (fun _ _ e => e), a3⟩
  ·
   have hc1 : ((cntOf d x : Int) == 0) = false := by simpa using hc
   gi_wp2
   refine wpIn_same W.drew ?_;apply Exists.intro;refine ⟨?_, ?_⟩
   ·
    gi_region_o
    all_goals exact ⟨rfl, rfl, rfl⟩
   gi_wp2
   exact ⟨M, ⟨v, oG, by have := HS.out.drew; exact ⟨this.mm, this.low, this.boxs, this.boxg, by rw [goneL_no hc]; exact this.row, this.lt, this.ge⟩⟩, (Wr.refl _ W).drew, fun k hk => .inl hk⟩
 ·
  rintro D M W2 hD hDM ⟨v, oG, hS⟩ _ hw2 hD3;have HS := Lib.hid hS;have HD3 := Lib.hid hD3;have cg := cell1 hS.boxg;obtain ⟨ag, cpg, rfl, _⟩ := hS.row.slice;clear hS hD3 hDM hw2 HG hB3 hG3 hb3;go_wp2_with fail;have hcellg : ∀ k i, (deadL d)[k]? = some i -> ∃ g, ag = some ⟨g, 0, none⟩ /\ o g = none /\ ∀ j u, (rnV (d.pool.nd i))[j]? = some u -> W2.cell? ⟨g, k * 5 + j, none⟩ = some u := by
   intro k i hi;have hki : k < (deadL d).length := (List.getElem?_eq_some_iff.1 hi).1;obtain ⟨g, cp, he, hog, _⟩ := HS.out.row.shape (by show 0 < (deadL d).length; omega);cases he;refine ⟨g, rfl, ?_, fun j u hj => ?_⟩
   ·
    have := (HS.out.ge g _ hog).2;exact HLT.out.none (by omega)
   ·
    have h5 : j < 5 := by have := (List.getElem?_eq_some_iff.1 hj).1; simpa [rnV] using this
    have hf := flat_get (fun i => rnV (d.pool.nd i)) 5 (fun _ => rfl) (deadL d) k j i hi h5;have hlen : ((deadL d).flatMap fun i => rnV (d.pool.nd i)).length = (deadL d).length * 5 := flat_length _ 5 (fun _ => rfl) _;have hc := HS.out.row.cell (k * 5 + j) (by show _ < ((deadL d).flatMap fun i => rnV (d.pool.nd i)).length; rw [hlen]; omega);rw [hc];exact hf.trans hj
  have HCG := Lib.hid hcellg;have HDL : Hid ((goneL d (takenL d.pool)).length = (deadL d).length) := Lib.hid rfl;have HOB : Hid (o w.heap.size = none /\ o (w.heap.size + 1) = none) := Lib.hid ⟨HLT.out.none (by omega), HLT.out.none (by omega)⟩;have hst2 := HST.out.below HLT.out HS.out.low;have hlt2 : OwnLt o W2 := HLT.out.mono HS.out.low.size;have HST2 := Lib.hid hst2;have HLT2 := Lib.hid hlt2;have hlB : w.heap.size < W2.heap.size := (Array.getElem?_eq_some_iff.1 HS.out.boxs).1;have hlG : w.heap.size + 1 < W2.heap.size := (Array.getElem?_eq_some_iff.1 HS.out.boxg).1;have hdlt : (goneL d (takenL d.pool)).length <= 1048577 := by
   show (deadL d).length <= _
   have h2 := hst2.pool.top;have h3 := hst2.pool.room;have h5 : (deadL d).length <= d.pool.at_.length := by unfold deadL takenL takenU; refine Nat.le_trans (List.length_filter_le _ _) (Nat.le_trans (List.length_filter_le _ _) ?_); simp
   omega
  clear hcellg cg hst2 hlt2;obtain ⟨m, hm⟩ : ∃ m, m = (goneL d (takenL d.pool)).length := ⟨_, rfl⟩;rw [<- hm] at hdlt HDL ⊢;have HM := Lib.hid hm;clear hm
  go_loopw [37] (fun i wr => ∃ k : Nat, k <= m /\ i = .int .i64 k /\ DropS o W2 sb d s k wr) (fun i _ => m - (intOf i).toNat)
  case atStart => exact ⟨0, Nat.zero_le _, rfl, o, d, HST2.out, HLT2.out, DropRel.start HK.out.tab, Chg.refl _ _ _⟩
  case round =>
   obtain ⟨k, hk, rfl, hds⟩ := hrel;have hds0 := hds;obtain ⟨o1, d1, hs1, hl1, hr1, hc1⟩ := hds
   by_cases hlt' : k < m
   ·
    obtain ⟨i, hi⟩ : ∃ i, (deadL d)[k]? = some i := ⟨_, List.getElem?_eq_getElem (by have := HDL.out; omega)⟩;obtain ⟨htk, hnd⟩ := hr1.at hi;obtain ⟨g, hag, hog, hgc⟩ := HCG.out k i hi;subst hag;obtain ⟨N, hN⟩ : ∃ N, N = d.pool.nd i := ⟨_, rfl⟩;rw [<- hN] at hgc hnd;have e0 := hc1.cell (hgc 0 _ rfl) hog;have e1 := hc1.cell (hgc 1 _ rfl) hog;have e2 := hc1.cell (hgc 2 _ rfl) hog;have e3 := hc1.cell (hgc 3 _ rfl) hog;have e4 := hc1.cell (hgc 4 _ rfl) hog;rw [Nat.add_zero] at e0;have cb := cell1 ((hc1.alien hlB HOB.out.1).trans HS.out.boxs);have hk1 : (k : Int) < m := by omega
    obtain ⟨w3, hw3⟩ : ∃ w3, w3 = wr.alloc (.cells #[.int .i64 N.id, .int .i64 N.v, .int .i64 N.lo, .int .i64 N.hi, .int .i64 N.refs] 157) := ⟨_, rfl⟩;obtain ⟨b6, hb6⟩ : ∃ b6, b6 = wr.heap.size := ⟨_, rfl⟩;have hb3 : Below wr.heap.size wr w3 := by rw [hw3]; exact below_new1 _ _
    have hbx : w3.heap[b6]? = some (.cells #[.int .i64 N.id, .int .i64 N.v, .int .i64 N.lo, .int .i64 N.hi, .int .i64 N.refs] 157 (0, 0)) := by rw [hw3, hb6]; exact heap_alloc_new _ _
    have hob6 : o1 b6 = none := hl1.none (by omega);have HOB1 : Hid (o1 w.heap.size = none) := Lib.hid (hc1.alien' hlB HOB.out.1);have HW3 : Hid (_ = w3) := Lib.hid hw3.symm;have HB6 : Hid (_ = b6) := Lib.hid hb6.symm;have HN := Lib.hid hN;have hid : N.id = i := by rw [<- hnd]; exact hs1.pool.id i htk
    have hbi : nodesOf d1 i = some ⟨N.v, N.lo, N.hi⟩ := by unfold nodesOf PoolD.get; rw [if_pos htk, hnd]; rfl
    have hv : N.v < d1.vars.length := by rw [hr1.vars]; exact HK.out.dag.var i ⟨N.v, N.lo, N.hi⟩ (by unfold nodesOf PoolD.get; rw [if_pos (mem_deadL ((List.getElem?_eq_some_iff.1 hi).2 ▸ List.getElem_mem _)).1, <- hN]; rfl)
    have hft : d1.tab N.v (N.lo, N.hi) = some i := (hr1.tab N.v (by rw [<- hr1.vars]; exact hv) _ _ _).2 hbi;have hst3 := hs1.below hl1 hb3;have hl3 := hl1.mono hb3.size;obtain ⟨gt, ct, hvt, hct, hvl, hts⟩ := hst3.tabAt hv;obtain ⟨q0, q1, q2, q3, q4, _⟩ := cells5 hst3.blk;rw [hvt] at q2;obtain ⟨n0, n1, n2, n3, n4, _⟩ := cells5 hbx;have cb3 := (hb3.cell (p := ⟨w.heap.size, 0, none⟩) (lt_of_cell cb)).trans cb;have hvi : (N.v : Int) < s.ts.length := by omega
    have HCUT := Lib.hid (cut_any o1 N.v (s.ts.getD N.v 0) (d1.tab N.v) N.lo N.hi i w3.drew ((hst3.below hl3 (below_draw w3 1)).tab N.v hvl) (hl3.mono (below_draw w3 1).size) hft);have HS1 := Lib.hid hs1;have HL1 := Lib.hid hl1;have HR1 := Lib.hid hr1;have HC1 := Lib.hid hc1;have HI := Lib.hid hi;have HND := Lib.hid hnd;have HB3 := Lib.hid hb3;have HBX := Lib.hid hbx;have HTK := Lib.hid htk;have HIDN := Lib.hid hid;have HST3 := Lib.hid hst3;have HL3 := Lib.hid hl3;clear hgc hds0 hs1 hl1 hr1 hc1 hi hnd hb3 hbx htk hid hbi hv hft hst3 hl3 hvt hw3 hb6 hN hvl;go_upto_region 11 with fail;rw [HW3.out, HB6.out];refine wp_region_mix (fun W : World => W = w3.drew) true 12 [(0, false), (1, false), (2, false), (3, false), (4, false), (5, false), (6, false), (7, false), (8, false), (9, false), (10, false), (11, false), (12, true)] (by kernel_rfl) (by kernel_rfl) rfl ?_;simp only [planned, plnLz]
    iterate 12
     refine mix_readE rfl ?_;apply Exists.intro;refine ⟨fun w' hw => ?_, ?_⟩
     ·
      subst hw;go_simp;rfl
     simp only [putLz]
    refine mix_lastCall rfl (by go_simp) (HCUT.out.mono (R' := fun e w' => ∃ v, e = .returned v /\ (v = .int .i64 0 /\ TabIs o1 w' N.v (s.ts.getD N.v 0) (putF (d1.tab N.v) (N.lo, N.hi) none) /\ Chg (· = .tmap N.v) o1 o1 w3.drew w' /\ OwnLt o1 w')) (fun e w' h => ⟨_, h.1, rfl, h.2⟩)) ?_;rintro _ w4 ⟨rfl, ht4, hc4, hl4⟩;simp only [putLz];refine np_normal ?_;have hst4 := (HST3.out.below HL3.out (below_draw w3 1)).setTab (HL3.out.mono (below_draw w3 1).size) ht4 hc4;have cb4 := hc4.cell (w := w3.drew) (p := ⟨w.heap.size, 0, none⟩) cb3 (HOB1.out);have n0' := hc4.cell (w := w3.drew) (p := ⟨b6, 0, none⟩) n0 hob6;obtain ⟨p0, p1, p2, p3, p4, _⟩ := cells5 hst4.blk;rw [HIDN.out] at n0';have HGIVE := Lib.hid (poolGive_any o1 s.pb d1.pool i w4.drew (hst4.below hl4 (below_draw w4 1)).pool (hl4.mono (below_draw w4 1).size) HTK.out);have HT4 := Lib.hid ht4;have HC4 := Lib.hid hc4;have HL4 := Lib.hid hl4;clear ht4 hc4 hl4 hst4 n0 n1 n2 n3 n4 q0 q1 q2 q3 q4 cb3 cb e0 e1 e2 e3 e4 hct hvi;go_upto_region 12 with fail;refine wp_region_mix (fun W : World => W = w4.drew) true 6 [(0, false), (1, false), (2, false), (3, false), (4, false), (5, false), (6, true)] (by kernel_rfl) (by kernel_rfl) rfl ?_;simp only [planned, plnLz]
    iterate 6
     refine mix_readE rfl ?_;apply Exists.intro;refine ⟨fun w' hw => ?_, ?_⟩
     ·
      subst hw;go_simp;rfl
     simp only [putLz]
    refine mix_lastCall rfl (by go_simp) (HGIVE.out.mono (R' := fun e w' => ∃ v, e = .returned v /\ (v = .int .i64 0 /\ ∃ o', PoolAt o' w' s.pb (d1.pool.give i) /\ Chg (fun r => r = .pool \/ r = .slots \/ r = .taken \/ r = .free) o1 o' w4.drew w' /\ OwnLt o' w')) (fun e w' h => ⟨_, h.1, rfl, h.2⟩)) ?_;rintro _ w5 ⟨rfl, o2, hp5, hc5, hl5⟩;simp only [putLz];refine np_normal ?_;have HNX := Lib.hid (DropS.next HS1.out HL1.out HR1.out HC1.out HI.out HND.out (HB3.out.trans ((below_draw w3 1).mono HB3.out.size)) HT4.out HC4.out HL4.out (below_draw w4 1) hp5 hc5 hl5);clear hp5 hc5 hl5 p0 p1 p2 p3 p4 cb4 n0' hlG;go_wp2_with fail;go_roundw
    case rel => exact ⟨k + 1, by omega, by go_num, HNX.out⟩
    case measure => simp [intOf]; omega
   ·
    obtain rfl : k = m := by omega
    have hb0 := (hc1.alien hlB HOB.out.1).trans HS.out.boxs;have hg0 := (hc1.alien hlG HOB.out.2).trans HS.out.boxg;have cb := cell1 hb0;have cg := cell1 hg0;obtain ⟨q0, q1, q2, q3, q4, qf⟩ := cells5 hs1.blk;have HS1 := Lib.hid hs1;have HL1 := Lib.hid hl1;have HR1 := Lib.hid hr1;have HC1 := Lib.hid hc1;have hsb : sb ≠ w.heap.size + 1 := fun e => by have h1 := HOB.out.2; have h2 := HST.out.own; rw [e] at h2; rw [h1] at h2; cases h2
    clear hds0 hs1 hl1 hr1 hc1 hb0 hg0;go_wp2_with fail;have hDn : o D = none := HLT.out.none (by omega);have hDl : D < W2.heap.size := (Array.getElem?_eq_some_iff.1 HD3.out).1;have hDr := (HC1.out.alien hDl hDn).trans HD3.out;have hD1 : o1 D = none := HC1.out.alien' hDl hDn;have hsD : D ≠ sb := by rintro rfl; have := HST.out.own; rw [hDn] at this; cases this
    have hkl : k = (deadL d).length := HDL.out;refine ⟨by simp, .inl ⟨D, _, rfl, run_takeDeferred ((heap_setCell_ne hsD _).trans hDr), ?_⟩⟩;have hfin : StoreIn o1 (wr.setCell ⟨sb, 4, none⟩ (.int .i64 0)) sb (d1.cd d1.counts 0) s := HS1.out.setDead HL1.out 0;have hcoll : CollRel d (d1.cd d1.counts 0) := (hkl ▸ HR1.out : DropRel d (deadL d).length d1).done HK.out.live (fun i hi => (HST.out.pool.tk_lt hi).2);have hfin2 : StoreAt o1 ((wr.setCell ⟨sb, 4, none⟩ (.int .i64 0)).putObj D (.deferred none)) sb (d1.cd d1.counts 0) :=
     StoreAt.keepR ⟨s, hfin⟩ (fun g r hg _ => World.putObj_heap_other (by rintro rfl; rw [hD1] at hg; cases hg)) (fun _ _ h => h)
    refine ⟨_, results_tmp rfl _ _ _, ?_, o1, _, hfin2, HL1.out.mono (by simp [World.setCell]), hcoll, ?_⟩
    ·
     show Ending.returned (.int .i64 ((goneL d (takenL d.pool)).length : Nat)) = _
     have : (goneL d (takenL d.pool)).length = d.dead := deadL_len HK.out.live;rw [this]
    ·
     have hc := (Chg.of_below HS.out.low RStore o).trans (HC1.out.setCell (p := ⟨sb, 4, none⟩) (r := .store) HS1.out.own (.inl rfl) (.int .i64 0));exact ⟨hc.os, hc.tape, hc.output, by have := hc.size; simpa [World.setCell] using this, fun k hk hr => (World.putObj_heap_other (by omega)).trans (hc.block k hk hr), hc.ext, hc.new⟩
open Go.RowKit
structure ChgX (C : Nat -> Prop) (o o' : Own) (w w' : World) : Prop where
 os : w'.os = w.os
 tape : w'.tape = w.tape
 output : w'.output = w.output
 size : w.heap.size <= w'.heap.size
 block : ∀ k, k < w.heap.size -> o k = none -> ¬ C k -> w'.heap[k]? = w.heap[k]?
 ext : ∀ k r, o k = some r -> o' k = some r
 new : ∀ k, o' k ≠ o k -> w.heap.size <= k
abbrev NoB : Nat -> Prop := fun _ => False
section
variable {C D : Nat -> Prop} {R : Role -> Prop} {o o' o'' : Own} {w w' w'' : World}
theorem ChgX.of_chg (h : Chg R o o' w w') (C : Nat -> Prop) : ChgX C o o' w w' := ⟨h.os, h.tape, h.output, h.size, fun _ hk ho _ => h.alien hk ho, h.ext, fun k hk => (h.new k hk).1⟩
theorem ChgX.of_wr (h : Wr D w w') (o : Own) (hD : ∀ k, k < w.heap.size -> D k -> C k) : ChgX C o o w w' := ⟨h.os, h.tape, h.output, h.size, fun k hk _ hc => h.keep k hk (fun e => hc (hD k hk e)), fun _ _ h => h, fun _ h => (h rfl).elim⟩
theorem ChgX.of_below (h : Below w.heap.size w w') (o : Own) (C : Nat -> Prop) : ChgX C o o w w' := ChgX.of_wr (Wr.of_below h NoB) o (fun _ _ h => h.elim)
theorem ChgX.none' (h : ChgX C o o' w w') {k : Nat} (hk : k < w.heap.size) (ho : o k = none) : o' k = none := by
 by_cases e : o' k = o k
 ·
  rw [e]; exact ho
 ·
  have := h.new k e; omega
theorem ChgX.trans (h : ChgX C o o' w w') (h' : ChgX D o' o'' w' w'') (hD : ∀ k, k < w.heap.size -> D k -> C k) : ChgX C o o'' w w'' := by
 refine ⟨h'.os.trans h.os, h'.tape.trans h.tape, h'.output.trans h.output, Nat.le_trans h.size h'.size, fun k hk ho hc => ?_, fun k r hr => h'.ext k r (h.ext k r hr), fun k hk => ?_⟩
 ·
  exact (h'.block k (Nat.lt_of_lt_of_le hk h.size) (h.none' hk ho) (fun e => hc (hD k hk e))).trans (h.block k hk ho hc)
 ·
  by_cases e : o' k = o k
  ·
   have := h'.new k (by rw [e]; exact hk); exact Nat.le_trans h.size this
  ·
   exact h.new k e
theorem ChgX.cell (h : ChgX C o o' w w') {p : Addr} {v : Value} (hc : w.cell? p = some v) (hb : o p.block = none) (hn : ¬ C p.block) : w'.cell? p = some v :=
 (World.cell?_of_block (w := w) (h.block p.block (World.block_lt_of_cell? w p hc) hb hn)).trans hc
theorem ChgX.below0 (h : ChgX NoB (fun _ => none) o w w') : Below w.heap.size w w' := ⟨h.os, h.tape, h.output, h.size, fun k hk => h.block k hk rfl (fun e => e)⟩
theorem ChgX.lower (h : ChgX C (fun _ => none) o w w') (h' : ChgX D o o' w' w'') (hD : ∀ k, D k -> w.heap.size <= k) : ChgX C (fun _ => none) o' w w'' := h.trans h' (fun k hk e => by have := hD k e; omega)
end
structure StepX (C : Nat -> Prop) (K : Law) (o : Own) (w : World) (mb : Nat) (m : ManD) (V : Nat -> BF) (o' : Own) (w' : World) (m' : ManD) (V' : Nat -> BF) : Prop where
 is : ManAt (K m'.d V') o' w' mb m'
 lt : OwnLt o' w'
 chg : ChgX C o o' w w'
 ok : StoreOK m'.d V'
 ext : Ext m.d V m'.d V'
 hs : m'.hs = m.hs
 next : m'.next = m.next
theorem Step.toX {K : Law} {o o' : Own} {w w' : World} {mb : Nat} {m m' : ManD} {V V' : Nat -> BF} (h : Step K o w mb m V o' w' m' V') (C : Nat -> Prop) : StepX C K o w mb m V o' w' m' V' := ⟨h.is, h.lt, ChgX.of_chg h.chg C, h.ok, h.ext, h.hs, h.next⟩
theorem handles_ext {m m' : ManD} {V V' : Nat -> BF} (h : HandlesOK m) (ext : Ext m.d V m'.d V') (ok : StoreOK m'.d V') (e1 : m'.hs = m.hs) (e2 : m'.next = m.next) : HandlesOK m' := by
 refine ⟨by rw [e1]; exact h.nodup, by rw [e1]; exact h.zero, by rw [e1]; exact h.one, by rw [e1, e2]; exact h.lt, by rw [e2]; exact h.next, fun p hp => ?_, by rw [e1, e2]; exact h.len, fun i b hb => ?_⟩
 ·
  rw [e1] at hp; exact ext.ok (h.ok p hp)
 ·
  rw [e1];cases hn : nodesOf m.d i with
  | some b0 => rw [ext.ext i b0 hn]; exact h.refs i b0 hn
  | none =>
    rw [ext.ext0 i hn];have hi : i ≠ 0 := by rintro rfl; rw [ok.dag.none0] at hb; cases hb
    have : refsOf m.hs i = 0 := by
     unfold refsOf;rw [List.length_eq_zero_iff, List.filter_eq_nil_iff];intro p hp;have ho := h.ok p hp;simp only [Bool.and_eq_true, decide_eq_true_eq, beq_iff_eq, not_and];rintro _ rfl;rcases ho with h0 | ⟨b1, hb1⟩
     ·
      exact hi h0
     ·
      rw [hn] at hb1; cases hb1
    rw [this]; rfl
structure SatE (K : Law) (n : Nat) (Od : List Nat -> Prop) (room : Nat) (w0 : World) (mb : Nat) (fs : List (Int × BF)) (nx : Int) (w : World) (o : Own) (m : ManD) (V : Nat -> BF) : Prop where
 is : ManAt (K m.d V) o w mb m
 lt : OwnLt o w
 ok : ManOK m V
 vars : m.d.vars.length = n
 od : Od m.d.vars
 room : m.d.pool.room = room
 next : m.next = nx
 hs : m.hs.map (fun p => (p.1, ef V p.2)) = fs
 chg : ChgX NoB (fun _ => none) o w0 w
section
variable {K : Law} {n : Nat} {Od : List Nat -> Prop} {room : Nat} {w0 w w' : World} {mb : Nat} {fs : List (Int × BF)} {nx : Int} {o o' : Own} {m m' : ManD} {V V' : Nat -> BF}
theorem SatE.find (h : SatE K n Od room w0 mb fs nx w o m V) {k : Int} {F : BF} (hk : (k, F) ∈ fs) : ∃ f, (k, f) ∈ m.hs /\ ef V f = F := by
 rw [<- h.hs] at hk;obtain ⟨p, hp, e⟩ := List.mem_map.1 hk;cases e;exact ⟨p.2, hp, rfl⟩
theorem SatE.none0 (h : SatE K n Od room w0 mb fs nx w o m V) {k : Nat} (hk : k < w0.heap.size) : o k = none := h.chg.none' hk rfl
theorem hs_ext {hs : List (Int × Nat)} {d : StoreD} (hok : ∀ p ∈ hs, okE (nodesOf d) p.2) (hv : ∀ i, (i = 0 \/ ∃ b, nodesOf d i = some b) -> V' i = V i) : hs.map (fun p => (p.1, ef V' p.2)) = hs.map (fun p => (p.1, ef V p.2)) := by
 refine List.map_congr_left fun p hp => ?_
 have e : ef V' p.2 = ef V p.2 := by
  funext ρ;unfold ef;rw [hv (p.2 / 2) (hok p hp)]
 rw [e]
theorem SatE.withOd {Od' : List Nat -> Prop} (h : SatE K n Od room w0 mb fs nx w o m V) (hO : Od' m.d.vars) : SatE K n Od' room w0 mb fs nx w o m V :=
 ⟨h.is, h.lt, h.ok, h.vars, hO, h.room, h.next, h.hs, h.chg⟩
theorem SatE.step {C : Nat -> Prop} (h : SatE K n Od room w0 mb fs nx w o m V) (s : StepX C K o w mb m V o' w' m' V') (hC : ∀ k, C k -> w0.heap.size <= k) : SatE K n Od room w0 mb fs nx w' o' m' V' :=
 ⟨s.is, s.lt, ⟨s.ok, handles_ext h.ok.handles s.ext s.ok s.hs s.next⟩, by rw [s.ext.vars]; exact h.vars, by rw [s.ext.vars]; exact h.od, by rw [s.ext.room]; exact h.room, s.next.trans h.next,
  by rw [s.hs, hs_ext h.ok.handles.ok s.ext.val]; exact h.hs, h.chg.lower s.chg hC⟩
theorem SatE.other {C : Nat -> Prop} (h : SatE K n Od room w0 mb fs nx w o m V) (hx : Wr C w w') (hC : ∀ k, k < w.heap.size -> C k -> w0.heap.size <= k /\ o k = none) : SatE K n Od room w0 mb fs nx w' o m V := by
 obtain ⟨s, hm⟩ := h.is;refine ⟨⟨s, hm.keep (fun g r hg => hx.keep g (h.lt g r hg) (fun e => ?_)) (fun _ _ h => h)⟩, h.lt.mono hx.size, h.ok, h.vars, h.od, h.room, h.next, h.hs, h.chg.trans (ChgX.of_wr (C := fun k => w0.heap.size <= k) hx o (fun k hk e => (hC k hk e).1)) (fun k hk e => by omega)⟩;have := (hC g (h.lt g r hg) e).2;rw [hg] at this; cases this
theorem SatE.below (h : SatE K n Od room w0 mb fs nx w o m V) (hb : Below w.heap.size w w') : SatE K n Od room w0 mb fs nx w' o m V := h.other (Wr.of_below hb NoB) (fun _ _ e => e.elim)
theorem SatE.gave (h : SatE K n Od room w0 mb fs nx w o m V) {r : Nat} (g : Gave K o w mb m V r o' w' m') : SatE K n Od room w0 mb (fs ++ [(nx, ef V r)]) (nx + 1) w' o' m' V :=
 ⟨g.is, g.lt, g.ok, by rw [g.vars]; exact h.vars, by rw [g.vars]; exact h.od, by rw [g.room]; exact h.room, by rw [g.next, h.next], by rw [g.hs, List.map_append, h.hs, <- h.next]; rfl, h.chg.lower (ChgX.of_chg g.chg NoB) (fun _ e => e.elim)⟩
theorem handles_coll {d' : StoreD} (h : HandlesOK m) (hk : StoreOK m.d V) (r : CollRel m.d d') : HandlesOK { m with d := d' } := by
 have hok : ∀ p ∈ m.hs, okE (nodesOf d') p.2 := by
  intro p hp;rcases h.ok p hp with h0 | ⟨b, hb⟩
  ·
   exact .inl h0
  ·
   by_cases h1 : 1 < p.1
   ·
    refine .inr ⟨b, ?_⟩;rw [r.nodes, if_pos]
    ·
     exact hb
    ·
     refine hk.live.cnt.pos_of_ext hb ?_;rw [h.refs _ _ hb];have : 0 < refsOf m.hs (p.2 / 2) := by
      unfold refsOf;refine List.length_pos_of_mem (List.mem_filter.2 ⟨hp, ?_⟩);simp [h1]
     omega
   ·
    refine .inl ?_;have hlt := h.lt p hp;have hu : ∀ q ∈ m.hs, q.1 = p.1 -> q = p := by
     intro q hq e;have hnd := h.nodup;have h1 := getL_of_mem (l := encH m.hs) (encH_nodup hnd) (List.mem_map.2 ⟨q, hq, rfl⟩);have h2 := getL_of_mem (l := encH m.hs) (encH_nodup hnd) (List.mem_map.2 ⟨p, hp, rfl⟩);rw [e, h2] at h1;have e2 : (p.2 : Int) = (q.2 : Int) := by injection h1 with h1; injection h1
     exact Prod.ext e (by omega)
    rcases (by omega : p.1 = 0 \/ p.1 = 1) with e | e
    ·
     rw [<- hu _ h.zero e.symm]; rfl
    ·
     rw [<- hu _ h.one e.symm]; rfl
 exact ⟨h.nodup, h.zero, h.one, h.lt, h.next, hok, h.len, fun i b hb => by rw [r.ext i b hb]; exact h.refs i b (r.sub hb).1⟩
end
theorem wclear {K : Law} {n : Nat} {Od : List Nat -> Prop} {room : Nat} {w0 w : World} {mb : Nat} {fs : List (Int × BF)} {nx : Int} {o : Own} {m : ManD} {V : Nat -> BF} {s : ManW} (h : SatE K n Od room w0 mb fs nx w o m V) (hs : ManIn (K m.d V) o w mb m s) (G : Phi) :
 Calls Tryz.prog 99 #[.pointer (some ⟨s.me, 0, none⟩)] w fun x w' => x = .returned (.tuple #[]) /\ ManIn G o w' mb m s /\ Chg (· = .entries) o o w w' /\ OwnLt o w' := by
 refine (clear_memo o s.me (K m.d V) G w hs.memo h.lt).mono ?_;rintro x w' ⟨h1, h2, h3, h4⟩;exact ⟨h1, hs.setMemo h.lt h2 (h3.mono fun r e => .inr e), h3, h4⟩
theorem manCollect_any {K : Law} {n : Nat} {Od : List Nat -> Prop} {room : Nat} {w0 w : World} {mb : Nat} {fs : List (Int × BF)} {nx : Int} {o : Own} {m : ManD} {V : Nat -> BF} (h : SatE K n Od room w0 mb fs nx w o m V) :
 Calls Tryz.prog 46 #[.pointer (some ⟨mb, 0, none⟩)] w fun x w' => x = .returned (.int .i64 m.d.dead) /\ ∃ o' d', SatE K n Od room w0 mb fs nx w' o' { m with d := d' } V /\ CollRel m.d d' /\ Chg (fun _ => True) o o' w w' := by
 obtain ⟨s, hs⟩ := h.is;obtain ⟨c0, c1, c2, c3, c4, c5, f0⟩ := cells6 hs.blk;have HC : Hid (∀ w1, ManIn (fun _ _ _ _ _ => False) o w1 mb m s /\ Chg (· = .entries) o o w w1 /\ OwnLt o w1 -> Calls Tryz.prog 101 #[.pointer (some ⟨s.sb, 0, none⟩)] w1 fun x w' => x = .returned (.int .i64 m.d.dead) /\ ∃ o' d', SatE K n Od room w0 mb fs nx w' o' { m with d := d' } V /\ CollRel m.d d' /\ Chg (fun _ => True) o o' w w') := by
  refine Lib.hid ?_;rintro w1 ⟨g1, g2, g3⟩;have fin : ∀ o' w' d', ManIn (fun _ _ _ _ _ => False) o' w' mb { m with d := d' } s -> OwnLt o' w' -> CollRel m.d d' -> Chg RStore o o' w1 w' -> ∃ o' d', SatE K n Od room w0 mb fs nx w' o' { m with d := d' } V /\ CollRel m.d d' /\ Chg (fun _ => True) o o' w w' := by
   intro o' w' d' a1 a2 a3 a4;have hc : Chg (fun _ => True) o o' w w' := g2.any.trans a4.any;refine ⟨o', d', ⟨⟨s, a1.mono fun _ _ _ _ _ e => e.elim⟩, a2, ⟨a3.ok h.ok.store, handles_coll h.ok.handles h.ok.store a3⟩, by dsimp only; rw [a3.vars]; exact h.vars, by dsimp only; rw [a3.vars]; exact h.od, by dsimp only; rw [a3.room]; exact h.room, h.next, h.hs, h.chg.lower (ChgX.of_chg hc NoB) (fun _ e => e.elim)⟩, a3, hc⟩
  by_cases h0 : m.d.dead = 0
  ·
   refine (collect_early g1.store h0).mono ?_;rintro x w' ⟨rfl, hb⟩;exact ⟨by rw [h0]; rfl, fin o w' m.d (g1.below g3 hb) (g3.mono hb.size) (CollRel.none h.ok.store h0) (Chg.of_below hb _ _)⟩
  ·
   refine (collect_any g1.store g3 h.ok.store h0).mono ?_;rintro x w' ⟨rfl, o', d', b1, b2, b3, b4⟩;exact ⟨rfl, fin o' w' d' (g1.setStore g3 b1 b4) b2 b3 b4⟩
 have HCL := Lib.hid (wclear h hs (fun _ _ _ _ _ => False));clear h hs
 go_enter Tryz.func46, Tryz.ntmps46
 go_wp2_with fail;refine HCL.out.mono ?_;rintro x w1 ⟨rfl, g1, g2, g3⟩;obtain ⟨d0, d1, d2, d3, d4, d5, f1⟩ := cells6 g1.blk;have HC1 := Lib.hid (HC.out w1 ⟨g1, g2, g3⟩);clear g1 g2 g3 c0 c1 c2 c3 c4 c5 f0 HCL HC;go_wp2_with fail;refine HC1.out.mono ?_;rintro x w2 ⟨rfl, hq⟩;have HQ := Lib.hid hq;clear hq;go_wp2_with fail;go_ret;exact ⟨rfl, HQ.out⟩
open Go.RowKit
def HapG (K : Law) (n : Nat) (Od : List Nat -> Prop) (room : Nat) (w0 : World) (mb : Nat) (fs : List (Int × BF)) (nx : Int) (ev : Ev) : Prop :=
 ∀ (o : Own) (W : World) (m : ManD) (V : Nat -> BF), SatE K n Od room w0 mb fs nx W o m V -> Calls Tryz.prog 122 #[.pointer (some ⟨mb, 0, none⟩), evA ev] W fun x w' => x = .returned (.tuple #[]) /\
  ∃ o' m' V', SatE K n Od room w0 mb fs nx w' o' m' V' /\ m'.waits = m.waits /\ m'.calls = m.calls /\ (m'.d.pool.many <= m.d.pool.many \/ m'.d.pool.many <= fs.length * 2 ^ n) /\ ChgX NoB o o' W w'
def StE (K : Law) (n : Nat) (Od : List Nat -> Prop) (room : Nat) (w0 : World) (mb : Nat) (fs : List (Int × BF)) (nx : Int) (St : ManD -> Prop) (m' : ManD) : Prop :=
 ∀ (o : Own) (W : World) (m : ManD) (V : Nat -> BF), SatE K n Od room w0 mb fs nx W o m V -> m.waits = m'.waits -> m.calls = m'.calls -> (m.d.pool.many <= m'.d.pool.many \/ m.d.pool.many <= fs.length * 2 ^ n) -> St m
def OpG (K : Law) (n : Nat) (Od : List Nat -> Prop) (room : Nat) (w0 : World) (mb : Nat) (fs : List (Int × BF)) (nx : Int) (C : Nat -> Prop) (B : World -> Prop) (St : ManD -> Prop) (gop : Nat) (lop : Array Value) (Q : World -> ManD -> (Nat -> BF) -> Nat -> Prop) (E : Int -> ManD -> ManD -> Prop) : Prop :=
 ∀ (o : Own) (W : World) (m : ManD) (V : Nat -> BF) (xb : Nat), SatE K n Od room w0 mb fs nx W o m V -> B W -> (∀ k, C k -> k < W.heap.size /\ o k = none) -> St m -> CtxAt o W xb mb -> ¬ C xb ->
  Calls Tryz.prog gop (#[.pointer (some ⟨xb, 0, none⟩)] ++ lop) W fun e w' => ∃ (o' : Own) (m' : ManD) (V' : Nat -> BF), StepX C K o W mb m V o' w' m' V' /\ B w' /\
   ((∃ r : Nat, e = .returned (.int .i64 r) /\ okE (nodesOf m'.d) r /\ Q w' m' V' r) \/
    (∃ er : Int, e = stopP er false ev0 /\ er ≠ 0 /\ m'.waits = m.waits /\ St m' /\ E er m m') \/
    (∃ ev, e = stopP 0 true ev /\ m.waits = ev :: m'.waits /\ StE K n Od room w0 mb fs nx St m' /\ HapG K n Od room w0 mb fs nx ev))
theorem do1_gen (gop : Nat) (lop : Array Value) (W : World) (xb ob fb : Nat) (R : Nat -> World -> Prop) (R2 : Int -> Bool -> Ev -> World -> Prop) (eg : ∀ args w, (callFunc gop args).run Tryz.prog w = .ok (.enter gop args) w)
 (hob : W.cell? ⟨ob, 0, none⟩ = some (.func (.func gop) #[] lop)) (hop : Calls Tryz.prog gop (#[.pointer (some ⟨xb, 0, none⟩)] ++ lop) W fun e w' => (∃ r : Nat, e = .returned (.int .i64 r) /\ R r w' /\ (∃ z : Int, w'.cell? ⟨fb, 0, none⟩ = some (.int .i64 z)) /\ w'.frozen? ⟨fb, 0, none⟩ = false) \/
  ∃ er evt ev, e = stopP er evt ev /\ R2 er evt ev w') :
 Calls Tryz.prog 86 #[.pointer (some ⟨xb, 0, none⟩), .pointer (some ⟨ob, 0, none⟩), .pointer (some ⟨fb, 0, none⟩)] W fun e w' => (e = .returned (.tuple #[]) /\ ∃ r w1, R r w1 /\ w' = w1.setCell ⟨fb, 0, none⟩ (.int .i64 (r : Nat))) \/ ∃ er evt ev, e = stopP er evt ev /\ R2 er evt ev w' := by
 have HOP := Lib.hid hop;clear hop
 go_enter Tryz.func86, Tryz.ntmps86
 go_wp2_with fail;refine HOP.out.mono ?_;rintro e w' (⟨r, rfl, hr, ⟨z, hc⟩, hf⟩ | ⟨er, evt, ev, rfl, hr⟩)
 ·
  have HR := Lib.hid hr;clear hr;go_wp2_with fail;go_end0;exact .inl ⟨rfl, r, w', HR.out, rfl⟩
 ·
  have HR := Lib.hid hr;clear hr;unfold stopP;go_wp2_with fail;exact ⟨rfl, .inr ⟨er, evt, ev, rfl, HR.out⟩⟩
structure RunI (K : Law) (n : Nat) (Od : List Nat -> Prop) (room : Nat) (w0 : World) (mb : Nat) (fs : List (Int × BF)) (nx : Int) (C : Nat -> Prop) (B : World -> Prop) (St : ManD -> Prop) (gop : Nat) (lop : Array Value) (o0 : Own) (w : World) (k : Nat) (full : Bool) (W : World) (o : Own) (m : ManD) (V : Nat -> BF) : Prop where
 sat : SatE K n Od room w0 mb fs nx W o m V
 bok : B W
 st : St m
 len : m.waits.length = k
 cok : ∀ c, C c -> c < w.heap.size /\ o c = none
 chg : ChgX C o0 o w W
 size : w.heap.size + 2 <= W.heap.size
 obn : o w.heap.size = none
 fbn : o (w.heap.size + 1) = none
 ob : W.heap[w.heap.size]? = some (.cells #[.func (.func gop) #[] lop] 54 (0, 0))
 fb : ∃ z : Int, W.heap[w.heap.size + 1]? = some (.cells #[.int .i64 z] 52 (0, 0))
 clean : full = true -> m.d.dead = 0
def RunF (K : Law) (n : Nat) (Od : List Nat -> Prop) (room : Nat) (w0 : World) (mb : Nat) (fs : List (Int × BF)) (nx : Int) (C : Nat -> Prop) (B : World -> Prop) (Q : World -> ManD -> (Nat -> BF) -> Nat -> Prop) (E : Int -> ManD -> ManD -> Prop) (o0 : Own) (w : World) (er : Int) (W : World) : Prop :=
 ∃ o m V, SatE K n Od room w0 mb fs nx W o m V /\ B W /\ ChgX C o0 o w W /\ w.heap.size + 2 <= W.heap.size /\ o (w.heap.size + 1) = none /\
  ((er = 0 /\ ∃ r : Nat, okE (nodesOf m.d) r /\ Q W m V r /\ W.heap[w.heap.size + 1]? = some (.cells #[.int .i64 r] 52 (0, 0))) \/
   (er ≠ 0 /\ ∃ m0 : ManD, E er m0 m /\ (er = 7 -> m0.d.dead = 0)))
theorem do_runG {K : Law} {n : Nat} {Od : List Nat -> Prop} {room : Nat} {w0 : World} {mb : Nat} {fs : List (Int × BF)} {nx : Int} {C : Nat -> Prop} {B : World -> Prop} {St : ManD -> Prop} {gop : Nat} {lop : Array Value} {Q : World -> ManD -> (Nat -> BF) -> Nat -> Prop} {E : Int -> ManD -> ManD -> Prop}
 (hB : ∀ W W', B W -> (∀ c, C c -> W'.heap[c]? = W.heap[c]?) -> B W') (hQ : ∀ W W' m V r, Q W m V r -> (∀ c, C c -> W'.heap[c]? = W.heap[c]?) -> Q W' m V r) (hSt : ∀ (m : ManD) (d : StoreD), St m -> CollRel m.d d -> St { m with d := d }) (hC0 : ∀ c, C c -> w0.heap.size <= c) (eg : ∀ args w, (callFunc gop args).run Tryz.prog w = .ok (.enter gop args) w)
 (hop : OpG K n Od room w0 mb fs nx C B St gop lop Q E) {o : Own} {w : World} {m : ManD} {V : Nat -> BF} (h : SatE K n Od room w0 mb fs nx w o m V) (hb : B w) (hC : ∀ c, C c -> c < w.heap.size /\ o c = none) (hst : St m) :
 Calls Tryz.prog 85 #[.pointer (some ⟨mb, 0, none⟩), .func (.func 86) #[] #[.pointer (some ⟨w.heap.size, 0, none⟩), .pointer (some ⟨w.heap.size + 1, 0, none⟩)]] (doW gop lop w) fun x w' => ∃ er, x = .returned (.int .i64 er) /\ RunF K n Od room w0 mb fs nx C B Q E o w er w' := by
 have hz : (doW gop lop w).heap.size = w.heap.size + 2 := by simp [doW]
 have hbd : Below w.heap.size w (doW gop lop w) := (below_new1 w _).alloc (by simp) _;have hfb : (doW gop lop w).heap[w.heap.size + 1]? = some (.cells #[.int .i64 0] 52 (0, 0)) := by
  have := heap_alloc_new (w.alloc (.cells #[.func (.func gop) #[] lop] 54)) (.cells #[.int .i64 0] 52);rw [World.size_alloc] at this; exact this
 have hob : (doW gop lop w).heap[w.heap.size]? = some (.cells #[.func (.func gop) #[] lop] 54 (0, 0)) := (Go.heap_alloc_old _ _ (by simp)).trans (heap_alloc_new w _);have hw0 := h.chg.size;have hstart : RunI K n Od room w0 mb fs nx C B St gop lop o w m.waits.length false (doW gop lop w) o m V :=
  ⟨h.below hbd, hB _ _ hb (fun c hc => hbd.block c (hC c hc).1), hst, rfl, hC, ChgX.of_below hbd o C, by omega, h.lt.none (Nat.le_refl _), h.lt.none (by omega), hob, ⟨0, hfb⟩, by simp⟩
 have hother : ∀ {k full W W' o1 m1 V1}, RunI K n Od room w0 mb fs nx C B St gop lop o w k full W o1 m1 V1 -> ∀ {s : Nat}, w.heap.size + 2 <= s -> o1 s = none -> o1 (s + 1) = none -> Ali s W W' -> RunI K n Od room w0 mb fs nx C B St gop lop o w k full W' o1 m1 V1 := by
  intro k full W W' o1 m1 V1 hi s hs n0 n1 a;have hsz := hi.size;have hk : ∀ k, k < w.heap.size + 2 -> W'.heap[k]? = W.heap[k]? := fun k hk => a.keep k (by omega) (by omega)
  refine ⟨hi.sat.other a (fun k _ e => ?_), hB _ _ hi.bok (fun c hc => hk c (by have := (hi.cok c hc).1; omega)), hi.st, hi.len, hi.cok, hi.chg.trans (ChgX.of_wr (C := fun k => w.heap.size <= k) a o1 (fun k _ e => by omega)) (fun k hk e => by omega), Nat.le_trans hi.size a.size, hi.obn, hi.fbn, (hk _ (by omega)).trans hi.ob, ?_, hi.clean⟩
  ·
   rcases e with rfl | rfl
   ·
    exact ⟨by omega, n0⟩
   ·
    exact ⟨by omega, n1⟩
  ·
   obtain ⟨z, hz⟩ := hi.fb;exact ⟨z, (hk _ (by omega)).trans hz⟩
 have hnext : ∀ {k full full' W W' o1 m1 V1 o2 m2 V2}, RunI K n Od room w0 mb fs nx C B St gop lop o w k full W o1 m1 V1 -> SatE K n Od room w0 mb fs nx W' o2 m2 V2 -> ChgX NoB o1 o2 W W' -> m2.waits = m1.waits -> St m2 -> (full' = true -> m2.d.dead = 0) -> RunI K n Od room w0 mb fs nx C B St gop lop o w k full' W' o2 m2 V2 := by
  intro k full full' W W' o1 m1 V1 o2 m2 V2 hi hsat hc e1 e2 e3;have hsz := hi.size;obtain ⟨z, hz⟩ := hi.fb
  exact ⟨hsat, hB _ _ hi.bok (fun c hc' => hc.block c (by have := (hi.cok c hc').1; omega) (hi.cok c hc').2 (fun e => e)), e2, by rw [e1]; exact hi.len, fun c hc' => ⟨(hi.cok c hc').1, hc.none' (by have := (hi.cok c hc').1; omega) (hi.cok c hc').2⟩,
   hi.chg.trans hc (fun _ _ e => e.elim), Nat.le_trans hi.size hc.size, hc.none' (by omega) hi.obn, hc.none' (by omega) hi.fbn, (hc.block _ (by omega) hi.obn (fun e => e)).trans hi.ob, ⟨z, (hc.block _ (by omega) hi.fbn (fun e => e)).trans hz⟩, e3⟩
 refine run_any mb _ _ _ enters_do1 (fun k full W => ∃ o1 m1 V1, RunI K n Od room w0 mb fs nx C B St gop lop o w k full W o1 m1 V1) _ ?_ _ ⟨o, m, V, hstart⟩;rintro k full W ⟨o1, m1, V1, hi⟩;have hsz := hi.size;obtain ⟨s, hs⟩ : ∃ s, s = W.heap.size := ⟨_, rfl⟩
 refine ⟨fun st W1 => match st with
  | none => ∃ (o' : Own) (m' : ManD) (V' : Nat -> BF) (r : Nat) (w1 : World), SatE K n Od room w0 mb fs nx w1 o' m' V' /\ B w1 /\ ChgX C o o' w w1 /\ s + 3 <= w1.heap.size /\ (∀ q, w.heap.size <= q -> q < s + 3 -> o1 q = none -> o' q = none) /\ (∃ z : Int, w1.heap[w.heap.size + 1]? = some (.cells #[.int .i64 z] 52 (0, 0))) /\ okE (nodesOf m'.d) r /\ Q w1 m' V' r /\ W1 = w1.setCell ⟨w.heap.size + 1, 0, none⟩ (.int .i64 (r : Nat))
  | some (er, evt, ev) => ∃ (o' : Own) (m' : ManD) (V' : Nat -> BF), RunI K n Od room w0 mb fs nx C B St gop lop o w m'.waits.length false W1 o' m' V' /\ s + 3 <= W1.heap.size /\ (∀ q, w.heap.size <= q -> q < s + 3 -> o1 q = none -> o' q = none) /\
   ((evt = false /\ er ≠ 0 /\ m'.waits = m1.waits /\ E er m1 m') \/ (evt = true /\ m1.waits = ev :: m'.waits /\ StE K n Od room w0 mb fs nx St m' /\ HapG K n Od room w0 mb fs nx ev)), ?_, ?_, ?_, ?_, ?_⟩
 ·
  unfold TryOp;have hbt : Below W.heap.size W (tryW mb W) := ((below_new1 _ _).alloc (by simp) _).alloc (by simp; omega) _;have hzt : (tryW mb W).heap.size = W.heap.size + 3 := by unfold tryW; simp
  obtain ⟨T, hT⟩ : ∃ T, T = tryW mb W := ⟨_, rfl⟩;have h1 : (tryW mb W).heap[W.heap.size + 2]? = some (.cells #[.pointer (some ⟨mb, 0, none⟩)] 114 (0, 0)) := by
   have := heap_alloc_new ((W.alloc (.cells #[.int .i64 0, .bool false, .int .i64 0, .int .i64 0, .int .i64 0] 116)).alloc (.cells #[.bool false] 4)) (.cells #[.pointer (some ⟨mb, 0, none⟩)] 114);rw [World.size_alloc, World.size_alloc] at this; exact this
  rw [<- hT] at hbt hzt h1 ⊢;clear hT;have hsatT := hi.sat.below hbt;have hcx : CtxAt o1 T (W.heap.size + 2) mb := ⟨cell1 h1, hi.sat.lt.none (by omega)⟩;have hopT := hop o1 T m1 V1 (W.heap.size + 2) hsatT (hB _ _ hi.bok (fun c hc => hbt.block c (by have := (hi.cok c hc).1; omega))) (fun c hc => ⟨by have := (hi.cok c hc).1; omega, (hi.cok c hc).2⟩) hi.st hcx (fun e => by have := (hi.cok _ e).1; omega);have hobT := (hbt.block w.heap.size (by omega)).trans hi.ob;obtain ⟨z, hz⟩ := hi.fb;have hfbT := (hbt.block (w.heap.size + 1) (by omega)).trans hz;have hC' : ∀ q, w.heap.size <= q -> ¬ C q := fun q hq e => by have := (hi.cok q e).1; omega
  have hkeep : ∀ {o' : Own} {w1 : World}, ChgX C o1 o' T w1 -> ∀ q, w.heap.size <= q -> q < s + 3 -> o1 q = none -> w1.heap[q]? = T.heap[q]? := fun hc q h1 h2 h3 => hc.block q (by omega) h3 (hC' q h1)
  refine (do1_gen gop lop T (W.heap.size + 2) w.heap.size (w.heap.size + 1) (fun r w1 => ∃ o' m' V', StepX C K o1 T mb m1 V1 o' w1 m' V' /\ B w1 /\ okE (nodesOf m'.d) r /\ Q w1 m' V' r)
   (fun er evt ev w1 => ∃ o' m' V', StepX C K o1 T mb m1 V1 o' w1 m' V' /\ B w1 /\ ((evt = false /\ er ≠ 0 /\ m'.waits = m1.waits /\ St m' /\ E er m1 m') \/ (evt = true /\ m1.waits = ev :: m'.waits /\ StE K n Od room w0 mb fs nx St m' /\ HapG K n Od room w0 mb fs nx ev))) eg (cell1 hobT) (hopT.mono ?_)).mono ?_
  ·
   rintro e w1 ⟨o', m', V', st, b1, (⟨r, rfl, q1, q2⟩ | ⟨er, rfl, q1, q2, q3, q4⟩ | ⟨ev, rfl, q1, q2, q3⟩)⟩
   ·
    have hf := (hkeep st.chg (w.heap.size + 1) (by omega) (by omega) hi.fbn).trans hfbT;exact .inl ⟨r, rfl, ⟨o', m', V', st, b1, q1, q2⟩, ⟨z, cell1 hf⟩, by simp [World.frozen?, hf]⟩
   ·
    exact .inr ⟨er, false, ev0, rfl, o', m', V', st, b1, .inl ⟨rfl, q1, q2, q3, q4⟩⟩
   ·
    exact .inr ⟨0, true, ev, rfl, o', m', V', st, b1, .inr ⟨rfl, q1, q2, q3⟩⟩
  ·
   have n0 : o1 W.heap.size = none := hi.sat.lt.none (Nat.le_refl _);have n1 : o1 (W.heap.size + 1) = none := hi.sat.lt.none (by omega);rintro e W' (⟨rfl, r, w1, ⟨o', m', V', st, b1, q1, q2⟩, rfl⟩ | ⟨er, evt, ev, rfl, o', m', V', st, b1, q⟩)
   ·
    have hf := (hkeep st.chg (w.heap.size + 1) (by omega) (by omega) hi.fbn).trans hfbT;have hsz1 := st.chg.size;refine ⟨by simp [World.setCell]; omega, ?_, ?_, .inl ⟨rfl, o', m', V', r, w1, hsatT.step st hC0, b1, (hi.chg.trans (ChgX.of_below hbt o1 C) (fun _ _ e => e)).trans st.chg (fun _ _ e => e), by omega, fun q _ h2 h3 => st.chg.none' (by omega) h3, ⟨z, hf⟩, q1, q2, rfl⟩⟩
    ·
     exact (heap_setCell_ne (by show _ ≠ w.heap.size + 1; omega) _).trans (hkeep st.chg _ (by omega) (by omega) n0)
    ·
     exact (heap_setCell_ne (by show _ ≠ w.heap.size + 1; omega) _).trans (hkeep st.chg _ (by omega) (by omega) n1)
   ·
    have hsz1 := st.chg.size;have b2 : St m' := by
     rcases q with ⟨_, _, _, q, _⟩ | ⟨_, _, q, _⟩
     ·
      exact q
     ·
      exact q _ _ _ _ (hsatT.step st hC0) rfl rfl (.inl (Nat.le_refl _))
    have hc1 := (hi.chg.trans (ChgX.of_below hbt o1 C) (fun _ _ e => e)).trans st.chg (fun _ _ e => e);refine ⟨by omega, hkeep st.chg _ (by omega) (by omega) n0, hkeep st.chg _ (by omega) (by omega) n1, .inr ⟨er, evt, ev, rfl, o', m', V', ?_, by omega, fun q _ h2 h3 => st.chg.none' (by omega) h3, q.imp (fun ⟨a1, a2, a3, _, a4⟩ => ⟨a1, a2, a3, a4⟩) id⟩⟩
    exact ⟨hsatT.step st hC0, b1, b2, rfl, fun c hc => ⟨(hi.cok c hc).1, st.chg.none' (by have := (hi.cok c hc).1; omega) (hi.cok c hc).2⟩, hc1, by omega, st.chg.none' (by omega) hi.obn, st.chg.none' (by omega) hi.fbn,
     (hkeep st.chg _ (by omega) (by omega) hi.obn).trans hobT, ⟨z, (hkeep st.chg (w.heap.size + 1) (by omega) (by omega) hi.fbn).trans hfbT⟩, by simp⟩
 ·
  rintro W1 W2 ⟨o', m', V', r, w1, a1, a2, a3, a4, a5, ⟨z, a6⟩, a7, a8, rfl⟩ al;have hwr : Wr (fun k => k = w.heap.size + 1 \/ k = s \/ k = s + 1) w1 W2 := Wr.trans ((Wr.refl (fun k => k = w.heap.size + 1) w1).setCell (p := ⟨w.heap.size + 1, 0, none⟩) (.inl rfl) _) al (fun k _ e => .inl e) (fun k _ e => .inr (by rw [hs]; exact e));have n0 : o' s = none := a5 s (by omega) (by omega) (by rw [hs]; exact hi.sat.lt.none (Nat.le_refl _));have n1 : o' (s + 1) = none := a5 (s + 1) (by omega) (by omega) (by rw [hs]; exact hi.sat.lt.none (by omega));have nf : o' (w.heap.size + 1) = none := a5 _ (by omega) (by omega) hi.fbn;have hf := (al.keep (w.heap.size + 1) (by simp [World.setCell]; omega) (by omega)).trans (heap_setCell_same a6 _);refine ⟨o', m', V', a1.other hwr (fun k _ e => ?_), hB _ _ a2 (fun c hc => hwr.keep c (by have := (hi.cok c hc).1; omega) (by have := (hi.cok c hc).1; omega)), a3.trans (ChgX.of_wr (C := fun k => w.heap.size <= k) hwr o' (fun k _ e => by omega)) (fun k hk e => by omega), by have := hwr.size; omega, nf, .inl ⟨rfl, r, a7, hQ _ _ _ _ _ a8 (fun c hc => hwr.keep c (by have := (hi.cok c hc).1; omega) (by have := (hi.cok c hc).1; omega)), hf⟩⟩;rcases e with rfl | rfl | rfl
  ·
   exact ⟨by omega, nf⟩
  ·
   exact ⟨by omega, n0⟩
  ·
   exact ⟨by omega, n1⟩
 ·
  rintro er ev W1 W2 ⟨o', m', V', hi', a4, a5, (⟨h1, _⟩ | ⟨_, hev, hvs, hap⟩)⟩ al
  ·
   cases h1
  rw [<- hs] at al;have n0 : o' s = none := a5 s (by omega) (by omega) (by rw [hs]; exact hi.sat.lt.none (Nat.le_refl _));have n1 : o' (s + 1) = none := a5 (s + 1) (by omega) (by omega) (by rw [hs]; exact hi.sat.lt.none (by omega));have hi2 := hother hi' (by omega) n0 n1 al;refine (hap o' W2 m' V' hi2.sat).mono ?_;rintro x w' ⟨rfl, o2, m2, V2, g1, g2, g3, g5, g4⟩;refine ⟨rfl, m'.waits.length, by rw [<- hi.len, hev]; simp, o2, m2, V2, hnext hi2 g1 g4 g2 (hvs _ _ _ _ g1 g2 g3 g5) (by simp)⟩
 ·
  rintro ev W1 W2 ⟨o', m', V', hi', a4, a5, (⟨_, _, hw, _⟩ | ⟨h1, _⟩)⟩ al hfull
  ·
   rw [<- hs] at al;have n0 : o' s = none := a5 s (by omega) (by omega) (by rw [hs]; exact hi.sat.lt.none (Nat.le_refl _));have n1 : o' (s + 1) = none := a5 (s + 1) (by omega) (by omega) (by rw [hs]; exact hi.sat.lt.none (by omega));have hi2 := hother hi' (by omega) n0 n1 al;refine (manCollect_any hi2.sat).mono ?_;rintro x w' ⟨rfl, o2, d2, g1, g2, g3⟩;have hi3 := hnext (full' := true) hi2 g1 (ChgX.of_chg g3 NoB) rfl (hSt _ _ hi2.st g2) (fun _ => g2.dead);rw [hw, hi.len] at hi3;exact ⟨⟨_, rfl⟩, o2, _, V', hi3⟩
  ·
   cases h1
 ·
  rintro er ev W1 W2 ⟨o', m', V', hi', a4, a5, (⟨_, h0, hw, hE⟩ | ⟨h1, _⟩)⟩ al hne
  ·
   rw [<- hs] at al;have n0 : o' s = none := a5 s (by omega) (by omega) (by rw [hs]; exact hi.sat.lt.none (Nat.le_refl _));have n1 : o' (s + 1) = none := a5 (s + 1) (by omega) (by omega) (by rw [hs]; exact hi.sat.lt.none (by omega));have hi2 := hother hi' (by omega) n0 n1 al;refine ⟨o', m', V', hi2.sat, hi2.bok, hi2.chg, hi2.size, hi2.fbn, .inr ⟨h0, m1, hE, fun e7 => hi.clean ?_⟩⟩;cases full with
   | true => rfl
   | false => exact (hne ⟨e7, rfl⟩).elim
  ·
   cases h1
def DoPost (K : Law) (n : Nat) (Od : List Nat -> Prop) (room : Nat) (w0 : World) (mb : Nat) (fs : List (Int × BF)) (nx : Int) (C : Nat -> Prop) (B : World -> Prop) (Q : World -> ManD -> (Nat -> BF) -> Nat -> Prop) (E : Int -> ManD -> ManD -> Prop) (o : Own) (w : World) (x : Ending) (w' : World) : Prop :=
 ∃ o' m' V', B w' /\ ChgX C o o' w w' /\
  ((∃ r m1, x = .returned (.tuple #[.int .i64 nx, .int .i64 0]) /\ SatE K n Od room w0 mb (fs ++ [(nx, ef V' r)]) (nx + 1) w' o' m' V' /\ Q w' m1 V' r /\ okE (nodesOf m1.d) r /\ nodesOf m'.d = nodesOf m1.d /\ m'.d.vars = m1.d.vars /\ m'.d.level = m1.d.level /\ m'.d.pool.many = m1.d.pool.many /\ m'.waits = m1.waits /\ m'.calls = m1.calls) \/
   (∃ er m0, er ≠ 0 /\ x = .returned (.tuple #[.int .i64 0, .int .i64 er]) /\ SatE K n Od room w0 mb fs nx w' o' m' V' /\ E er m0 m' /\ (er = 7 -> m0.d.dead = 0)))
theorem do_gen {K : Law} (hK : LawOK K) {n : Nat} {Od : List Nat -> Prop} {room : Nat} {w0 : World} {mb : Nat} {fs : List (Int × BF)} {nx : Int} {C : Nat -> Prop} {B : World -> Prop} {St : ManD -> Prop} {gop : Nat} {lop : Array Value} {Q : World -> ManD -> (Nat -> BF) -> Nat -> Prop} {E : Int -> ManD -> ManD -> Prop}
 (hB : ∀ W W', B W -> (∀ c, C c -> W'.heap[c]? = W.heap[c]?) -> B W') (hQ : ∀ W W' m V r, Q W m V r -> (∀ c, C c -> W'.heap[c]? = W.heap[c]?) -> Q W' m V r) (hSt : ∀ (m : ManD) (d : StoreD), St m -> CollRel m.d d -> St { m with d := d }) (hC0 : ∀ c, C c -> w0.heap.size <= c) (eg : ∀ args w, (callFunc gop args).run Tryz.prog w = .ok (.enter gop args) w)
 (hop : OpG K n Od room w0 mb fs nx C B St gop lop Q E) {o : Own} {w : World} {m : ManD} {V : Nat -> BF} (h : SatE K n Od room w0 mb fs nx w o m V) (hb : B w) (hC : ∀ c, C c -> c < w.heap.size /\ o c = none) (hst : St m) (hn : nx < 1099511627776) :
 Calls Tryz.prog 24 #[.pointer (some ⟨mb, 0, none⟩), .func (.func gop) #[] lop] w (DoPost K n Od room w0 mb fs nx C B Q E o w) := by
 have hmf : ∀ (fn : Fn) (first cap : Array Value) (w : World), (Instr.makeFunc fn first cap).run Tryz.prog w = .ok (.func fn first cap) w := fun _ _ _ _ => rfl
 have HRUN := Lib.hid (do_runG hB hQ hSt hC0 eg hop h hb hC hst);have HLAW := Lib.hid hK;have HHB := Lib.hid hB;have HHQ := Lib.hid hQ;have HNX := Lib.hid hn;have HCOK := Lib.hid hC;have hnf := eqNilF (w.alloc (.cells #[.func (.func gop) #[] lop] 54)) (.func gop) #[] lop;have HW : Hid ((w.alloc (.cells #[.func (.func gop) #[] lop] 54)).alloc (.cells #[.int .i64 0] 52) = doW gop lop w) := Lib.hid rfl;clear h hb hK hB hQ hSt hC0 hop hC hst hn
 go_enter Tryz.func24, Tryz.ntmps24
 go_wp2_with fail;rw [HW.out];refine HRUN.out.mono ?_;rintro x w1 ⟨er, rfl, o1, m1, V1, sat, b1, hc1, hsz1, hnf1, (⟨rfl, r, hr, hq, hcf0⟩ | ⟨h0, m0, hE, h7⟩)⟩
 rotate_left
 ·
  have HF : Hid (DoPost K n Od room w0 mb fs nx C B Q E o w (.returned (.tuple #[.int .i64 0, .int .i64 er])) w1) := Lib.hid ⟨o1, m1, V1, b1, hc1, .inr ⟨er, m0, h0, rfl, sat, hE, h7⟩⟩;have h00 : (er == 0) = false := by simpa using h0
  clear h0 hE h7 sat b1 hc1 hsz1 hnf1 HRUN HW;go_wp2_with fail
  go_ret2
  exact HF.out
 have hcf := cell1 hcf0;obtain ⟨s1, hm1⟩ := sat.is;obtain ⟨c0, c1, c2, c3, c4, c5, f0⟩ := cells6 hm1.blk;obtain ⟨ss, hss⟩ := hm1.store;have hrlt : r < eMax := by have := hss.edge_lt hr; unfold eMax; omega
 have HIS : Hid (Calls Tryz.prog 87 #[.pointer (some ⟨s1.sb, 0, none⟩), .int .i64 r] w1.drew fun x w' => x = .returned (.bool true) /\ Below w1.heap.size w1 w') := by
  have h1 := storeIs_any (hss.below sat.lt (below_draw w1 1)) (sat.lt.mono (below_draw w1 1).size) r hrlt;rw [is_eq hr] at h1;exact Lib.hid (h1.mono fun x w' ⟨a, b⟩ => ⟨a, belowOf (n := 1) b⟩)
 have HST := Lib.hid sat;have HR := Lib.hid hr;have HQ := Lib.hid hq;have HB1 := Lib.hid b1;have HC1 := Lib.hid hc1;have HN1 := Lib.hid hnf1;have lmb : mb < w1.heap.size := lt_of_cell c0;have lfb : w.heap.size + 1 < w1.heap.size := lt_of_cell hcf;clear sat hm1 hss hr hq b1 hc1 hnf1 hsz1 HRUN HW;go_upto_region 9 with fail;refine wp_region_left (fun W : World => Below w1.heap.size w1 W) 7 (by kernel_rfl) (below_draw w1 1) ?_;refine left_readE 0 rfl rfl (by kernel_rfl) ?_;apply Exists.intro;refine ⟨fun w' hw => ?_, ?_⟩
 ·
  have q1 := (hw.cell (p := ⟨mb, 0, none⟩) lmb).trans c0;have q2 := (hw.cell (p := ⟨w.heap.size + 1, 0, none⟩) lfb).trans hcf;go_simp;rfl
 simp only [putLz];refine left_readE 1 rfl rfl (by kernel_rfl) ?_;apply Exists.intro;refine ⟨fun w' hw => ?_, ?_⟩
 ·
  have q1 := (hw.cell (p := ⟨mb, 0, none⟩) lmb).trans c0;have q2 := (hw.cell (p := ⟨w.heap.size + 1, 0, none⟩) lfb).trans hcf;go_simp;rfl
 simp only [putLz];refine left_readE 2 rfl rfl (by kernel_rfl) ?_;apply Exists.intro;refine ⟨fun w' hw => ?_, ?_⟩
 ·
  have q1 := (hw.cell (p := ⟨mb, 0, none⟩) lmb).trans c0;have q2 := (hw.cell (p := ⟨w.heap.size + 1, 0, none⟩) lfb).trans hcf;go_simp;rfl
 simp only [putLz];refine left_readE 3 rfl rfl (by kernel_rfl) ?_;apply Exists.intro;refine ⟨fun w' hw => ?_, ?_⟩
 ·
  have q1 := (hw.cell (p := ⟨mb, 0, none⟩) lmb).trans c0;have q2 := (hw.cell (p := ⟨w.heap.size + 1, 0, none⟩) lfb).trans hcf;go_simp;rfl
 simp only [putLz];refine left_readE 4 rfl rfl (by kernel_rfl) ?_;apply Exists.intro;refine ⟨fun w' hw => ?_, ?_⟩
 ·
  have q1 := (hw.cell (p := ⟨mb, 0, none⟩) lmb).trans c0;have q2 := (hw.cell (p := ⟨w.heap.size + 1, 0, none⟩) lfb).trans hcf;go_simp;rfl
 simp only [putLz];refine left_alts [5] (by kernel_rfl) (fun i hi hS o ho => ?_);simp only [memLz] at hi;subst hi;simp only [altLz] at ho;subst ho;refine ⟨rfl, ?_⟩;refine oper_call (v := .bool true) (R := fun w' => Below w1.heap.size w1 w') (by go_simp) HIS.out ?_;rintro w2 hb2;refine ⟨hb2, ?_⟩;simp only [putLz];have hcf2 := (hb2.cell (p := ⟨w.heap.size + 1, 0, none⟩) lfb).trans hcf;have d0 := (hb2.cell (p := ⟨mb, 0, none⟩) lmb).trans c0;have HST2 := Lib.hid (HST.out.below hb2);refine left_readE 6 rfl rfl (by kernel_rfl) ?_;apply Exists.intro;refine ⟨fun w' hw => ?_, ?_⟩
 ·
  have q1 := (hw.cell (p := ⟨mb, 0, none⟩) lmb).trans c0;have q2 := (hw.cell (p := ⟨w.heap.size + 1, 0, none⟩) lfb).trans hcf;go_simp;rfl
 simp only [putLz];have hb2' := hb2;clear c0 c1 c2 c3 c4 c5 f0 hcf hcf0 hb2;refine left_end (by kernel_rfl) ?_;have HG := Lib.hid (give_any HLAW.out HST2.out.is HST2.out.lt HST2.out.ok r HR.out (by rw [HST2.out.next]; exact HNX.out));have HB2 := Lib.hid hb2';clear hb2';go_wp2_with fail;refine HG.out.mono ?_;rintro x w3 ⟨rfl, o3, m3, hg⟩;have HGV := Lib.hid hg;have HNX : Hid (m1.next = nx) := Lib.hid HST2.out.next
 clear hg;go_wp2_with fail
 go_ret2
 have hlt2 := HST2.out.lt;have hkc : ∀ c, C c -> w3.heap[c]? = w1.heap[c]? := fun c hc => by
  have h1 := (HCOK.out c hc).1;have h2 := HC1.out.size;have h3 := HB2.out.size;exact (HGV.out.chg.alien (by omega) (HC1.out.none' h1 (HCOK.out c hc).2)).trans (HB2.out.block c (by omega))
 refine ⟨o3, m3, V1, HHB.out _ _ HB1.out hkc, (HC1.out.trans (ChgX.of_below HB2.out o1 C) (fun _ _ e => e)).trans (ChgX.of_chg HGV.out.chg C) (fun _ _ e => e), .inl ⟨r, m1, by rw [<- HNX.out]; rfl, HST2.out.gave HGV.out, HHQ.out _ _ _ _ _ HQ.out hkc, HR.out, HGV.out.nodes, HGV.out.vars, HGV.out.level, HGV.out.many, HGV.out.waits, HGV.out.calls⟩⟩
open Go.RowKit
section
variable {P : Program} {S : World -> Prop} {Q : Exit -> Act -> World -> Prop} {R : List PanicEntry -> World -> Prop} {m : Nat}
def PP (R : List PanicEntry -> World -> Prop) (Q : Exit -> Act -> World -> Prop) : Exit -> Act -> World -> Prop
 | .panic c, a, w => a.defers = [] /\ R c w
 | e, a, w => Q e a w
theorem put_defers (a : Act) (d : Option Nat) (v : Value) : (a.put d v).defers = a.defers := by cases d <;> rfl
theorem pp_put (c : List PanicEntry) (a : Act) (d : Option Nat) (v : Value) (w : World) (h : PP R Q (.panic c) (a.put d v) w) : PP R Q (.panic c) a w := ⟨(put_defers a d v).symm.trans h.1, h.2⟩
theorem wp_of_pp {s : Code} {a : Act} {w : World} (hR : ∀ c (a : Act) w, a.defers = [] -> R c w -> Q (.panic c) a w) (h : s.wp P (PP R Q) a w) : s.wp P Q a w :=
 Code.wp_mono (fun e a w h => by cases e <;> first | exact h | exact hR _ _ _ h.1 h.2) h
structure LeftP (P : Program) (l : List Oper) (Q : Exit -> Act -> World -> Prop) (R : List PanicEntry -> World -> Prop) (S : World -> Prop) (m f : Nat) (L : Array Bool) (a : Act) (w : World) : Prop where
 goes : Closed l.toArray L -> S w -> wpAnyS P l.toArray (PP R Q) S m f L a w
theorem wp_region_leftP {id : Nat} {a : Act} {w : World} {l : List Oper} (S : World -> Prop) (R : List PanicEntry -> World -> Prop) (m : Nat) (hR : ∀ c (a : Act) w, a.defers = [] -> R c w -> Q (.panic c) a w) (hm : P.follows .mixedOrders = true) (hS : S w.drew)
 (h : LeftP P l Q R S m l.length (Array.replicate l.toArray.size false) a w.drew) : (Code.region id l.toArray true).wp P Q a w :=
 wp_of_pp hR (wp_region_any hm (wpAny_of_S _ _ _ _ (h.goes (closed_start _) hS)))
theorem left_readP {l : List Oper} {f : Nat} {L : Array Bool} {a : Act} {w : World} (i : Nat) (o : Oper) (v : Value) (hi : l[i]? = some o)
 (hB : (Region.noSelect l.toArray && (Region.ready .any l.toArray L).contains i && Region.free .any l.toArray L i && (decide (l.toArray.size <= m) || reaches l.toArray l.toArray.size i m)) = true)
 (hy : ∀ w, S w -> YieldsIf P l.toArray S o v a) (h : LeftP P l Q R S m f (L.setIfInBounds i true) (a.put o.dst v) w) : LeftP P l Q R S m (f + 1) L a w := by
 refine ⟨fun hc hS => ?_⟩;simp only [Bool.and_eq_true] at hB;obtain ⟨⟨⟨hs, hr⟩, hf⟩, hm⟩ := hB;have hi' : l.toArray[i]? = some o := by simpa using hi
 have hr' : i ∈ Region.ready .any l.toArray L := by simpa using hr
 exact wpAnyS_first hi' hs pp_put hm f L a w hc (Region.free_spec hi' hf) hr' (hy w hS) hS (h.goes (hc.set hr') hS)
theorem left_readEP {l : List Oper} {f : Nat} {L : Array Bool} {a : Act} {w : World} (i : Nat) {o : Oper} (hi : l[i]? = some o) (hg : o.guard = none)
 (hB : (Region.noSelect l.toArray && (Region.ready .any l.toArray L).contains i && Region.free .any l.toArray L i && (decide (l.toArray.size <= m) || reaches l.toArray l.toArray.size i m)) = true)
 (h : ∃ v, (∀ w, S w -> (execOp a.eval o).run P w = .ok (.value v) w) /\ LeftP P l Q R S m f (L.setIfInBounds i true) (a.put o.dst v) w) : LeftP P l Q R S m (f + 1) L a w := by
 obtain ⟨v, h1, h2⟩ := h;exact left_readP i o v hi hB (fun w _ => .inl ⟨by simp [Region.wanted, hg], h1⟩) h2
theorem left_altsP {l : List Oper} {f : Nat} {L : Array Bool} {a : Act} {w : World} (is : List Nat) (hr : (decide (Region.ready .any l.toArray L = is) && !is.isEmpty) = true)
 (h : ∀ i ∈ is, S w -> ∀ o, l[i]? = some o -> Region.wanted o (yielded l.toArray a.tmps) = true /\ o.wp P a w (fun a' w' => S w' /\ LeftP P l Q R S m f (L.setIfInBounds i true) a' w') (PP R Q)) : LeftP P l Q R S m (f + 1) L a w := by
 refine ⟨fun hc hS => ?_⟩;simp only [Bool.and_eq_true, decide_eq_true_eq] at hr;obtain ⟨hr, hne⟩ := hr;refine ⟨fun h0 => (by rw [h0] at hr; subst hr; simp at hne), fun i hi => ?_⟩;have hi2 : i ∈ is := by rw [<- hr]; exact hi
 obtain ⟨_, o, ho, _⟩ := mem_ready.1 hi;obtain ⟨hw, hwp⟩ := h i hi2 hS o (by simpa using ho);unfold wpOp;rw [ho];simp only [hw, if_true];left;refine Oper.wp_mono ?_ hwp;intro a' w' ⟨h1, h2⟩;exact ⟨.inr h1, h2.goes (hc.set hi) h1⟩
theorem left_endP {l : List Oper} {L : Array Bool} {a : Act} {w : World} (hr : (Region.ready .any l.toArray L).isEmpty = true) (h : Q .normal a w) : LeftP P l Q R S m 0 L a w :=
 ⟨fun _ _ => ⟨by simpa [List.isEmpty_iff] using hr, h⟩⟩
end
open Go.RowKit
theorem oper_callP {P : Program} {o : Oper} {a : Act} {w : World} {K : Act -> World -> Prop} {Q : Exit -> Act -> World -> Prop} {f : FuncId} {args : Array Value} {R : Value -> World -> Prop} {R2 : List PanicEntry -> World -> Prop} (he : (execOp a.eval o).run P w = .ok (.enter f args) w)
 (hc : Calls P f args w fun e w' => (∃ v, e = .returned v /\ R v w') \/ (∃ ch, e = .panicked ch /\ R2 ch w')) (h : ∀ v w', R v w' -> K (a.put o.dst v) w') (h2 : ∀ ch w', R2 ch w' -> Q (.panic ch) a w') : o.wp P a w K Q := by
 unfold Oper.wp;simp only [he, Oper.upon];refine hc.mono fun e w' hh => ?_
 rcases hh with ⟨v, h1, h3⟩ | ⟨ch, h1, h3⟩
 ·
  subst h1; exact h v w' h3
 ·
  subst h1; exact h2 ch w' h3
abbrev C3 (bf bg bh : Nat) : Nat -> Prop := fun k => k = bf \/ k = bg \/ k = bh
structure B3 (bf bg bh : Nat) (kf kg kh : Int) (W : World) : Prop where
 f : W.cell? ⟨bf, 0, none⟩ = some (.int .i64 kf)
 g : W.cell? ⟨bg, 0, none⟩ = some (.int .i64 kg)
 h : W.cell? ⟨bh, 0, none⟩ = some (.int .i64 kh)
theorem B3.keep {bf bg bh : Nat} {kf kg kh : Int} (W W' : World) (h : B3 bf bg bh kf kg kh W) (hk : ∀ c, C3 bf bg bh c -> W'.heap[c]? = W.heap[c]?) : B3 bf bg bh kf kg kh W' :=
 ⟨(World.cell?_of_block (w := W) (a := ⟨bf, 0, none⟩) (hk _ (.inl rfl))).trans h.f, (World.cell?_of_block (w := W) (a := ⟨bg, 0, none⟩) (hk _ (.inr (.inl rfl)))).trans h.g, (World.cell?_of_block (w := W) (a := ⟨bh, 0, none⟩) (hk _ (.inr (.inr rfl)))).trans h.h⟩
def iteFn (F G H : BF) : BF := fun ρ => iteB (F ρ) (G ρ) (H ρ)
def SatX (K : Law) (n : Nat) (Od : List Nat -> Prop) (room : Nat) (w0 : World) (mb : Nat) (fs : List (Int × BF)) (nx : Int) (m : ManD) : Prop := ∃ W o V, SatE K n Od room w0 mb fs nx W o m V
def LimOK (lim : Option Nat) (k : Nat) (m : ManD) : Prop := ∀ M, lim = some M -> m.d.pool.many <= M + k
def QF (ws0 : List Ev) (lim : Option Nat) (k : Nat) (F : BF) (_ : World) (m' : ManD) (V' : Nat -> BF) (r : Nat) : Prop := ef V' r = F /\ m'.waits <:+ ws0 /\ LimOK lim k m'
def EF (A : ManD -> Prop) (k : Nat) (ws0 : List Ev) (er : Int) (m m' : ManD) : Prop := er = 7 /\ A m /\ m'.d.pool.many = m'.d.pool.room /\ m'.d.pool.many + 1 <= m.d.pool.many + k /\ m'.waits <:+ ws0
abbrev SuffOf (ws0 : List Ev) (m : ManD) : Prop := m.waits <:+ ws0
abbrev StL (ws0 : List Ev) (lim : Option Nat) (m : ManD) : Prop := SuffOf ws0 m /\ LimOK lim 0 m
def EL (A : ManD -> Prop) (k : Nat) (ws0 : List Ev) (lim : Option Nat) (er : Int) (m m' : ManD) : Prop := lim = none /\ EF A k ws0 er m m'
def LimIn (ws0 : List Ev) (lim : Option Nat) (k room : Nat) : Prop := ∀ M, lim = some M -> ws0 = [] /\ M + k <= room
theorem lim_none {ws0 : List Ev} {lim : Option Nat} {k room : Nat} {m m' : ManD} (h : LimIn ws0 lim k room) (h1 : LimOK lim 0 m) (h2 : m'.d.pool.room + 1 <= m.d.pool.many + k) (h3 : m'.d.pool.room = room) : lim = none := by
 cases lim with
 | none => rfl
 | some M =>
   have := (h M rfl).2;have := h1 M rfl;omega
theorem lim_ev {ws0 ws : List Ev} {ev : Ev} {lim : Option Nat} {k k' room : Nat} {m : ManD} (h : LimIn ws0 lim k room) (h1 : ev :: ws <:+ ws0) : LimOK lim k' m := fun M e => by
 have := (h M e).1;subst this;simp at h1
theorem ite1_gen {K : Law} (hK : LawOK K) {n : Nat} {Od : List Nat -> Prop} {room : Nat} {w0 : World} {mb : Nat} {fs : List (Int × BF)} {nx : Int} (ws0 : List Ev) (lim : Option Nat) (hlim : LimIn ws0 lim (2 ^ n - 1) room) (hhap : ∀ ev ∈ ws0, HapG K n Od room w0 mb fs nx ev) (bf bg bh : Nat) {kf kg kh : Int} {F G H : BF} (hf : (kf, F) ∈ fs) (hg : (kg, G) ∈ fs) (hh : (kh, H) ∈ fs) :
 OpG K n Od room w0 mb fs nx (C3 bf bg bh) (B3 bf bg bh kf kg kh) (StL ws0 lim) 80 #[.pointer (some ⟨bf, 0, none⟩), .pointer (some ⟨bg, 0, none⟩), .pointer (some ⟨bh, 0, none⟩)] (QF ws0 lim (2 ^ n - 1) (iteFn F G H)) (EL (SatX K n Od room w0 mb fs nx) (2 ^ n - 1) ws0 lim) := by
 intro o W m V xb hsat hB hC hst hcx hnx;obtain ⟨f, hf, ef1⟩ := hsat.find hf;obtain ⟨g, hg, ef2⟩ := hsat.find hg;obtain ⟨h, hh, ef3⟩ := hsat.find hh;have hk := hsat.ok;have hlt := hsat.lt;have hks := hk.store;obtain ⟨s, hm⟩ := hsat.is;have hbd : Below W.heap.size W W.drew := below_draw W 1;have hmW := hm.below hlt hbd;have hlW := hlt.mono hbd.size;have hxW : CtxAt o W.drew xb mb := ⟨(hbd.cell (p := ⟨xb, 0, none⟩) (lt_of_cell hcx.cell)).trans hcx.cell, hcx.own⟩;have df := (hbd.cell (p := ⟨bf, 0, none⟩) (lt_of_cell hB.f)).trans hB.f;have dg := (hbd.cell (p := ⟨bg, 0, none⟩) (lt_of_cell hB.g)).trans hB.g;have dh := (hbd.cell (p := ⟨bh, 0, none⟩) (lt_of_cell hB.h)).trans hB.h;have of := (hC bf (.inl rfl)).2;have og := (hC bg (.inr (.inl rfl))).2;have oh := (hC bh (.inr (.inr rfl))).2;have HEF := Lib.hid (ctxEdge_yes ⟨s, hmW⟩ hxW hk.handles.nodup hf);have HEG := Lib.hid (ctxEdge_yes ⟨s, hmW⟩ hxW hk.handles.nodup hg);have HEH := Lib.hid (ctxEdge_yes ⟨s, hmW⟩ hxW hk.handles.nodup hh);have HITE := Lib.hid (ctxIte_any hK n o W.drew xb mb m V f g h ⟨s, hmW⟩ hlW hxW hks (hk.handles.ok _ hf) (hk.handles.ok _ hg) (hk.handles.ok _ hh) (by rw [hsat.vars]; omega));obtain ⟨P, hP⟩ : ∃ P : Ending -> World -> Prop, P = fun e w' => ∃ (o' : Own) (m' : ManD) (V' : Nat -> BF), StepX (C3 bf bg bh) K o W mb m V o' w' m' V' /\ B3 bf bg bh kf kg kh w' /\
  ((∃ r : Nat, e = .returned (.int .i64 r) /\ okE (nodesOf m'.d) r /\ QF ws0 lim (2 ^ n - 1) (iteFn F G H) w' m' V' r) \/
   (∃ er : Int, e = stopP er false ev0 /\ er ≠ 0 /\ m'.waits = m.waits /\ StL ws0 lim m' /\ EL (SatX K n Od room w0 mb fs nx) (2 ^ n - 1) ws0 lim er m m') \/
   (∃ ev, e = stopP 0 true ev /\ m.waits = ev :: m'.waits /\ StE K n Od room w0 mb fs nx (StL ws0 lim) m' /\ HapG K n Od room w0 mb fs nx ev)) := ⟨_, rfl⟩
 have HFIN : Hid (∀ e w', ItePost K n o W.drew mb m V f g h e w' -> (∃ v, e = .returned v /\ (w'.cell? ⟨bf, 0, none⟩ = some (.int .i64 kf) /\ w'.cell? ⟨bg, 0, none⟩ = some (.int .i64 kg) /\ w'.cell? ⟨bh, 0, none⟩ = some (.int .i64 kh)) /\ P (.returned v) w') \/ (∃ ch, e = .panicked ch /\ P (.panicked ch) w')) := by
  refine Lib.hid ?_;subst hP;rintro e w' ⟨o', m', V', st, hcase⟩;have hb3 : B3 bf bg bh kf kg kh w' := ⟨st.chg.cell df of, st.chg.cell dg og, st.chg.cell dh oh⟩;have stx : StepX (C3 bf bg bh) K o W mb m V o' w' m' V' := Step.toX (K := K) ⟨st.is, st.lt, (Chg.of_below hbd _ o).trans st.chg, st.ok, st.ext, st.hs, st.next⟩ _;have hp2 : 0 < 2 ^ n := Nat.pow_pos (by omega);rcases hcase with ⟨r, rfl, h1, h2, h3⟩ | ⟨rfl, h2, h3, h4⟩ | ⟨ev, rfl, h1⟩
  ·
   refine .inl ⟨_, rfl, ⟨hb3.f, hb3.g, hb3.h⟩, o', m', V', stx, hb3, .inl ⟨r, rfl, h1.okR, ?_, by rw [h2]; exact hst.1, fun M e => by have := hst.2 M e; omega⟩⟩;have e1 := (st.ext.ef (hk.handles.ok _ hf)).trans ef1;have e2 := (st.ext.ef (hk.handles.ok _ hg)).trans ef2;have e3 := (st.ext.ef (hk.handles.ok _ hh)).trans ef3;dsimp only at e1 e2 e3;funext ρ;rw [h1.val ρ, e1, e2, e3];rfl
  ·
   have hl0 : lim = none := lim_none hlim hst.2 (by rw [<- h3]; omega) (by rw [st.ext.room]; exact hsat.room);exact .inr ⟨_, rfl, o', m', V', stx, hb3, .inr (.inl ⟨7, rfl, by omega, h2, ⟨by unfold SuffOf; rw [h2]; exact hst.1, by subst hl0; exact fun M e => by cases e⟩, hl0, rfl, ⟨_, _, _, hsat⟩, h3, by omega, by rw [h2]; exact hst.1⟩)⟩
  ·
   refine .inr ⟨_, rfl, o', m', V', stx, hb3, .inr (.inr ⟨ev, rfl, h1, ?_, ?_⟩)⟩
   all_goals
    have hst' : m.waits <:+ ws0 := hst.1;rw [h1] at hst'
    first | exact fun _ _ _ _ _ e _ _ => ⟨by unfold SuffOf; rw [e]; exact (List.suffix_cons ev m'.waits).trans hst', lim_ev hlim hst'⟩ | exact hhap ev (hst'.subset (List.mem_cons_self ..))
 rw [<- hP];clear hm hks hk hcx hB hC hst hnx hhap hlim hK hlt hf hg hh of og oh hmW hlW hxW hbd hsat hP ef1 ef2 ef3
 go_enter Tryz.func80, Tryz.ntmps80
 go_upto_region 1 with fail;refine wp_region_leftP (fun W : World => W.cell? ⟨bf, 0, none⟩ = some (.int .i64 kf) /\ W.cell? ⟨bg, 0, none⟩ = some (.int .i64 kg) /\ W.cell? ⟨bh, 0, none⟩ = some (.int .i64 kh)) (fun ch w' => P (.panicked ch) w') 12 (fun c a w hd h => ⟨hd, h⟩) (by kernel_rfl) ⟨df, dg, dh⟩ ?_;refine left_readEP 0 rfl rfl (by kernel_rfl) ?_;apply Exists.intro;refine ⟨fun w' hw => ?_, ?_⟩
 ·
  obtain ⟨q1, q2, q3⟩ := hw;go_simp;rfl
 simp only [putLz];refine left_readEP 1 rfl rfl (by kernel_rfl) ?_;apply Exists.intro;refine ⟨fun w' hw => ?_, ?_⟩
 ·
  obtain ⟨q1, q2, q3⟩ := hw;go_simp;rfl
 simp only [putLz];refine left_readEP 2 rfl rfl (by kernel_rfl) ?_;apply Exists.intro;refine ⟨fun w' hw => ?_, ?_⟩
 ·
  obtain ⟨q1, q2, q3⟩ := hw;go_simp;rfl
 simp only [putLz];refine left_readEP 4 rfl rfl (by kernel_rfl) ?_;apply Exists.intro;refine ⟨fun w' hw => ?_, ?_⟩
 ·
  obtain ⟨q1, q2, q3⟩ := hw;go_simp;rfl
 simp only [putLz];refine left_readEP 5 rfl rfl (by kernel_rfl) ?_;apply Exists.intro;refine ⟨fun w' hw => ?_, ?_⟩
 ·
  obtain ⟨q1, q2, q3⟩ := hw;go_simp;rfl
 simp only [putLz];refine left_readEP 7 rfl rfl (by kernel_rfl) ?_;apply Exists.intro;refine ⟨fun w' hw => ?_, ?_⟩
 ·
  obtain ⟨q1, q2, q3⟩ := hw;go_simp;rfl
 simp only [putLz];refine left_readEP 8 rfl rfl (by kernel_rfl) ?_;apply Exists.intro;refine ⟨fun w' hw => ?_, ?_⟩
 ·
  obtain ⟨q1, q2, q3⟩ := hw;go_simp;rfl
 simp only [putLz];refine left_altsP [3] (by kernel_rfl) (fun i hi hS o ho => ?_);simp only [memLz] at hi;subst hi;simp only [altLz] at ho;subst ho;refine ⟨rfl, ?_⟩;refine oper_call (v := .int .i64 (f : Nat)) (R := fun w' => W.drew = w') (by go_simp) HEF.out ?_;rintro w' rfl;refine ⟨⟨df, dg, dh⟩, ?_⟩;simp only [putLz];refine left_altsP [6] (by kernel_rfl) (fun i hi hS o ho => ?_);simp only [memLz] at hi;subst hi;simp only [altLz] at ho;subst ho;refine ⟨rfl, ?_⟩;refine oper_call (v := .int .i64 (g : Nat)) (R := fun w' => W.drew = w') (by go_simp) HEG.out ?_;rintro w' rfl;refine ⟨⟨df, dg, dh⟩, ?_⟩;simp only [putLz];refine left_altsP [9] (by kernel_rfl) (fun i hi hS o ho => ?_);simp only [memLz] at hi;subst hi;simp only [altLz] at ho;subst ho;refine ⟨rfl, ?_⟩;refine oper_call (v := .int .i64 (h : Nat)) (R := fun w' => W.drew = w') (by go_simp) HEH.out ?_;rintro w' rfl;refine ⟨⟨df, dg, dh⟩, ?_⟩;simp only [putLz];refine left_altsP [10] (by kernel_rfl) (fun i hi hS o ho => ?_);simp only [memLz] at hi;subst hi;simp only [altLz] at ho;subst ho;refine ⟨rfl, ?_⟩;refine oper_callP (R := fun v w' => (w'.cell? ⟨bf, 0, none⟩ = some (.int .i64 kf) /\ w'.cell? ⟨bg, 0, none⟩ = some (.int .i64 kg) /\ w'.cell? ⟨bh, 0, none⟩ = some (.int .i64 kh)) /\ P (.returned v) w') (R2 := fun ch w' => P (.panicked ch) w') (by go_simp) (HITE.out.mono HFIN.out) ?_ ?_
 ·
  rintro v w' ⟨hS, hst⟩;refine ⟨hS, ?_⟩;have HST := Lib.hid hst;clear hst;simp only [putLz];refine left_readEP 11 rfl rfl (by kernel_rfl) ?_;apply Exists.intro;refine ⟨fun w' hw => ?_, ?_⟩
  ·
   go_simp;rfl
  simp only [putLz];refine left_endP (by kernel_rfl) ?_;clear hS df dg dh;go_wp2_with fail;exact HST.out
 ·
  intro ch w' hst;exact ⟨rfl, hst⟩
abbrev C1 (b : Nat) : Nat -> Prop := fun k => k = b
structure B1 (b : Nat) (v : Int) (W : World) : Prop where
 c : W.cell? ⟨b, 0, none⟩ = some (.int .i64 v)
theorem B1.keep {b : Nat} {v : Int} (W W' : World) (h : B1 b v W) (hk : ∀ c, C1 b c -> W'.heap[c]? = W.heap[c]?) : B1 b v W' := ⟨(World.cell?_of_block (w := W) (a := ⟨b, 0, none⟩) (hk _ rfl)).trans h.c⟩
theorem var1_gen {K : Law} (hK : LawOK K) {n : Nat} {Od : List Nat -> Prop} {room : Nat} {w0 : World} {mb : Nat} {fs : List (Int × BF)} {nx : Int} (ws0 : List Ev) (lim : Option Nat) (hlim : LimIn ws0 lim 1 room) (hhap : ∀ ev ∈ ws0, HapG K n Od room w0 mb fs nx ev) (v vb : Nat) (hv : v < n) :
 OpG K n Od room w0 mb fs nx (C1 vb) (B1 vb v) (StL ws0 lim) 78 #[.pointer (some ⟨vb, 0, none⟩)] (QF ws0 lim 1 (varF v)) (EL (SatX K n Od room w0 mb fs nx) 1 ws0 lim) := by
 intro o W m V xb hsat hB hC hst hx hnx;have hk := hsat.ok;have hlt := hsat.lt;have hks := hk.store;have o0 : okE (nodesOf m.d) 0 := .inl rfl;have o1 : okE (nodesOf m.d) 1 := .inl rfl;have hl0 : lvE m.d.vars.length (levN m.d) (nodesOf m.d) 0 = m.d.vars.length := lvE_const hks rfl;have hl1 : lvE m.d.vars.length (levN m.d) (nodesOf m.d) 1 = m.d.vars.length := lvE_const hks rfl;have hvl : v < m.d.vars.length := by rw [hsat.vars]; exact hv
 have hlv := hks.dag.lt v hvl;have HMK := Lib.hid (ctxMk_any hK hsat.is hlt hx hks v 1 0 o1 o0);have cvb := hB.c;have ob := (hC vb rfl).2;obtain ⟨P, hP⟩ : ∃ P : Ending -> World -> Prop, P = fun e w' => ∃ (o' : Own) (m' : ManD) (V' : Nat -> BF), StepX (C1 vb) K o W mb m V o' w' m' V' /\ B1 vb v w' /\
  ((∃ r : Nat, e = .returned (.int .i64 r) /\ okE (nodesOf m'.d) r /\ QF ws0 lim 1 (varF v) w' m' V' r) \/
   (∃ er : Int, e = stopP er false ev0 /\ er ≠ 0 /\ m'.waits = m.waits /\ StL ws0 lim m' /\ EL (SatX K n Od room w0 mb fs nx) 1 ws0 lim er m m') \/
   (∃ ev, e = stopP 0 true ev /\ m.waits = ev :: m'.waits /\ StE K n Od room w0 mb fs nx (StL ws0 lim) m' /\ HapG K n Od room w0 mb fs nx ev)) := ⟨_, rfl⟩
 have HFIN : Hid (∀ e w', CtxMkPost K o W mb m V v 1 0 e w' -> (∃ r : Nat, e = .returned (.int .i64 r) /\ P (.returned (.int .i64 r)) w') \/ (∃ er evt ev, e = stopP er evt ev /\ P (stopP er evt ev) w')) := by
  refine Lib.hid ?_;subst hP;rintro e w' ⟨o', m', V', st, hcase⟩;have hb1 : B1 vb v w' := ⟨st.chg.cell cvb ob⟩;have stx : StepX (C1 vb) K o W mb m V o' w' m' V' := st.toX _;rcases hcase with ⟨ev, h1, _, _, _, _, rfl⟩ | ⟨h1, _, _, (⟨er, her, hd, _, rfl⟩ | ⟨_, _, r, rfl, h2, h3, _, h5⟩)⟩
  ·
   refine .inr ⟨0, true, ev, rfl, o', m', V', stx, hb1, .inr (.inr ⟨ev, rfl, h1, ?_, ?_⟩)⟩
   all_goals
    have hst' : m.waits <:+ ws0 := hst.1;rw [h1] at hst'
    first | exact fun _ _ _ _ _ e _ _ => ⟨by unfold SuffOf; rw [e]; exact (List.suffix_cons ev m'.waits).trans hst', lim_ev hlim hst'⟩ | exact hhap ev (hst'.subset (List.mem_cons_self ..))
  ·
   refine .inr ⟨er, false, ev0, rfl, o', m', V', stx, hb1, .inr (.inl ?_)⟩;rcases her with ⟨_, h⟩ | ⟨_, _, _, h⟩ | ⟨rfl, h⟩
   ·
    exact (h ⟨by omega, by omega⟩).elim
   ·
    simp only [Int.toNat_natCast] at h; omega
   ·
    have hl0 : lim = none := lim_none (m' := m') hlim hst.2 (by rw [hd]; omega) (by rw [st.ext.room]; exact hsat.room);exact ⟨7, rfl, by omega, h1, ⟨by unfold SuffOf; rw [h1]; exact hst.1, by subst hl0; exact fun M e => by cases e⟩, hl0, rfl, ⟨_, _, _, hsat⟩, by rw [hd]; exact h, by rw [hd]; omega, by rw [h1]; exact hst.1⟩
  ·
   refine .inl ⟨r, rfl, o', m', V', stx, hb1, .inl ⟨r, rfl, h2, ?_, by rw [h1]; exact hst.1, fun M e => by have := hst.2 M e; omega⟩⟩;rw [h3];funext ρ;have a0 := ef_zero hks.dag.one ρ;have a1 := ef_one hks.dag.one ρ;simp only [iteF, varF, Int.toNat_natCast, a0, a1];cases ρ v <;> rfl
 rw [<- hP];clear hks o0 o1 hl0 hl1 hlv hvl hk hx hC hK hv hlt hB hnx hst hP ob hsat hlim
 go_enter Tryz.func78, Tryz.ntmps78
 go_wp2_with fail;refine HMK.out.mono ?_;intro e w' hp;rcases HFIN.out e w' hp with ⟨r, rfl, hst⟩ | ⟨er, evt, ev, rfl, hst⟩
 ·
  have HST := Lib.hid hst;clear hp hst;go_wp2_with fail;exact HST.out
 ·
  have HST := Lib.hid hst;clear hp hst;unfold stopP;go_wp2_with fail;exact ⟨rfl, HST.out⟩
def OpLeft (K : Law) (n : Nat) (Od : List Nat -> Prop) (room : Nat) (w0 : World) (mb : Nat) (fs : List (Int × BF)) (nx : Int) (ws0 : List Ev) (lim : Option Nat) (k : Nat) (F : BF) (o : Own) (w : World) (x : Ending) (w' : World) : Prop :=
 ∃ o' m' V', ChgX NoB o o' w w' /\ m'.waits <:+ ws0 /\ ((x = .returned (.tuple #[.int .i64 nx, .int .i64 0]) /\ LimOK lim k m' /\ SatE K n Od room w0 mb (fs ++ [(nx, F)]) (nx + 1) w' o' m' V') \/
  (x = .returned (.tuple #[.int .i64 0, .int .i64 7]) /\ lim = none /\ SatE K n Od room w0 mb fs nx w' o' m' V' /\ ∃ m0, SatX K n Od room w0 mb fs nx m0 /\ m0.d.dead = 0 /\ room + 1 <= m0.d.pool.many + k))
theorem StL.coll {ws0 : List Ev} {lim : Option Nat} (m : ManD) (d : StoreD) (h : StL ws0 lim m) (r : CollRel m.d d) : StL ws0 lim { m with d := d } := ⟨h.1, fun M e => by have := h.2 M e; have := r.many; show d.pool.many <= M + 0; omega⟩
theorem opLeft_of {K : Law} {n : Nat} {Od : List Nat -> Prop} {room : Nat} {w0 : World} {mb : Nat} {fs : List (Int × BF)} {nx : Int} {ws0 : List Ev} {lim : Option Nat} {k : Nat} {F : BF} {o : Own} {w w1 w' : World} {C : Nat -> Prop} {B : World -> Prop} {x : Ending} (hb : Below w.heap.size w w1) (hC : ∀ c, C c -> w.heap.size <= c)
 (h : DoPost K n Od room w0 mb fs nx C B (QF ws0 lim k F) (EL (SatX K n Od room w0 mb fs nx) k ws0 lim) o w1 x w') : OpLeft K n Od room w0 mb fs nx ws0 lim k F o w x w' := by
 obtain ⟨o', m', V', _, hc, hcase⟩ := h;have hc' : ChgX NoB o o' w w' := (ChgX.of_below hb o NoB).trans hc (fun k hk e => by have := hC k e; omega);rcases hcase with ⟨r, m1, rfl, hs, ⟨q1, q2, q4⟩, _, _, _, _, q5, q3, _⟩ | ⟨er, m0, _, rfl, hs, ⟨hl0, rfl, hm0, h1, h2, h3⟩, h7⟩
 ·
  exact ⟨o', m', V', hc', by rw [q3]; exact q2, .inl ⟨rfl, fun M e => by rw [q5]; exact q4 M e, by rw [<- q1]; exact hs⟩⟩
 ·
  refine ⟨o', m', V', hc', h3, .inr ⟨rfl, hl0, hs, m0, hm0, h7 rfl, ?_⟩⟩;have := hs.room;omega
theorem manIte_gen {K : Law} (hK : LawOK K) {n : Nat} {Od : List Nat -> Prop} {room : Nat} {w0 : World} {mb : Nat} {fs : List (Int × BF)} {nx : Int} {w : World} {o : Own} {m : ManD} {V : Nat -> BF} (h : SatE K n Od room w0 mb fs nx w o m V) (ws0 : List Ev) (hws : m.waits <:+ ws0) (lim : Option Nat) (hlim : LimIn ws0 lim (2 ^ n - 1) room) (hl0 : LimOK lim 0 m) (hhap : ∀ ev ∈ ws0, HapG K n Od room w0 mb fs nx ev) (hn : nx < 1099511627776)
 {kf kg kh : Int} {F G H : BF} (hf : (kf, F) ∈ fs) (hg : (kg, G) ∈ fs) (hh : (kh, H) ∈ fs) :
 Calls Tryz.prog 18 #[.pointer (some ⟨mb, 0, none⟩), .int .i64 kf, .int .i64 kg, .int .i64 kh] w (OpLeft K n Od room w0 mb fs nx ws0 lim (2 ^ n - 1) (iteFn F G H) o w) := by
 have hmf : ∀ (fn : Fn) (first cap : Array Value) (w : World), (Instr.makeFunc fn first cap).run Tryz.prog w = .ok (.func fn first cap) w := fun _ _ _ _ => rfl
 obtain ⟨hb, cf, cg, ch⟩ := box3_ok kf kg kh w;have hw0 := h.chg.size;have hz : (box3 kf kg kh w).heap.size = w.heap.size + 3 := by simp [box3]
 have HDO : Hid (Calls Tryz.prog 24 #[.pointer (some ⟨mb, 0, none⟩), .func (.func 80) #[] #[.pointer (some ⟨w.heap.size, 0, none⟩), .pointer (some ⟨w.heap.size + 1, 0, none⟩), .pointer (some ⟨w.heap.size + 1 + 1, 0, none⟩)]] (box3 kf kg kh w) (OpLeft K n Od room w0 mb fs nx ws0 lim (2 ^ n - 1) (iteFn F G H) o w)) := by
  refine Lib.hid ?_;refine (do_gen hK B3.keep (fun _ _ _ _ _ h _ => h) StL.coll ?_ enters_ite1 (ite1_gen hK ws0 lim hlim hhap w.heap.size (w.heap.size + 1) (w.heap.size + 1 + 1) hf hg hh) (h.below hb) ⟨cf, cg, ch⟩ ?_ ⟨hws, hl0⟩ hn).mono fun x w' hp => opLeft_of hb ?_ hp
  ·
   rintro c (rfl | rfl | rfl) <;> omega
  ·
   rintro c (rfl | rfl | rfl) <;> exact ⟨by omega, h.lt.none (by omega)⟩
  ·
   rintro c (rfl | rfl | rfl) <;> omega
 have HW : Hid (_ = box3 kf kg kh w) := Lib.hid (show ((w.alloc (.cells #[.int .i64 kf] 3)).alloc (.cells #[.int .i64 kg] 3)).alloc (.cells #[.int .i64 kh] 3) = box3 kf kg kh w from rfl);clear h hK hws hhap hn hf hg hh hb cf cg ch hw0 hz hlim hl0;obtain ⟨P, hP⟩ : ∃ P, P = OpLeft K n Od room w0 mb fs nx ws0 lim (2 ^ n - 1) (iteFn F G H) o w := ⟨_, rfl⟩;rw [<- hP] at HDO ⊢;have HT : Hid (∀ x w', P x w' -> ∃ a b, x = .returned (.tuple #[.int .i64 a, .int .i64 b])) := by
  refine Lib.hid ?_;subst hP;rintro x w' ⟨_, _, _, _, _, (⟨rfl, _⟩ | ⟨rfl, _⟩)⟩
  ·
   exact ⟨_, _, rfl⟩
  ·
   exact ⟨_, _, rfl⟩
 clear hP
 go_enter Tryz.func18, Tryz.ntmps18
 go_wp2_with fail;rw [HW.out];refine HDO.out.mono ?_;intro x w' hd;obtain ⟨a, b, rfl⟩ := HT.out x w' hd;have HD := Lib.hid hd;clear hd;go_wp2_with fail;exact HD.out
theorem manVar_gen {K : Law} (hK : LawOK K) {n : Nat} {Od : List Nat -> Prop} {room : Nat} {w0 : World} {mb : Nat} {fs : List (Int × BF)} {nx : Int} {w : World} {o : Own} {m : ManD} {V : Nat -> BF} (h : SatE K n Od room w0 mb fs nx w o m V) (ws0 : List Ev) (hws : m.waits <:+ ws0) (lim : Option Nat) (hlim : LimIn ws0 lim 1 room) (hl0 : LimOK lim 0 m) (hhap : ∀ ev ∈ ws0, HapG K n Od room w0 mb fs nx ev) (hn : nx < 1099511627776)
 (v : Nat) (hv : v < n) :
 Calls Tryz.prog 15 #[.pointer (some ⟨mb, 0, none⟩), .int .i64 v] w (OpLeft K n Od room w0 mb fs nx ws0 lim 1 (varF v) o w) := by
 have hmf : ∀ (fn : Fn) (first cap : Array Value) (w : World), (Instr.makeFunc fn first cap).run Tryz.prog w = .ok (.func fn first cap) w := fun _ _ _ _ => rfl
 obtain ⟨w1, hw1⟩ : ∃ w1, w1 = w.alloc (.cells #[.int .i64 (v : Nat)] 3) := ⟨_, rfl⟩;have hb1 : Below w.heap.size w w1 := by rw [hw1]; exact below_new1 w _
 have hvb : w1.heap[w.heap.size]? = some (.cells #[.int .i64 (v : Nat)] 3 (0, 0)) := by rw [hw1]; exact heap_alloc_new w _
 have cvb : w1.cell? ⟨w.heap.size, 0, none⟩ = some (.int .i64 (v : Nat)) := cell1 hvb;have hz1 : w1.heap.size = w.heap.size + 1 := by rw [hw1]; simp
 have hw0 := h.chg.size;obtain ⟨s, hms⟩ := h.is;have hm1 := hms.below h.lt hb1;obtain ⟨c0, c1, c2, c3, c4, c5, f0⟩ := cells6 hm1.blk;obtain ⟨ss, hss⟩ := hm1.store;have hlz : levelZ m.d v = (levN m.d v : Nat) := levelZ_of (by rw [hss.len, h.vars]; exact hv);have HLV : Hid (∀ n, Calls Tryz.prog 77 #[.pointer (some ⟨s.sb, 0, none⟩), .int .i64 (v : Nat)] (w1.drewN n) fun x w' => x = .returned (.int .i64 (levN m.d v : Nat)) /\ w1.drewN n = w') := by
  refine Lib.hid fun n => ?_
  have := storeLevelZ (hss.below (h.lt.mono hb1.size) (below_draw w1 n)) v (by rw [hss.len]; have := h.ok.store.small; omega);rw [hlz] at this; exact this
 obtain ⟨P, hP⟩ : ∃ P, P = OpLeft K n Od room w0 mb fs nx ws0 lim 1 (varF v) o w := ⟨_, rfl⟩;have HDO : Hid (∀ q, Calls Tryz.prog 24 #[.pointer (some ⟨mb, 0, none⟩), .func (.func 78) #[] #[.pointer (some ⟨w.heap.size, 0, none⟩)]] (w1.drewN q) P) := by
  refine Lib.hid fun q => ?_
  rw [hP];have hb2 : Below w.heap.size w (w1.drewN q) := hb1.trans ((below_draw w1 q).mono hb1.size);refine (do_gen hK B1.keep (fun _ _ _ _ _ h _ => h) StL.coll ?_ enters_var1 (var1_gen hK ws0 lim hlim hhap v w.heap.size hv) (h.below hb2) ⟨cvb⟩ ?_ ⟨hws, hl0⟩ hn).mono fun x w' hp => opLeft_of hb2 ?_ hp
  ·
   rintro c rfl; omega
  ·
   rintro c rfl; exact ⟨by have := hb2.size; show w.heap.size < w1.heap.size; omega, h.lt.none (by omega)⟩
  ·
   rintro c rfl; omega
 have HT : Hid (∀ x w', P x w' -> ∃ a b, x = .returned (.tuple #[.int .i64 a, .int .i64 b])) := by
  refine Lib.hid ?_;rw [hP];rintro x w' ⟨_, _, _, _, _, (⟨rfl, _⟩ | ⟨rfl, _⟩)⟩
  ·
   exact ⟨_, _, rfl⟩
  ·
   exact ⟨_, _, rfl⟩
 rw [<- hP];have HW : Hid (w.alloc (.cells #[.int .i64 (v : Nat)] 3) = w1) := Lib.hid hw1.symm;clear hm1 hss hlz hms hb1 hvb hw1 hK hn hv hws hhap h hw0 hz1 hP hlim hl0
 go_enter Tryz.func15, Tryz.ntmps15
 go_upto_region 3 with fail;rw [HW.out]
 go_quiet (with_reducible exact quiet_of_eq (HLV.out _))
 go_wp2_with fail;refine (HDO.out _).mono ?_;intro x w' hd;obtain ⟨a, b, rfl⟩ := HT.out x w' hd;have HD := Lib.hid hd;clear hd;go_wp2_with fail;exact HD.out
end Go.Proofs.YtchliiaknmknhaaGreat
