/- Several texts in one file: contracts of the program's functions and what follows from them. -/
import Derived.Test.YtchliiaknmknhaaGreatS2
import Derived.Deep.Cut
import Derived.Deep.CutRange
import Derived.Deep.DeepCutAuto
set_option linter.unusedSimpArgs false
set_option linter.unusedVariables false
set_option linter.unusedSectionVars false
set_option linter.unnecessarySimpa false
namespace Go.Proofs.YtchliiaknmknhaaGreat
open Go.RowKit
def PoolD.has (p : PoolD) (i : Nat) : RN := if p.tk i = true then p.nd i else rn0
theorem poolAt_any (o : Own) (pb : Nat) (p : PoolD) (i : Nat) (w : World) (h : PoolAt o w pb p) (hlt : OwnLt o w) :
 Calls Tryz.prog 123 #[.pointer (some ⟨pb, 0, none⟩), .int .i64 i] w fun x w' => x = .returned (.tuple #[rnAgg (p.has i), .bool (p.tk i)]) ∧ Below w.heap.size w w' := by
 by_cases hi : p.tk i = true
 ·
  have := poolAt_yes o pb p i w h hlt hi
  unfold PoolD.has
  rw [if_pos hi, hi]; exact this
 ·
  have hi' : p.tk i = false := by simpa using hi
  have := poolAt_no o pb p i w h hlt hi'
  unfold PoolD.has
  rw [if_neg hi, hi']; exact this
theorem k0_eq (k : Nat) : (((k : Nat) : Int) == 0) = decide (k = 0) := by
 cases k with
 | zero => rfl
 | succ n => simp; omega
theorem oper_call {P : Program} {o : Oper} {a : Act} {w : World} {v : Value} {f : FuncId} {args : Array Value} {K : Act → World → Prop} {Q : Exit → Act → World → Prop} {R : World → Prop} (he : (execOp a.eval o).run P w = .ok (.enter f args) w)
 (hc : Calls P f args w fun e w' => e = .returned v ∧ R w') (h : ∀ w', R w' → K (a.put o.dst v) w') : o.wp P a w K Q := by
 unfold Oper.wp
 simp only [he, Oper.upon]
 exact hc.mono fun e w' ⟨h1, h2⟩ => by subst h1; exact h w' h2
theorem oper_store {P : Program} {o : Oper} {a : Act} {w w' : World} {t : TypeId} {s x : Operand} {K : Act → World → Prop} {Q : Exit → Act → World → Prop} (ho : o.op = .store t s x)
 (hr : (Instr.storeAt t (a.eval s) (a.eval x)).run P w = .ok () w') (h : K (a.put o.dst undef) w') : o.wp P a w K Q := by
 unfold Oper.wp
 rw [exec_store ho hr]
 exact h
theorem below_set5 {w W : World} {bx : Nat} (hb : Below w.heap.size w W) (hge : w.heap.size ≤ bx) (n : RN) : Below w.heap.size w (set5 W bx 0 n) :=
 ((((hb.setCell (p := ⟨bx, 0, none⟩) hge _).setCell (p := ⟨bx, 1, none⟩) hge _).setCell (p := ⟨bx, 2, none⟩) hge _).setCell (p := ⟨bx, 3, none⟩) hge _).setCell (p := ⟨bx, 4, none⟩) hge _
theorem set5_new {W : World} {bx : Nat} (h : W.heap[bx]? = some (.cells #[.int .i64 0, .int .i64 0, .int .i64 0, .int .i64 0, .int .i64 0] 157 (0, 0))) (n : RN) :
 (set5 W bx 0 n).heap[bx]? = some (.cells #[.int .i64 n.id, .int .i64 n.v, .int .i64 n.lo, .int .i64 n.hi, .int .i64 n.refs] 157 (0, 0)) :=
 heap_setCell_same (k := 4) (heap_setCell_same (k := 3) (heap_setCell_same (k := 2) (heap_setCell_same (k := 1) (heap_setCell_same (k := 0) h _) _) _) _) _
set_option maxRecDepth 100000 in
set_option maxHeartbeats 800000 in
theorem storeIs_any {o : Own} {w : World} {sb : Nat} {d : StoreD} {s : StoreW} (h : StoreIn o w sb d s) (hlt : OwnLt o w) (f : Nat) (hf : f < eMax) :
 Calls Tryz.prog 87 #[.pointer (some ⟨sb, 0, none⟩), .int .i64 f] w fun x w' => x = .returned (.bool (decide (enode f = 0) || d.pool.tk (enode f))) ∧ Below w.heap.size w w' := by
 obtain ⟨c0, c1, c2, c3, c4, f0⟩ := cells5 h.blk
 have lsb : sb < w.heap.size := lt_of_cell c0
 have hz : (0 : Int) ≤ f := by omega
 have HC1 : Hid (∀ W : World, Below w.heap.size w W → W.cell? ⟨sb, 1, none⟩ = some (.pointer (some ⟨s.pb, 0, none⟩))) := Lib.hid (fun W hb => (hb.cell (p := ⟨sb, 1, none⟩) lsb).trans c1)
 have HPA : Hid (∀ W : World, Below w.heap.size w W → Calls Tryz.prog 123 #[.pointer (some ⟨s.pb, 0, none⟩), .int .i64 (enode f : Nat)] W fun x w' => x = .returned (.tuple #[rnAgg (d.pool.has (enode f)), .bool (d.pool.tk (enode f))]) ∧ Below W.heap.size W w') :=
  Lib.hid (fun W hb => poolAt_any o s.pb d.pool (enode f) W (h.pool.below hb hlt) (hlt.mono hb.size))
 have HN := Lib.hid (fun W => node_any f W hf)
 obtain ⟨N, hN⟩ : ∃ N, N = d.pool.has (enode f) := ⟨_, rfl⟩
 obtain ⟨B, hB⟩ : ∃ B, B = d.pool.tk (enode f) := ⟨_, rfl⟩
 obtain ⟨k, hk⟩ : ∃ k, k = enode f := ⟨_, rfl⟩
 rw [← hN, ← hB, ← hk] at HPA
 rw [← hk] at HN
 rw [← hB, ← hk]
 obtain ⟨z, hz0⟩ : ∃ z : Bool, z = decide (k = 0) := ⟨_, rfl⟩
 have hk0 : (((k : Nat) : Int) == 0) = z := by rw [hz0]; exact k0_eq k
 rw [← hz0]
 clear h hlt c0 c1 c2 c3 c4 f0 hN hB hk hf hz0
 go_enter Tryz.func87, Tryz.ntmps87
 go_upto_region 3 with fail
 refine wp_region_left (fun W : World => Below w.heap.size w W) 13 (by kernel_rfl) (below_draw w 1) ?_
 refine left_readE 0 rfl rfl (by kernel_rfl) ?_
 apply Exists.intro
 refine ⟨fun w' hw => ?_, ?_⟩
 ·
  have hc1 := HC1.out w' hw
  go_simp
  rfl
 simp only [putLz]
 refine left_readE 1 rfl rfl (by kernel_rfl) ?_
 apply Exists.intro
 refine ⟨fun w' hw => ?_, ?_⟩
 ·
  have hc1 := HC1.out w' hw
  go_simp
  rfl
 simp only [putLz]
 refine left_readE 2 rfl rfl (by kernel_rfl) ?_
 apply Exists.intro
 refine ⟨fun w' hw => ?_, ?_⟩
 ·
  have hc1 := HC1.out w' hw
  go_simp
  rfl
 simp only [putLz]
 refine left_readE 3 rfl rfl (by kernel_rfl) ?_
 apply Exists.intro
 refine ⟨fun w' hw => ?_, ?_⟩
 ·
  have hc1 := HC1.out w' hw
  go_simp
  rfl
 simp only [putLz]
 refine left_readE 4 rfl rfl (by kernel_rfl) ?_
 apply Exists.intro
 refine ⟨fun w' hw => ?_, ?_⟩
 ·
  have hc1 := HC1.out w' hw
  go_simp
  rfl
 simp only [putLz]
 refine left_alts [5, 10] (by kernel_rfl) (fun i hi hS o ho => ?_)
 simp only [memLz] at hi
 rcases hi with rfl | rfl
 ·
  skip
  simp only [altLz] at ho
  subst ho
  refine ⟨rfl, ?_⟩
  refine oper_call (v := (.int .i64 k)) (R := fun w' => w.drew = w') (by go_simp) (HN.out _) ?_
  rintro w' rfl
  refine ⟨(below_draw w 1), ?_⟩
  simp only [putLz]
  refine left_alts [6, 10] (by kernel_rfl) (fun i hi hS o ho => ?_)
  simp only [memLz] at hi
  rcases hi with rfl | rfl
  ·
   skip
   simp only [altLz] at ho
   subst ho
   refine ⟨rfl, ?_⟩
   refine oper_call (v := (.tuple #[rnAgg N, .bool B])) (R := fun w' => Below (w.drew).heap.size (w.drew) w') (by go_simp) (HPA.out _ (below_draw w 1)) ?_
   intro v2 hv2
   have hb2 := (below_draw w 1).trans (hv2.mono (below_draw w 1).size)
   refine ⟨hb2, ?_⟩
   simp only [putLz]
   unfold rnAgg
   refine left_readE 7 rfl rfl (by kernel_rfl) ?_
   apply Exists.intro
   refine ⟨fun w' hw => ?_, ?_⟩
   ·
    clear hw
    go_simp
    rfl
   simp only [putLz]
   refine left_readE 8 rfl rfl (by kernel_rfl) ?_
   apply Exists.intro
   refine ⟨fun w' hw => ?_, ?_⟩
   ·
    clear hw
    go_simp
    rfl
   simp only [putLz]
   refine left_readE 9 rfl rfl (by kernel_rfl) ?_
   apply Exists.intro
   refine ⟨fun w' hw => ?_, ?_⟩
   ·
    clear hw
    go_simp
    rfl
   simp only [putLz]
   refine left_alts [10] (by kernel_rfl) (fun i hi hS o ho => ?_)
   simp only [memLz] at hi
   subst hi
   simp only [altLz] at ho
   subst ho
   refine ⟨rfl, ?_⟩
   have hb3 := hb2.trans ((below_new1 (v2) (.cells #[.int .i64 0, .int .i64 0, .int .i64 0, .int .i64 0, .int .i64 0] 157)).mono hb2.size)
   have hx3 := heap_alloc_new (v2) (.cells #[.int .i64 0, .int .i64 0, .int .i64 0, .int .i64 0, .int .i64 0] 157)
   have hge : w.heap.size ≤ (v2).heap.size := hb2.size
   refine oper_value (v := .pointer (some ⟨(v2).heap.size, 0, none⟩)) (w' := (v2).alloc (.cells #[.int .i64 0, .int .i64 0, .int .i64 0, .int .i64 0, .int .i64 0] 157)) (by go_simp) ⟨hb3, ?_⟩
   simp only [putLz]
   obtain ⟨bx, hbx⟩ : ∃ bx, bx = (v2).heap.size := ⟨_, rfl⟩
   rw [← hbx] at hx3 hge ⊢
   obtain ⟨u3, hu3⟩ : ∃ u, u = (v2).alloc (.cells #[.int .i64 0, .int .i64 0, .int .i64 0, .int .i64 0, .int .i64 0] 157) := ⟨_, rfl⟩
   rw [← hu3] at hx3 hb3 ⊢
   clear hu3 hbx
   refine left_alts [11] (by kernel_rfl) (fun i hi hS o ho => ?_)
   simp only [memLz] at hi
   subst hi
   simp only [altLz] at ho
   subst ho
   refine ⟨rfl, ?_⟩
   obtain ⟨e0, e1, e2, e3, e4, fz⟩ := cells5 hx3
   refine oper_store (w' := set5 u3 bx 0 N) rfl (run_storeNode (k := 0) fz e0 e1 e2 e3 e4 _ _ _ _ _) ?_
   have hbf : Below w.heap.size w (set5 u3 bx 0 N) := below_set5 hb3 hge N
   have hxf := set5_new hx3 N
   refine ⟨hbf, ?_⟩
   simp only [putLz]
   clear e0 e1 e2 e3 e4 fz
   refine left_readE 12 rfl rfl (by kernel_rfl) ?_
   apply Exists.intro
   refine ⟨fun w' hw => ?_, ?_⟩
   ·
    clear hw
    go_simp
    rfl
   simp only [putLz]
   refine left_end (by kernel_rfl) ?_
   go_wp2_with fail
   refine (HN.out _).mono ?_
   rintro x w' ⟨rfl, rfl⟩
   cases z
   all_goals go_wp2_with fail
   all_goals go_ret
   all_goals exact ⟨rfl, hbf⟩
  ·
   skip
   simp only [altLz] at ho
   subst ho
   refine ⟨rfl, ?_⟩
   have hb4 := (below_draw w 1).trans ((below_new1 (w.drew) (.cells #[.int .i64 0, .int .i64 0, .int .i64 0, .int .i64 0, .int .i64 0] 157)).mono (below_draw w 1).size)
   have hx4 := heap_alloc_new (w.drew) (.cells #[.int .i64 0, .int .i64 0, .int .i64 0, .int .i64 0, .int .i64 0] 157)
   have hge : w.heap.size ≤ (w.drew).heap.size := (below_draw w 1).size
   refine oper_value (v := .pointer (some ⟨(w.drew).heap.size, 0, none⟩)) (w' := (w.drew).alloc (.cells #[.int .i64 0, .int .i64 0, .int .i64 0, .int .i64 0, .int .i64 0] 157)) (by go_simp) ⟨hb4, ?_⟩
   simp only [putLz]
   obtain ⟨bx, hbx⟩ : ∃ bx, bx = (w.drew).heap.size := ⟨_, rfl⟩
   rw [← hbx] at hx4 hge ⊢
   obtain ⟨u4, hu4⟩ : ∃ u, u = (w.drew).alloc (.cells #[.int .i64 0, .int .i64 0, .int .i64 0, .int .i64 0, .int .i64 0] 157) := ⟨_, rfl⟩
   rw [← hu4] at hx4 hb4 ⊢
   clear hu4 hbx
   refine left_alts [6] (by kernel_rfl) (fun i hi hS o ho => ?_)
   simp only [memLz] at hi
   subst hi
   simp only [altLz] at ho
   subst ho
   refine ⟨rfl, ?_⟩
   refine oper_call (v := (.tuple #[rnAgg N, .bool B])) (R := fun w' => Below (u4).heap.size (u4) w') (by go_simp) (HPA.out _ hb4) ?_
   intro v5 hv5
   have hb5 := hb4.trans (hv5.mono hb4.size)
   refine ⟨hb5, ?_⟩
   simp only [putLz]
   unfold rnAgg
   have hx5 := (hv5.block _ (Array.getElem?_eq_some_iff.1 hx4).1).trans hx4
   refine left_readE 7 rfl rfl (by kernel_rfl) ?_
   apply Exists.intro
   refine ⟨fun w' hw => ?_, ?_⟩
   ·
    clear hw
    go_simp
    rfl
   simp only [putLz]
   refine left_readE 8 rfl rfl (by kernel_rfl) ?_
   apply Exists.intro
   refine ⟨fun w' hw => ?_, ?_⟩
   ·
    clear hw
    go_simp
    rfl
   simp only [putLz]
   refine left_readE 9 rfl rfl (by kernel_rfl) ?_
   apply Exists.intro
   refine ⟨fun w' hw => ?_, ?_⟩
   ·
    clear hw
    go_simp
    rfl
   simp only [putLz]
   refine left_alts [11] (by kernel_rfl) (fun i hi hS o ho => ?_)
   simp only [memLz] at hi
   subst hi
   simp only [altLz] at ho
   subst ho
   refine ⟨rfl, ?_⟩
   obtain ⟨e0, e1, e2, e3, e4, fz⟩ := cells5 hx5
   refine oper_store (w' := set5 v5 bx 0 N) rfl (run_storeNode (k := 0) fz e0 e1 e2 e3 e4 _ _ _ _ _) ?_
   have hbf : Below w.heap.size w (set5 v5 bx 0 N) := below_set5 hb5 hge N
   have hxf := set5_new hx5 N
   refine ⟨hbf, ?_⟩
   simp only [putLz]
   clear e0 e1 e2 e3 e4 fz
   refine left_readE 12 rfl rfl (by kernel_rfl) ?_
   apply Exists.intro
   refine ⟨fun w' hw => ?_, ?_⟩
   ·
    clear hw
    go_simp
    rfl
   simp only [putLz]
   refine left_end (by kernel_rfl) ?_
   go_wp2_with fail
   refine (HN.out _).mono ?_
   rintro x w' ⟨rfl, rfl⟩
   cases z
   all_goals go_wp2_with fail
   all_goals go_ret
   all_goals exact ⟨rfl, hbf⟩
 ·
  skip
  simp only [altLz] at ho
  subst ho
  refine ⟨rfl, ?_⟩
  have hb6 := (below_draw w 1).trans ((below_new1 (w.drew) (.cells #[.int .i64 0, .int .i64 0, .int .i64 0, .int .i64 0, .int .i64 0] 157)).mono (below_draw w 1).size)
  have hx6 := heap_alloc_new (w.drew) (.cells #[.int .i64 0, .int .i64 0, .int .i64 0, .int .i64 0, .int .i64 0] 157)
  have hge : w.heap.size ≤ (w.drew).heap.size := (below_draw w 1).size
  refine oper_value (v := .pointer (some ⟨(w.drew).heap.size, 0, none⟩)) (w' := (w.drew).alloc (.cells #[.int .i64 0, .int .i64 0, .int .i64 0, .int .i64 0, .int .i64 0] 157)) (by go_simp) ⟨hb6, ?_⟩
  simp only [putLz]
  obtain ⟨bx, hbx⟩ : ∃ bx, bx = (w.drew).heap.size := ⟨_, rfl⟩
  rw [← hbx] at hx6 hge ⊢
  obtain ⟨u6, hu6⟩ : ∃ u, u = (w.drew).alloc (.cells #[.int .i64 0, .int .i64 0, .int .i64 0, .int .i64 0, .int .i64 0] 157) := ⟨_, rfl⟩
  rw [← hu6] at hx6 hb6 ⊢
  clear hu6 hbx
  refine left_alts [5] (by kernel_rfl) (fun i hi hS o ho => ?_)
  simp only [memLz] at hi
  subst hi
  simp only [altLz] at ho
  subst ho
  refine ⟨rfl, ?_⟩
  refine oper_call (v := (.int .i64 k)) (R := fun w' => u6 = w') (by go_simp) (HN.out _) ?_
  rintro w' rfl
  refine ⟨hb6, ?_⟩
  simp only [putLz]
  refine left_alts [6] (by kernel_rfl) (fun i hi hS o ho => ?_)
  simp only [memLz] at hi
  subst hi
  simp only [altLz] at ho
  subst ho
  refine ⟨rfl, ?_⟩
  refine oper_call (v := (.tuple #[rnAgg N, .bool B])) (R := fun w' => Below (u6).heap.size (u6) w') (by go_simp) (HPA.out _ hb6) ?_
  intro v8 hv8
  have hb8 := hb6.trans (hv8.mono hb6.size)
  refine ⟨hb8, ?_⟩
  simp only [putLz]
  unfold rnAgg
  have hx8 := (hv8.block _ (Array.getElem?_eq_some_iff.1 hx6).1).trans hx6
  refine left_readE 7 rfl rfl (by kernel_rfl) ?_
  apply Exists.intro
  refine ⟨fun w' hw => ?_, ?_⟩
  ·
   clear hw
   go_simp
   rfl
  simp only [putLz]
  refine left_readE 8 rfl rfl (by kernel_rfl) ?_
  apply Exists.intro
  refine ⟨fun w' hw => ?_, ?_⟩
  ·
   clear hw
   go_simp
   rfl
  simp only [putLz]
  refine left_readE 9 rfl rfl (by kernel_rfl) ?_
  apply Exists.intro
  refine ⟨fun w' hw => ?_, ?_⟩
  ·
   clear hw
   go_simp
   rfl
  simp only [putLz]
  refine left_alts [11] (by kernel_rfl) (fun i hi hS o ho => ?_)
  simp only [memLz] at hi
  subst hi
  simp only [altLz] at ho
  subst ho
  refine ⟨rfl, ?_⟩
  obtain ⟨e0, e1, e2, e3, e4, fz⟩ := cells5 hx8
  refine oper_store (w' := set5 v8 bx 0 N) rfl (run_storeNode (k := 0) fz e0 e1 e2 e3 e4 _ _ _ _ _) ?_
  have hbf : Below w.heap.size w (set5 v8 bx 0 N) := below_set5 hb8 hge N
  have hxf := set5_new hx8 N
  refine ⟨hbf, ?_⟩
  simp only [putLz]
  clear e0 e1 e2 e3 e4 fz
  refine left_readE 12 rfl rfl (by kernel_rfl) ?_
  apply Exists.intro
  refine ⟨fun w' hw => ?_, ?_⟩
  ·
   clear hw
   go_simp
   rfl
  simp only [putLz]
  refine left_end (by kernel_rfl) ?_
  go_wp2_with fail
  refine (HN.out _).mono ?_
  rintro x w' ⟨rfl, rfl⟩
  cases z
  all_goals go_wp2_with fail
  all_goals go_ret
  all_goals exact ⟨rfl, hbf⟩
open Go.RowKit
set_option maxRecDepth 100000 in
set_option maxHeartbeats 800000 in
theorem storeUnder_any {o : Own} {w : World} {sb : Nat} {d : StoreD} {s : StoreW} (h : StoreIn o w sb d s) (hlt : OwnLt o w) (f : Nat) (hf : f < eMax) (lv : Int) (hbig : d.level.length < 1000000) :
 Calls Tryz.prog 126 #[.pointer (some ⟨sb, 0, none⟩), .int .i64 f, .int .i64 lv] w fun x w' => x = .returned (.bool (decide (enode f = 0) || (d.pool.tk (enode f) && decide (lv < d.levelOf (d.pool.has (enode f)).v)))) ∧ Below w.heap.size w w' := by
 obtain ⟨c0, c1, c2, c3, c4, f0⟩ := cells5 h.blk
 have lsb : sb < w.heap.size := lt_of_cell c0
 have HC1 : Hid (∀ W : World, Below w.heap.size w W → W.cell? ⟨sb, 1, none⟩ = some (.pointer (some ⟨s.pb, 0, none⟩))) := Lib.hid (fun W hb => (hb.cell (p := ⟨sb, 1, none⟩) lsb).trans c1)
 have HPA : Hid (∀ W : World, Below w.heap.size w W → Calls Tryz.prog 123 #[.pointer (some ⟨s.pb, 0, none⟩), .int .i64 (enode f : Nat)] W fun x w' => x = .returned (.tuple #[rnAgg (d.pool.has (enode f)), .bool (d.pool.tk (enode f))]) ∧ Below W.heap.size W w') :=
  Lib.hid (fun W hb => poolAt_any o s.pb d.pool (enode f) W (h.pool.below hb hlt) (hlt.mono hb.size))
 have HLV : Hid (∀ W : World, Below w.heap.size w W → Calls Tryz.prog 77 #[.pointer (some ⟨sb, 0, none⟩), .int .i64 ((d.pool.has (enode f)).v : Nat)] W fun x w' => x = .returned (.int .i64 (d.levelOf (d.pool.has (enode f)).v)) ∧ W = w') :=
  Lib.hid (fun W hb => storeLevel_any (h.below hlt hb) _ hbig)
 have HN := Lib.hid (fun W => node_any f W hf)
 obtain ⟨N, hN⟩ : ∃ N, N = d.pool.has (enode f) := ⟨_, rfl⟩
 obtain ⟨B, hB⟩ : ∃ B, B = d.pool.tk (enode f) := ⟨_, rfl⟩
 obtain ⟨k, hk⟩ : ∃ k, k = enode f := ⟨_, rfl⟩
 rw [← hN] at HPA HLV
 rw [← hB, ← hk] at HPA
 rw [← hk] at HN
 rw [← hB, ← hN, ← hk]
 obtain ⟨M, hM⟩ : ∃ M, M = d.levelOf N.v := ⟨_, rfl⟩
 rw [← hM] at HLV ⊢
 obtain ⟨z, hz0⟩ : ∃ z : Bool, z = decide (k = 0) := ⟨_, rfl⟩
 have hk0 : (((k : Nat) : Int) == 0) = z := by rw [hz0]; exact k0_eq k
 rw [← hz0]
 clear h hlt c0 c1 c2 c3 c4 f0 hN hB hk hf hz0 hM
 go_enter Tryz.func126, Tryz.ntmps126
 go_upto_region 1 with fail
 refine wp_region_left (fun W : World => Below w.heap.size w W) 13 (by kernel_rfl) (below_draw w 1) ?_
 refine left_readE 0 rfl rfl (by kernel_rfl) ?_
 apply Exists.intro
 refine ⟨fun w' hw => ?_, ?_⟩
 ·
  have hc1 := HC1.out w' hw
  go_simp
  rfl
 simp only [putLz]
 refine left_readE 1 rfl rfl (by kernel_rfl) ?_
 apply Exists.intro
 refine ⟨fun w' hw => ?_, ?_⟩
 ·
  have hc1 := HC1.out w' hw
  go_simp
  rfl
 simp only [putLz]
 refine left_readE 2 rfl rfl (by kernel_rfl) ?_
 apply Exists.intro
 refine ⟨fun w' hw => ?_, ?_⟩
 ·
  have hc1 := HC1.out w' hw
  go_simp
  rfl
 simp only [putLz]
 refine left_readE 3 rfl rfl (by kernel_rfl) ?_
 apply Exists.intro
 refine ⟨fun w' hw => ?_, ?_⟩
 ·
  have hc1 := HC1.out w' hw
  go_simp
  rfl
 simp only [putLz]
 refine left_readE 4 rfl rfl (by kernel_rfl) ?_
 apply Exists.intro
 refine ⟨fun w' hw => ?_, ?_⟩
 ·
  have hc1 := HC1.out w' hw
  go_simp
  rfl
 simp only [putLz]
 refine left_alts [5, 10] (by kernel_rfl) (fun i hi hS o ho => ?_)
 simp only [memLz] at hi
 rcases hi with rfl | rfl
 ·
  skip
  simp only [altLz] at ho
  subst ho
  refine ⟨rfl, ?_⟩
  refine oper_call (v := (.int .i64 k)) (R := fun w' => w.drew = w') (by go_simp) (HN.out _) ?_
  rintro w' rfl
  refine ⟨(below_draw w 1), ?_⟩
  simp only [putLz]
  refine left_alts [6, 10] (by kernel_rfl) (fun i hi hS o ho => ?_)
  simp only [memLz] at hi
  rcases hi with rfl | rfl
  ·
   skip
   simp only [altLz] at ho
   subst ho
   refine ⟨rfl, ?_⟩
   refine oper_call (v := (.tuple #[rnAgg N, .bool B])) (R := fun w' => Below (w.drew).heap.size (w.drew) w') (by go_simp) (HPA.out _ (below_draw w 1)) ?_
   intro v2 hv2
   have hb2 := (below_draw w 1).trans (hv2.mono (below_draw w 1).size)
   refine ⟨hb2, ?_⟩
   simp only [putLz]
   unfold rnAgg
   refine left_readE 7 rfl rfl (by kernel_rfl) ?_
   apply Exists.intro
   refine ⟨fun w' hw => ?_, ?_⟩
   ·
    clear hw
    go_simp
    rfl
   simp only [putLz]
   refine left_readE 8 rfl rfl (by kernel_rfl) ?_
   apply Exists.intro
   refine ⟨fun w' hw => ?_, ?_⟩
   ·
    clear hw
    go_simp
    rfl
   simp only [putLz]
   refine left_readE 9 rfl rfl (by kernel_rfl) ?_
   apply Exists.intro
   refine ⟨fun w' hw => ?_, ?_⟩
   ·
    clear hw
    go_simp
    rfl
   simp only [putLz]
   refine left_alts [10] (by kernel_rfl) (fun i hi hS o ho => ?_)
   simp only [memLz] at hi
   subst hi
   simp only [altLz] at ho
   subst ho
   refine ⟨rfl, ?_⟩
   have hb3 := hb2.trans ((below_new1 (v2) (.cells #[.int .i64 0, .int .i64 0, .int .i64 0, .int .i64 0, .int .i64 0] 157)).mono hb2.size)
   have hx3 := heap_alloc_new (v2) (.cells #[.int .i64 0, .int .i64 0, .int .i64 0, .int .i64 0, .int .i64 0] 157)
   have hge : w.heap.size ≤ (v2).heap.size := hb2.size
   refine oper_value (v := .pointer (some ⟨(v2).heap.size, 0, none⟩)) (w' := (v2).alloc (.cells #[.int .i64 0, .int .i64 0, .int .i64 0, .int .i64 0, .int .i64 0] 157)) (by go_simp) ⟨hb3, ?_⟩
   simp only [putLz]
   obtain ⟨bx, hbx⟩ : ∃ bx, bx = (v2).heap.size := ⟨_, rfl⟩
   rw [← hbx] at hx3 hge ⊢
   obtain ⟨u3, hu3⟩ : ∃ u, u = (v2).alloc (.cells #[.int .i64 0, .int .i64 0, .int .i64 0, .int .i64 0, .int .i64 0] 157) := ⟨_, rfl⟩
   rw [← hu3] at hx3 hb3 ⊢
   clear hu3 hbx
   refine left_alts [11] (by kernel_rfl) (fun i hi hS o ho => ?_)
   simp only [memLz] at hi
   subst hi
   simp only [altLz] at ho
   subst ho
   refine ⟨rfl, ?_⟩
   obtain ⟨e0, e1, e2, e3, e4, fz⟩ := cells5 hx3
   refine oper_store (w' := set5 u3 bx 0 N) rfl (run_storeNode (k := 0) fz e0 e1 e2 e3 e4 _ _ _ _ _) ?_
   have hbf : Below w.heap.size w (set5 u3 bx 0 N) := below_set5 hb3 hge N
   have hxf := set5_new hx3 N
   refine ⟨hbf, ?_⟩
   simp only [putLz]
   clear e0 e1 e2 e3 e4 fz
   refine left_readE 12 rfl rfl (by kernel_rfl) ?_
   apply Exists.intro
   refine ⟨fun w' hw => ?_, ?_⟩
   ·
    clear hw
    go_simp
    rfl
   simp only [putLz]
   refine left_end (by kernel_rfl) ?_
   obtain ⟨y0, y1, y2, y3, y4, yz⟩ := cells5 hxf
   go_wp2_with fail
   refine (HN.out _).mono ?_
   rintro x w' ⟨rfl, rfl⟩
   cases z
   ·
    cases B
    ·
     go_wp2_with fail
     go_ret
     exact ⟨rfl, hbf⟩
    ·
     go_wp2_with fail
     refine (HLV.out _ hbf).mono ?_
     rintro x w' ⟨rfl, rfl⟩
     go_wp2_with fail
     go_ret
     exact ⟨rfl, hbf⟩
   ·
    go_wp2_with fail
    go_ret
    exact ⟨rfl, hbf⟩
  ·
   skip
   simp only [altLz] at ho
   subst ho
   refine ⟨rfl, ?_⟩
   have hb4 := (below_draw w 1).trans ((below_new1 (w.drew) (.cells #[.int .i64 0, .int .i64 0, .int .i64 0, .int .i64 0, .int .i64 0] 157)).mono (below_draw w 1).size)
   have hx4 := heap_alloc_new (w.drew) (.cells #[.int .i64 0, .int .i64 0, .int .i64 0, .int .i64 0, .int .i64 0] 157)
   have hge : w.heap.size ≤ (w.drew).heap.size := (below_draw w 1).size
   refine oper_value (v := .pointer (some ⟨(w.drew).heap.size, 0, none⟩)) (w' := (w.drew).alloc (.cells #[.int .i64 0, .int .i64 0, .int .i64 0, .int .i64 0, .int .i64 0] 157)) (by go_simp) ⟨hb4, ?_⟩
   simp only [putLz]
   obtain ⟨bx, hbx⟩ : ∃ bx, bx = (w.drew).heap.size := ⟨_, rfl⟩
   rw [← hbx] at hx4 hge ⊢
   obtain ⟨u4, hu4⟩ : ∃ u, u = (w.drew).alloc (.cells #[.int .i64 0, .int .i64 0, .int .i64 0, .int .i64 0, .int .i64 0] 157) := ⟨_, rfl⟩
   rw [← hu4] at hx4 hb4 ⊢
   clear hu4 hbx
   refine left_alts [6] (by kernel_rfl) (fun i hi hS o ho => ?_)
   simp only [memLz] at hi
   subst hi
   simp only [altLz] at ho
   subst ho
   refine ⟨rfl, ?_⟩
   refine oper_call (v := (.tuple #[rnAgg N, .bool B])) (R := fun w' => Below (u4).heap.size (u4) w') (by go_simp) (HPA.out _ hb4) ?_
   intro v5 hv5
   have hb5 := hb4.trans (hv5.mono hb4.size)
   refine ⟨hb5, ?_⟩
   simp only [putLz]
   unfold rnAgg
   have hx5 := (hv5.block _ (Array.getElem?_eq_some_iff.1 hx4).1).trans hx4
   refine left_readE 7 rfl rfl (by kernel_rfl) ?_
   apply Exists.intro
   refine ⟨fun w' hw => ?_, ?_⟩
   ·
    clear hw
    go_simp
    rfl
   simp only [putLz]
   refine left_readE 8 rfl rfl (by kernel_rfl) ?_
   apply Exists.intro
   refine ⟨fun w' hw => ?_, ?_⟩
   ·
    clear hw
    go_simp
    rfl
   simp only [putLz]
   refine left_readE 9 rfl rfl (by kernel_rfl) ?_
   apply Exists.intro
   refine ⟨fun w' hw => ?_, ?_⟩
   ·
    clear hw
    go_simp
    rfl
   simp only [putLz]
   refine left_alts [11] (by kernel_rfl) (fun i hi hS o ho => ?_)
   simp only [memLz] at hi
   subst hi
   simp only [altLz] at ho
   subst ho
   refine ⟨rfl, ?_⟩
   obtain ⟨e0, e1, e2, e3, e4, fz⟩ := cells5 hx5
   refine oper_store (w' := set5 v5 bx 0 N) rfl (run_storeNode (k := 0) fz e0 e1 e2 e3 e4 _ _ _ _ _) ?_
   have hbf : Below w.heap.size w (set5 v5 bx 0 N) := below_set5 hb5 hge N
   have hxf := set5_new hx5 N
   refine ⟨hbf, ?_⟩
   simp only [putLz]
   clear e0 e1 e2 e3 e4 fz
   refine left_readE 12 rfl rfl (by kernel_rfl) ?_
   apply Exists.intro
   refine ⟨fun w' hw => ?_, ?_⟩
   ·
    clear hw
    go_simp
    rfl
   simp only [putLz]
   refine left_end (by kernel_rfl) ?_
   obtain ⟨y0, y1, y2, y3, y4, yz⟩ := cells5 hxf
   go_wp2_with fail
   refine (HN.out _).mono ?_
   rintro x w' ⟨rfl, rfl⟩
   cases z
   ·
    cases B
    ·
     go_wp2_with fail
     go_ret
     exact ⟨rfl, hbf⟩
    ·
     go_wp2_with fail
     refine (HLV.out _ hbf).mono ?_
     rintro x w' ⟨rfl, rfl⟩
     go_wp2_with fail
     go_ret
     exact ⟨rfl, hbf⟩
   ·
    go_wp2_with fail
    go_ret
    exact ⟨rfl, hbf⟩
 ·
  skip
  simp only [altLz] at ho
  subst ho
  refine ⟨rfl, ?_⟩
  have hb6 := (below_draw w 1).trans ((below_new1 (w.drew) (.cells #[.int .i64 0, .int .i64 0, .int .i64 0, .int .i64 0, .int .i64 0] 157)).mono (below_draw w 1).size)
  have hx6 := heap_alloc_new (w.drew) (.cells #[.int .i64 0, .int .i64 0, .int .i64 0, .int .i64 0, .int .i64 0] 157)
  have hge : w.heap.size ≤ (w.drew).heap.size := (below_draw w 1).size
  refine oper_value (v := .pointer (some ⟨(w.drew).heap.size, 0, none⟩)) (w' := (w.drew).alloc (.cells #[.int .i64 0, .int .i64 0, .int .i64 0, .int .i64 0, .int .i64 0] 157)) (by go_simp) ⟨hb6, ?_⟩
  simp only [putLz]
  obtain ⟨bx, hbx⟩ : ∃ bx, bx = (w.drew).heap.size := ⟨_, rfl⟩
  rw [← hbx] at hx6 hge ⊢
  obtain ⟨u6, hu6⟩ : ∃ u, u = (w.drew).alloc (.cells #[.int .i64 0, .int .i64 0, .int .i64 0, .int .i64 0, .int .i64 0] 157) := ⟨_, rfl⟩
  rw [← hu6] at hx6 hb6 ⊢
  clear hu6 hbx
  refine left_alts [5] (by kernel_rfl) (fun i hi hS o ho => ?_)
  simp only [memLz] at hi
  subst hi
  simp only [altLz] at ho
  subst ho
  refine ⟨rfl, ?_⟩
  refine oper_call (v := (.int .i64 k)) (R := fun w' => u6 = w') (by go_simp) (HN.out _) ?_
  rintro w' rfl
  refine ⟨hb6, ?_⟩
  simp only [putLz]
  refine left_alts [6] (by kernel_rfl) (fun i hi hS o ho => ?_)
  simp only [memLz] at hi
  subst hi
  simp only [altLz] at ho
  subst ho
  refine ⟨rfl, ?_⟩
  refine oper_call (v := (.tuple #[rnAgg N, .bool B])) (R := fun w' => Below (u6).heap.size (u6) w') (by go_simp) (HPA.out _ hb6) ?_
  intro v8 hv8
  have hb8 := hb6.trans (hv8.mono hb6.size)
  refine ⟨hb8, ?_⟩
  simp only [putLz]
  unfold rnAgg
  have hx8 := (hv8.block _ (Array.getElem?_eq_some_iff.1 hx6).1).trans hx6
  refine left_readE 7 rfl rfl (by kernel_rfl) ?_
  apply Exists.intro
  refine ⟨fun w' hw => ?_, ?_⟩
  ·
   clear hw
   go_simp
   rfl
  simp only [putLz]
  refine left_readE 8 rfl rfl (by kernel_rfl) ?_
  apply Exists.intro
  refine ⟨fun w' hw => ?_, ?_⟩
  ·
   clear hw
   go_simp
   rfl
  simp only [putLz]
  refine left_readE 9 rfl rfl (by kernel_rfl) ?_
  apply Exists.intro
  refine ⟨fun w' hw => ?_, ?_⟩
  ·
   clear hw
   go_simp
   rfl
  simp only [putLz]
  refine left_alts [11] (by kernel_rfl) (fun i hi hS o ho => ?_)
  simp only [memLz] at hi
  subst hi
  simp only [altLz] at ho
  subst ho
  refine ⟨rfl, ?_⟩
  obtain ⟨e0, e1, e2, e3, e4, fz⟩ := cells5 hx8
  refine oper_store (w' := set5 v8 bx 0 N) rfl (run_storeNode (k := 0) fz e0 e1 e2 e3 e4 _ _ _ _ _) ?_
  have hbf : Below w.heap.size w (set5 v8 bx 0 N) := below_set5 hb8 hge N
  have hxf := set5_new hx8 N
  refine ⟨hbf, ?_⟩
  simp only [putLz]
  clear e0 e1 e2 e3 e4 fz
  refine left_readE 12 rfl rfl (by kernel_rfl) ?_
  apply Exists.intro
  refine ⟨fun w' hw => ?_, ?_⟩
  ·
   clear hw
   go_simp
   rfl
  simp only [putLz]
  refine left_end (by kernel_rfl) ?_
  obtain ⟨y0, y1, y2, y3, y4, yz⟩ := cells5 hxf
  go_wp2_with fail
  refine (HN.out _).mono ?_
  rintro x w' ⟨rfl, rfl⟩
  cases z
  ·
   cases B
   ·
    go_wp2_with fail
    go_ret
    exact ⟨rfl, hbf⟩
   ·
    go_wp2_with fail
    refine (HLV.out _ hbf).mono ?_
    rintro x w' ⟨rfl, rfl⟩
    go_wp2_with fail
    go_ret
    exact ⟨rfl, hbf⟩
  ·
   go_wp2_with fail
   go_ret
   exact ⟨rfl, hbf⟩
open Go.RowKit
theorem quiet_of_eq {P : Program} {f : FuncId} {args : Array Value} {w : World} {n : Nat} {v : Value}
 (h : Calls P f args (w.drewN n) fun e w' => e = .returned v ∧ w.drewN n = w') : Calls P f args (w.drewN n) fun e w'' => e = .returned v ∧ ∃ m, w'' = w.drewN m :=
 h.mono fun _ _ ⟨he, hm⟩ => ⟨he, n, hm.symm⟩
theorem results_tmp4 {fn : Func} {t u v x : Tmp} (h : fn.results = #[.tmp t, .tmp u, .tmp v, .tmp x]) (tmps : Array Value) (P : Program) (w : World) :
 (results fn tmps).run P w = .ok (.tuple #[tmps.getD t undef, tmps.getD u undef, tmps.getD v undef, tmps.getD x undef]) w := by
 simp [results, h]
set_option maxRecDepth 100000 in
set_option maxHeartbeats 800000 in
theorem storeAt_any {o : Own} {w : World} {sb : Nat} {d : StoreD} {s : StoreW} (h : StoreIn o w sb d s) (hlt : OwnLt o w) (f : Nat) (hf : f < eMax) (hlo : (d.pool.has (enode f)).lo < eMax) (hhi : (d.pool.has (enode f)).hi < eMax) :
 Calls Tryz.prog 91 #[.pointer (some ⟨sb, 0, none⟩), .int .i64 f] w fun x w' => x = .returned (if d.pool.tk (enode f) = true then .tuple #[.int .i64 (d.pool.has (enode f)).v, .int .i64 (eflip (d.pool.has (enode f)).lo (eneg f) : Nat), .int .i64 (eflip (d.pool.has (enode f)).hi (eneg f) : Nat), .bool true] else .tuple #[.int .i64 (-1), .int .i64 0, .int .i64 0, .bool false]) ∧ Below w.heap.size w w' := by
 obtain ⟨c0, c1, c2, c3, c4, f0⟩ := cells5 h.blk
 have lsb : sb < w.heap.size := lt_of_cell c0
 have HC1 : Hid (∀ W : World, Below w.heap.size w W → W.cell? ⟨sb, 1, none⟩ = some (.pointer (some ⟨s.pb, 0, none⟩))) := Lib.hid (fun W hb => (hb.cell (p := ⟨sb, 1, none⟩) lsb).trans c1)
 have HPA : Hid (∀ W : World, Below w.heap.size w W → Calls Tryz.prog 123 #[.pointer (some ⟨s.pb, 0, none⟩), .int .i64 (enode f : Nat)] W fun x w' => x = .returned (.tuple #[rnAgg (d.pool.has (enode f)), .bool (d.pool.tk (enode f))]) ∧ Below W.heap.size W w') :=
  Lib.hid (fun W hb => poolAt_any o s.pb d.pool (enode f) W (h.pool.below hb hlt) (hlt.mono hb.size))
 have hz : (0 : Int) ≤ f := by omega
 have HG := Lib.hid (fun W => neg_any f W hf)
 have HFL := Lib.hid (fun W b => flip_any (d.pool.has (enode f)).lo b W hlo)
 have HFH := Lib.hid (fun W b => flip_any (d.pool.has (enode f)).hi b W hhi)
 have HN := Lib.hid (fun W => node_any f W hf)
 obtain ⟨N, hN⟩ : ∃ N, N = d.pool.has (enode f) := ⟨_, rfl⟩
 obtain ⟨B, hB⟩ : ∃ B, B = d.pool.tk (enode f) := ⟨_, rfl⟩
 obtain ⟨k, hk⟩ : ∃ k, k = enode f := ⟨_, rfl⟩
 rw [← hN] at HPA HFL HFH
 rw [← hB, ← hk] at HPA
 rw [← hk] at HN
 rw [← hB, ← hN]
 obtain ⟨g, hg⟩ : ∃ g : Bool, g = eneg f := ⟨_, rfl⟩
 rw [← hg] at HG ⊢
 have HFL := Lib.hid (fun W => HFL.out W g)
 have HFH := Lib.hid (fun W => HFH.out W g)
 obtain ⟨A, hA⟩ : ∃ A, A = eflip N.lo g := ⟨_, rfl⟩
 obtain ⟨C, hC⟩ : ∃ C, C = eflip N.hi g := ⟨_, rfl⟩
 rw [← hA] at HFL ⊢
 rw [← hC] at HFH ⊢
 obtain ⟨RV, hRV⟩ : ∃ RV : Value, RV = (if B = true then .tuple #[.int .i64 N.v, .int .i64 (A : Nat), .int .i64 (C : Nat), .bool true] else .tuple #[.int .i64 (-1), .int .i64 0, .int .i64 0, .bool false]) := ⟨_, rfl⟩
 rw [← hRV]
 have HRV := Lib.hid hRV
 clear h hlt c0 c1 c2 c3 c4 f0 hN hB hk hf hg hA hC hlo hhi hRV
 go_enter Tryz.func91, Tryz.ntmps91
 go_upto_region 3 with fail
 refine wp_region_left (fun W : World => Below w.heap.size w W) 13 (by kernel_rfl) (below_draw w 1) ?_
 refine left_readE 0 rfl rfl (by kernel_rfl) ?_
 apply Exists.intro
 refine ⟨fun w' hw => ?_, ?_⟩
 ·
  have hc1 := HC1.out w' hw
  go_simp
  rfl
 simp only [putLz]
 refine left_readE 1 rfl rfl (by kernel_rfl) ?_
 apply Exists.intro
 refine ⟨fun w' hw => ?_, ?_⟩
 ·
  have hc1 := HC1.out w' hw
  go_simp
  rfl
 simp only [putLz]
 refine left_readE 2 rfl rfl (by kernel_rfl) ?_
 apply Exists.intro
 refine ⟨fun w' hw => ?_, ?_⟩
 ·
  have hc1 := HC1.out w' hw
  go_simp
  rfl
 simp only [putLz]
 refine left_readE 3 rfl rfl (by kernel_rfl) ?_
 apply Exists.intro
 refine ⟨fun w' hw => ?_, ?_⟩
 ·
  have hc1 := HC1.out w' hw
  go_simp
  rfl
 simp only [putLz]
 refine left_readE 4 rfl rfl (by kernel_rfl) ?_
 apply Exists.intro
 refine ⟨fun w' hw => ?_, ?_⟩
 ·
  have hc1 := HC1.out w' hw
  go_simp
  rfl
 simp only [putLz]
 refine left_alts [5, 10] (by kernel_rfl) (fun i hi hS o ho => ?_)
 simp only [memLz] at hi
 rcases hi with rfl | rfl
 ·
  skip
  simp only [altLz] at ho
  subst ho
  refine ⟨rfl, ?_⟩
  refine oper_call (v := (.int .i64 k)) (R := fun w' => w.drew = w') (by go_simp) (HN.out _) ?_
  rintro w' rfl
  refine ⟨(below_draw w 1), ?_⟩
  simp only [putLz]
  refine left_alts [6, 10] (by kernel_rfl) (fun i hi hS o ho => ?_)
  simp only [memLz] at hi
  rcases hi with rfl | rfl
  ·
   skip
   simp only [altLz] at ho
   subst ho
   refine ⟨rfl, ?_⟩
   refine oper_call (v := (.tuple #[rnAgg N, .bool B])) (R := fun w' => Below (w.drew).heap.size (w.drew) w') (by go_simp) (HPA.out _ (below_draw w 1)) ?_
   intro v2 hv2
   have hb2 := (below_draw w 1).trans (hv2.mono (below_draw w 1).size)
   refine ⟨hb2, ?_⟩
   simp only [putLz]
   unfold rnAgg
   refine left_readE 7 rfl rfl (by kernel_rfl) ?_
   apply Exists.intro
   refine ⟨fun w' hw => ?_, ?_⟩
   ·
    clear hw
    go_simp
    rfl
   simp only [putLz]
   refine left_readE 8 rfl rfl (by kernel_rfl) ?_
   apply Exists.intro
   refine ⟨fun w' hw => ?_, ?_⟩
   ·
    clear hw
    go_simp
    rfl
   simp only [putLz]
   refine left_readE 9 rfl rfl (by kernel_rfl) ?_
   apply Exists.intro
   refine ⟨fun w' hw => ?_, ?_⟩
   ·
    clear hw
    go_simp
    rfl
   simp only [putLz]
   refine left_alts [10] (by kernel_rfl) (fun i hi hS o ho => ?_)
   simp only [memLz] at hi
   subst hi
   simp only [altLz] at ho
   subst ho
   refine ⟨rfl, ?_⟩
   have hb3 := hb2.trans ((below_new1 (v2) (.cells #[.int .i64 0, .int .i64 0, .int .i64 0, .int .i64 0, .int .i64 0] 157)).mono hb2.size)
   have hx3 := heap_alloc_new (v2) (.cells #[.int .i64 0, .int .i64 0, .int .i64 0, .int .i64 0, .int .i64 0] 157)
   have hge : w.heap.size ≤ (v2).heap.size := hb2.size
   refine oper_value (v := .pointer (some ⟨(v2).heap.size, 0, none⟩)) (w' := (v2).alloc (.cells #[.int .i64 0, .int .i64 0, .int .i64 0, .int .i64 0, .int .i64 0] 157)) (by go_simp) ⟨hb3, ?_⟩
   simp only [putLz]
   obtain ⟨bx, hbx⟩ : ∃ bx, bx = (v2).heap.size := ⟨_, rfl⟩
   rw [← hbx] at hx3 hge ⊢
   obtain ⟨u3, hu3⟩ : ∃ u, u = (v2).alloc (.cells #[.int .i64 0, .int .i64 0, .int .i64 0, .int .i64 0, .int .i64 0] 157) := ⟨_, rfl⟩
   rw [← hu3] at hx3 hb3 ⊢
   clear hu3 hbx
   refine left_alts [11] (by kernel_rfl) (fun i hi hS o ho => ?_)
   simp only [memLz] at hi
   subst hi
   simp only [altLz] at ho
   subst ho
   refine ⟨rfl, ?_⟩
   obtain ⟨e0, e1, e2, e3, e4, fz⟩ := cells5 hx3
   refine oper_store (w' := set5 u3 bx 0 N) rfl (run_storeNode (k := 0) fz e0 e1 e2 e3 e4 _ _ _ _ _) ?_
   have hbf : Below w.heap.size w (set5 u3 bx 0 N) := below_set5 hb3 hge N
   have hxf := set5_new hx3 N
   refine ⟨hbf, ?_⟩
   simp only [putLz]
   clear e0 e1 e2 e3 e4 fz
   refine left_readE 12 rfl rfl (by kernel_rfl) ?_
   apply Exists.intro
   refine ⟨fun w' hw => ?_, ?_⟩
   ·
    clear hw
    go_simp
    rfl
   simp only [putLz]
   refine left_end (by kernel_rfl) ?_
   obtain ⟨y0, y1, y2, y3, y4, yz⟩ := cells5 hxf
   clear HN HPA HC1
   cases B
   ·
    go_wp2_with fail
    refine bodyPost_ret (results_tmp4 rfl _ _ _) rfl ⟨?_, hbf⟩
    rw [HRV.out]
    rfl
   ·
    go_upto_region 6 with fail
    go_quiet ((first | (with_reducible exact quiet_of_eq (HG.out _)) | (with_reducible exact quiet_of_eq (HFL.out _)) | (with_reducible exact quiet_of_eq (HFH.out _))))
    go_wp2_with fail
    refine bodyPost_ret (results_tmp4 rfl _ _ _) rfl ⟨?_, below_drewN hbf _⟩
    rw [HRV.out]
    rfl
  ·
   skip
   simp only [altLz] at ho
   subst ho
   refine ⟨rfl, ?_⟩
   have hb4 := (below_draw w 1).trans ((below_new1 (w.drew) (.cells #[.int .i64 0, .int .i64 0, .int .i64 0, .int .i64 0, .int .i64 0] 157)).mono (below_draw w 1).size)
   have hx4 := heap_alloc_new (w.drew) (.cells #[.int .i64 0, .int .i64 0, .int .i64 0, .int .i64 0, .int .i64 0] 157)
   have hge : w.heap.size ≤ (w.drew).heap.size := (below_draw w 1).size
   refine oper_value (v := .pointer (some ⟨(w.drew).heap.size, 0, none⟩)) (w' := (w.drew).alloc (.cells #[.int .i64 0, .int .i64 0, .int .i64 0, .int .i64 0, .int .i64 0] 157)) (by go_simp) ⟨hb4, ?_⟩
   simp only [putLz]
   obtain ⟨bx, hbx⟩ : ∃ bx, bx = (w.drew).heap.size := ⟨_, rfl⟩
   rw [← hbx] at hx4 hge ⊢
   obtain ⟨u4, hu4⟩ : ∃ u, u = (w.drew).alloc (.cells #[.int .i64 0, .int .i64 0, .int .i64 0, .int .i64 0, .int .i64 0] 157) := ⟨_, rfl⟩
   rw [← hu4] at hx4 hb4 ⊢
   clear hu4 hbx
   refine left_alts [6] (by kernel_rfl) (fun i hi hS o ho => ?_)
   simp only [memLz] at hi
   subst hi
   simp only [altLz] at ho
   subst ho
   refine ⟨rfl, ?_⟩
   refine oper_call (v := (.tuple #[rnAgg N, .bool B])) (R := fun w' => Below (u4).heap.size (u4) w') (by go_simp) (HPA.out _ hb4) ?_
   intro v5 hv5
   have hb5 := hb4.trans (hv5.mono hb4.size)
   refine ⟨hb5, ?_⟩
   simp only [putLz]
   unfold rnAgg
   have hx5 := (hv5.block _ (Array.getElem?_eq_some_iff.1 hx4).1).trans hx4
   refine left_readE 7 rfl rfl (by kernel_rfl) ?_
   apply Exists.intro
   refine ⟨fun w' hw => ?_, ?_⟩
   ·
    clear hw
    go_simp
    rfl
   simp only [putLz]
   refine left_readE 8 rfl rfl (by kernel_rfl) ?_
   apply Exists.intro
   refine ⟨fun w' hw => ?_, ?_⟩
   ·
    clear hw
    go_simp
    rfl
   simp only [putLz]
   refine left_readE 9 rfl rfl (by kernel_rfl) ?_
   apply Exists.intro
   refine ⟨fun w' hw => ?_, ?_⟩
   ·
    clear hw
    go_simp
    rfl
   simp only [putLz]
   refine left_alts [11] (by kernel_rfl) (fun i hi hS o ho => ?_)
   simp only [memLz] at hi
   subst hi
   simp only [altLz] at ho
   subst ho
   refine ⟨rfl, ?_⟩
   obtain ⟨e0, e1, e2, e3, e4, fz⟩ := cells5 hx5
   refine oper_store (w' := set5 v5 bx 0 N) rfl (run_storeNode (k := 0) fz e0 e1 e2 e3 e4 _ _ _ _ _) ?_
   have hbf : Below w.heap.size w (set5 v5 bx 0 N) := below_set5 hb5 hge N
   have hxf := set5_new hx5 N
   refine ⟨hbf, ?_⟩
   simp only [putLz]
   clear e0 e1 e2 e3 e4 fz
   refine left_readE 12 rfl rfl (by kernel_rfl) ?_
   apply Exists.intro
   refine ⟨fun w' hw => ?_, ?_⟩
   ·
    clear hw
    go_simp
    rfl
   simp only [putLz]
   refine left_end (by kernel_rfl) ?_
   obtain ⟨y0, y1, y2, y3, y4, yz⟩ := cells5 hxf
   clear HN HPA HC1
   cases B
   ·
    go_wp2_with fail
    refine bodyPost_ret (results_tmp4 rfl _ _ _) rfl ⟨?_, hbf⟩
    rw [HRV.out]
    rfl
   ·
    go_upto_region 6 with fail
    go_quiet ((first | (with_reducible exact quiet_of_eq (HG.out _)) | (with_reducible exact quiet_of_eq (HFL.out _)) | (with_reducible exact quiet_of_eq (HFH.out _))))
    go_wp2_with fail
    refine bodyPost_ret (results_tmp4 rfl _ _ _) rfl ⟨?_, below_drewN hbf _⟩
    rw [HRV.out]
    rfl
 ·
  skip
  simp only [altLz] at ho
  subst ho
  refine ⟨rfl, ?_⟩
  have hb6 := (below_draw w 1).trans ((below_new1 (w.drew) (.cells #[.int .i64 0, .int .i64 0, .int .i64 0, .int .i64 0, .int .i64 0] 157)).mono (below_draw w 1).size)
  have hx6 := heap_alloc_new (w.drew) (.cells #[.int .i64 0, .int .i64 0, .int .i64 0, .int .i64 0, .int .i64 0] 157)
  have hge : w.heap.size ≤ (w.drew).heap.size := (below_draw w 1).size
  refine oper_value (v := .pointer (some ⟨(w.drew).heap.size, 0, none⟩)) (w' := (w.drew).alloc (.cells #[.int .i64 0, .int .i64 0, .int .i64 0, .int .i64 0, .int .i64 0] 157)) (by go_simp) ⟨hb6, ?_⟩
  simp only [putLz]
  obtain ⟨bx, hbx⟩ : ∃ bx, bx = (w.drew).heap.size := ⟨_, rfl⟩
  rw [← hbx] at hx6 hge ⊢
  obtain ⟨u6, hu6⟩ : ∃ u, u = (w.drew).alloc (.cells #[.int .i64 0, .int .i64 0, .int .i64 0, .int .i64 0, .int .i64 0] 157) := ⟨_, rfl⟩
  rw [← hu6] at hx6 hb6 ⊢
  clear hu6 hbx
  refine left_alts [5] (by kernel_rfl) (fun i hi hS o ho => ?_)
  simp only [memLz] at hi
  subst hi
  simp only [altLz] at ho
  subst ho
  refine ⟨rfl, ?_⟩
  refine oper_call (v := (.int .i64 k)) (R := fun w' => u6 = w') (by go_simp) (HN.out _) ?_
  rintro w' rfl
  refine ⟨hb6, ?_⟩
  simp only [putLz]
  refine left_alts [6] (by kernel_rfl) (fun i hi hS o ho => ?_)
  simp only [memLz] at hi
  subst hi
  simp only [altLz] at ho
  subst ho
  refine ⟨rfl, ?_⟩
  refine oper_call (v := (.tuple #[rnAgg N, .bool B])) (R := fun w' => Below (u6).heap.size (u6) w') (by go_simp) (HPA.out _ hb6) ?_
  intro v8 hv8
  have hb8 := hb6.trans (hv8.mono hb6.size)
  refine ⟨hb8, ?_⟩
  simp only [putLz]
  unfold rnAgg
  have hx8 := (hv8.block _ (Array.getElem?_eq_some_iff.1 hx6).1).trans hx6
  refine left_readE 7 rfl rfl (by kernel_rfl) ?_
  apply Exists.intro
  refine ⟨fun w' hw => ?_, ?_⟩
  ·
   clear hw
   go_simp
   rfl
  simp only [putLz]
  refine left_readE 8 rfl rfl (by kernel_rfl) ?_
  apply Exists.intro
  refine ⟨fun w' hw => ?_, ?_⟩
  ·
   clear hw
   go_simp
   rfl
  simp only [putLz]
  refine left_readE 9 rfl rfl (by kernel_rfl) ?_
  apply Exists.intro
  refine ⟨fun w' hw => ?_, ?_⟩
  ·
   clear hw
   go_simp
   rfl
  simp only [putLz]
  refine left_alts [11] (by kernel_rfl) (fun i hi hS o ho => ?_)
  simp only [memLz] at hi
  subst hi
  simp only [altLz] at ho
  subst ho
  refine ⟨rfl, ?_⟩
  obtain ⟨e0, e1, e2, e3, e4, fz⟩ := cells5 hx8
  refine oper_store (w' := set5 v8 bx 0 N) rfl (run_storeNode (k := 0) fz e0 e1 e2 e3 e4 _ _ _ _ _) ?_
  have hbf : Below w.heap.size w (set5 v8 bx 0 N) := below_set5 hb8 hge N
  have hxf := set5_new hx8 N
  refine ⟨hbf, ?_⟩
  simp only [putLz]
  clear e0 e1 e2 e3 e4 fz
  refine left_readE 12 rfl rfl (by kernel_rfl) ?_
  apply Exists.intro
  refine ⟨fun w' hw => ?_, ?_⟩
  ·
   clear hw
   go_simp
   rfl
  simp only [putLz]
  refine left_end (by kernel_rfl) ?_
  obtain ⟨y0, y1, y2, y3, y4, yz⟩ := cells5 hxf
  clear HN HPA HC1
  cases B
  ·
   go_wp2_with fail
   refine bodyPost_ret (results_tmp4 rfl _ _ _) rfl ⟨?_, hbf⟩
   rw [HRV.out]
   rfl
  ·
   go_upto_region 6 with fail
   go_quiet ((first | (with_reducible exact quiet_of_eq (HG.out _)) | (with_reducible exact quiet_of_eq (HFL.out _)) | (with_reducible exact quiet_of_eq (HFH.out _))))
   go_wp2_with fail
   refine bodyPost_ret (results_tmp4 rfl _ _ _) rfl ⟨?_, below_drewN hbf _⟩
   rw [HRV.out]
   rfl
open Go.RowKit
def bnOf (r : RN) : BN := ⟨r.v, r.lo, r.hi⟩
def nodesOf (d : StoreD) : Nat → Option BN := fun i => (d.pool.get i).map bnOf
def cntOf (d : StoreD) : Nat → Nat := fun i => d.counts.getD i 0
def StoreD.cd (d : StoreD) (cs : List Nat) (dd : Nat) : StoreD := { d with counts := cs, dead := dd }
theorem nodesOf_some {d : StoreD} {i : Nat} {b : BN} (h : nodesOf d i = some b) : d.pool.tk i = true ∧ d.pool.has i = d.pool.nd i ∧ bnOf (d.pool.has i) = b := by
 unfold nodesOf PoolD.get at h
 by_cases e : d.pool.tk i = true
 ·
  rw [if_pos e] at h
  refine ⟨e, by unfold PoolD.has; rw [if_pos e], ?_⟩
  unfold PoolD.has; rw [if_pos e]; simpa using h
 ·
  rw [if_neg e] at h; cases h
theorem nodesOf_none {d : StoreD} {i : Nat} (h : nodesOf d i = none) : d.pool.tk i = false := by
 unfold nodesOf PoolD.get at h
 by_cases e : d.pool.tk i = true
 ·
  rw [if_pos e] at h; cases h
 ·
  simpa using e
structure Acy (N : Nat → Option BN) (rk : Nat → Nat) : Prop where
 none0 : N 0 = none
 okLo : ∀ i b, N i = some b → okE N b.lo
 okHi : ∀ i b, N i = some b → okE N b.hi
 ltLo : ∀ i b c, N i = some b → N (b.lo / 2) = some c → rk (b.lo / 2) < rk i
 ltHi : ∀ i b c, N i = some b → N (b.hi / 2) = some c → rk (b.hi / 2) < rk i
structure LiveC (d : StoreD) (ext : Nat → Int) : Prop where
 cnt : Cnt d.pool.at_.length (nodesOf d) (cntOf d) ext
 dead : (d.dead : Int) = deadN d.pool.at_.length (nodesOf d) (cntOf d)
 has : ∀ i b, nodesOf d i = some b → i < d.counts.length
theorem sumTo_le {f : Nat → Int} {B : Int} : ∀ (k : Nat), (∀ i, i < k → f i ≤ B) → sumTo k f ≤ k * B
 | 0, _ => by simp [sumTo]
 | k + 1, h => by
   have ih := sumTo_le k (fun i hi => h i (by omega))
   have h1 := h k (by omega)
   have : sumTo (k + 1) f = sumTo k f + f k := rfl
   rw [this]
   have e : ((k + 1 : Nat) : Int) * B = k * B + B := by rw [Int.natCast_add, Int.add_mul]; simp
   omega
theorem from1_le (N : Nat → Option BN) (c : Nat → Nat) (x p : Nat) : from1 N c x p ≤ 2 := by
 unfold from1 edgesOf toE
 split
 ·
  split
  ·
   split <;> split <;> omega
  ·
   omega
 ·
  omega
theorem Cnt.le {k : Nat} {N : Nat → Option BN} {c : Nat → Nat} {ext : Nat → Int} (h : Cnt k N c ext) {x : Nat} {b : BN} (hx : N x = some b) : (c x : Int) ≤ ext x + 2 * k := by
 have h1 := h.eq x b hx
 have h2 := sumTo_le (f := from1 N c x) (B := 2) k (fun i _ => from1_le N c x i)
 omega
theorem cntOf_set {d : StoreD} {x v dd : Nat} (hx : x < d.counts.length) : cntOf (d.cd (d.counts.set x v) dd) = setC (cntOf d) x v := by
 funext i
 unfold cntOf setC StoreD.cd
 dsimp only
 by_cases e : i = x
 ·
  subst e; simp [List.getD, hx]
 ·
  simp only [List.getD, List.getElem?_set, if_neg (Ne.symm e), if_neg e]
section
variable {d : StoreD} {ext : Nat → Int} {x : Nat} {b : BN}
theorem LiveC.congr (h : LiveC d ext) {ext' : Nat → Int} (he : ∀ x b, nodesOf d x = some b → ext' x = ext x) : LiveC d ext' := ⟨h.cnt.congr he, h.dead, h.has⟩
theorem LiveC.moreLive (h : LiveC d ext) (hx : nodesOf d x = some b) (hc : 0 < cntOf d x) : LiveC (d.cd (d.counts.set x (cntOf d x + 1)) d.dead) (bump ext x 1) := by
 have hl := h.has x b hx
 refine ⟨?_, ?_, fun i b' hb => by simpa [StoreD.cd] using h.has i b' hb⟩
 ·
  rw [cntOf_set hl]; exact h.cnt.moreLive hc
 ·
  rw [cntOf_set hl]
  show (d.dead : Int) = deadN d.pool.at_.length (nodesOf d) _
  rw [deadN_setC hx (h.cnt.lt x b hx), ← h.dead, if_neg (by omega), if_neg (by omega)]; omega
theorem LiveC.moreDead (h : LiveC d ext) (hx : nodesOf d x = some b) (hc : cntOf d x = 0) : 0 < d.dead ∧ LiveC (d.cd (d.counts.set x 1) (d.dead - 1)) (addE (addE (bump ext x 1) b.lo (-1)) b.hi (-1)) := by
 have hl := h.has x b hx
 have hk := h.cnt.lt x b hx
 have h1 := deadN_setC (c := cntOf d) (v := 1) hx hk
 rw [if_neg (by omega), if_pos hc, ← h.dead] at h1
 have h2 : 0 ≤ deadN d.pool.at_.length (nodesOf d) (setC (cntOf d) x 1) := sumTo_nonneg _ fun i _ => dead1_nonneg _ _ i
 refine ⟨by omega, ?_, ?_, fun i b' hb => by simpa [StoreD.cd] using h.has i b' hb⟩
 ·
  rw [cntOf_set hl]; exact h.cnt.moreDead hx hc
 ·
  rw [cntOf_set hl]
  show ((d.dead - 1 : Nat) : Int) = deadN d.pool.at_.length (nodesOf d) _
  rw [h1]; omega
theorem LiveC.lessLive (h : LiveC d ext) (hx : nodesOf d x = some b) (hc : 1 < cntOf d x) : LiveC (d.cd (d.counts.set x (cntOf d x - 1)) d.dead) (bump ext x (-1)) := by
 have hl := h.has x b hx
 refine ⟨?_, ?_, fun i b' hb => by simpa [StoreD.cd] using h.has i b' hb⟩
 ·
  rw [cntOf_set hl]; exact h.cnt.lessLive hc
 ·
  rw [cntOf_set hl]
  show (d.dead : Int) = deadN d.pool.at_.length (nodesOf d) _
  rw [deadN_setC hx (h.cnt.lt x b hx), ← h.dead, if_neg (by omega), if_neg (by omega)]; omega
theorem LiveC.lessDies (h : LiveC d ext) (hx : nodesOf d x = some b) (hc : cntOf d x = 1) : LiveC (d.cd (d.counts.set x 0) (d.dead + 1)) (addE (addE (bump ext x (-1)) b.lo 1) b.hi 1) := by
 have hl := h.has x b hx
 have hk := h.cnt.lt x b hx
 have h1 := deadN_setC (c := cntOf d) (v := 0) hx hk
 rw [if_pos rfl, if_neg (by omega), ← h.dead] at h1
 refine ⟨?_, ?_, fun i b' hb => by simpa [StoreD.cd] using h.has i b' hb⟩
 ·
  rw [cntOf_set hl]; exact h.cnt.lessDies hx hc
 ·
  rw [cntOf_set hl]
  show ((d.dead + 1 : Nat) : Int) = deadN d.pool.at_.length (nodesOf d) _
  rw [h1]; omega
end
def RCnt (r : Role) : Prop := r = .store ∨ r = .counts
section
variable {o : Own} {w : World} {sb : Nat} {d : StoreD} {s : StoreW}
theorem StoreIn.countsAt (h : StoreIn o w sb d s) {x : Nat} (hx : x < d.counts.length) : ∃ gc cap, s.vc = .slice (some ⟨gc, 0, none⟩) d.counts.length cap ∧ o gc = some .counts ∧ gc ≠ sb ∧ d.counts.length ≤ cap ∧ cap ≤ maxLen ∧ (∀ k, w.frozen? ⟨gc, k, none⟩ = false) ∧
 (∀ k, k < d.counts.length → w.cell? ⟨gc, k, none⟩ = some (.int .i64 (cntOf d k : Nat))) := by
 obtain ⟨gc, cap, hv, ho, h1, h2⟩ := h.counts.shape (by omega)
 have hr := h.counts
 rw [hv] at hr
 refine ⟨gc, cap, hv, ho, fun e => (by subst e; rw [h.own] at ho; cases ho), h1, h2, hr.frozen, fun k hk => ?_⟩
 rw [hr.cell k (by simpa using hk), List.getElem?_map, List.getElem?_eq_getElem hk]
 simp [nat64, cntOf, List.getD, hk]
theorem StoreIn.keepBut (h : StoreIn o w sb d s) {d' : StoreD} {w' : World} {g : Nat} (hg : o g = some .counts ∨ o g = some .store) (hk : ∀ k, k ≠ g → w'.heap[k]? = w.heap[k]?)
 (hb : ∃ dd cs, w'.heap[sb]? = some (.cells #[.pointer (some ⟨s.lb, 0, none⟩), .pointer (some ⟨s.pb, 0, none⟩), s.vt, s.vc, .int .i64 (dd : Nat)] 145 (0, 0)) ∧ RowR o w' .counts 3 1 s.vc cs.length (cs.map nat64) ∧ d' = d.cd cs dd) : StoreIn o w' sb d' s := by
 obtain ⟨dd, cs, h1, h2, rfl⟩ := hb
 have hne : ∀ {b r}, o b = some r → r ≠ .counts → r ≠ .store → b ≠ g := fun hb hr hr' e => by subst e; rcases hg with hg | hg <;> rw [hb] at hg <;> cases hg <;> contradiction
 exact ⟨h.own, h.ownl, h1, (hk _ (hne h.ownl (by simp) (by simp))).trans h.lev, h.vars.keep (fun b hb => hk _ (hne hb (by simp) (by simp))) (fun _ h => h), h.level.keep (fun b hb => hk _ (hne hb (by simp) (by simp))) (fun _ h => h),
  h.pool.keep (fun b r hb hr => hk _ (hne hb (by rcases hr with rfl | rfl | rfl | rfl <;> simp) (by rcases hr with rfl | rfl | rfl | rfl <;> simp))) (fun _ _ h => h),
  h.tabs.keep (fun b hb => hk _ (hne hb (by simp) (by simp))) (fun _ h => h),
  fun v hv => (h.tab v hv).keep (fun b r hb hr => hk _ (hne hb (by rcases hr with rfl | rfl <;> simp) (by rcases hr with rfl | rfl <;> simp))) (fun _ _ h => h), h2, h.len, h.tlen⟩
theorem StoreIn.setCount (h : StoreIn o w sb d s) {gc cap : Nat} (hv : s.vc = .slice (some ⟨gc, 0, none⟩) d.counts.length cap) (hne : gc ≠ sb) (x v : Nat) : StoreIn o (w.setCell ⟨gc, x, none⟩ (.int .i64 v)) sb (d.cd (d.counts.set x v) d.dead) s := by
 have hr := h.counts
 rw [hv] at hr
 refine h.keepBut (g := gc) (.inl hr.owner) (fun k hk => heap_setCell_ne hk _) ⟨d.dead, _, (heap_setCell_ne (Ne.symm hne) _).trans h.blk, ?_, rfl⟩
 have := hr.stored x (.int .i64 v)
 rw [hv, List.length_set, List.map_set]; exact this
theorem StoreIn.setDead (h : StoreIn o w sb d s) (hlt : OwnLt o w) (dd : Nat) : StoreIn o (w.setCell ⟨sb, 4, none⟩ (.int .i64 dd)) sb (d.cd d.counts dd) s := by
 refine h.keepBut (g := sb) (.inr h.own) (fun k hk => heap_setCell_ne hk _) ⟨dd, d.counts, ?_, ?_, rfl⟩
 ·
  exact heap_setCell_same (k := 4) h.blk _
 ·
  exact h.counts.keep (fun b hb => heap_setCell_ne (fun e => by have e' : b = sb := e; subst e'; rw [h.own] at hb; cases hb) _) (fun _ h => h)
end
open Go.RowKit
theorem results_0 {fn : Func} (h : fn.results = #[]) (tmps : Array Value) (P : Program) (w : World) : (results fn tmps).run P w = .ok (.tuple #[]) w := by simp [results, h]
def CountPost (o : Own) (w : World) (sb : Nat) (d : StoreD) (s : StoreW) (rk : Nat → Nat) (m : Nat) (less : Bool) (ext' : Nat → Int) (e : Ending) (w' : World) : Prop :=
 ∃ cs dd, e = .returned (.tuple #[]) ∧ StoreIn o w' sb (d.cd cs dd) s ∧ LiveC (d.cd cs dd) ext' ∧ cs.length = d.counts.length ∧ (∀ i, m ≤ rk i → cs.getD i 0 = d.counts.getD i 0) ∧ (less = true → ∀ i, cs.getD i 0 ≤ d.counts.getD i 0) ∧ Chg RCnt o o w w'
structure MoreOk (o : Own) (w : World) (sb : Nat) (d : StoreD) (s : StoreW) (rk : Nat → Nat) (ext : Nat → Int) (f : Nat) (m : Nat) : Prop where
 st : StoreIn o w sb d s
 lt : OwnLt o w
 acy : Acy (nodesOf d) rk
 ok : okE (nodesOf d) f
 live : LiveC d ext
 top : ∀ y b, nodesOf d y = some b → ext y + toE f y ≤ 1099511627776
 low : f / 2 = 0 ∨ rk (f / 2) < m
structure LessOk (o : Own) (w : World) (sb : Nat) (d : StoreD) (s : StoreW) (rk : Nat → Nat) (ext : Nat → Int) (f : Nat) (m : Nat) : Prop where
 st : StoreIn o w sb d s
 lt : OwnLt o w
 acy : Acy (nodesOf d) rk
 ok : okE (nodesOf d) f
 live : LiveC d ext
 top : ∀ y b, nodesOf d y = some b → cntOf d y ≤ 2199023255552
 pos : ∀ y b, nodesOf d y = some b → 0 ≤ ext y - toE f y
 low : f / 2 = 0 ∨ rk (f / 2) < m
theorem StoreIn.tk_lt {o : Own} {w : World} {sb : Nat} {d : StoreD} {s : StoreW} (h : StoreIn o w sb d s) {i : Nat} {b : BN} (hi : nodesOf d i = some b) : 0 < i ∧ i < d.pool.at_.length ∧ d.pool.at_.length ≤ 1048577 := by
 have h1 := h.pool.tk_lt (nodesOf_some hi).1
 have h2 := h.pool.top
 have h3 := h.pool.room
 omega
theorem StoreIn.edge_lt {o : Own} {w : World} {sb : Nat} {d : StoreD} {s : StoreW} (h : StoreIn o w sb d s) {f : Nat} (hf : okE (nodesOf d) f) : f < 2097156 := by
 rcases hf with h0 | ⟨b, hb⟩
 ·
  omega
 ·
  have := h.tk_lt hb; omega
theorem addE_bump {ext : Nat → Int} {f : Nat} : addE ext f 1 = bump ext (f / 2) 1 := by
 funext y
 unfold addE bump toE
 by_cases e : f / 2 = y
 ·
  subst e; simp
 ·
  simp [e, Ne.symm e]
theorem addE_bump' {ext : Nat → Int} {f : Nat} : addE ext f (-1) = bump ext (f / 2) (-1) := by
 funext y
 unfold addE bump toE
 by_cases e : f / 2 = y
 ·
  subst e; simp
 ·
  simp [e, Ne.symm e]
set_option maxRecDepth 100000 in
set_option maxHeartbeats 800000 in
theorem more_live {o : Own} {w : World} {sb : Nat} {d : StoreD} {s : StoreW} {rk : Nat → Nat} {ext : Nat → Int} {f m : Nat} (h : MoreOk o w sb d s rk ext f m) {b : BN} (hx : nodesOf d (enode f) = some b) (hc : 0 < cntOf d (enode f)) :
 Calls Tryz.prog 139 #[.pointer (some ⟨sb, 0, none⟩), .int .i64 f] w (CountPost o w sb d s rk m false (addE ext f 1)) := by
 have hfl := h.st.edge_lt h.ok
 have hf : f < eMax := by unfold eMax; omega
 have hxl := h.live.has _ _ hx
 obtain ⟨gc, cap, hv, hgo, hne, hlc, hcm, hfz, hcell⟩ := h.st.countsAt hxl
 obtain ⟨c0, c1, c2, c3, c4, f0⟩ := cells5 h.st.blk
 rw [hv] at c3
 have hcx := hcell _ hxl
 have hfx := hfz (enode f)
 have hcb := h.live.cnt.le hx
 have htop := h.top _ _ hx
 rw [show toE f (enode f) = 1 from toE_hit f] at htop
 have htk' := h.st.tk_lt hx
 have htk := h.st.tk_lt hx
 have HLOW : Hid (∀ i, m ≤ rk i → (d.counts.set (enode f) (cntOf d (enode f) + 1)).getD i 0 = d.counts.getD i 0) := fun i hi => by
  have : enode f ≠ i := by
   rintro rfl
   rcases h.low with h0 | h0
   ·
    have : enode f = 0 := h0
    omega
   ·
    have e : f / 2 = enode f := rfl
    rw [e] at h0; omega
  simp only [List.getD, List.getElem?_set, if_neg this]
 have HLE : Hid (false = true → ∀ i, (d.counts.set (enode f) (cntOf d (enode f) + 1)).getD i 0 ≤ d.counts.getD i 0) := fun e => (by cases e)
 have HPOST : Hid (StoreIn o (w.setCell ⟨gc, enode f, none⟩ (.int .i64 ((cntOf d (enode f) + 1 : Nat) : Int))) sb (d.cd (d.counts.set (enode f) (cntOf d (enode f) + 1)) d.dead) s ∧ LiveC (d.cd (d.counts.set (enode f) (cntOf d (enode f) + 1)) d.dead) (addE ext f 1)) :=
  ⟨h.st.setCount hv hne _ _, by rw [addE_bump]; exact h.live.moreLive hx hc⟩
 have HCHG := Lib.hid ((Chg.refl RCnt o w).setCell (p := ⟨gc, enode f, none⟩) hgo (.inr rfl) (.int .i64 ((cntOf d (enode f) + 1 : Nat) : Int)))
 rw [show ((cntOf d (enode f) + 1 : Nat) : Int) = (cntOf d (enode f) : Nat) + 1 from by omega] at HPOST HCHG
 have hid0 : ((enode f : Nat) : Int) ≠ 0 := by have := htk.1; omega
 have HN := Lib.hid (fun W => node_any f W hf)
 have hne' : sb ≠ gc := fun e => hne e.symm
 have hxl' : ((enode f : Nat) : Int) < d.counts.length := by omega
 obtain ⟨k, hk⟩ : ∃ k, k = enode f := ⟨_, rfl⟩
 obtain ⟨c, hcc⟩ : ∃ c, c = cntOf d (enode f) := ⟨_, rfl⟩
 have hcb1 : c ≤ 2199023255552 := by omega
 have hc1 : 0 < c := by omega
 rw [← hcc] at hcx HPOST HCHG HLOW HLE
 rw [← hk] at hcx hfx HPOST HCHG hid0 HN hxl' HLOW HLE
 have hk0 : ((k : Int) == 0) = false := by simpa using hid0
 have hk1 : 0 < k := by omega
 have hcm' : d.counts.length ≤ 9223372036854775807 := by unfold maxLen at hcm; omega
 have hc3 : (1 : Int) < (c : Int) + 1 := by omega
 clear h hx hc hv hgo hlc hcm hfz hcell hk hcc htop htk hid0 hxl hfl hf
 go_enter Tryz.func139, Tryz.ntmps139
 go_wp2_with fail
 refine (HN.out _).mono ?_
 rintro x w' ⟨rfl, rfl⟩
 go_wp2_with fail
 refine bodyPost_ret (results_0 rfl _ _ _) rfl ⟨_, _, rfl, HPOST.out.1, HPOST.out.2, by simp, HLOW.out, (fun e => by first | exact absurd e (by decide) | exact HLE.out (by simp)), HCHG.out⟩
theorem more_none {o : Own} {w : World} {sb : Nat} {d : StoreD} {s : StoreW} {rk : Nat → Nat} {ext : Nat → Int} {f m : Nat} (h : MoreOk o w sb d s rk ext f m) (hx : enode f = 0) :
 Calls Tryz.prog 139 #[.pointer (some ⟨sb, 0, none⟩), .int .i64 f] w (CountPost o w sb d s rk m false (addE ext f 1)) := by
 have hf : f < eMax := by have := h.st.edge_lt h.ok; unfold eMax; omega
 have HPOST : Hid (CountPost o w sb d s rk m false (addE ext f 1) (.returned (.tuple #[])) w) :=
  ⟨d.counts, d.dead, rfl, h.st, h.live.congr (fun y b hb => by
   have : y ≠ 0 := by rintro rfl; rw [h.acy.none0] at hb; cases hb
   have e : f / 2 = 0 := hx
   simp [addE, toE, e, Ne.symm this]), rfl, fun _ _ => rfl, fun _ _ => Nat.le_refl _, Chg.refl _ _ _⟩
 have HN := Lib.hid (fun W => node_any f W hf)
 rw [hx] at HN
 clear h hx hf
 go_enter Tryz.func139, Tryz.ntmps139
 go_wp2_with fail
 refine (HN.out _).mono ?_
 rintro x w' ⟨rfl, rfl⟩
 go_wp2_with fail
 refine bodyPost_ret (results_0 rfl _ _ _) rfl HPOST.out
set_option maxRecDepth 100000 in
set_option maxHeartbeats 1600000 in
theorem more_dead {o : Own} {w : World} {sb : Nat} {d : StoreD} {s : StoreW} {rk : Nat → Nat} {ext : Nat → Int} {f m : Nat} (h : MoreOk o w sb d s rk ext f (m + 1)) {b : BN} (hx : nodesOf d (enode f) = some b) (hc : cntOf d (enode f) = 0)
 (ih : ∀ w d ext f, MoreOk o w sb d s rk ext f m → Calls Tryz.prog 139 #[.pointer (some ⟨sb, 0, none⟩), .int .i64 f] w (CountPost o w sb d s rk m false (addE ext f 1))) :
 Calls Tryz.prog 139 #[.pointer (some ⟨sb, 0, none⟩), .int .i64 f] w (CountPost o w sb d s rk (m + 1) false (addE ext f 1)) := by
 have hfl := h.st.edge_lt h.ok
 have hf : f < eMax := by unfold eMax; omega
 have hxl := h.live.has _ _ hx
 obtain ⟨gc, cap, hv, hgo, hne, hlc, hcm, hfz, hcell⟩ := h.st.countsAt hxl
 obtain ⟨c0, c1, c2, c3, c4, f0⟩ := cells5 h.st.blk
 rw [hv] at c3
 have hcx := hcell _ hxl
 have hfx := hfz (enode f)
 have htk := h.st.tk_lt hx
 obtain ⟨hdp, hlv⟩ := h.live.moreDead hx hc
 have hdb : d.dead ≤ 1048577 := by
  have h1 := h.live.dead
  have h2 := sumTo_le (f := dead1 (nodesOf d) (cntOf d)) (B := 1) d.pool.at_.length (fun i _ => by unfold dead1; split <;> first | omega | (split <;> omega))
  have h3 : deadN d.pool.at_.length (nodesOf d) (cntOf d) = sumTo d.pool.at_.length (dead1 (nodesOf d) (cntOf d)) := rfl
  omega
 have HLT := Lib.hid h.lt
 have HLOW : ∀ i, m + 1 ≤ rk i → (d.counts.set (enode f) 1).getD i 0 = d.counts.getD i 0 := fun i hi => by
  have : enode f ≠ i := by
   rintro rfl
   rcases h.low with h0 | h0
   ·
    have : enode f = 0 := h0
    omega
   ·
    have e : f / 2 = enode f := rfl
    rw [e] at h0; omega
  simp only [List.getD, List.getElem?_set, if_neg this]
 have HLE : false = true → ∀ i, (d.counts.set (enode f) 1).getD i 0 ≤ d.counts.getD i 0 := fun e => (by cases e)
 have hrk : rk (enode f) ≤ m := by
  rcases h.low with h0 | h0
  ·
   have : enode f = 0 := h0
   omega
  ·
   have e : f / 2 = enode f := rfl
   rw [e] at h0; omega
 have hlow : ∀ e, (okE (nodesOf d) e) → (∀ c, nodesOf d (e / 2) = some c → rk (e / 2) < rk (enode f)) → e / 2 = 0 ∨ rk (e / 2) < m := fun e ho hr => by
  rcases ho with h0 | ⟨c, hc⟩
  ·
   exact .inl h0
  ·
   exact .inr (by have := hr c hc; omega)
 have st1 : StoreIn o (w.setCell ⟨gc, enode f, none⟩ (.int .i64 ((1 : Nat) : Int))) sb (d.cd (d.counts.set (enode f) 1) d.dead) s := h.st.setCount hv hne _ _
 have hlt1 : OwnLt o (w.setCell ⟨gc, enode f, none⟩ (.int .i64 ((1 : Nat) : Int))) := h.lt.mono (by simp [World.setCell])
 have st2 : StoreIn o ((w.setCell ⟨gc, enode f, none⟩ (.int .i64 ((1 : Nat) : Int))).setCell ⟨sb, 4, none⟩ (.int .i64 ((d.dead - 1 : Nat) : Int))) sb (d.cd (d.counts.set (enode f) 1) (d.dead - 1)) s := st1.setDead hlt1 _
 have HCHG := Lib.hid (((Chg.refl RCnt o w).setCell (p := ⟨gc, enode f, none⟩) hgo (.inr rfl) (.int .i64 ((1 : Nat) : Int))).setCell (p := ⟨sb, 4, none⟩) h.st.own (.inl rfl) (.int .i64 ((d.dead - 1 : Nat) : Int)))
 have hlt2 : OwnLt o ((w.setCell ⟨gc, enode f, none⟩ (.int .i64 ((1 : Nat) : Int))).setCell ⟨sb, 4, none⟩ (.int .i64 ((d.dead - 1 : Nat) : Int))) := hlt1.mono (by simp [World.setCell])
 have hpa := nodesOf_some hx
 have hbN : ∃ N, N = d.pool.has (enode f) ∧ N.lo = b.lo ∧ N.hi = b.hi := ⟨_, rfl, by rw [← hpa.2.2]; rfl, by rw [← hpa.2.2]; rfl⟩
 have hex : addE (addE (addE (addE (bump ext (enode f) 1) b.lo (-1)) b.hi (-1)) b.lo 1) b.hi 1 = addE ext f 1 := by
  funext y
  have h1 := congrFun (addE_bump (ext := ext) (f := f)) y
  have h2 : enode f = f / 2 := rfl
  rw [h2, h1]
  simp only [addE]
  omega
 obtain ⟨W2, hW2⟩ : ∃ W, W = (w.setCell ⟨gc, enode f, none⟩ (.int .i64 ((1 : Nat) : Int))).setCell ⟨sb, 4, none⟩ (.int .i64 ((d.dead - 1 : Nat) : Int)) := ⟨_, rfl⟩
 rw [← hW2] at st2 HCHG hlt2
 have HLT2 := Lib.hid hlt2
 have HPA : Hid (∀ W : World, Below W2.heap.size W2 W → Calls Tryz.prog 123 #[.pointer (some ⟨s.pb, 0, none⟩), .int .i64 (enode f : Nat)] W fun x w' => x = .returned (.tuple #[rnAgg (d.pool.has (enode f)), .bool (d.pool.tk (enode f))]) ∧ Below W.heap.size W w') :=
  Lib.hid (fun W hb => poolAt_any o s.pb d.pool (enode f) W (st2.pool.below hb hlt2) (hlt2.mono hb.size))
 have HC1 : Hid (∀ W : World, Below W2.heap.size W2 W → W.cell? ⟨sb, 1, none⟩ = some (.pointer (some ⟨s.pb, 0, none⟩))) := Lib.hid (fun W hb => (cells5 (st2.below hlt2 hb).blk).2.1)
 have HLO : Hid (∀ W : World, Below W2.heap.size W2 W → Calls Tryz.prog 139 #[.pointer (some ⟨sb, 0, none⟩), .int .i64 (b.lo : Nat)] W (CountPost o W sb (d.cd (d.counts.set (enode f) 1) (d.dead - 1)) s rk m false (addE (addE (addE (bump ext (enode f) 1) b.lo (-1)) b.hi (-1)) b.lo 1))) :=
  Lib.hid (fun W hb => ih W _ _ b.lo ⟨st2.below hlt2 hb, hlt2.mono hb.size, h.acy, h.acy.okLo _ _ hx, hlv, fun y q hq => by
   have h1 := h.top y q hq
   have h2 : toE f y = if enode f = y then 1 else 0 := rfl
   have h3 := toE_nonneg b.lo y
   have h4 := toE_nonneg b.hi y
   simp only [addE, bump]
   by_cases e : y = enode f
   ·
    rw [if_pos e.symm] at h2; rw [if_pos e]; omega
   ·
    rw [if_neg (Ne.symm e)] at h2; rw [if_neg e]; omega, hlow b.lo (h.acy.okLo _ _ hx) (fun c hc => h.acy.ltLo _ _ c hx hc)⟩)
 have HHI : Hid (∀ (W : World) (cs : List Nat) (dd : Nat), StoreIn o W sb ((d.cd (d.counts.set (enode f) 1) (d.dead - 1)).cd cs dd) s → LiveC ((d.cd (d.counts.set (enode f) 1) (d.dead - 1)).cd cs dd) (addE (addE (addE (bump ext (enode f) 1) b.lo (-1)) b.hi (-1)) b.lo 1) → (false = true → ∀ i, cs.getD i 0 ≤ (d.counts.set (enode f) 1).getD i 0) → Chg RCnt o o w W →
  Calls Tryz.prog 139 #[.pointer (some ⟨sb, 0, none⟩), .int .i64 (b.hi : Nat)] W (CountPost o W sb ((d.cd (d.counts.set (enode f) 1) (d.dead - 1)).cd cs dd) s rk m false (addE ext f 1))) :=
  Lib.hid (fun W cs dd hs hl hle hch => by
   rw [← hex]
   exact ih W _ _ b.hi ⟨hs, HLT.out.mono hch.size, h.acy, h.acy.okHi _ _ hx, hl, fun y q hq => by
    have h1 := h.top y q hq
    have h2 : toE f y = if enode f = y then 1 else 0 := rfl
    have h3 := toE_nonneg b.lo y
    have h4 := toE_nonneg b.hi y
    simp only [addE, bump]
    by_cases e : y = enode f
    ·
     rw [if_pos e.symm] at h2; rw [if_pos e]; omega
    ·
     rw [if_neg (Ne.symm e)] at h2; rw [if_neg e]; omega, hlow b.hi (h.acy.okHi _ _ hx) (fun c hc => h.acy.ltHi _ _ c hx hc)⟩)
 have HEND : Hid (∀ (W : World) (cs : List Nat) (dd : Nat), StoreIn o W sb (d.cd cs dd) s → LiveC (d.cd cs dd) (addE ext f 1) → cs.length = (d.counts.set (enode f) 1).length → (∀ i, m + 1 ≤ rk i → cs.getD i 0 = (d.counts.set (enode f) 1).getD i 0) → (false = true → ∀ i, cs.getD i 0 ≤ (d.counts.set (enode f) 1).getD i 0) → Chg RCnt o o w W →
  CountPost o w sb d s rk (m + 1) false (addE ext f 1) (.returned (.tuple #[])) W) :=
  fun W cs dd hs hl hlen hlw hle hch => ⟨cs, dd, rfl, hs, hl, by rw [hlen]; simp, fun i hi => (hlw i hi).trans (HLOW i hi), fun e i => Nat.le_trans (hle e i) (HLE e i), hch⟩
 have HWE : Hid (W2 = (w.setCell ⟨gc, enode f, none⟩ (.int .i64 1)).setCell ⟨sb, 4, none⟩ (.int .i64 ((d.dead : Int) - 1))) := by
  show _ = _
  rw [hW2, show ((d.dead - 1 : Nat) : Int) = (d.dead : Int) - 1 from by omega]; rfl
 have hid0 : ((enode f : Nat) : Int) ≠ 0 := by have := htk.1; omega
 have HN := Lib.hid (fun W => node_any f W hf)
 have hne' : sb ≠ gc := fun e => hne e.symm
 have hxl' : ((enode f : Nat) : Int) < d.counts.length := by omega
 obtain ⟨N, hN, hNlo, hNhi⟩ := hbN
 rw [← hN] at HPA
 rw [← hNlo, ← hNhi] at HLO HHI
 obtain ⟨B, hB⟩ : ∃ B, B = d.pool.tk (enode f) := ⟨_, rfl⟩
 rw [← hB] at HPA
 rw [hc] at hcx
 obtain ⟨k, hk⟩ : ∃ k, k = enode f := ⟨_, rfl⟩
 rw [← hk] at hcx hfx HPA hid0 HN hxl' HWE
 have hk0 : ((k : Int) == 0) = false := by simpa using hid0
 have hk1 : 0 < k := by omega
 have hcm' : d.counts.length ≤ 9223372036854775807 := by unfold maxLen at hcm; omega
 obtain ⟨dn, hdn⟩ : ∃ n, n = d.dead := ⟨_, rfl⟩
 rw [← hdn] at c4 hdb HWE hdp
 clear ih h hx hc hv hgo hlc hcm hfz hcell htk hid0 hxl hfl hf hlv st1 st2 hlt1 hlt2 HLOW HLE hrk hlow hW2 hex hN hNlo hNhi hB hdn hpa hk
 go_enter Tryz.func139, Tryz.ntmps139
 go_wp2_with fail
 refine (HN.out _).mono ?_
 rintro x w' ⟨rfl, rfl⟩
 go_wp2_with fail
 rw [← HWE.out]
 refine (HPA.out W2 (Below.refl _ _)).mono ?_
 rintro x v2 ⟨rfl, hb2⟩
 unfold rnAgg
 clear HWE c0 c1 c2 c3 c4 f0 hcx hfx HN hne hne' hxl' hk0 hk1 hcm' hdb hdp
 go_wp2_with fail
 obtain ⟨W3, hW3⟩ : ∃ W, W = v2.alloc (.cells #[.int .i64 N.id, .int .i64 N.v, .int .i64 N.lo, .int .i64 N.hi, .int .i64 N.refs] 157) := ⟨_, rfl⟩
 obtain ⟨bx, hbx⟩ : ∃ bx, bx = v2.heap.size := ⟨_, rfl⟩
 have hge : W2.heap.size ≤ bx := by rw [hbx]; exact hb2.size
 have hbf : Below W2.heap.size W2 W3 := by rw [hW3]; exact hb2.alloc hb2.size _
 have hxf : W3.heap[bx]? = some (.cells #[.int .i64 N.id, .int .i64 N.v, .int .i64 N.lo, .int .i64 N.hi, .int .i64 N.refs] 157 (0, 0)) := by rw [hW3, hbx]; exact heap_alloc_new v2 _
 rw [← hW3]
 rw [← hbx]
 clear hW3 hbx hb2 HPA HC1
 refine (HLO.out _ hbf).mono ?_
 rintro x w1 ⟨cs1, dd1, rfl, st1, lv1, len1, low1, le1, chg1⟩
 have hxg := (chg1.alien (Array.getElem?_eq_some_iff.1 hxf).1 (HLT2.out.none hge)).trans hxf
 obtain ⟨z0, z1, z2, z3, z4, zz⟩ := cells5 hxg
 have HS1 := Lib.hid st1
 have HL1 := Lib.hid lv1
 have HE1 := Lib.hid len1
 have HW1 := Lib.hid low1
 have HI1 := Lib.hid le1
 have HC3 := Lib.hid ((HCHG.out.trans (Chg.of_below hbf RCnt o)).trans chg1)
 clear st1 lv1 len1 low1 le1 chg1 hxf hxg hbf
 go_wp2_with fail
 refine (HHI.out w1 cs1 dd1 HS1.out HL1.out (fun e => by first | exact absurd e (by decide) | exact HI1.out (by simp)) HC3.out).mono ?_
 rintro x w2 ⟨cs2, dd2, rfl, st2, lv2, len2, low2, le2, chg2⟩
 have HFIN := Lib.hid (HEND.out w2 cs2 dd2 st2 lv2 (len2.trans HE1.out) (fun i hi => (low2 i (by omega)).trans (HW1.out i (by omega))) (fun e i => by first | exact absurd e (by decide) | exact Nat.le_trans (le2 (by simp) i) (HI1.out (by simp) i)) (HC3.out.trans chg2))
 clear st2 lv2 len2 low2 le2 chg2
 go_wp2_with fail
 refine bodyPost_end (results_0 rfl _ _ _) rfl HFIN.out
theorem storeMore_any (o : Own) (sb : Nat) (s : StoreW) (rk : Nat → Nat) : ∀ (m : Nat) (w : World) (d : StoreD) (ext : Nat → Int) (f : Nat), MoreOk o w sb d s rk ext f m →
 Calls Tryz.prog 139 #[.pointer (some ⟨sb, 0, none⟩), .int .i64 f] w (CountPost o w sb d s rk m false (addE ext f 1))
 | m, w, d, ext, f, h => by
   by_cases h0 : enode f = 0
   ·
    exact more_none h h0
   ·
    obtain ⟨b, hx⟩ : ∃ b, nodesOf d (enode f) = some b := h.ok.resolve_left h0
    by_cases hc : 0 < cntOf d (enode f)
    ·
     exact more_live h hx hc
    ·
     cases m with
     | zero => exact absurd (h.low.resolve_left h0) (by omega)
     | succ m => exact more_dead h hx (by omega) (storeMore_any o sb s rk m)
open Go.RowKit
set_option maxRecDepth 100000 in
set_option maxHeartbeats 800000 in
theorem less_live {o : Own} {w : World} {sb : Nat} {d : StoreD} {s : StoreW} {rk : Nat → Nat} {ext : Nat → Int} {f m : Nat} (h : LessOk o w sb d s rk ext f m) {b : BN} (hx : nodesOf d (enode f) = some b) (hc : 1 < cntOf d (enode f)) :
 Calls Tryz.prog 142 #[.pointer (some ⟨sb, 0, none⟩), .int .i64 f] w (CountPost o w sb d s rk m true (addE ext f (-1))) := by
 have hfl := h.st.edge_lt h.ok
 have hf : f < eMax := by unfold eMax; omega
 have hxl := h.live.has _ _ hx
 obtain ⟨gc, cap, hv, hgo, hne, hlc, hcm, hfz, hcell⟩ := h.st.countsAt hxl
 obtain ⟨c0, c1, c2, c3, c4, f0⟩ := cells5 h.st.blk
 rw [hv] at c3
 have hcx := hcell _ hxl
 have hfx := hfz (enode f)
 have htop := h.top (enode f) _ hx
 have htk := h.st.tk_lt hx
 have HLOW : Hid (∀ i, m ≤ rk i → (d.counts.set (enode f) (cntOf d (enode f) - 1)).getD i 0 = d.counts.getD i 0) := fun i hi => by
  have : enode f ≠ i := by
   rintro rfl
   rcases h.low with h0 | h0
   ·
    have : enode f = 0 := h0
    omega
   ·
    have e : f / 2 = enode f := rfl
    rw [e] at h0; omega
  simp only [List.getD, List.getElem?_set, if_neg this]
 have HLE : Hid (true = true → ∀ i, (d.counts.set (enode f) (cntOf d (enode f) - 1)).getD i 0 ≤ d.counts.getD i 0) := fun _ i => by
  by_cases e : enode f = i
  ·
   subst e; simp only [List.getD, List.getElem?_set]; simp [hxl, cntOf, List.getD]
  ·
   simp only [List.getD, List.getElem?_set, if_neg e]; omega
 have HPOST : Hid (StoreIn o (w.setCell ⟨gc, enode f, none⟩ (.int .i64 ((cntOf d (enode f) - 1 : Nat) : Int))) sb (d.cd (d.counts.set (enode f) (cntOf d (enode f) - 1)) d.dead) s ∧ LiveC (d.cd (d.counts.set (enode f) (cntOf d (enode f) - 1)) d.dead) (addE ext f (-1))) :=
  ⟨h.st.setCount hv hne _ _, by rw [addE_bump']; exact h.live.lessLive hx hc⟩
 have HCHG := Lib.hid ((Chg.refl RCnt o w).setCell (p := ⟨gc, enode f, none⟩) hgo (.inr rfl) (.int .i64 ((cntOf d (enode f) - 1 : Nat) : Int)))
 rw [show ((cntOf d (enode f) - 1 : Nat) : Int) = (cntOf d (enode f) : Nat) - 1 from by omega] at HPOST HCHG
 have hid0 : ((enode f : Nat) : Int) ≠ 0 := by have := htk.1; omega
 have HN := Lib.hid (fun W => node_any f W hf)
 have hne' : sb ≠ gc := fun e => hne e.symm
 have hxl' : ((enode f : Nat) : Int) < d.counts.length := by omega
 obtain ⟨k, hk⟩ : ∃ k, k = enode f := ⟨_, rfl⟩
 obtain ⟨c, hcc⟩ : ∃ c, c = cntOf d (enode f) := ⟨_, rfl⟩
 have hcb1 : c ≤ 2199023255552 := by omega
 have hc1 : 1 < c := by omega
 rw [← hcc] at hcx HPOST HCHG HLOW HLE
 rw [← hk] at hcx hfx HPOST HCHG hid0 HN hxl' HLOW HLE
 have hk0 : ((k : Int) == 0) = false := by simpa using hid0
 have hk1 : 0 < k := by omega
 have hcm' : d.counts.length ≤ 9223372036854775807 := by unfold maxLen at hcm; omega
 have hc3 : (1 : Int) < (c : Int) := by omega
 clear h hx hc hv hgo hlc hcm hfz hcell hk hcc htop htk hid0 hxl hfl hf
 go_enter Tryz.func142, Tryz.ntmps142
 go_wp2_with fail
 refine (HN.out _).mono ?_
 rintro x w' ⟨rfl, rfl⟩
 go_wp2_with fail
 refine bodyPost_ret (results_0 rfl _ _ _) rfl ⟨_, _, rfl, HPOST.out.1, HPOST.out.2, by simp, HLOW.out, (fun e => by first | exact absurd e (by decide) | exact HLE.out (by simp)), HCHG.out⟩
theorem less_none {o : Own} {w : World} {sb : Nat} {d : StoreD} {s : StoreW} {rk : Nat → Nat} {ext : Nat → Int} {f m : Nat} (h : LessOk o w sb d s rk ext f m) (hx : enode f = 0) :
 Calls Tryz.prog 142 #[.pointer (some ⟨sb, 0, none⟩), .int .i64 f] w (CountPost o w sb d s rk m true (addE ext f (-1))) := by
 have hf : f < eMax := by have := h.st.edge_lt h.ok; unfold eMax; omega
 have HPOST : Hid (CountPost o w sb d s rk m true (addE ext f (-1)) (.returned (.tuple #[])) w) :=
  ⟨d.counts, d.dead, rfl, h.st, h.live.congr (fun y b hb => by
   have : y ≠ 0 := by rintro rfl; rw [h.acy.none0] at hb; cases hb
   have e : f / 2 = 0 := hx
   simp [addE, toE, e, Ne.symm this]), rfl, fun _ _ => rfl, fun _ _ => Nat.le_refl _, Chg.refl _ _ _⟩
 have HN := Lib.hid (fun W => node_any f W hf)
 rw [hx] at HN
 clear h hx hf
 go_enter Tryz.func142, Tryz.ntmps142
 go_wp2_with fail
 refine (HN.out _).mono ?_
 rintro x w' ⟨rfl, rfl⟩
 go_wp2_with fail
 refine bodyPost_ret (results_0 rfl _ _ _) rfl HPOST.out
set_option maxRecDepth 100000 in
set_option maxHeartbeats 1600000 in
theorem less_dead {o : Own} {w : World} {sb : Nat} {d : StoreD} {s : StoreW} {rk : Nat → Nat} {ext : Nat → Int} {f m : Nat} (h : LessOk o w sb d s rk ext f (m + 1)) {b : BN} (hx : nodesOf d (enode f) = some b) (hc : cntOf d (enode f) = 1)
 (ih : ∀ w d ext f, LessOk o w sb d s rk ext f m → Calls Tryz.prog 142 #[.pointer (some ⟨sb, 0, none⟩), .int .i64 f] w (CountPost o w sb d s rk m true (addE ext f (-1)))) :
 Calls Tryz.prog 142 #[.pointer (some ⟨sb, 0, none⟩), .int .i64 f] w (CountPost o w sb d s rk (m + 1) true (addE ext f (-1))) := by
 have hfl := h.st.edge_lt h.ok
 have hf : f < eMax := by unfold eMax; omega
 have hxl := h.live.has _ _ hx
 obtain ⟨gc, cap, hv, hgo, hne, hlc, hcm, hfz, hcell⟩ := h.st.countsAt hxl
 obtain ⟨c0, c1, c2, c3, c4, f0⟩ := cells5 h.st.blk
 rw [hv] at c3
 have hcx := hcell _ hxl
 have hfx := hfz (enode f)
 have htk := h.st.tk_lt hx
 have hlv := h.live.lessDies hx hc
 have hdb : d.dead ≤ 1048577 := by
  have h1 := h.live.dead
  have h2 := sumTo_le (f := dead1 (nodesOf d) (cntOf d)) (B := 1) d.pool.at_.length (fun i _ => by unfold dead1; split <;> first | omega | (split <;> omega))
  have h3 : deadN d.pool.at_.length (nodesOf d) (cntOf d) = sumTo d.pool.at_.length (dead1 (nodesOf d) (cntOf d)) := rfl
  omega
 have HLT := Lib.hid h.lt
 have HLOW : ∀ i, m + 1 ≤ rk i → (d.counts.set (enode f) 0).getD i 0 = d.counts.getD i 0 := fun i hi => by
  have : enode f ≠ i := by
   rintro rfl
   rcases h.low with h0 | h0
   ·
    have : enode f = 0 := h0
    omega
   ·
    have e : f / 2 = enode f := rfl
    rw [e] at h0; omega
  simp only [List.getD, List.getElem?_set, if_neg this]
 have HLE : true = true → ∀ i, (d.counts.set (enode f) 0).getD i 0 ≤ d.counts.getD i 0 := fun _ i => by
  by_cases e : enode f = i
  ·
   subst e; simp only [List.getD, List.getElem?_set]; simp [hxl]
  ·
   simp only [List.getD, List.getElem?_set, if_neg e]; omega
 have hrk : rk (enode f) ≤ m := by
  rcases h.low with h0 | h0
  ·
   have : enode f = 0 := h0
   omega
  ·
   have e : f / 2 = enode f := rfl
   rw [e] at h0; omega
 have hlow : ∀ e, (okE (nodesOf d) e) → (∀ c, nodesOf d (e / 2) = some c → rk (e / 2) < rk (enode f)) → e / 2 = 0 ∨ rk (e / 2) < m := fun e ho hr => by
  rcases ho with h0 | ⟨c, hc⟩
  ·
   exact .inl h0
  ·
   exact .inr (by have := hr c hc; omega)
 have st1 : StoreIn o (w.setCell ⟨gc, enode f, none⟩ (.int .i64 ((0 : Nat) : Int))) sb (d.cd (d.counts.set (enode f) 0) d.dead) s := h.st.setCount hv hne _ _
 have hlt1 : OwnLt o (w.setCell ⟨gc, enode f, none⟩ (.int .i64 ((0 : Nat) : Int))) := h.lt.mono (by simp [World.setCell])
 have st2 : StoreIn o ((w.setCell ⟨gc, enode f, none⟩ (.int .i64 ((0 : Nat) : Int))).setCell ⟨sb, 4, none⟩ (.int .i64 ((d.dead + 1 : Nat) : Int))) sb (d.cd (d.counts.set (enode f) 0) (d.dead + 1)) s := st1.setDead hlt1 _
 have HCHG := Lib.hid (((Chg.refl RCnt o w).setCell (p := ⟨gc, enode f, none⟩) hgo (.inr rfl) (.int .i64 ((0 : Nat) : Int))).setCell (p := ⟨sb, 4, none⟩) h.st.own (.inl rfl) (.int .i64 ((d.dead + 1 : Nat) : Int)))
 have hlt2 : OwnLt o ((w.setCell ⟨gc, enode f, none⟩ (.int .i64 ((0 : Nat) : Int))).setCell ⟨sb, 4, none⟩ (.int .i64 ((d.dead + 1 : Nat) : Int))) := hlt1.mono (by simp [World.setCell])
 have hpa := nodesOf_some hx
 have hbN : ∃ N, N = d.pool.has (enode f) ∧ N.lo = b.lo ∧ N.hi = b.hi := ⟨_, rfl, by rw [← hpa.2.2]; rfl, by rw [← hpa.2.2]; rfl⟩
 have hex : addE (addE (addE (addE (bump ext (enode f) (-1)) b.lo 1) b.hi 1) b.lo (-1)) b.hi (-1) = addE ext f (-1) := by
  funext y
  have h1 := congrFun (addE_bump' (ext := ext) (f := f)) y
  have h2 : enode f = f / 2 := rfl
  rw [h2, h1]
  simp only [addE]
  omega
 obtain ⟨W2, hW2⟩ : ∃ W, W = (w.setCell ⟨gc, enode f, none⟩ (.int .i64 ((0 : Nat) : Int))).setCell ⟨sb, 4, none⟩ (.int .i64 ((d.dead + 1 : Nat) : Int)) := ⟨_, rfl⟩
 rw [← hW2] at st2 HCHG hlt2
 have HLT2 := Lib.hid hlt2
 have HPA : Hid (∀ W : World, Below W2.heap.size W2 W → Calls Tryz.prog 123 #[.pointer (some ⟨s.pb, 0, none⟩), .int .i64 (enode f : Nat)] W fun x w' => x = .returned (.tuple #[rnAgg (d.pool.has (enode f)), .bool (d.pool.tk (enode f))]) ∧ Below W.heap.size W w') :=
  Lib.hid (fun W hb => poolAt_any o s.pb d.pool (enode f) W (st2.pool.below hb hlt2) (hlt2.mono hb.size))
 have HC1 : Hid (∀ W : World, Below W2.heap.size W2 W → W.cell? ⟨sb, 1, none⟩ = some (.pointer (some ⟨s.pb, 0, none⟩))) := Lib.hid (fun W hb => (cells5 (st2.below hlt2 hb).blk).2.1)
 have HLO : Hid (∀ W : World, Below W2.heap.size W2 W → Calls Tryz.prog 142 #[.pointer (some ⟨sb, 0, none⟩), .int .i64 (b.lo : Nat)] W (CountPost o W sb (d.cd (d.counts.set (enode f) 0) (d.dead + 1)) s rk m true (addE (addE (addE (bump ext (enode f) (-1)) b.lo 1) b.hi 1) b.lo (-1)))) :=
  Lib.hid (fun W hb => ih W _ _ b.lo ⟨st2.below hlt2 hb, hlt2.mono hb.size, h.acy, h.acy.okLo _ _ hx, hlv, fun y q hq => Nat.le_trans (HLE rfl y) (h.top y q hq), fun y q hq => by
   have h1 := h.pos y q hq
   have h2 : toE f y = if enode f = y then 1 else 0 := rfl
   have h3 := toE_nonneg b.lo y
   have h4 := toE_nonneg b.hi y
   simp only [addE, bump]
   by_cases e : y = enode f
   ·
    rw [if_pos e.symm] at h2; rw [if_pos e]; omega
   ·
    rw [if_neg (Ne.symm e)] at h2; rw [if_neg e]; omega, hlow b.lo (h.acy.okLo _ _ hx) (fun c hc => h.acy.ltLo _ _ c hx hc)⟩)
 have HHI : Hid (∀ (W : World) (cs : List Nat) (dd : Nat), StoreIn o W sb ((d.cd (d.counts.set (enode f) 0) (d.dead + 1)).cd cs dd) s → LiveC ((d.cd (d.counts.set (enode f) 0) (d.dead + 1)).cd cs dd) (addE (addE (addE (bump ext (enode f) (-1)) b.lo 1) b.hi 1) b.lo (-1)) → (true = true → ∀ i, cs.getD i 0 ≤ (d.counts.set (enode f) 0).getD i 0) → Chg RCnt o o w W →
  Calls Tryz.prog 142 #[.pointer (some ⟨sb, 0, none⟩), .int .i64 (b.hi : Nat)] W (CountPost o W sb ((d.cd (d.counts.set (enode f) 0) (d.dead + 1)).cd cs dd) s rk m true (addE ext f (-1)))) :=
  Lib.hid (fun W cs dd hs hl hle hch => by
   rw [← hex]
   exact ih W _ _ b.hi ⟨hs, HLT.out.mono hch.size, h.acy, h.acy.okHi _ _ hx, hl, fun y q hq => Nat.le_trans (Nat.le_trans (hle rfl y) (HLE rfl y)) (h.top y q hq), fun y q hq => by
    have h1 := h.pos y q hq
    have h2 : toE f y = if enode f = y then 1 else 0 := rfl
    have h3 := toE_nonneg b.lo y
    have h4 := toE_nonneg b.hi y
    simp only [addE, bump]
    by_cases e : y = enode f
    ·
     rw [if_pos e.symm] at h2; rw [if_pos e]; omega
    ·
     rw [if_neg (Ne.symm e)] at h2; rw [if_neg e]; omega, hlow b.hi (h.acy.okHi _ _ hx) (fun c hc => h.acy.ltHi _ _ c hx hc)⟩)
 have HEND : Hid (∀ (W : World) (cs : List Nat) (dd : Nat), StoreIn o W sb (d.cd cs dd) s → LiveC (d.cd cs dd) (addE ext f (-1)) → cs.length = (d.counts.set (enode f) 0).length → (∀ i, m + 1 ≤ rk i → cs.getD i 0 = (d.counts.set (enode f) 0).getD i 0) → (true = true → ∀ i, cs.getD i 0 ≤ (d.counts.set (enode f) 0).getD i 0) → Chg RCnt o o w W →
  CountPost o w sb d s rk (m + 1) true (addE ext f (-1)) (.returned (.tuple #[])) W) :=
  fun W cs dd hs hl hlen hlw hle hch => ⟨cs, dd, rfl, hs, hl, by rw [hlen]; simp, fun i hi => (hlw i hi).trans (HLOW i hi), fun e i => Nat.le_trans (hle e i) (HLE e i), hch⟩
 have HWE : Hid (W2 = (w.setCell ⟨gc, enode f, none⟩ (.int .i64 0)).setCell ⟨sb, 4, none⟩ (.int .i64 ((d.dead : Int) + 1))) := by
  show _ = _
  rw [hW2, show ((d.dead + 1 : Nat) : Int) = (d.dead : Int) + 1 from by omega]; rfl
 have hid0 : ((enode f : Nat) : Int) ≠ 0 := by have := htk.1; omega
 have HN := Lib.hid (fun W => node_any f W hf)
 have hne' : sb ≠ gc := fun e => hne e.symm
 have hxl' : ((enode f : Nat) : Int) < d.counts.length := by omega
 obtain ⟨N, hN, hNlo, hNhi⟩ := hbN
 rw [← hN] at HPA
 rw [← hNlo, ← hNhi] at HLO HHI
 obtain ⟨B, hB⟩ : ∃ B, B = d.pool.tk (enode f) := ⟨_, rfl⟩
 rw [← hB] at HPA
 rw [hc] at hcx
 obtain ⟨k, hk⟩ : ∃ k, k = enode f := ⟨_, rfl⟩
 rw [← hk] at hcx hfx HPA hid0 HN hxl' HWE
 have hk0 : ((k : Int) == 0) = false := by simpa using hid0
 have hk1 : 0 < k := by omega
 have hcm' : d.counts.length ≤ 9223372036854775807 := by unfold maxLen at hcm; omega
 obtain ⟨dn, hdn⟩ : ∃ n, n = d.dead := ⟨_, rfl⟩
 rw [← hdn] at c4 hdb HWE
 clear ih h hx hc hv hgo hlc hcm hfz hcell htk hid0 hxl hfl hf hlv st1 st2 hlt1 hlt2 HLOW HLE hrk hlow hW2 hex hN hNlo hNhi hB hdn hpa hk
 go_enter Tryz.func142, Tryz.ntmps142
 go_wp2_with fail
 refine (HN.out _).mono ?_
 rintro x w' ⟨rfl, rfl⟩
 go_wp2_with fail
 rw [← HWE.out]
 refine (HPA.out W2 (Below.refl _ _)).mono ?_
 rintro x v2 ⟨rfl, hb2⟩
 unfold rnAgg
 clear HWE c0 c1 c2 c3 c4 f0 hcx hfx HN hne hne' hxl' hk0 hk1 hcm' hdb
 go_wp2_with fail
 obtain ⟨W3, hW3⟩ : ∃ W, W = v2.alloc (.cells #[.int .i64 N.id, .int .i64 N.v, .int .i64 N.lo, .int .i64 N.hi, .int .i64 N.refs] 157) := ⟨_, rfl⟩
 obtain ⟨bx, hbx⟩ : ∃ bx, bx = v2.heap.size := ⟨_, rfl⟩
 have hge : W2.heap.size ≤ bx := by rw [hbx]; exact hb2.size
 have hbf : Below W2.heap.size W2 W3 := by rw [hW3]; exact hb2.alloc hb2.size _
 have hxf : W3.heap[bx]? = some (.cells #[.int .i64 N.id, .int .i64 N.v, .int .i64 N.lo, .int .i64 N.hi, .int .i64 N.refs] 157 (0, 0)) := by rw [hW3, hbx]; exact heap_alloc_new v2 _
 rw [← hW3]
 rw [← hbx]
 clear hW3 hbx hb2 HPA HC1
 refine (HLO.out _ hbf).mono ?_
 rintro x w1 ⟨cs1, dd1, rfl, st1, lv1, len1, low1, le1, chg1⟩
 have hxg := (chg1.alien (Array.getElem?_eq_some_iff.1 hxf).1 (HLT2.out.none hge)).trans hxf
 obtain ⟨z0, z1, z2, z3, z4, zz⟩ := cells5 hxg
 have HS1 := Lib.hid st1
 have HL1 := Lib.hid lv1
 have HE1 := Lib.hid len1
 have HW1 := Lib.hid low1
 have HI1 := Lib.hid le1
 have HC3 := Lib.hid ((HCHG.out.trans (Chg.of_below hbf RCnt o)).trans chg1)
 clear st1 lv1 len1 low1 le1 chg1 hxf hxg hbf
 go_wp2_with fail
 refine (HHI.out w1 cs1 dd1 HS1.out HL1.out (fun e => by first | exact absurd e (by decide) | exact HI1.out (by simp)) HC3.out).mono ?_
 rintro x w2 ⟨cs2, dd2, rfl, st2, lv2, len2, low2, le2, chg2⟩
 have HFIN := Lib.hid (HEND.out w2 cs2 dd2 st2 lv2 (len2.trans HE1.out) (fun i hi => (low2 i (by omega)).trans (HW1.out i (by omega))) (fun e i => by first | exact absurd e (by decide) | exact Nat.le_trans (le2 (by simp) i) (HI1.out (by simp) i)) (HC3.out.trans chg2))
 clear st2 lv2 len2 low2 le2 chg2
 go_wp2_with fail
 refine bodyPost_end (results_0 rfl _ _ _) rfl HFIN.out
theorem storeLess_any (o : Own) (sb : Nat) (s : StoreW) (rk : Nat → Nat) : ∀ (m : Nat) (w : World) (d : StoreD) (ext : Nat → Int) (f : Nat), LessOk o w sb d s rk ext f m →
 Calls Tryz.prog 142 #[.pointer (some ⟨sb, 0, none⟩), .int .i64 f] w (CountPost o w sb d s rk m true (addE ext f (-1)))
 | m, w, d, ext, f, h => by
   by_cases h0 : enode f = 0
   ·
    exact less_none h h0
   ·
    obtain ⟨b, hx⟩ : ∃ b, nodesOf d (enode f) = some b := h.ok.resolve_left h0
    have hp : 0 < cntOf d (enode f) := h.live.cnt.pos_of_ext hx (by
     have h1 := h.pos _ _ hx
     rw [show toE f (enode f) = 1 from toE_hit f] at h1; omega)
    by_cases hc : 1 < cntOf d (enode f)
    ·
     exact less_live h hx hc
    ·
     cases m with
     | zero => exact absurd (h.low.resolve_left h0) (by omega)
     | succ m => exact less_dead h hx (by omega) (storeLess_any o sb s rk m)
open Go.RowKit
def RPool (r : Role) : Prop := r = .pool ∨ r = .slots ∨ r = .taken ∨ r = .free
def RStore (r : Role) : Prop := r = .store ∨ r = .levels ∨ r = .vars ∨ r = .level ∨ RPool r ∨ r = .tabs ∨ (∃ v, r = .tab v ∨ r = .tmap v) ∨ r = .counts
section
variable {o o' : Own} {w w' : World} {sb : Nat} {d : StoreD} {s : StoreW}
theorem StoreIn.setPool (h : StoreIn o w sb d s) (hlt : OwnLt o w) {p' : PoolD} (hp : PoolAt o' w' s.pb p') (hc : Chg RPool o o' w w') : StoreIn o' w' sb { d with pool := p' } s := by
 have n : ∀ {r}, r ≠ .pool → r ≠ .slots → r ≠ .taken → r ≠ .free → ¬ RPool r := fun a b c d h => by rcases h with h | h | h | h <;> contradiction
 exact ⟨hc.ext _ _ h.own, hc.ext _ _ h.ownl, (hc.same hlt h.own (n (by simp) (by simp) (by simp) (by simp))).trans h.blk, (hc.same hlt h.ownl (n (by simp) (by simp) (by simp) (by simp))).trans h.lev,
  h.vars.chg hc hlt (n (by simp) (by simp) (by simp) (by simp)), h.level.chg hc hlt (n (by simp) (by simp) (by simp) (by simp)), hp, h.tabs.chg hc hlt (n (by simp) (by simp) (by simp) (by simp)),
  fun v hv => (h.tab v hv).chg hc hlt (n (by simp) (by simp) (by simp) (by simp)) (n (by simp) (by simp) (by simp) (by simp)), h.counts.chg hc hlt (n (by simp) (by simp) (by simp) (by simp)), h.len, h.tlen⟩
theorem StoreIn.setTab (h : StoreIn o w sb d s) (hlt : OwnLt o w) {v : Nat} {f' : Nat × Nat → Option Nat} (ht : TabIs o' w' v (s.ts.getD v 0) f') (hc : Chg (· = .tmap v) o o' w w') : StoreIn o' w' sb { d with tab := fun u => if u = v then f' else d.tab u } s := by
 refine ⟨hc.ext _ _ h.own, hc.ext _ _ h.ownl, (hc.same hlt h.own (by simp)).trans h.blk, (hc.same hlt h.ownl (by simp)).trans h.lev,
  h.vars.chg hc hlt (by simp), h.level.chg hc hlt (by simp), h.pool.chg hc hlt (by simp) (by simp) (by simp) (by simp), h.tabs.chg hc hlt (by simp),
  fun u hu => ?_, h.counts.chg hc hlt (by simp), h.len, h.tlen⟩
 dsimp only
 by_cases e : u = v
 ·
  subst e; rw [if_pos rfl]; exact ht
 ·
  rw [if_neg e]; exact (h.tab u hu).chg hc hlt (by simp) (by simpa using e)
end
def extOf (d : StoreD) : Nat → Int := fun i => if d.pool.tk i = true then ((d.pool.nd i).refs : Int) else 0
structure HoldRel (d d' : StoreD) (f : Nat) (sg : Int) : Prop where
 vars : d'.vars = d.vars
 level : d'.level = d.level
 tab : d'.tab = d.tab
 nodes : nodesOf d' = nodesOf d
 many : d'.pool.many = d.pool.many
 free : d'.pool.free = d.pool.free
 room : d'.pool.room = d.pool.room
 len : d'.pool.at_.length = d.pool.at_.length
 clen : d'.counts.length = d.counts.length
 ext : ∀ i, i ≠ 0 → extOf d' i = extOf d i + sg * toE f i
 live : LiveC d' (extOf d')
def HoldPost (o : Own) (w : World) (sb : Nat) (d : StoreD) (s : StoreW) (f : Nat) (sg : Int) (e : Ending) (w' : World) : Prop :=
 ∃ d', e = .returned (.int .i64 0) ∧ StoreIn o w' sb d' s ∧ OwnLt o w' ∧ HoldRel d d' f sg ∧ Chg RStore o o w w'
theorem rcnt_store : ∀ r, RCnt r → RStore r := fun r h => by rcases h with h | h <;> simp [RStore, h]
theorem rslots_store : ∀ r : Role, r = .slots → RStore r := fun r h => by simp [RStore, RPool, h]
def RN.ref (n : RN) (k : Nat) : RN := { n with refs := k }
theorem setRef_nodes {d : StoreD} {x k : Nat} (hk : x < d.pool.at_.length) (ht : d.pool.tk x = true) : nodesOf { d with pool := d.pool.setNd x ((d.pool.nd x).ref k) } = nodesOf d := by
 funext i
 unfold nodesOf
 rw [PoolD.setNd_get hk ht]
 by_cases e : i = x
 ·
  subst e; simp [PoolD.get, ht, RN.ref, bnOf]
 ·
  rw [if_neg e]
theorem setRef_ext {d : StoreD} {x k : Nat} (hk : x < d.pool.at_.length) (ht : d.pool.tk x = true) : extOf { d with pool := d.pool.setNd x ((d.pool.nd x).ref k) } = fun i => if i = x then (k : Int) else extOf d i := by
 funext i
 unfold extOf
 have h1 : (d.pool.setNd x ((d.pool.nd x).ref k)).tk i = d.pool.tk i := rfl
 have h2 : (d.pool.setNd x ((d.pool.nd x).ref k)).nd i = if i = x then (d.pool.nd x).ref k else d.pool.nd i := nd_set hk i
 dsimp only
 rw [h1, h2]
 by_cases e : i = x
 ·
  subst e; simp [ht, RN.ref]
 ·
  simp [e]
theorem extOf_node {d : StoreD} {x : Nat} (ht : d.pool.tk x = true) : extOf d x = ((d.pool.nd x).refs : Int) := by simp [extOf, ht]
theorem setRef_live {d : StoreD} {x k : Nat} {ext : Nat → Int} (hk : x < d.pool.at_.length) (ht : d.pool.tk x = true) (h : LiveC d ext) : LiveC { d with pool := d.pool.setNd x ((d.pool.nd x).ref k) } ext := by
 have hn := setRef_nodes (k := k) hk ht
 have hL : ({ d with pool := d.pool.setNd x ((d.pool.nd x).ref k) } : StoreD).pool.at_.length = d.pool.at_.length := by simp [PoolD.setNd]
 refine ⟨?_, ?_, ?_⟩
 ·
  rw [hn, hL]; exact h.cnt
 ·
  rw [hn, hL]; exact h.dead
 ·
  rw [hn]; exact h.has
set_option maxRecDepth 100000 in
set_option maxHeartbeats 800000 in
theorem storeHold_none {o : Own} {w : World} {sb : Nat} {d : StoreD} {s : StoreW} (h : StoreIn o w sb d s) (hlt : OwnLt o w) (hl : LiveC d (extOf d)) (f : Nat) (hf : f < eMax) (hx : enode f = 0) :
 Calls Tryz.prog 125 #[.pointer (some ⟨sb, 0, none⟩), .int .i64 f] w (HoldPost o w sb d s f 1) := by
 obtain ⟨c0, c1, c2, c3, c4, f0⟩ := cells5 h.blk
 have lsb : sb < w.heap.size := lt_of_cell c0
 have HPOST : Hid (∀ W : World, Below w.heap.size w W → HoldPost o w sb d s f 1 (.returned (.int .i64 0)) W) := fun W hb =>
  ⟨d, rfl, h.below hlt hb, hlt.mono hb.size, ⟨rfl, rfl, rfl, rfl, rfl, rfl, rfl, rfl, rfl, fun i hi => by
   have e : f / 2 = 0 := hx
   simp [toE, e, Ne.symm hi], hl⟩, Chg.of_below hb _ _⟩
 have hisv : (decide (enode f = 0) || d.pool.tk (enode f)) = true := by rw [hx]; rfl
 have HIS : Hid (∀ W : World, Below w.heap.size w W → Calls Tryz.prog 87 #[.pointer (some ⟨sb, 0, none⟩), .int .i64 f] W fun x w' => x = .returned (.bool true) ∧ Below W.heap.size W w') := fun W hb => by
  have h1 := storeIs_any (h.below hlt hb) (hlt.mono hb.size) f hf
  rw [hisv] at h1
  exact h1
 have htk : d.pool.tk 0 = false := h.pool.zero
 have HPA : Hid (∀ W : World, Below w.heap.size w W → Calls Tryz.prog 123 #[.pointer (some ⟨s.pb, 0, none⟩), .int .i64 (enode f : Nat)] W fun x w' => x = .returned (.tuple #[rnAgg (d.pool.has (enode f)), .bool (d.pool.tk (enode f))]) ∧ Below W.heap.size W w') :=
  Lib.hid (fun W hb => poolAt_any o s.pb d.pool (enode f) W (h.pool.below hb hlt) (hlt.mono hb.size))
 have HC1 : Hid (∀ W : World, Below w.heap.size w W → W.cell? ⟨sb, 1, none⟩ = some (.pointer (some ⟨s.pb, 0, none⟩))) := Lib.hid (fun W hb => (hb.cell (p := ⟨sb, 1, none⟩) lsb).trans c1)
 have HN := Lib.hid (fun W => node_any f W hf)
 have htk' : d.pool.tk (enode f) = false := by rw [hx]; exact htk
 obtain ⟨N, hN⟩ : ∃ N, N = d.pool.has (enode f) := ⟨_, rfl⟩
 obtain ⟨B, hB⟩ : ∃ B, B = d.pool.tk (enode f) := ⟨_, rfl⟩
 obtain ⟨k, hk⟩ : ∃ k, k = enode f := ⟨_, rfl⟩
 rw [← hN, ← hB, ← hk] at HPA
 rw [← hk] at HN
 have HB := Lib.hid (hB.trans htk')
 clear h hlt hl hf hx hisv c0 c1 c2 c3 c4 f0 lsb htk htk' hN hk hB
 go_enter Tryz.func125, Tryz.ntmps125
 go_wp2_with fail
 refine (HIS.out _ (Below.refl _ _)).mono ?_
 rintro x w1 ⟨rfl, hb1⟩
 have HB1 := Lib.hid hb1
 clear hb1
 go_upto_region 5 with fail
 refine wp_region_left (fun W : World => Below w.heap.size w W) 13 (by kernel_rfl) (below_drewN HB1.out 1) ?_
 refine left_readE 0 rfl rfl (by kernel_rfl) ?_
 apply Exists.intro
 refine ⟨fun w' hw => ?_, ?_⟩
 ·
  have hc1 := HC1.out w' hw
  go_simp
  rfl
 simp only [putLz]
 refine left_readE 1 rfl rfl (by kernel_rfl) ?_
 apply Exists.intro
 refine ⟨fun w' hw => ?_, ?_⟩
 ·
  have hc1 := HC1.out w' hw
  go_simp
  rfl
 simp only [putLz]
 refine left_readE 2 rfl rfl (by kernel_rfl) ?_
 apply Exists.intro
 refine ⟨fun w' hw => ?_, ?_⟩
 ·
  have hc1 := HC1.out w' hw
  go_simp
  rfl
 simp only [putLz]
 refine left_readE 3 rfl rfl (by kernel_rfl) ?_
 apply Exists.intro
 refine ⟨fun w' hw => ?_, ?_⟩
 ·
  have hc1 := HC1.out w' hw
  go_simp
  rfl
 simp only [putLz]
 refine left_readE 4 rfl rfl (by kernel_rfl) ?_
 apply Exists.intro
 refine ⟨fun w' hw => ?_, ?_⟩
 ·
  have hc1 := HC1.out w' hw
  go_simp
  rfl
 simp only [putLz]
 refine left_alts [5, 10] (by kernel_rfl) (fun i hi hS o ho => ?_)
 simp only [memLz] at hi
 rcases hi with rfl | rfl
 ·
  skip
  simp only [altLz] at ho
  subst ho
  refine ⟨rfl, ?_⟩
  refine oper_call (v := (.int .i64 k)) (R := fun w' => w1.drew = w') (by go_simp) (HN.out _) ?_
  rintro w' rfl
  refine ⟨(below_drewN HB1.out 1), ?_⟩
  simp only [putLz]
  refine left_alts [6, 10] (by kernel_rfl) (fun i hi hS o ho => ?_)
  simp only [memLz] at hi
  rcases hi with rfl | rfl
  ·
   skip
   simp only [altLz] at ho
   subst ho
   refine ⟨rfl, ?_⟩
   refine oper_call (v := (.tuple #[rnAgg N, .bool B])) (R := fun w' => Below (w1.drew).heap.size (w1.drew) w') (by go_simp) (HPA.out _ (below_drewN HB1.out 1)) ?_
   intro v2 hv2
   have hb2 := (below_drewN HB1.out 1).trans (hv2.mono (below_drewN HB1.out 1).size)
   refine ⟨hb2, ?_⟩
   simp only [putLz]
   unfold rnAgg
   refine left_readE 7 rfl rfl (by kernel_rfl) ?_
   apply Exists.intro
   refine ⟨fun w' hw => ?_, ?_⟩
   ·
    clear hw
    go_simp
    rfl
   simp only [putLz]
   refine left_readE 8 rfl rfl (by kernel_rfl) ?_
   apply Exists.intro
   refine ⟨fun w' hw => ?_, ?_⟩
   ·
    clear hw
    go_simp
    rfl
   simp only [putLz]
   refine left_readE 9 rfl rfl (by kernel_rfl) ?_
   apply Exists.intro
   refine ⟨fun w' hw => ?_, ?_⟩
   ·
    clear hw
    go_simp
    rfl
   simp only [putLz]
   refine left_alts [10] (by kernel_rfl) (fun i hi hS o ho => ?_)
   simp only [memLz] at hi
   subst hi
   simp only [altLz] at ho
   subst ho
   refine ⟨rfl, ?_⟩
   have hb3 := hb2.trans ((below_new1 (v2) (.cells #[.int .i64 0, .int .i64 0, .int .i64 0, .int .i64 0, .int .i64 0] 157)).mono hb2.size)
   have hx3 := heap_alloc_new (v2) (.cells #[.int .i64 0, .int .i64 0, .int .i64 0, .int .i64 0, .int .i64 0] 157)
   have hge : w.heap.size ≤ (v2).heap.size := hb2.size
   refine oper_value (v := .pointer (some ⟨(v2).heap.size, 0, none⟩)) (w' := (v2).alloc (.cells #[.int .i64 0, .int .i64 0, .int .i64 0, .int .i64 0, .int .i64 0] 157)) (by go_simp) ⟨hb3, ?_⟩
   simp only [putLz]
   obtain ⟨bx, hbx⟩ : ∃ bx, bx = (v2).heap.size := ⟨_, rfl⟩
   rw [← hbx] at hx3 hge ⊢
   obtain ⟨u3, hu3⟩ : ∃ u, u = (v2).alloc (.cells #[.int .i64 0, .int .i64 0, .int .i64 0, .int .i64 0, .int .i64 0] 157) := ⟨_, rfl⟩
   rw [← hu3] at hx3 hb3 ⊢
   clear hu3 hbx
   refine left_alts [11] (by kernel_rfl) (fun i hi hS o ho => ?_)
   simp only [memLz] at hi
   subst hi
   simp only [altLz] at ho
   subst ho
   refine ⟨rfl, ?_⟩
   obtain ⟨e0, e1, e2, e3, e4, fz⟩ := cells5 hx3
   refine oper_store (w' := set5 u3 bx 0 N) rfl (run_storeNode (k := 0) fz e0 e1 e2 e3 e4 _ _ _ _ _) ?_
   have hbf : Below w.heap.size w (set5 u3 bx 0 N) := below_set5 hb3 hge N
   have hxf := set5_new hx3 N
   refine ⟨hbf, ?_⟩
   simp only [putLz]
   clear e0 e1 e2 e3 e4 fz
   refine left_readE 12 rfl rfl (by kernel_rfl) ?_
   apply Exists.intro
   refine ⟨fun w' hw => ?_, ?_⟩
   ·
    clear hw
    go_simp
    rfl
   simp only [putLz]
   refine left_end (by kernel_rfl) ?_
   obtain rfl : B = false := HB.out
   have HBF := Lib.hid hbf
   obtain ⟨W3, hW3⟩ : ∃ W, W = set5 u3 bx 0 N := ⟨_, rfl⟩
   rw [← hW3] at HBF ⊢
   clear hW3 hbf hxf HPA HN HIS HC1 HB1 HB
   go_wp2_with fail
   go_ret
   exact HPOST.out _ HBF.out
  ·
   skip
   simp only [altLz] at ho
   subst ho
   refine ⟨rfl, ?_⟩
   have hb4 := (below_drewN HB1.out 1).trans ((below_new1 (w1.drew) (.cells #[.int .i64 0, .int .i64 0, .int .i64 0, .int .i64 0, .int .i64 0] 157)).mono (below_drewN HB1.out 1).size)
   have hx4 := heap_alloc_new (w1.drew) (.cells #[.int .i64 0, .int .i64 0, .int .i64 0, .int .i64 0, .int .i64 0] 157)
   have hge : w.heap.size ≤ (w1.drew).heap.size := (below_drewN HB1.out 1).size
   refine oper_value (v := .pointer (some ⟨(w1.drew).heap.size, 0, none⟩)) (w' := (w1.drew).alloc (.cells #[.int .i64 0, .int .i64 0, .int .i64 0, .int .i64 0, .int .i64 0] 157)) (by go_simp) ⟨hb4, ?_⟩
   simp only [putLz]
   obtain ⟨bx, hbx⟩ : ∃ bx, bx = (w1.drew).heap.size := ⟨_, rfl⟩
   rw [← hbx] at hx4 hge ⊢
   obtain ⟨u4, hu4⟩ : ∃ u, u = (w1.drew).alloc (.cells #[.int .i64 0, .int .i64 0, .int .i64 0, .int .i64 0, .int .i64 0] 157) := ⟨_, rfl⟩
   rw [← hu4] at hx4 hb4 ⊢
   clear hu4 hbx
   refine left_alts [6] (by kernel_rfl) (fun i hi hS o ho => ?_)
   simp only [memLz] at hi
   subst hi
   simp only [altLz] at ho
   subst ho
   refine ⟨rfl, ?_⟩
   refine oper_call (v := (.tuple #[rnAgg N, .bool B])) (R := fun w' => Below (u4).heap.size (u4) w') (by go_simp) (HPA.out _ hb4) ?_
   intro v5 hv5
   have hb5 := hb4.trans (hv5.mono hb4.size)
   refine ⟨hb5, ?_⟩
   simp only [putLz]
   unfold rnAgg
   have hx5 := (hv5.block _ (Array.getElem?_eq_some_iff.1 hx4).1).trans hx4
   refine left_readE 7 rfl rfl (by kernel_rfl) ?_
   apply Exists.intro
   refine ⟨fun w' hw => ?_, ?_⟩
   ·
    clear hw
    go_simp
    rfl
   simp only [putLz]
   refine left_readE 8 rfl rfl (by kernel_rfl) ?_
   apply Exists.intro
   refine ⟨fun w' hw => ?_, ?_⟩
   ·
    clear hw
    go_simp
    rfl
   simp only [putLz]
   refine left_readE 9 rfl rfl (by kernel_rfl) ?_
   apply Exists.intro
   refine ⟨fun w' hw => ?_, ?_⟩
   ·
    clear hw
    go_simp
    rfl
   simp only [putLz]
   refine left_alts [11] (by kernel_rfl) (fun i hi hS o ho => ?_)
   simp only [memLz] at hi
   subst hi
   simp only [altLz] at ho
   subst ho
   refine ⟨rfl, ?_⟩
   obtain ⟨e0, e1, e2, e3, e4, fz⟩ := cells5 hx5
   refine oper_store (w' := set5 v5 bx 0 N) rfl (run_storeNode (k := 0) fz e0 e1 e2 e3 e4 _ _ _ _ _) ?_
   have hbf : Below w.heap.size w (set5 v5 bx 0 N) := below_set5 hb5 hge N
   have hxf := set5_new hx5 N
   refine ⟨hbf, ?_⟩
   simp only [putLz]
   clear e0 e1 e2 e3 e4 fz
   refine left_readE 12 rfl rfl (by kernel_rfl) ?_
   apply Exists.intro
   refine ⟨fun w' hw => ?_, ?_⟩
   ·
    clear hw
    go_simp
    rfl
   simp only [putLz]
   refine left_end (by kernel_rfl) ?_
   obtain rfl : B = false := HB.out
   have HBF := Lib.hid hbf
   obtain ⟨W3, hW3⟩ : ∃ W, W = set5 v5 bx 0 N := ⟨_, rfl⟩
   rw [← hW3] at HBF ⊢
   clear hW3 hbf hxf HPA HN HIS HC1 HB1 HB
   go_wp2_with fail
   go_ret
   exact HPOST.out _ HBF.out
 ·
  skip
  simp only [altLz] at ho
  subst ho
  refine ⟨rfl, ?_⟩
  have hb6 := (below_drewN HB1.out 1).trans ((below_new1 (w1.drew) (.cells #[.int .i64 0, .int .i64 0, .int .i64 0, .int .i64 0, .int .i64 0] 157)).mono (below_drewN HB1.out 1).size)
  have hx6 := heap_alloc_new (w1.drew) (.cells #[.int .i64 0, .int .i64 0, .int .i64 0, .int .i64 0, .int .i64 0] 157)
  have hge : w.heap.size ≤ (w1.drew).heap.size := (below_drewN HB1.out 1).size
  refine oper_value (v := .pointer (some ⟨(w1.drew).heap.size, 0, none⟩)) (w' := (w1.drew).alloc (.cells #[.int .i64 0, .int .i64 0, .int .i64 0, .int .i64 0, .int .i64 0] 157)) (by go_simp) ⟨hb6, ?_⟩
  simp only [putLz]
  obtain ⟨bx, hbx⟩ : ∃ bx, bx = (w1.drew).heap.size := ⟨_, rfl⟩
  rw [← hbx] at hx6 hge ⊢
  obtain ⟨u6, hu6⟩ : ∃ u, u = (w1.drew).alloc (.cells #[.int .i64 0, .int .i64 0, .int .i64 0, .int .i64 0, .int .i64 0] 157) := ⟨_, rfl⟩
  rw [← hu6] at hx6 hb6 ⊢
  clear hu6 hbx
  refine left_alts [5] (by kernel_rfl) (fun i hi hS o ho => ?_)
  simp only [memLz] at hi
  subst hi
  simp only [altLz] at ho
  subst ho
  refine ⟨rfl, ?_⟩
  refine oper_call (v := (.int .i64 k)) (R := fun w' => u6 = w') (by go_simp) (HN.out _) ?_
  rintro w' rfl
  refine ⟨hb6, ?_⟩
  simp only [putLz]
  refine left_alts [6] (by kernel_rfl) (fun i hi hS o ho => ?_)
  simp only [memLz] at hi
  subst hi
  simp only [altLz] at ho
  subst ho
  refine ⟨rfl, ?_⟩
  refine oper_call (v := (.tuple #[rnAgg N, .bool B])) (R := fun w' => Below (u6).heap.size (u6) w') (by go_simp) (HPA.out _ hb6) ?_
  intro v8 hv8
  have hb8 := hb6.trans (hv8.mono hb6.size)
  refine ⟨hb8, ?_⟩
  simp only [putLz]
  unfold rnAgg
  have hx8 := (hv8.block _ (Array.getElem?_eq_some_iff.1 hx6).1).trans hx6
  refine left_readE 7 rfl rfl (by kernel_rfl) ?_
  apply Exists.intro
  refine ⟨fun w' hw => ?_, ?_⟩
  ·
   clear hw
   go_simp
   rfl
  simp only [putLz]
  refine left_readE 8 rfl rfl (by kernel_rfl) ?_
  apply Exists.intro
  refine ⟨fun w' hw => ?_, ?_⟩
  ·
   clear hw
   go_simp
   rfl
  simp only [putLz]
  refine left_readE 9 rfl rfl (by kernel_rfl) ?_
  apply Exists.intro
  refine ⟨fun w' hw => ?_, ?_⟩
  ·
   clear hw
   go_simp
   rfl
  simp only [putLz]
  refine left_alts [11] (by kernel_rfl) (fun i hi hS o ho => ?_)
  simp only [memLz] at hi
  subst hi
  simp only [altLz] at ho
  subst ho
  refine ⟨rfl, ?_⟩
  obtain ⟨e0, e1, e2, e3, e4, fz⟩ := cells5 hx8
  refine oper_store (w' := set5 v8 bx 0 N) rfl (run_storeNode (k := 0) fz e0 e1 e2 e3 e4 _ _ _ _ _) ?_
  have hbf : Below w.heap.size w (set5 v8 bx 0 N) := below_set5 hb8 hge N
  have hxf := set5_new hx8 N
  refine ⟨hbf, ?_⟩
  simp only [putLz]
  clear e0 e1 e2 e3 e4 fz
  refine left_readE 12 rfl rfl (by kernel_rfl) ?_
  apply Exists.intro
  refine ⟨fun w' hw => ?_, ?_⟩
  ·
   clear hw
   go_simp
   rfl
  simp only [putLz]
  refine left_end (by kernel_rfl) ?_
  obtain rfl : B = false := HB.out
  have HBF := Lib.hid hbf
  obtain ⟨W3, hW3⟩ : ∃ W, W = set5 v8 bx 0 N := ⟨_, rfl⟩
  rw [← hW3] at HBF ⊢
  clear hW3 hbf hxf HPA HN HIS HC1 HB1 HB
  go_wp2_with fail
  go_ret
  exact HPOST.out _ HBF.out
set_option maxRecDepth 100000 in
set_option maxHeartbeats 1600000 in
theorem storeHold_node {o : Own} {w : World} {sb : Nat} {d : StoreD} {s : StoreW} (h : StoreIn o w sb d s) (hlt : OwnLt o w) (hl : LiveC d (extOf d)) {rk : Nat → Nat} (ha : Acy (nodesOf d) rk) (f : Nat) {b : BN} (hx : nodesOf d (enode f) = some b)
 (htop : ∀ y b, nodesOf d y = some b → extOf d y < 1099511627776) :
 Calls Tryz.prog 125 #[.pointer (some ⟨sb, 0, none⟩), .int .i64 f] w (HoldPost o w sb d s f 1) := by
 obtain ⟨c0, c1, c2, c3, c4, f0⟩ := cells5 h.blk
 have lsb : sb < w.heap.size := lt_of_cell c0
 have hok : okE (nodesOf d) f := .inr ⟨b, hx⟩
 have hf : f < eMax := by have := h.edge_lt hok; unfold eMax; omega
 have hns := nodesOf_some hx
 have htl := h.tk_lt hx
 have hrf : (d.pool.nd (enode f)).refs < 1099511627776 := by have := htop _ _ hx; rw [extOf_node hns.1] at this; omega
 have hid : (d.pool.nd (enode f)).id = enode f := h.pool.id _ hns.1
 have hisv : (decide (enode f = 0) || d.pool.tk (enode f)) = true := by rw [hns.1]; simp
 have HIS : Hid (∀ W : World, Below w.heap.size w W → Calls Tryz.prog 87 #[.pointer (some ⟨sb, 0, none⟩), .int .i64 f] W fun x w' => x = .returned (.bool true) ∧ Below W.heap.size W w') := fun W hb => by
  have h1 := storeIs_any (h.below hlt hb) (hlt.mono hb.size) f hf
  rw [hisv] at h1
  exact h1
 have HPA : Hid (∀ W : World, Below w.heap.size w W → Calls Tryz.prog 123 #[.pointer (some ⟨s.pb, 0, none⟩), .int .i64 (enode f : Nat)] W fun x w' => x = .returned (.tuple #[rnAgg (d.pool.has (enode f)), .bool (d.pool.tk (enode f))]) ∧ Below W.heap.size W w') :=
  Lib.hid (fun W hb => poolAt_any o s.pb d.pool (enode f) W (h.pool.below hb hlt) (hlt.mono hb.size))
 have HC1 : Hid (∀ W : World, Below w.heap.size w W → W.cell? ⟨sb, 1, none⟩ = some (.pointer (some ⟨s.pb, 0, none⟩))) := Lib.hid (fun W hb => (hb.cell (p := ⟨sb, 1, none⟩) lsb).trans c1)
 have HN := Lib.hid (fun W => node_any f W hf)
 obtain ⟨r, hr⟩ : ∃ r, r = (d.pool.nd (enode f)).refs := ⟨_, rfl⟩
 skip
 have HSET : Hid (∀ W : World, Below w.heap.size w W → Calls Tryz.prog 140 #[.pointer (some ⟨s.pb, 0, none⟩), rnAgg ((d.pool.nd (enode f)).ref (r + 1))] W fun x w' => x = .returned (.int .i64 0) ∧ StoreIn o w' sb { d with pool := d.pool.setNd (enode f) ((d.pool.nd (enode f)).ref (r + 1)) } s ∧ Chg RStore o o w w' ∧ OwnLt o w') := fun W hb => by
  have hi' : d.pool.tk ((d.pool.nd (enode f)).ref (r + 1)).id = true := by show d.pool.tk (d.pool.nd (enode f)).id = true; rw [hid]; exact hns.1
  refine (poolSet_any o s.pb d.pool ((d.pool.nd (enode f)).ref (r + 1)) W (h.pool.below hb hlt) (hlt.mono hb.size) hi').mono ?_
  rintro e w' ⟨rfl, hp, hc, hl'⟩
  have e1 : ((d.pool.nd (enode f)).ref (r + 1)).id = enode f := hid
  rw [e1] at hp
  exact ⟨rfl, (h.below hlt hb).setPool (hlt.mono hb.size) hp (hc.mono (fun r hr => by simp [RPool, hr])), (Chg.of_below hb _ _).trans (hc.mono rslots_store), hl'⟩
 have HMORE : Hid (∀ (W : World), StoreIn o W sb { d with pool := d.pool.setNd (enode f) ((d.pool.nd (enode f)).ref (r + 1)) } s → OwnLt o W → Chg RStore o o w W →
  Calls Tryz.prog 139 #[.pointer (some ⟨sb, 0, none⟩), .int .i64 f] W fun e w' => e = .returned (.tuple #[]) ∧ HoldPost o w sb d s f 1 (.returned (.int .i64 0)) w') := fun W hs hl' hch => by
  have hnd := setRef_nodes (d := d) (k := r + 1) htl.2.1 hns.1
  refine (storeMore_any o sb s rk (rk (enode f) + 1) W _ (extOf d) f ⟨hs, hl', by rw [hnd]; exact ha, by rw [hnd]; exact hok, setRef_live htl.2.1 hns.1 hl, fun y q hq => (by
   rw [hnd] at hq
   have h1 := htop y q hq
   have h2 : toE f y ≤ 1 := by unfold toE; split <;> omega
   omega), .inr (Nat.lt_succ_self _)⟩).mono ?_
  rintro e w' ⟨cs, dd, rfl, hs2, hl2, hcl, _, _, hc2⟩
  refine ⟨rfl, _, rfl, hs2, hl'.mono hc2.size, ⟨rfl, rfl, rfl, hnd, rfl, rfl, rfl, by simp [StoreD.cd, PoolD.setNd], hcl, fun i hi => ?_, hl2.congr (fun y b' hb' => ?_)⟩, hch.trans (hc2.mono rcnt_store)⟩
  ·
   show extOf { d with pool := d.pool.setNd (enode f) ((d.pool.nd (enode f)).ref (r + 1)) } i = _
   rw [setRef_ext htl.2.1 hns.1]
   dsimp only
   unfold toE
   by_cases e : i = enode f
   ·
    have e' : f / 2 = i := e.symm
    rw [if_pos e, if_pos e', e, extOf_node hns.1, ← hr]; omega
   ·
    have e' : ¬ f / 2 = i := fun h' => e h'.symm
    rw [if_neg e, if_neg e']; omega
  ·
   show extOf { d with pool := d.pool.setNd (enode f) ((d.pool.nd (enode f)).ref (r + 1)) } y = _
   rw [setRef_ext htl.2.1 hns.1]
   dsimp only
   unfold addE toE
   by_cases e : y = enode f
   ·
    have e' : f / 2 = y := e.symm
    rw [if_pos e, if_pos e', e, extOf_node hns.1, ← hr]; omega
   ·
    have e' : ¬ f / 2 = y := fun h' => e h'.symm
    rw [if_neg e, if_neg e']; omega
 have hNn : d.pool.has (enode f) = d.pool.nd (enode f) := hns.2.1
 rw [hNn] at HPA
 have HREF : Hid (rnAgg ((d.pool.nd (enode f)).ref (r + 1)) = .agg #[.int .i64 (d.pool.nd (enode f)).id, .int .i64 (d.pool.nd (enode f)).v, .int .i64 (d.pool.nd (enode f)).lo, .int .i64 (d.pool.nd (enode f)).hi, .int .i64 ((r : Int) + 1)]) := by
  show _ = _
  unfold rnAgg RN.ref
  dsimp only
  rw [show ((r + 1 : Nat) : Int) = (r : Int) + 1 from by omega]
 rw [hns.1] at HPA
 rw [← hr] at hrf
 obtain ⟨N, hN⟩ : ∃ N, N = d.pool.nd (enode f) := ⟨_, rfl⟩
 have hNr : N.refs = r := by rw [hN, hr]
 rw [← hN] at HPA HREF HSET HMORE
 obtain ⟨B, hB⟩ : ∃ B, B = true := ⟨_, rfl⟩
 rw [← hB] at HPA
 obtain ⟨k, hk⟩ : ∃ k, k = enode f := ⟨_, rfl⟩
 rw [← hk] at HPA HN
 have HBT := Lib.hid hB
 have HNR := Lib.hid hNr
 have HW0 := Lib.hid hk
 clear h hlt hl ha hx htop hf hns hisv htl hid hr hNn hN hB hk hok c0 c1 c2 c3 c4 f0 lsb hNr
 go_enter Tryz.func125, Tryz.ntmps125
 go_wp2_with fail
 refine (HIS.out _ (Below.refl _ _)).mono ?_
 rintro x w1 ⟨rfl, hb1⟩
 have HB1 := Lib.hid hb1
 clear hb1 HIS
 go_upto_region 5 with fail
 refine wp_region_left (fun W : World => Below w.heap.size w W) 13 (by kernel_rfl) (below_drewN HB1.out 1) ?_
 refine left_readE 0 rfl rfl (by kernel_rfl) ?_
 apply Exists.intro
 refine ⟨fun w' hw => ?_, ?_⟩
 ·
  have hc1 := HC1.out w' hw
  go_simp
  rfl
 simp only [putLz]
 refine left_readE 1 rfl rfl (by kernel_rfl) ?_
 apply Exists.intro
 refine ⟨fun w' hw => ?_, ?_⟩
 ·
  have hc1 := HC1.out w' hw
  go_simp
  rfl
 simp only [putLz]
 refine left_readE 2 rfl rfl (by kernel_rfl) ?_
 apply Exists.intro
 refine ⟨fun w' hw => ?_, ?_⟩
 ·
  have hc1 := HC1.out w' hw
  go_simp
  rfl
 simp only [putLz]
 refine left_readE 3 rfl rfl (by kernel_rfl) ?_
 apply Exists.intro
 refine ⟨fun w' hw => ?_, ?_⟩
 ·
  have hc1 := HC1.out w' hw
  go_simp
  rfl
 simp only [putLz]
 refine left_readE 4 rfl rfl (by kernel_rfl) ?_
 apply Exists.intro
 refine ⟨fun w' hw => ?_, ?_⟩
 ·
  have hc1 := HC1.out w' hw
  go_simp
  rfl
 simp only [putLz]
 refine left_alts [5, 10] (by kernel_rfl) (fun i hi hS o ho => ?_)
 simp only [memLz] at hi
 rcases hi with rfl | rfl
 ·
  skip
  simp only [altLz] at ho
  subst ho
  refine ⟨rfl, ?_⟩
  refine oper_call (v := (.int .i64 k)) (R := fun w' => w1.drew = w') (by go_simp) (HN.out _) ?_
  rintro w' rfl
  refine ⟨(below_drewN HB1.out 1), ?_⟩
  simp only [putLz]
  refine left_alts [6, 10] (by kernel_rfl) (fun i hi hS o ho => ?_)
  simp only [memLz] at hi
  rcases hi with rfl | rfl
  ·
   skip
   simp only [altLz] at ho
   subst ho
   refine ⟨rfl, ?_⟩
   refine oper_call (v := (.tuple #[rnAgg N, .bool B])) (R := fun w' => Below (w1.drew).heap.size (w1.drew) w') (by go_simp) (HPA.out _ (below_drewN HB1.out 1)) ?_
   intro v2 hv2
   have hb2 := (below_drewN HB1.out 1).trans (hv2.mono (below_drewN HB1.out 1).size)
   refine ⟨hb2, ?_⟩
   simp only [putLz]
   unfold rnAgg
   refine left_readE 7 rfl rfl (by kernel_rfl) ?_
   apply Exists.intro
   refine ⟨fun w' hw => ?_, ?_⟩
   ·
    clear hw
    go_simp
    rfl
   simp only [putLz]
   refine left_readE 8 rfl rfl (by kernel_rfl) ?_
   apply Exists.intro
   refine ⟨fun w' hw => ?_, ?_⟩
   ·
    clear hw
    go_simp
    rfl
   simp only [putLz]
   refine left_readE 9 rfl rfl (by kernel_rfl) ?_
   apply Exists.intro
   refine ⟨fun w' hw => ?_, ?_⟩
   ·
    clear hw
    go_simp
    rfl
   simp only [putLz]
   refine left_alts [10] (by kernel_rfl) (fun i hi hS o ho => ?_)
   simp only [memLz] at hi
   subst hi
   simp only [altLz] at ho
   subst ho
   refine ⟨rfl, ?_⟩
   have hb3 := hb2.trans ((below_new1 (v2) (.cells #[.int .i64 0, .int .i64 0, .int .i64 0, .int .i64 0, .int .i64 0] 157)).mono hb2.size)
   have hx3 := heap_alloc_new (v2) (.cells #[.int .i64 0, .int .i64 0, .int .i64 0, .int .i64 0, .int .i64 0] 157)
   have hge : w.heap.size ≤ (v2).heap.size := hb2.size
   refine oper_value (v := .pointer (some ⟨(v2).heap.size, 0, none⟩)) (w' := (v2).alloc (.cells #[.int .i64 0, .int .i64 0, .int .i64 0, .int .i64 0, .int .i64 0] 157)) (by go_simp) ⟨hb3, ?_⟩
   simp only [putLz]
   obtain ⟨bx, hbx⟩ : ∃ bx, bx = (v2).heap.size := ⟨_, rfl⟩
   rw [← hbx] at hx3 hge ⊢
   obtain ⟨u3, hu3⟩ : ∃ u, u = (v2).alloc (.cells #[.int .i64 0, .int .i64 0, .int .i64 0, .int .i64 0, .int .i64 0] 157) := ⟨_, rfl⟩
   rw [← hu3] at hx3 hb3 ⊢
   clear hu3 hbx
   refine left_alts [11] (by kernel_rfl) (fun i hi hS o ho => ?_)
   simp only [memLz] at hi
   subst hi
   simp only [altLz] at ho
   subst ho
   refine ⟨rfl, ?_⟩
   obtain ⟨e0, e1, e2, e3, e4, fz⟩ := cells5 hx3
   refine oper_store (w' := set5 u3 bx 0 N) rfl (run_storeNode (k := 0) fz e0 e1 e2 e3 e4 _ _ _ _ _) ?_
   have hbf : Below w.heap.size w (set5 u3 bx 0 N) := below_set5 hb3 hge N
   have hxf := set5_new hx3 N
   refine ⟨hbf, ?_⟩
   simp only [putLz]
   clear e0 e1 e2 e3 e4 fz
   refine left_readE 12 rfl rfl (by kernel_rfl) ?_
   apply Exists.intro
   refine ⟨fun w' hw => ?_, ?_⟩
   ·
    clear hw
    go_simp
    rfl
   simp only [putLz]
   refine left_end (by kernel_rfl) ?_
   obtain rfl : B = true := HBT.out
   have hxf' := hxf
   rw [HNR.out] at hxf'
   have HXF := Lib.hid hxf'
   have HBF := Lib.hid hbf
   obtain ⟨y0, y1, y2, y3, y4, yz⟩ := cells5 hxf'
   obtain ⟨W3, hW3⟩ : ∃ W, W = set5 u3 bx 0 N := ⟨_, rfl⟩
   rw [← hW3] at y0 y1 y2 y3 y4 yz HXF HBF ⊢
   clear hW3 hxf hxf' hbf HNR HPA HN HBT
   go_upto_region 8 with fail
   have hxz := heap_setCell_same (k := 4) HXF.out (.int .i64 ((r : Int) + 1))
   have hbz : Below w.heap.size w (W3.setCell ⟨bx, 4, none⟩ (.int .i64 ((r : Int) + 1))) := HBF.out.setCell (p := ⟨bx, 4, none⟩) hge _
   obtain ⟨W4, hW4⟩ : ∃ W, W = W3.setCell ⟨bx, 4, none⟩ (.int .i64 ((r : Int) + 1)) := ⟨_, rfl⟩
   rw [← hW4] at hxz hbz ⊢
   clear hW4 HXF HBF y0 y1 y2 y3 y4 yz
   simp at hxz
   obtain ⟨z0, z1, z2, z3, z4, zz⟩ := cells5 hxz
   have hc1 := HC1.out _ hbz
   refine wp_region_mix (fun w' => w' = W4.drew) true 5 [(0, false), (1, false), (2, false), (3, false), (4, false), (5, true)] (by kernel_rfl) (by kernel_rfl) rfl ?_
   simp only [planned, plnLz]
   iterate 5
    refine mix_readE rfl ?_
    apply Exists.intro
    refine ⟨fun w' hw => ?_, ?_⟩
    ·
     subst hw
     go_simp
     rfl
    simp only [putLz]
   refine mix_last rfl (fun K hK => ?_)
   unfold Oper.wp
   go_simp
   rw [← HREF.out]
   refine (HSET.out _ (below_drewN hbz 1)).mono ?_
   rintro x w5 ⟨rfl, hs5, hc5, hl5⟩
   refine hK _ _ (np_normal ?_)
   have HS5 := Lib.hid hs5
   have HC5 := Lib.hid hc5
   have HL5 := Lib.hid hl5
   clear hs5 hc5 hl5 hxz hbz z0 z1 z2 z3 z4 zz hc1
   go_wp2_with fail
   refine (HMORE.out _ HS5.out HL5.out HC5.out).mono ?_
   rintro x w6 ⟨rfl, hp⟩
   have HP := Lib.hid hp
   clear hp
   go_wp2_with fail
   go_ret
   exact HP.out
  ·
   skip
   simp only [altLz] at ho
   subst ho
   refine ⟨rfl, ?_⟩
   have hb4 := (below_drewN HB1.out 1).trans ((below_new1 (w1.drew) (.cells #[.int .i64 0, .int .i64 0, .int .i64 0, .int .i64 0, .int .i64 0] 157)).mono (below_drewN HB1.out 1).size)
   have hx4 := heap_alloc_new (w1.drew) (.cells #[.int .i64 0, .int .i64 0, .int .i64 0, .int .i64 0, .int .i64 0] 157)
   have hge : w.heap.size ≤ (w1.drew).heap.size := (below_drewN HB1.out 1).size
   refine oper_value (v := .pointer (some ⟨(w1.drew).heap.size, 0, none⟩)) (w' := (w1.drew).alloc (.cells #[.int .i64 0, .int .i64 0, .int .i64 0, .int .i64 0, .int .i64 0] 157)) (by go_simp) ⟨hb4, ?_⟩
   simp only [putLz]
   obtain ⟨bx, hbx⟩ : ∃ bx, bx = (w1.drew).heap.size := ⟨_, rfl⟩
   rw [← hbx] at hx4 hge ⊢
   obtain ⟨u4, hu4⟩ : ∃ u, u = (w1.drew).alloc (.cells #[.int .i64 0, .int .i64 0, .int .i64 0, .int .i64 0, .int .i64 0] 157) := ⟨_, rfl⟩
   rw [← hu4] at hx4 hb4 ⊢
   clear hu4 hbx
   refine left_alts [6] (by kernel_rfl) (fun i hi hS o ho => ?_)
   simp only [memLz] at hi
   subst hi
   simp only [altLz] at ho
   subst ho
   refine ⟨rfl, ?_⟩
   refine oper_call (v := (.tuple #[rnAgg N, .bool B])) (R := fun w' => Below (u4).heap.size (u4) w') (by go_simp) (HPA.out _ hb4) ?_
   intro v5 hv5
   have hb5 := hb4.trans (hv5.mono hb4.size)
   refine ⟨hb5, ?_⟩
   simp only [putLz]
   unfold rnAgg
   have hx5 := (hv5.block _ (Array.getElem?_eq_some_iff.1 hx4).1).trans hx4
   refine left_readE 7 rfl rfl (by kernel_rfl) ?_
   apply Exists.intro
   refine ⟨fun w' hw => ?_, ?_⟩
   ·
    clear hw
    go_simp
    rfl
   simp only [putLz]
   refine left_readE 8 rfl rfl (by kernel_rfl) ?_
   apply Exists.intro
   refine ⟨fun w' hw => ?_, ?_⟩
   ·
    clear hw
    go_simp
    rfl
   simp only [putLz]
   refine left_readE 9 rfl rfl (by kernel_rfl) ?_
   apply Exists.intro
   refine ⟨fun w' hw => ?_, ?_⟩
   ·
    clear hw
    go_simp
    rfl
   simp only [putLz]
   refine left_alts [11] (by kernel_rfl) (fun i hi hS o ho => ?_)
   simp only [memLz] at hi
   subst hi
   simp only [altLz] at ho
   subst ho
   refine ⟨rfl, ?_⟩
   obtain ⟨e0, e1, e2, e3, e4, fz⟩ := cells5 hx5
   refine oper_store (w' := set5 v5 bx 0 N) rfl (run_storeNode (k := 0) fz e0 e1 e2 e3 e4 _ _ _ _ _) ?_
   have hbf : Below w.heap.size w (set5 v5 bx 0 N) := below_set5 hb5 hge N
   have hxf := set5_new hx5 N
   refine ⟨hbf, ?_⟩
   simp only [putLz]
   clear e0 e1 e2 e3 e4 fz
   refine left_readE 12 rfl rfl (by kernel_rfl) ?_
   apply Exists.intro
   refine ⟨fun w' hw => ?_, ?_⟩
   ·
    clear hw
    go_simp
    rfl
   simp only [putLz]
   refine left_end (by kernel_rfl) ?_
   obtain rfl : B = true := HBT.out
   have hxf' := hxf
   rw [HNR.out] at hxf'
   have HXF := Lib.hid hxf'
   have HBF := Lib.hid hbf
   obtain ⟨y0, y1, y2, y3, y4, yz⟩ := cells5 hxf'
   obtain ⟨W3, hW3⟩ : ∃ W, W = set5 v5 bx 0 N := ⟨_, rfl⟩
   rw [← hW3] at y0 y1 y2 y3 y4 yz HXF HBF ⊢
   clear hW3 hxf hxf' hbf HNR HPA HN HBT
   go_upto_region 8 with fail
   have hxz := heap_setCell_same (k := 4) HXF.out (.int .i64 ((r : Int) + 1))
   have hbz : Below w.heap.size w (W3.setCell ⟨bx, 4, none⟩ (.int .i64 ((r : Int) + 1))) := HBF.out.setCell (p := ⟨bx, 4, none⟩) hge _
   obtain ⟨W4, hW4⟩ : ∃ W, W = W3.setCell ⟨bx, 4, none⟩ (.int .i64 ((r : Int) + 1)) := ⟨_, rfl⟩
   rw [← hW4] at hxz hbz ⊢
   clear hW4 HXF HBF y0 y1 y2 y3 y4 yz
   simp at hxz
   obtain ⟨z0, z1, z2, z3, z4, zz⟩ := cells5 hxz
   have hc1 := HC1.out _ hbz
   refine wp_region_mix (fun w' => w' = W4.drew) true 5 [(0, false), (1, false), (2, false), (3, false), (4, false), (5, true)] (by kernel_rfl) (by kernel_rfl) rfl ?_
   simp only [planned, plnLz]
   iterate 5
    refine mix_readE rfl ?_
    apply Exists.intro
    refine ⟨fun w' hw => ?_, ?_⟩
    ·
     subst hw
     go_simp
     rfl
    simp only [putLz]
   refine mix_last rfl (fun K hK => ?_)
   unfold Oper.wp
   go_simp
   rw [← HREF.out]
   refine (HSET.out _ (below_drewN hbz 1)).mono ?_
   rintro x w5 ⟨rfl, hs5, hc5, hl5⟩
   refine hK _ _ (np_normal ?_)
   have HS5 := Lib.hid hs5
   have HC5 := Lib.hid hc5
   have HL5 := Lib.hid hl5
   clear hs5 hc5 hl5 hxz hbz z0 z1 z2 z3 z4 zz hc1
   go_wp2_with fail
   refine (HMORE.out _ HS5.out HL5.out HC5.out).mono ?_
   rintro x w6 ⟨rfl, hp⟩
   have HP := Lib.hid hp
   clear hp
   go_wp2_with fail
   go_ret
   exact HP.out
 ·
  skip
  simp only [altLz] at ho
  subst ho
  refine ⟨rfl, ?_⟩
  have hb6 := (below_drewN HB1.out 1).trans ((below_new1 (w1.drew) (.cells #[.int .i64 0, .int .i64 0, .int .i64 0, .int .i64 0, .int .i64 0] 157)).mono (below_drewN HB1.out 1).size)
  have hx6 := heap_alloc_new (w1.drew) (.cells #[.int .i64 0, .int .i64 0, .int .i64 0, .int .i64 0, .int .i64 0] 157)
  have hge : w.heap.size ≤ (w1.drew).heap.size := (below_drewN HB1.out 1).size
  refine oper_value (v := .pointer (some ⟨(w1.drew).heap.size, 0, none⟩)) (w' := (w1.drew).alloc (.cells #[.int .i64 0, .int .i64 0, .int .i64 0, .int .i64 0, .int .i64 0] 157)) (by go_simp) ⟨hb6, ?_⟩
  simp only [putLz]
  obtain ⟨bx, hbx⟩ : ∃ bx, bx = (w1.drew).heap.size := ⟨_, rfl⟩
  rw [← hbx] at hx6 hge ⊢
  obtain ⟨u6, hu6⟩ : ∃ u, u = (w1.drew).alloc (.cells #[.int .i64 0, .int .i64 0, .int .i64 0, .int .i64 0, .int .i64 0] 157) := ⟨_, rfl⟩
  rw [← hu6] at hx6 hb6 ⊢
  clear hu6 hbx
  refine left_alts [5] (by kernel_rfl) (fun i hi hS o ho => ?_)
  simp only [memLz] at hi
  subst hi
  simp only [altLz] at ho
  subst ho
  refine ⟨rfl, ?_⟩
  refine oper_call (v := (.int .i64 k)) (R := fun w' => u6 = w') (by go_simp) (HN.out _) ?_
  rintro w' rfl
  refine ⟨hb6, ?_⟩
  simp only [putLz]
  refine left_alts [6] (by kernel_rfl) (fun i hi hS o ho => ?_)
  simp only [memLz] at hi
  subst hi
  simp only [altLz] at ho
  subst ho
  refine ⟨rfl, ?_⟩
  refine oper_call (v := (.tuple #[rnAgg N, .bool B])) (R := fun w' => Below (u6).heap.size (u6) w') (by go_simp) (HPA.out _ hb6) ?_
  intro v8 hv8
  have hb8 := hb6.trans (hv8.mono hb6.size)
  refine ⟨hb8, ?_⟩
  simp only [putLz]
  unfold rnAgg
  have hx8 := (hv8.block _ (Array.getElem?_eq_some_iff.1 hx6).1).trans hx6
  refine left_readE 7 rfl rfl (by kernel_rfl) ?_
  apply Exists.intro
  refine ⟨fun w' hw => ?_, ?_⟩
  ·
   clear hw
   go_simp
   rfl
  simp only [putLz]
  refine left_readE 8 rfl rfl (by kernel_rfl) ?_
  apply Exists.intro
  refine ⟨fun w' hw => ?_, ?_⟩
  ·
   clear hw
   go_simp
   rfl
  simp only [putLz]
  refine left_readE 9 rfl rfl (by kernel_rfl) ?_
  apply Exists.intro
  refine ⟨fun w' hw => ?_, ?_⟩
  ·
   clear hw
   go_simp
   rfl
  simp only [putLz]
  refine left_alts [11] (by kernel_rfl) (fun i hi hS o ho => ?_)
  simp only [memLz] at hi
  subst hi
  simp only [altLz] at ho
  subst ho
  refine ⟨rfl, ?_⟩
  obtain ⟨e0, e1, e2, e3, e4, fz⟩ := cells5 hx8
  refine oper_store (w' := set5 v8 bx 0 N) rfl (run_storeNode (k := 0) fz e0 e1 e2 e3 e4 _ _ _ _ _) ?_
  have hbf : Below w.heap.size w (set5 v8 bx 0 N) := below_set5 hb8 hge N
  have hxf := set5_new hx8 N
  refine ⟨hbf, ?_⟩
  simp only [putLz]
  clear e0 e1 e2 e3 e4 fz
  refine left_readE 12 rfl rfl (by kernel_rfl) ?_
  apply Exists.intro
  refine ⟨fun w' hw => ?_, ?_⟩
  ·
   clear hw
   go_simp
   rfl
  simp only [putLz]
  refine left_end (by kernel_rfl) ?_
  obtain rfl : B = true := HBT.out
  have hxf' := hxf
  rw [HNR.out] at hxf'
  have HXF := Lib.hid hxf'
  have HBF := Lib.hid hbf
  obtain ⟨y0, y1, y2, y3, y4, yz⟩ := cells5 hxf'
  obtain ⟨W3, hW3⟩ : ∃ W, W = set5 v8 bx 0 N := ⟨_, rfl⟩
  rw [← hW3] at y0 y1 y2 y3 y4 yz HXF HBF ⊢
  clear hW3 hxf hxf' hbf HNR HPA HN HBT
  go_upto_region 8 with fail
  have hxz := heap_setCell_same (k := 4) HXF.out (.int .i64 ((r : Int) + 1))
  have hbz : Below w.heap.size w (W3.setCell ⟨bx, 4, none⟩ (.int .i64 ((r : Int) + 1))) := HBF.out.setCell (p := ⟨bx, 4, none⟩) hge _
  obtain ⟨W4, hW4⟩ : ∃ W, W = W3.setCell ⟨bx, 4, none⟩ (.int .i64 ((r : Int) + 1)) := ⟨_, rfl⟩
  rw [← hW4] at hxz hbz ⊢
  clear hW4 HXF HBF y0 y1 y2 y3 y4 yz
  simp at hxz
  obtain ⟨z0, z1, z2, z3, z4, zz⟩ := cells5 hxz
  have hc1 := HC1.out _ hbz
  refine wp_region_mix (fun w' => w' = W4.drew) true 5 [(0, false), (1, false), (2, false), (3, false), (4, false), (5, true)] (by kernel_rfl) (by kernel_rfl) rfl ?_
  simp only [planned, plnLz]
  iterate 5
   refine mix_readE rfl ?_
   apply Exists.intro
   refine ⟨fun w' hw => ?_, ?_⟩
   ·
    subst hw
    go_simp
    rfl
   simp only [putLz]
  refine mix_last rfl (fun K hK => ?_)
  unfold Oper.wp
  go_simp
  rw [← HREF.out]
  refine (HSET.out _ (below_drewN hbz 1)).mono ?_
  rintro x w5 ⟨rfl, hs5, hc5, hl5⟩
  refine hK _ _ (np_normal ?_)
  have HS5 := Lib.hid hs5
  have HC5 := Lib.hid hc5
  have HL5 := Lib.hid hl5
  clear hs5 hc5 hl5 hxz hbz z0 z1 z2 z3 z4 zz hc1
  go_wp2_with fail
  refine (HMORE.out _ HS5.out HL5.out HC5.out).mono ?_
  rintro x w6 ⟨rfl, hp⟩
  have HP := Lib.hid hp
  clear hp
  go_wp2_with fail
  go_ret
  exact HP.out
open Go.RowKit
set_option maxRecDepth 100000 in
set_option maxHeartbeats 800000 in
theorem storeDrop_none {o : Own} {w : World} {sb : Nat} {d : StoreD} {s : StoreW} (h : StoreIn o w sb d s) (hlt : OwnLt o w) (hl : LiveC d (extOf d)) (f : Nat) (hf : f < eMax) (hx : enode f = 0) :
 Calls Tryz.prog 103 #[.pointer (some ⟨sb, 0, none⟩), .int .i64 f] w (HoldPost o w sb d s f (-1)) := by
 obtain ⟨c0, c1, c2, c3, c4, f0⟩ := cells5 h.blk
 have lsb : sb < w.heap.size := lt_of_cell c0
 have HPOST : Hid (∀ W : World, Below w.heap.size w W → HoldPost o w sb d s f (-1) (.returned (.int .i64 0)) W) := fun W hb =>
  ⟨d, rfl, h.below hlt hb, hlt.mono hb.size, ⟨rfl, rfl, rfl, rfl, rfl, rfl, rfl, rfl, rfl, fun i hi => by
   have e : f / 2 = 0 := hx
   simp [toE, e, Ne.symm hi], hl⟩, Chg.of_below hb _ _⟩
 have hisv : (decide (enode f = 0) || d.pool.tk (enode f)) = true := by rw [hx]; rfl
 have HIS : Hid (∀ W : World, Below w.heap.size w W → Calls Tryz.prog 87 #[.pointer (some ⟨sb, 0, none⟩), .int .i64 f] W fun x w' => x = .returned (.bool true) ∧ Below W.heap.size W w') := fun W hb => by
  have h1 := storeIs_any (h.below hlt hb) (hlt.mono hb.size) f hf
  rw [hisv] at h1
  exact h1
 have htk : d.pool.tk 0 = false := h.pool.zero
 have HPA : Hid (∀ W : World, Below w.heap.size w W → Calls Tryz.prog 123 #[.pointer (some ⟨s.pb, 0, none⟩), .int .i64 (enode f : Nat)] W fun x w' => x = .returned (.tuple #[rnAgg (d.pool.has (enode f)), .bool (d.pool.tk (enode f))]) ∧ Below W.heap.size W w') :=
  Lib.hid (fun W hb => poolAt_any o s.pb d.pool (enode f) W (h.pool.below hb hlt) (hlt.mono hb.size))
 have HC1 : Hid (∀ W : World, Below w.heap.size w W → W.cell? ⟨sb, 1, none⟩ = some (.pointer (some ⟨s.pb, 0, none⟩))) := Lib.hid (fun W hb => (hb.cell (p := ⟨sb, 1, none⟩) lsb).trans c1)
 have HN := Lib.hid (fun W => node_any f W hf)
 have htk' : d.pool.tk (enode f) = false := by rw [hx]; exact htk
 obtain ⟨N, hN⟩ : ∃ N, N = d.pool.has (enode f) := ⟨_, rfl⟩
 obtain ⟨B, hB⟩ : ∃ B, B = d.pool.tk (enode f) := ⟨_, rfl⟩
 obtain ⟨k, hk⟩ : ∃ k, k = enode f := ⟨_, rfl⟩
 rw [← hN, ← hB, ← hk] at HPA
 rw [← hk] at HN
 have HB := Lib.hid (hB.trans htk')
 clear h hlt hl hf hx hisv c0 c1 c2 c3 c4 f0 lsb htk htk' hN hk hB
 go_enter Tryz.func103, Tryz.ntmps103
 go_wp2_with fail
 refine (HIS.out _ (Below.refl _ _)).mono ?_
 rintro x w1 ⟨rfl, hb1⟩
 have HB1 := Lib.hid hb1
 clear hb1
 go_upto_region 5 with fail
 refine wp_region_left (fun W : World => Below w.heap.size w W) 13 (by kernel_rfl) (below_drewN HB1.out 1) ?_
 refine left_readE 0 rfl rfl (by kernel_rfl) ?_
 apply Exists.intro
 refine ⟨fun w' hw => ?_, ?_⟩
 ·
  have hc1 := HC1.out w' hw
  go_simp
  rfl
 simp only [putLz]
 refine left_readE 1 rfl rfl (by kernel_rfl) ?_
 apply Exists.intro
 refine ⟨fun w' hw => ?_, ?_⟩
 ·
  have hc1 := HC1.out w' hw
  go_simp
  rfl
 simp only [putLz]
 refine left_readE 2 rfl rfl (by kernel_rfl) ?_
 apply Exists.intro
 refine ⟨fun w' hw => ?_, ?_⟩
 ·
  have hc1 := HC1.out w' hw
  go_simp
  rfl
 simp only [putLz]
 refine left_readE 3 rfl rfl (by kernel_rfl) ?_
 apply Exists.intro
 refine ⟨fun w' hw => ?_, ?_⟩
 ·
  have hc1 := HC1.out w' hw
  go_simp
  rfl
 simp only [putLz]
 refine left_readE 4 rfl rfl (by kernel_rfl) ?_
 apply Exists.intro
 refine ⟨fun w' hw => ?_, ?_⟩
 ·
  have hc1 := HC1.out w' hw
  go_simp
  rfl
 simp only [putLz]
 refine left_alts [5, 10] (by kernel_rfl) (fun i hi hS o ho => ?_)
 simp only [memLz] at hi
 rcases hi with rfl | rfl
 ·
  skip
  simp only [altLz] at ho
  subst ho
  refine ⟨rfl, ?_⟩
  refine oper_call (v := (.int .i64 k)) (R := fun w' => w1.drew = w') (by go_simp) (HN.out _) ?_
  rintro w' rfl
  refine ⟨(below_drewN HB1.out 1), ?_⟩
  simp only [putLz]
  refine left_alts [6, 10] (by kernel_rfl) (fun i hi hS o ho => ?_)
  simp only [memLz] at hi
  rcases hi with rfl | rfl
  ·
   skip
   simp only [altLz] at ho
   subst ho
   refine ⟨rfl, ?_⟩
   refine oper_call (v := (.tuple #[rnAgg N, .bool B])) (R := fun w' => Below (w1.drew).heap.size (w1.drew) w') (by go_simp) (HPA.out _ (below_drewN HB1.out 1)) ?_
   intro v2 hv2
   have hb2 := (below_drewN HB1.out 1).trans (hv2.mono (below_drewN HB1.out 1).size)
   refine ⟨hb2, ?_⟩
   simp only [putLz]
   unfold rnAgg
   refine left_readE 7 rfl rfl (by kernel_rfl) ?_
   apply Exists.intro
   refine ⟨fun w' hw => ?_, ?_⟩
   ·
    clear hw
    go_simp
    rfl
   simp only [putLz]
   refine left_readE 8 rfl rfl (by kernel_rfl) ?_
   apply Exists.intro
   refine ⟨fun w' hw => ?_, ?_⟩
   ·
    clear hw
    go_simp
    rfl
   simp only [putLz]
   refine left_readE 9 rfl rfl (by kernel_rfl) ?_
   apply Exists.intro
   refine ⟨fun w' hw => ?_, ?_⟩
   ·
    clear hw
    go_simp
    rfl
   simp only [putLz]
   refine left_alts [10] (by kernel_rfl) (fun i hi hS o ho => ?_)
   simp only [memLz] at hi
   subst hi
   simp only [altLz] at ho
   subst ho
   refine ⟨rfl, ?_⟩
   have hb3 := hb2.trans ((below_new1 (v2) (.cells #[.int .i64 0, .int .i64 0, .int .i64 0, .int .i64 0, .int .i64 0] 157)).mono hb2.size)
   have hx3 := heap_alloc_new (v2) (.cells #[.int .i64 0, .int .i64 0, .int .i64 0, .int .i64 0, .int .i64 0] 157)
   have hge : w.heap.size ≤ (v2).heap.size := hb2.size
   refine oper_value (v := .pointer (some ⟨(v2).heap.size, 0, none⟩)) (w' := (v2).alloc (.cells #[.int .i64 0, .int .i64 0, .int .i64 0, .int .i64 0, .int .i64 0] 157)) (by go_simp) ⟨hb3, ?_⟩
   simp only [putLz]
   obtain ⟨bx, hbx⟩ : ∃ bx, bx = (v2).heap.size := ⟨_, rfl⟩
   rw [← hbx] at hx3 hge ⊢
   obtain ⟨u3, hu3⟩ : ∃ u, u = (v2).alloc (.cells #[.int .i64 0, .int .i64 0, .int .i64 0, .int .i64 0, .int .i64 0] 157) := ⟨_, rfl⟩
   rw [← hu3] at hx3 hb3 ⊢
   clear hu3 hbx
   refine left_alts [11] (by kernel_rfl) (fun i hi hS o ho => ?_)
   simp only [memLz] at hi
   subst hi
   simp only [altLz] at ho
   subst ho
   refine ⟨rfl, ?_⟩
   obtain ⟨e0, e1, e2, e3, e4, fz⟩ := cells5 hx3
   refine oper_store (w' := set5 u3 bx 0 N) rfl (run_storeNode (k := 0) fz e0 e1 e2 e3 e4 _ _ _ _ _) ?_
   have hbf : Below w.heap.size w (set5 u3 bx 0 N) := below_set5 hb3 hge N
   have hxf := set5_new hx3 N
   refine ⟨hbf, ?_⟩
   simp only [putLz]
   clear e0 e1 e2 e3 e4 fz
   refine left_readE 12 rfl rfl (by kernel_rfl) ?_
   apply Exists.intro
   refine ⟨fun w' hw => ?_, ?_⟩
   ·
    clear hw
    go_simp
    rfl
   simp only [putLz]
   refine left_end (by kernel_rfl) ?_
   obtain rfl : B = false := HB.out
   have HBF := Lib.hid hbf
   obtain ⟨W3, hW3⟩ : ∃ W, W = set5 u3 bx 0 N := ⟨_, rfl⟩
   rw [← hW3] at HBF ⊢
   clear hW3 hbf hxf HPA HN HIS HC1 HB1 HB
   go_wp2_with fail
   go_ret
   exact HPOST.out _ HBF.out
  ·
   skip
   simp only [altLz] at ho
   subst ho
   refine ⟨rfl, ?_⟩
   have hb4 := (below_drewN HB1.out 1).trans ((below_new1 (w1.drew) (.cells #[.int .i64 0, .int .i64 0, .int .i64 0, .int .i64 0, .int .i64 0] 157)).mono (below_drewN HB1.out 1).size)
   have hx4 := heap_alloc_new (w1.drew) (.cells #[.int .i64 0, .int .i64 0, .int .i64 0, .int .i64 0, .int .i64 0] 157)
   have hge : w.heap.size ≤ (w1.drew).heap.size := (below_drewN HB1.out 1).size
   refine oper_value (v := .pointer (some ⟨(w1.drew).heap.size, 0, none⟩)) (w' := (w1.drew).alloc (.cells #[.int .i64 0, .int .i64 0, .int .i64 0, .int .i64 0, .int .i64 0] 157)) (by go_simp) ⟨hb4, ?_⟩
   simp only [putLz]
   obtain ⟨bx, hbx⟩ : ∃ bx, bx = (w1.drew).heap.size := ⟨_, rfl⟩
   rw [← hbx] at hx4 hge ⊢
   obtain ⟨u4, hu4⟩ : ∃ u, u = (w1.drew).alloc (.cells #[.int .i64 0, .int .i64 0, .int .i64 0, .int .i64 0, .int .i64 0] 157) := ⟨_, rfl⟩
   rw [← hu4] at hx4 hb4 ⊢
   clear hu4 hbx
   refine left_alts [6] (by kernel_rfl) (fun i hi hS o ho => ?_)
   simp only [memLz] at hi
   subst hi
   simp only [altLz] at ho
   subst ho
   refine ⟨rfl, ?_⟩
   refine oper_call (v := (.tuple #[rnAgg N, .bool B])) (R := fun w' => Below (u4).heap.size (u4) w') (by go_simp) (HPA.out _ hb4) ?_
   intro v5 hv5
   have hb5 := hb4.trans (hv5.mono hb4.size)
   refine ⟨hb5, ?_⟩
   simp only [putLz]
   unfold rnAgg
   have hx5 := (hv5.block _ (Array.getElem?_eq_some_iff.1 hx4).1).trans hx4
   refine left_readE 7 rfl rfl (by kernel_rfl) ?_
   apply Exists.intro
   refine ⟨fun w' hw => ?_, ?_⟩
   ·
    clear hw
    go_simp
    rfl
   simp only [putLz]
   refine left_readE 8 rfl rfl (by kernel_rfl) ?_
   apply Exists.intro
   refine ⟨fun w' hw => ?_, ?_⟩
   ·
    clear hw
    go_simp
    rfl
   simp only [putLz]
   refine left_readE 9 rfl rfl (by kernel_rfl) ?_
   apply Exists.intro
   refine ⟨fun w' hw => ?_, ?_⟩
   ·
    clear hw
    go_simp
    rfl
   simp only [putLz]
   refine left_alts [11] (by kernel_rfl) (fun i hi hS o ho => ?_)
   simp only [memLz] at hi
   subst hi
   simp only [altLz] at ho
   subst ho
   refine ⟨rfl, ?_⟩
   obtain ⟨e0, e1, e2, e3, e4, fz⟩ := cells5 hx5
   refine oper_store (w' := set5 v5 bx 0 N) rfl (run_storeNode (k := 0) fz e0 e1 e2 e3 e4 _ _ _ _ _) ?_
   have hbf : Below w.heap.size w (set5 v5 bx 0 N) := below_set5 hb5 hge N
   have hxf := set5_new hx5 N
   refine ⟨hbf, ?_⟩
   simp only [putLz]
   clear e0 e1 e2 e3 e4 fz
   refine left_readE 12 rfl rfl (by kernel_rfl) ?_
   apply Exists.intro
   refine ⟨fun w' hw => ?_, ?_⟩
   ·
    clear hw
    go_simp
    rfl
   simp only [putLz]
   refine left_end (by kernel_rfl) ?_
   obtain rfl : B = false := HB.out
   have HBF := Lib.hid hbf
   obtain ⟨W3, hW3⟩ : ∃ W, W = set5 v5 bx 0 N := ⟨_, rfl⟩
   rw [← hW3] at HBF ⊢
   clear hW3 hbf hxf HPA HN HIS HC1 HB1 HB
   go_wp2_with fail
   go_ret
   exact HPOST.out _ HBF.out
 ·
  skip
  simp only [altLz] at ho
  subst ho
  refine ⟨rfl, ?_⟩
  have hb6 := (below_drewN HB1.out 1).trans ((below_new1 (w1.drew) (.cells #[.int .i64 0, .int .i64 0, .int .i64 0, .int .i64 0, .int .i64 0] 157)).mono (below_drewN HB1.out 1).size)
  have hx6 := heap_alloc_new (w1.drew) (.cells #[.int .i64 0, .int .i64 0, .int .i64 0, .int .i64 0, .int .i64 0] 157)
  have hge : w.heap.size ≤ (w1.drew).heap.size := (below_drewN HB1.out 1).size
  refine oper_value (v := .pointer (some ⟨(w1.drew).heap.size, 0, none⟩)) (w' := (w1.drew).alloc (.cells #[.int .i64 0, .int .i64 0, .int .i64 0, .int .i64 0, .int .i64 0] 157)) (by go_simp) ⟨hb6, ?_⟩
  simp only [putLz]
  obtain ⟨bx, hbx⟩ : ∃ bx, bx = (w1.drew).heap.size := ⟨_, rfl⟩
  rw [← hbx] at hx6 hge ⊢
  obtain ⟨u6, hu6⟩ : ∃ u, u = (w1.drew).alloc (.cells #[.int .i64 0, .int .i64 0, .int .i64 0, .int .i64 0, .int .i64 0] 157) := ⟨_, rfl⟩
  rw [← hu6] at hx6 hb6 ⊢
  clear hu6 hbx
  refine left_alts [5] (by kernel_rfl) (fun i hi hS o ho => ?_)
  simp only [memLz] at hi
  subst hi
  simp only [altLz] at ho
  subst ho
  refine ⟨rfl, ?_⟩
  refine oper_call (v := (.int .i64 k)) (R := fun w' => u6 = w') (by go_simp) (HN.out _) ?_
  rintro w' rfl
  refine ⟨hb6, ?_⟩
  simp only [putLz]
  refine left_alts [6] (by kernel_rfl) (fun i hi hS o ho => ?_)
  simp only [memLz] at hi
  subst hi
  simp only [altLz] at ho
  subst ho
  refine ⟨rfl, ?_⟩
  refine oper_call (v := (.tuple #[rnAgg N, .bool B])) (R := fun w' => Below (u6).heap.size (u6) w') (by go_simp) (HPA.out _ hb6) ?_
  intro v8 hv8
  have hb8 := hb6.trans (hv8.mono hb6.size)
  refine ⟨hb8, ?_⟩
  simp only [putLz]
  unfold rnAgg
  have hx8 := (hv8.block _ (Array.getElem?_eq_some_iff.1 hx6).1).trans hx6
  refine left_readE 7 rfl rfl (by kernel_rfl) ?_
  apply Exists.intro
  refine ⟨fun w' hw => ?_, ?_⟩
  ·
   clear hw
   go_simp
   rfl
  simp only [putLz]
  refine left_readE 8 rfl rfl (by kernel_rfl) ?_
  apply Exists.intro
  refine ⟨fun w' hw => ?_, ?_⟩
  ·
   clear hw
   go_simp
   rfl
  simp only [putLz]
  refine left_readE 9 rfl rfl (by kernel_rfl) ?_
  apply Exists.intro
  refine ⟨fun w' hw => ?_, ?_⟩
  ·
   clear hw
   go_simp
   rfl
  simp only [putLz]
  refine left_alts [11] (by kernel_rfl) (fun i hi hS o ho => ?_)
  simp only [memLz] at hi
  subst hi
  simp only [altLz] at ho
  subst ho
  refine ⟨rfl, ?_⟩
  obtain ⟨e0, e1, e2, e3, e4, fz⟩ := cells5 hx8
  refine oper_store (w' := set5 v8 bx 0 N) rfl (run_storeNode (k := 0) fz e0 e1 e2 e3 e4 _ _ _ _ _) ?_
  have hbf : Below w.heap.size w (set5 v8 bx 0 N) := below_set5 hb8 hge N
  have hxf := set5_new hx8 N
  refine ⟨hbf, ?_⟩
  simp only [putLz]
  clear e0 e1 e2 e3 e4 fz
  refine left_readE 12 rfl rfl (by kernel_rfl) ?_
  apply Exists.intro
  refine ⟨fun w' hw => ?_, ?_⟩
  ·
   clear hw
   go_simp
   rfl
  simp only [putLz]
  refine left_end (by kernel_rfl) ?_
  obtain rfl : B = false := HB.out
  have HBF := Lib.hid hbf
  obtain ⟨W3, hW3⟩ : ∃ W, W = set5 v8 bx 0 N := ⟨_, rfl⟩
  rw [← hW3] at HBF ⊢
  clear hW3 hbf hxf HPA HN HIS HC1 HB1 HB
  go_wp2_with fail
  go_ret
  exact HPOST.out _ HBF.out
set_option maxRecDepth 100000 in
set_option maxHeartbeats 1600000 in
theorem storeDrop_node {o : Own} {w : World} {sb : Nat} {d : StoreD} {s : StoreW} (h : StoreIn o w sb d s) (hlt : OwnLt o w) (hl : LiveC d (extOf d)) {rk : Nat → Nat} (ha : Acy (nodesOf d) rk) (f : Nat) {b : BN} (hx : nodesOf d (enode f) = some b)
 (htop : ∀ y b, nodesOf d y = some b → extOf d y < 1099511627776) (hpos : 1 ≤ extOf d (enode f)) (hcn : ∀ y b, nodesOf d y = some b → cntOf d y ≤ 2199023255552) :
 Calls Tryz.prog 103 #[.pointer (some ⟨sb, 0, none⟩), .int .i64 f] w (HoldPost o w sb d s f (-1)) := by
 obtain ⟨c0, c1, c2, c3, c4, f0⟩ := cells5 h.blk
 have lsb : sb < w.heap.size := lt_of_cell c0
 have hok : okE (nodesOf d) f := .inr ⟨b, hx⟩
 have hf : f < eMax := by have := h.edge_lt hok; unfold eMax; omega
 have hns := nodesOf_some hx
 have htl := h.tk_lt hx
 have hrf : (d.pool.nd (enode f)).refs < 1099511627776 := by have := htop _ _ hx; rw [extOf_node hns.1] at this; omega
 have hid : (d.pool.nd (enode f)).id = enode f := h.pool.id _ hns.1
 have hisv : (decide (enode f = 0) || d.pool.tk (enode f)) = true := by rw [hns.1]; simp
 have HIS : Hid (∀ W : World, Below w.heap.size w W → Calls Tryz.prog 87 #[.pointer (some ⟨sb, 0, none⟩), .int .i64 f] W fun x w' => x = .returned (.bool true) ∧ Below W.heap.size W w') := fun W hb => by
  have h1 := storeIs_any (h.below hlt hb) (hlt.mono hb.size) f hf
  rw [hisv] at h1
  exact h1
 have HPA : Hid (∀ W : World, Below w.heap.size w W → Calls Tryz.prog 123 #[.pointer (some ⟨s.pb, 0, none⟩), .int .i64 (enode f : Nat)] W fun x w' => x = .returned (.tuple #[rnAgg (d.pool.has (enode f)), .bool (d.pool.tk (enode f))]) ∧ Below W.heap.size W w') :=
  Lib.hid (fun W hb => poolAt_any o s.pb d.pool (enode f) W (h.pool.below hb hlt) (hlt.mono hb.size))
 have HC1 : Hid (∀ W : World, Below w.heap.size w W → W.cell? ⟨sb, 1, none⟩ = some (.pointer (some ⟨s.pb, 0, none⟩))) := Lib.hid (fun W hb => (hb.cell (p := ⟨sb, 1, none⟩) lsb).trans c1)
 have HN := Lib.hid (fun W => node_any f W hf)
 obtain ⟨r, hr⟩ : ∃ r, r = (d.pool.nd (enode f)).refs := ⟨_, rfl⟩
 have hrp : 1 ≤ r := by rw [extOf_node hns.1] at hpos; omega
 have HSET : Hid (∀ W : World, Below w.heap.size w W → Calls Tryz.prog 140 #[.pointer (some ⟨s.pb, 0, none⟩), rnAgg ((d.pool.nd (enode f)).ref (r - 1))] W fun x w' => x = .returned (.int .i64 0) ∧ StoreIn o w' sb { d with pool := d.pool.setNd (enode f) ((d.pool.nd (enode f)).ref (r - 1)) } s ∧ Chg RStore o o w w' ∧ OwnLt o w') := fun W hb => by
  have hi' : d.pool.tk ((d.pool.nd (enode f)).ref (r - 1)).id = true := by show d.pool.tk (d.pool.nd (enode f)).id = true; rw [hid]; exact hns.1
  refine (poolSet_any o s.pb d.pool ((d.pool.nd (enode f)).ref (r - 1)) W (h.pool.below hb hlt) (hlt.mono hb.size) hi').mono ?_
  rintro e w' ⟨rfl, hp, hc, hl'⟩
  have e1 : ((d.pool.nd (enode f)).ref (r - 1)).id = enode f := hid
  rw [e1] at hp
  exact ⟨rfl, (h.below hlt hb).setPool (hlt.mono hb.size) hp (hc.mono (fun r hr => by simp [RPool, hr])), (Chg.of_below hb _ _).trans (hc.mono rslots_store), hl'⟩
 have HMORE : Hid (∀ (W : World), StoreIn o W sb { d with pool := d.pool.setNd (enode f) ((d.pool.nd (enode f)).ref (r - 1)) } s → OwnLt o W → Chg RStore o o w W →
  Calls Tryz.prog 142 #[.pointer (some ⟨sb, 0, none⟩), .int .i64 f] W fun e w' => e = .returned (.tuple #[]) ∧ HoldPost o w sb d s f (-1) (.returned (.int .i64 0)) w') := fun W hs hl' hch => by
  have hnd := setRef_nodes (d := d) (k := r - 1) htl.2.1 hns.1
  refine (storeLess_any o sb s rk (rk (enode f) + 1) W _ (extOf d) f ⟨hs, hl', by rw [hnd]; exact ha, by rw [hnd]; exact hok, setRef_live htl.2.1 hns.1 hl, fun y q hq => hcn y q (by rw [hnd] at hq; exact hq), fun y q hq => (by
   rw [hnd] at hq
   by_cases e : enode f = y
   ·
    subst e
    have h1 : extOf d (enode f) = (r : Int) := by rw [extOf_node hns.1, hr]
    have h2 : toE f (enode f) = 1 := toE_hit f
    rw [h1, h2]; omega
   ·
    have h1 : toE f y = 0 := if_neg e
    have h2 : 0 ≤ extOf d y := by unfold extOf; split <;> omega
    rw [h1]; omega), .inr (Nat.lt_succ_self _)⟩).mono ?_
  rintro e w' ⟨cs, dd, rfl, hs2, hl2, hcl, _, _, hc2⟩
  refine ⟨rfl, _, rfl, hs2, hl'.mono hc2.size, ⟨rfl, rfl, rfl, hnd, rfl, rfl, rfl, by simp [StoreD.cd, PoolD.setNd], hcl, fun i hi => ?_, hl2.congr (fun y b' hb' => ?_)⟩, hch.trans (hc2.mono rcnt_store)⟩
  ·
   show extOf { d with pool := d.pool.setNd (enode f) ((d.pool.nd (enode f)).ref (r - 1)) } i = _
   rw [setRef_ext htl.2.1 hns.1]
   dsimp only
   unfold toE
   by_cases e : i = enode f
   ·
    have e' : f / 2 = i := e.symm
    rw [if_pos e, if_pos e', e, extOf_node hns.1, ← hr]; omega
   ·
    have e' : ¬ f / 2 = i := fun h' => e h'.symm
    rw [if_neg e, if_neg e']; omega
  ·
   show extOf { d with pool := d.pool.setNd (enode f) ((d.pool.nd (enode f)).ref (r - 1)) } y = _
   rw [setRef_ext htl.2.1 hns.1]
   dsimp only
   unfold addE toE
   by_cases e : y = enode f
   ·
    have e' : f / 2 = y := e.symm
    rw [if_pos e, if_pos e', e, extOf_node hns.1, ← hr]; omega
   ·
    have e' : ¬ f / 2 = y := fun h' => e h'.symm
    rw [if_neg e, if_neg e']; omega
 have hNn : d.pool.has (enode f) = d.pool.nd (enode f) := hns.2.1
 rw [hNn] at HPA
 have HREF : Hid (rnAgg ((d.pool.nd (enode f)).ref (r - 1)) = .agg #[.int .i64 (d.pool.nd (enode f)).id, .int .i64 (d.pool.nd (enode f)).v, .int .i64 (d.pool.nd (enode f)).lo, .int .i64 (d.pool.nd (enode f)).hi, .int .i64 ((r : Int) - 1)]) := by
  show _ = _
  unfold rnAgg RN.ref
  dsimp only
  rw [show ((r - 1 : Nat) : Int) = (r : Int) - 1 from by omega]
 rw [hns.1] at HPA
 rw [← hr] at hrf
 obtain ⟨N, hN⟩ : ∃ N, N = d.pool.nd (enode f) := ⟨_, rfl⟩
 have hNr : N.refs = r := by rw [hN, hr]
 rw [← hN] at HPA HREF HSET HMORE
 obtain ⟨B, hB⟩ : ∃ B, B = true := ⟨_, rfl⟩
 rw [← hB] at HPA
 obtain ⟨k, hk⟩ : ∃ k, k = enode f := ⟨_, rfl⟩
 rw [← hk] at HPA HN
 have HBT := Lib.hid hB
 have HNR := Lib.hid hNr
 have HW0 := Lib.hid hk
 clear h hlt hl ha hx htop hf hns hisv htl hid hr hNn hN hB hk hok c0 c1 c2 c3 c4 f0 lsb hNr hpos hcn
 go_enter Tryz.func103, Tryz.ntmps103
 go_wp2_with fail
 refine (HIS.out _ (Below.refl _ _)).mono ?_
 rintro x w1 ⟨rfl, hb1⟩
 have HB1 := Lib.hid hb1
 clear hb1 HIS
 go_upto_region 5 with fail
 refine wp_region_left (fun W : World => Below w.heap.size w W) 13 (by kernel_rfl) (below_drewN HB1.out 1) ?_
 refine left_readE 0 rfl rfl (by kernel_rfl) ?_
 apply Exists.intro
 refine ⟨fun w' hw => ?_, ?_⟩
 ·
  have hc1 := HC1.out w' hw
  go_simp
  rfl
 simp only [putLz]
 refine left_readE 1 rfl rfl (by kernel_rfl) ?_
 apply Exists.intro
 refine ⟨fun w' hw => ?_, ?_⟩
 ·
  have hc1 := HC1.out w' hw
  go_simp
  rfl
 simp only [putLz]
 refine left_readE 2 rfl rfl (by kernel_rfl) ?_
 apply Exists.intro
 refine ⟨fun w' hw => ?_, ?_⟩
 ·
  have hc1 := HC1.out w' hw
  go_simp
  rfl
 simp only [putLz]
 refine left_readE 3 rfl rfl (by kernel_rfl) ?_
 apply Exists.intro
 refine ⟨fun w' hw => ?_, ?_⟩
 ·
  have hc1 := HC1.out w' hw
  go_simp
  rfl
 simp only [putLz]
 refine left_readE 4 rfl rfl (by kernel_rfl) ?_
 apply Exists.intro
 refine ⟨fun w' hw => ?_, ?_⟩
 ·
  have hc1 := HC1.out w' hw
  go_simp
  rfl
 simp only [putLz]
 refine left_alts [5, 10] (by kernel_rfl) (fun i hi hS o ho => ?_)
 simp only [memLz] at hi
 rcases hi with rfl | rfl
 ·
  skip
  simp only [altLz] at ho
  subst ho
  refine ⟨rfl, ?_⟩
  refine oper_call (v := (.int .i64 k)) (R := fun w' => w1.drew = w') (by go_simp) (HN.out _) ?_
  rintro w' rfl
  refine ⟨(below_drewN HB1.out 1), ?_⟩
  simp only [putLz]
  refine left_alts [6, 10] (by kernel_rfl) (fun i hi hS o ho => ?_)
  simp only [memLz] at hi
  rcases hi with rfl | rfl
  ·
   skip
   simp only [altLz] at ho
   subst ho
   refine ⟨rfl, ?_⟩
   refine oper_call (v := (.tuple #[rnAgg N, .bool B])) (R := fun w' => Below (w1.drew).heap.size (w1.drew) w') (by go_simp) (HPA.out _ (below_drewN HB1.out 1)) ?_
   intro v2 hv2
   have hb2 := (below_drewN HB1.out 1).trans (hv2.mono (below_drewN HB1.out 1).size)
   refine ⟨hb2, ?_⟩
   simp only [putLz]
   unfold rnAgg
   refine left_readE 7 rfl rfl (by kernel_rfl) ?_
   apply Exists.intro
   refine ⟨fun w' hw => ?_, ?_⟩
   ·
    clear hw
    go_simp
    rfl
   simp only [putLz]
   refine left_readE 8 rfl rfl (by kernel_rfl) ?_
   apply Exists.intro
   refine ⟨fun w' hw => ?_, ?_⟩
   ·
    clear hw
    go_simp
    rfl
   simp only [putLz]
   refine left_readE 9 rfl rfl (by kernel_rfl) ?_
   apply Exists.intro
   refine ⟨fun w' hw => ?_, ?_⟩
   ·
    clear hw
    go_simp
    rfl
   simp only [putLz]
   refine left_alts [10] (by kernel_rfl) (fun i hi hS o ho => ?_)
   simp only [memLz] at hi
   subst hi
   simp only [altLz] at ho
   subst ho
   refine ⟨rfl, ?_⟩
   have hb3 := hb2.trans ((below_new1 (v2) (.cells #[.int .i64 0, .int .i64 0, .int .i64 0, .int .i64 0, .int .i64 0] 157)).mono hb2.size)
   have hx3 := heap_alloc_new (v2) (.cells #[.int .i64 0, .int .i64 0, .int .i64 0, .int .i64 0, .int .i64 0] 157)
   have hge : w.heap.size ≤ (v2).heap.size := hb2.size
   refine oper_value (v := .pointer (some ⟨(v2).heap.size, 0, none⟩)) (w' := (v2).alloc (.cells #[.int .i64 0, .int .i64 0, .int .i64 0, .int .i64 0, .int .i64 0] 157)) (by go_simp) ⟨hb3, ?_⟩
   simp only [putLz]
   obtain ⟨bx, hbx⟩ : ∃ bx, bx = (v2).heap.size := ⟨_, rfl⟩
   rw [← hbx] at hx3 hge ⊢
   obtain ⟨u3, hu3⟩ : ∃ u, u = (v2).alloc (.cells #[.int .i64 0, .int .i64 0, .int .i64 0, .int .i64 0, .int .i64 0] 157) := ⟨_, rfl⟩
   rw [← hu3] at hx3 hb3 ⊢
   clear hu3 hbx
   refine left_alts [11] (by kernel_rfl) (fun i hi hS o ho => ?_)
   simp only [memLz] at hi
   subst hi
   simp only [altLz] at ho
   subst ho
   refine ⟨rfl, ?_⟩
   obtain ⟨e0, e1, e2, e3, e4, fz⟩ := cells5 hx3
   refine oper_store (w' := set5 u3 bx 0 N) rfl (run_storeNode (k := 0) fz e0 e1 e2 e3 e4 _ _ _ _ _) ?_
   have hbf : Below w.heap.size w (set5 u3 bx 0 N) := below_set5 hb3 hge N
   have hxf := set5_new hx3 N
   refine ⟨hbf, ?_⟩
   simp only [putLz]
   clear e0 e1 e2 e3 e4 fz
   refine left_readE 12 rfl rfl (by kernel_rfl) ?_
   apply Exists.intro
   refine ⟨fun w' hw => ?_, ?_⟩
   ·
    clear hw
    go_simp
    rfl
   simp only [putLz]
   refine left_end (by kernel_rfl) ?_
   obtain rfl : B = true := HBT.out
   have hxf' := hxf
   rw [HNR.out] at hxf'
   have HXF := Lib.hid hxf'
   have HBF := Lib.hid hbf
   obtain ⟨y0, y1, y2, y3, y4, yz⟩ := cells5 hxf'
   obtain ⟨W3, hW3⟩ : ∃ W, W = set5 u3 bx 0 N := ⟨_, rfl⟩
   rw [← hW3] at y0 y1 y2 y3 y4 yz HXF HBF ⊢
   clear hW3 hxf hxf' hbf HNR HPA HN HBT
   go_upto_region 11 with fail
   have hxz := heap_setCell_same (k := 4) HXF.out (.int .i64 ((r : Int) - 1))
   have hbz : Below w.heap.size w (W3.setCell ⟨bx, 4, none⟩ (.int .i64 ((r : Int) - 1))) := HBF.out.setCell (p := ⟨bx, 4, none⟩) hge _
   obtain ⟨W4, hW4⟩ : ∃ W, W = W3.setCell ⟨bx, 4, none⟩ (.int .i64 ((r : Int) - 1)) := ⟨_, rfl⟩
   rw [← hW4] at hxz hbz ⊢
   clear hW4 HXF HBF y0 y1 y2 y3 y4 yz
   simp at hxz
   obtain ⟨z0, z1, z2, z3, z4, zz⟩ := cells5 hxz
   have hc1 := HC1.out _ hbz
   refine wp_region_mix (fun w' => w' = W4.drew) true 5 [(0, false), (1, false), (2, false), (3, false), (4, false), (5, true)] (by kernel_rfl) (by kernel_rfl) rfl ?_
   simp only [planned, plnLz]
   iterate 5
    refine mix_readE rfl ?_
    apply Exists.intro
    refine ⟨fun w' hw => ?_, ?_⟩
    ·
     subst hw
     go_simp
     rfl
    simp only [putLz]
   refine mix_last rfl (fun K hK => ?_)
   unfold Oper.wp
   go_simp
   rw [← HREF.out]
   refine (HSET.out _ (below_drewN hbz 1)).mono ?_
   rintro x w5 ⟨rfl, hs5, hc5, hl5⟩
   refine hK _ _ (np_normal ?_)
   have HS5 := Lib.hid hs5
   have HC5 := Lib.hid hc5
   have HL5 := Lib.hid hl5
   clear hs5 hc5 hl5 hxz hbz z0 z1 z2 z3 z4 zz hc1
   go_wp2_with fail
   refine (HMORE.out _ HS5.out HL5.out HC5.out).mono ?_
   rintro x w6 ⟨rfl, hp⟩
   have HP := Lib.hid hp
   clear hp
   go_wp2_with fail
   go_ret
   exact HP.out
  ·
   skip
   simp only [altLz] at ho
   subst ho
   refine ⟨rfl, ?_⟩
   have hb4 := (below_drewN HB1.out 1).trans ((below_new1 (w1.drew) (.cells #[.int .i64 0, .int .i64 0, .int .i64 0, .int .i64 0, .int .i64 0] 157)).mono (below_drewN HB1.out 1).size)
   have hx4 := heap_alloc_new (w1.drew) (.cells #[.int .i64 0, .int .i64 0, .int .i64 0, .int .i64 0, .int .i64 0] 157)
   have hge : w.heap.size ≤ (w1.drew).heap.size := (below_drewN HB1.out 1).size
   refine oper_value (v := .pointer (some ⟨(w1.drew).heap.size, 0, none⟩)) (w' := (w1.drew).alloc (.cells #[.int .i64 0, .int .i64 0, .int .i64 0, .int .i64 0, .int .i64 0] 157)) (by go_simp) ⟨hb4, ?_⟩
   simp only [putLz]
   obtain ⟨bx, hbx⟩ : ∃ bx, bx = (w1.drew).heap.size := ⟨_, rfl⟩
   rw [← hbx] at hx4 hge ⊢
   obtain ⟨u4, hu4⟩ : ∃ u, u = (w1.drew).alloc (.cells #[.int .i64 0, .int .i64 0, .int .i64 0, .int .i64 0, .int .i64 0] 157) := ⟨_, rfl⟩
   rw [← hu4] at hx4 hb4 ⊢
   clear hu4 hbx
   refine left_alts [6] (by kernel_rfl) (fun i hi hS o ho => ?_)
   simp only [memLz] at hi
   subst hi
   simp only [altLz] at ho
   subst ho
   refine ⟨rfl, ?_⟩
   refine oper_call (v := (.tuple #[rnAgg N, .bool B])) (R := fun w' => Below (u4).heap.size (u4) w') (by go_simp) (HPA.out _ hb4) ?_
   intro v5 hv5
   have hb5 := hb4.trans (hv5.mono hb4.size)
   refine ⟨hb5, ?_⟩
   simp only [putLz]
   unfold rnAgg
   have hx5 := (hv5.block _ (Array.getElem?_eq_some_iff.1 hx4).1).trans hx4
   refine left_readE 7 rfl rfl (by kernel_rfl) ?_
   apply Exists.intro
   refine ⟨fun w' hw => ?_, ?_⟩
   ·
    clear hw
    go_simp
    rfl
   simp only [putLz]
   refine left_readE 8 rfl rfl (by kernel_rfl) ?_
   apply Exists.intro
   refine ⟨fun w' hw => ?_, ?_⟩
   ·
    clear hw
    go_simp
    rfl
   simp only [putLz]
   refine left_readE 9 rfl rfl (by kernel_rfl) ?_
   apply Exists.intro
   refine ⟨fun w' hw => ?_, ?_⟩
   ·
    clear hw
    go_simp
    rfl
   simp only [putLz]
   refine left_alts [11] (by kernel_rfl) (fun i hi hS o ho => ?_)
   simp only [memLz] at hi
   subst hi
   simp only [altLz] at ho
   subst ho
   refine ⟨rfl, ?_⟩
   obtain ⟨e0, e1, e2, e3, e4, fz⟩ := cells5 hx5
   refine oper_store (w' := set5 v5 bx 0 N) rfl (run_storeNode (k := 0) fz e0 e1 e2 e3 e4 _ _ _ _ _) ?_
   have hbf : Below w.heap.size w (set5 v5 bx 0 N) := below_set5 hb5 hge N
   have hxf := set5_new hx5 N
   refine ⟨hbf, ?_⟩
   simp only [putLz]
   clear e0 e1 e2 e3 e4 fz
   refine left_readE 12 rfl rfl (by kernel_rfl) ?_
   apply Exists.intro
   refine ⟨fun w' hw => ?_, ?_⟩
   ·
    clear hw
    go_simp
    rfl
   simp only [putLz]
   refine left_end (by kernel_rfl) ?_
   obtain rfl : B = true := HBT.out
   have hxf' := hxf
   rw [HNR.out] at hxf'
   have HXF := Lib.hid hxf'
   have HBF := Lib.hid hbf
   obtain ⟨y0, y1, y2, y3, y4, yz⟩ := cells5 hxf'
   obtain ⟨W3, hW3⟩ : ∃ W, W = set5 v5 bx 0 N := ⟨_, rfl⟩
   rw [← hW3] at y0 y1 y2 y3 y4 yz HXF HBF ⊢
   clear hW3 hxf hxf' hbf HNR HPA HN HBT
   go_upto_region 11 with fail
   have hxz := heap_setCell_same (k := 4) HXF.out (.int .i64 ((r : Int) - 1))
   have hbz : Below w.heap.size w (W3.setCell ⟨bx, 4, none⟩ (.int .i64 ((r : Int) - 1))) := HBF.out.setCell (p := ⟨bx, 4, none⟩) hge _
   obtain ⟨W4, hW4⟩ : ∃ W, W = W3.setCell ⟨bx, 4, none⟩ (.int .i64 ((r : Int) - 1)) := ⟨_, rfl⟩
   rw [← hW4] at hxz hbz ⊢
   clear hW4 HXF HBF y0 y1 y2 y3 y4 yz
   simp at hxz
   obtain ⟨z0, z1, z2, z3, z4, zz⟩ := cells5 hxz
   have hc1 := HC1.out _ hbz
   refine wp_region_mix (fun w' => w' = W4.drew) true 5 [(0, false), (1, false), (2, false), (3, false), (4, false), (5, true)] (by kernel_rfl) (by kernel_rfl) rfl ?_
   simp only [planned, plnLz]
   iterate 5
    refine mix_readE rfl ?_
    apply Exists.intro
    refine ⟨fun w' hw => ?_, ?_⟩
    ·
     subst hw
     go_simp
     rfl
    simp only [putLz]
   refine mix_last rfl (fun K hK => ?_)
   unfold Oper.wp
   go_simp
   rw [← HREF.out]
   refine (HSET.out _ (below_drewN hbz 1)).mono ?_
   rintro x w5 ⟨rfl, hs5, hc5, hl5⟩
   refine hK _ _ (np_normal ?_)
   have HS5 := Lib.hid hs5
   have HC5 := Lib.hid hc5
   have HL5 := Lib.hid hl5
   clear hs5 hc5 hl5 hxz hbz z0 z1 z2 z3 z4 zz hc1
   go_wp2_with fail
   refine (HMORE.out _ HS5.out HL5.out HC5.out).mono ?_
   rintro x w6 ⟨rfl, hp⟩
   have HP := Lib.hid hp
   clear hp
   go_wp2_with fail
   go_ret
   exact HP.out
 ·
  skip
  simp only [altLz] at ho
  subst ho
  refine ⟨rfl, ?_⟩
  have hb6 := (below_drewN HB1.out 1).trans ((below_new1 (w1.drew) (.cells #[.int .i64 0, .int .i64 0, .int .i64 0, .int .i64 0, .int .i64 0] 157)).mono (below_drewN HB1.out 1).size)
  have hx6 := heap_alloc_new (w1.drew) (.cells #[.int .i64 0, .int .i64 0, .int .i64 0, .int .i64 0, .int .i64 0] 157)
  have hge : w.heap.size ≤ (w1.drew).heap.size := (below_drewN HB1.out 1).size
  refine oper_value (v := .pointer (some ⟨(w1.drew).heap.size, 0, none⟩)) (w' := (w1.drew).alloc (.cells #[.int .i64 0, .int .i64 0, .int .i64 0, .int .i64 0, .int .i64 0] 157)) (by go_simp) ⟨hb6, ?_⟩
  simp only [putLz]
  obtain ⟨bx, hbx⟩ : ∃ bx, bx = (w1.drew).heap.size := ⟨_, rfl⟩
  rw [← hbx] at hx6 hge ⊢
  obtain ⟨u6, hu6⟩ : ∃ u, u = (w1.drew).alloc (.cells #[.int .i64 0, .int .i64 0, .int .i64 0, .int .i64 0, .int .i64 0] 157) := ⟨_, rfl⟩
  rw [← hu6] at hx6 hb6 ⊢
  clear hu6 hbx
  refine left_alts [5] (by kernel_rfl) (fun i hi hS o ho => ?_)
  simp only [memLz] at hi
  subst hi
  simp only [altLz] at ho
  subst ho
  refine ⟨rfl, ?_⟩
  refine oper_call (v := (.int .i64 k)) (R := fun w' => u6 = w') (by go_simp) (HN.out _) ?_
  rintro w' rfl
  refine ⟨hb6, ?_⟩
  simp only [putLz]
  refine left_alts [6] (by kernel_rfl) (fun i hi hS o ho => ?_)
  simp only [memLz] at hi
  subst hi
  simp only [altLz] at ho
  subst ho
  refine ⟨rfl, ?_⟩
  refine oper_call (v := (.tuple #[rnAgg N, .bool B])) (R := fun w' => Below (u6).heap.size (u6) w') (by go_simp) (HPA.out _ hb6) ?_
  intro v8 hv8
  have hb8 := hb6.trans (hv8.mono hb6.size)
  refine ⟨hb8, ?_⟩
  simp only [putLz]
  unfold rnAgg
  have hx8 := (hv8.block _ (Array.getElem?_eq_some_iff.1 hx6).1).trans hx6
  refine left_readE 7 rfl rfl (by kernel_rfl) ?_
  apply Exists.intro
  refine ⟨fun w' hw => ?_, ?_⟩
  ·
   clear hw
   go_simp
   rfl
  simp only [putLz]
  refine left_readE 8 rfl rfl (by kernel_rfl) ?_
  apply Exists.intro
  refine ⟨fun w' hw => ?_, ?_⟩
  ·
   clear hw
   go_simp
   rfl
  simp only [putLz]
  refine left_readE 9 rfl rfl (by kernel_rfl) ?_
  apply Exists.intro
  refine ⟨fun w' hw => ?_, ?_⟩
  ·
   clear hw
   go_simp
   rfl
  simp only [putLz]
  refine left_alts [11] (by kernel_rfl) (fun i hi hS o ho => ?_)
  simp only [memLz] at hi
  subst hi
  simp only [altLz] at ho
  subst ho
  refine ⟨rfl, ?_⟩
  obtain ⟨e0, e1, e2, e3, e4, fz⟩ := cells5 hx8
  refine oper_store (w' := set5 v8 bx 0 N) rfl (run_storeNode (k := 0) fz e0 e1 e2 e3 e4 _ _ _ _ _) ?_
  have hbf : Below w.heap.size w (set5 v8 bx 0 N) := below_set5 hb8 hge N
  have hxf := set5_new hx8 N
  refine ⟨hbf, ?_⟩
  simp only [putLz]
  clear e0 e1 e2 e3 e4 fz
  refine left_readE 12 rfl rfl (by kernel_rfl) ?_
  apply Exists.intro
  refine ⟨fun w' hw => ?_, ?_⟩
  ·
   clear hw
   go_simp
   rfl
  simp only [putLz]
  refine left_end (by kernel_rfl) ?_
  obtain rfl : B = true := HBT.out
  have hxf' := hxf
  rw [HNR.out] at hxf'
  have HXF := Lib.hid hxf'
  have HBF := Lib.hid hbf
  obtain ⟨y0, y1, y2, y3, y4, yz⟩ := cells5 hxf'
  obtain ⟨W3, hW3⟩ : ∃ W, W = set5 v8 bx 0 N := ⟨_, rfl⟩
  rw [← hW3] at y0 y1 y2 y3 y4 yz HXF HBF ⊢
  clear hW3 hxf hxf' hbf HNR HPA HN HBT
  go_upto_region 11 with fail
  have hxz := heap_setCell_same (k := 4) HXF.out (.int .i64 ((r : Int) - 1))
  have hbz : Below w.heap.size w (W3.setCell ⟨bx, 4, none⟩ (.int .i64 ((r : Int) - 1))) := HBF.out.setCell (p := ⟨bx, 4, none⟩) hge _
  obtain ⟨W4, hW4⟩ : ∃ W, W = W3.setCell ⟨bx, 4, none⟩ (.int .i64 ((r : Int) - 1)) := ⟨_, rfl⟩
  rw [← hW4] at hxz hbz ⊢
  clear hW4 HXF HBF y0 y1 y2 y3 y4 yz
  simp at hxz
  obtain ⟨z0, z1, z2, z3, z4, zz⟩ := cells5 hxz
  have hc1 := HC1.out _ hbz
  refine wp_region_mix (fun w' => w' = W4.drew) true 5 [(0, false), (1, false), (2, false), (3, false), (4, false), (5, true)] (by kernel_rfl) (by kernel_rfl) rfl ?_
  simp only [planned, plnLz]
  iterate 5
   refine mix_readE rfl ?_
   apply Exists.intro
   refine ⟨fun w' hw => ?_, ?_⟩
   ·
    subst hw
    go_simp
    rfl
   simp only [putLz]
  refine mix_last rfl (fun K hK => ?_)
  unfold Oper.wp
  go_simp
  rw [← HREF.out]
  refine (HSET.out _ (below_drewN hbz 1)).mono ?_
  rintro x w5 ⟨rfl, hs5, hc5, hl5⟩
  refine hK _ _ (np_normal ?_)
  have HS5 := Lib.hid hs5
  have HC5 := Lib.hid hc5
  have HL5 := Lib.hid hl5
  clear hs5 hc5 hl5 hxz hbz z0 z1 z2 z3 z4 zz hc1
  go_wp2_with fail
  refine (HMORE.out _ HS5.out HL5.out HC5.out).mono ?_
  rintro x w6 ⟨rfl, hp⟩
  have HP := Lib.hid hp
  clear hp
  go_wp2_with fail
  go_ret
  exact HP.out
open Go.RowKit
structure TakeRel (p p' : PoolD) (id : Nat) (n : RN) : Prop where
 get : ∀ i, p'.get i = if i = id then some { n with id := id } else p.get i
 none : p.tk id = false
 pos : 0 < id
 lt : id < p'.at_.length
 le : p.at_.length ≤ p'.at_.length
 many : p'.many = p.many + 1
 room : p'.room = p.room
theorem poolTake_any (o : Own) (pb : Nat) (p : PoolD) (n : RN) (w : World) (h : PoolAt o w pb p) (hlt : OwnLt o w) :
 Calls Tryz.prog 154 #[.pointer (some ⟨pb, 0, none⟩), rnAgg n] w fun x w' => (p.many = p.room ∧ x = .returned (.tuple #[.int .i64 0, .int .i64 7]) ∧ Below w.heap.size w w') ∨
  (∃ id p' o', x = .returned (.tuple #[.int .i64 (id : Nat), .int .i64 0]) ∧ PoolAt o' w' pb p' ∧ TakeRel p p' id n ∧ Chg RPool o o' w w' ∧ OwnLt o' w') := by
 rcases List.eq_nil_or_concat p.free with hf | ⟨fs, id, hf⟩
 ·
  by_cases hr : p.at_.length ≤ p.room
  ·
   refine (poolTake_fresh o pb p n w h hlt hf hr).mono ?_
   rintro e w' ⟨rfl, o', h1, h2, h3⟩
   refine .inr ⟨_, _, o', rfl, h1, ⟨fun i => PoolD.fresh_get h.len i, ?_, h.pos, by simp [PoolD.fresh], by simp [PoolD.fresh], rfl, rfl⟩, h2, h3⟩
   simp [PoolD.tk, List.getD, List.getElem?_eq_none (Nat.le_of_eq h.len)]
  ·
   refine (poolTake_full o pb p n w h hf (by omega)).mono ?_
   rintro e w' ⟨rfl, hb⟩
   refine .inl ⟨?_, rfl, hb⟩
   have h1 := h.many
   have h2 := h.top
   rw [hf] at h1
   simp at h1
   omega
 ·
  rw [List.concat_eq_append] at hf
  have hm := h.free id (by rw [hf]; simp)
  refine (poolTake_reuse o pb p n fs id w h hlt hf).mono ?_
  rintro e w' ⟨rfl, h1, h2, h3⟩
  exact .inr ⟨id, _, o, rfl, h1, ⟨fun i => PoolD.reuse_get hm.2.1 (by rw [h.len]; exact hm.2.1) i, hm.2.2, hm.1, by simp [PoolD.reuse]; exact hm.2.1, by simp [PoolD.reuse], rfl, rfl⟩, h2, h3⟩
structure AddRel (d d' : StoreD) (id v lo hi : Nat) : Prop where
 vars : d'.vars = d.vars
 level : d'.level = d.level
 tab : d'.tab = fun u => if u = v then putF (d.tab v) (lo, hi) (some id) else d.tab u
 nodes : nodesOf d' = addN (nodesOf d) id ⟨v, lo, hi⟩
 none : nodesOf d id = none
 pos : 0 < id
 many : d'.pool.many = d.pool.many + 1
 room : d'.pool.room = d.pool.room
 ext : extOf d' = fun i => if i = id then 0 else extOf d i
 live : LiveC d' (extOf d')
 clen : d'.counts.length ≤ 1048578
 cnt : cntOf d' = setC (cntOf d) id 0
def AddPost (o : Own) (w : World) (sb : Nat) (d : StoreD) (v lo hi : Nat) (e : Ending) (w' : World) : Prop :=
 (d.pool.many = d.pool.room ∧ e = .returned (.tuple #[.int .i64 0, .int .i64 7]) ∧ Below w.heap.size w w') ∨
 (∃ id d' o', e = .returned (.tuple #[.int .i64 (id : Nat), .int .i64 0]) ∧ StoreAt o' w' sb d' ∧ OwnLt o' w' ∧ AddRel d d' id v lo hi ∧ Chg RStore o o' w w')
theorem deadN_add {k k' : Nat} {N : Nat → Option BN} {c : Nat → Nat} {id : Nat} {b : BN} (hlt : ∀ i b, N i = some b → i < k) (hk : k ≤ k') (hf : N id = none) (hid : id < k') : deadN k' (addN N id b) (setC c id 0) = deadN k N c + 1 := by
 unfold deadN
 rw [sumTo_upd (f := dead1 N c) (j := id) (fun i hi => ?_) k' hid]
 ·
  rw [sumTo_ext (k := k) (fun i hi => ?_) hk]
  ·
   simp [dead1, hf, addN_same, setC]
  ·
   unfold dead1
   cases e : N i with
   | none => rfl
   | some b' => exact absurd (hlt i b' e) (by omega)
 ·
  unfold dead1; rw [addN_other _ hi]; simp only [setC, if_neg hi]
section
variable {o o' : Own} {w w' : World} {sb : Nat} {d : StoreD} {s : StoreW}
theorem StoreIn.setVc (h : StoreIn o w sb d s) (hlt : OwnLt o w) {v : Value} {cs : List Nat} (hr : RowR o' w' .counts 3 1 v cs.length (cs.map nat64)) (hc : Chg (· = .counts) o o' w w') : StoreIn o' (w'.setCell ⟨sb, 3, none⟩ v) sb (d.cd cs d.dead) { s with vc := v } := by
 have hob := hc.ext _ _ h.own
 have ne : ∀ {b r}, o' b = some r → r ≠ .store → b ≠ sb := fun hb hr e => by subst e; rw [hob] at hb; cases hb; exact hr rfl
 have k1 : ∀ {b r}, o' b = some r → r ≠ .store → (w'.setCell ⟨sb, 3, none⟩ v).heap[b]? = w'.heap[b]? := fun hb hr => heap_setCell_ne (ne hb hr) _
 refine ⟨hob, hc.ext _ _ h.ownl, heap_setCell_same (k := 3) ((hc.same hlt h.own (by simp)).trans h.blk) _, (k1 (hc.ext _ _ h.ownl) (by simp)).trans ((hc.same hlt h.ownl (by simp)).trans h.lev),
  (h.vars.chg hc hlt (by simp)).keep (fun g hg => k1 hg (by simp)) (fun _ h => h), (h.level.chg hc hlt (by simp)).keep (fun g hg => k1 hg (by simp)) (fun _ h => h),
  (h.pool.chg hc hlt (by simp) (by simp) (by simp) (by simp)).keep (fun g r hg hr => k1 hg (by rcases hr with rfl | rfl | rfl | rfl <;> simp)) (fun _ _ h => h),
  (h.tabs.chg hc hlt (by simp)).keep (fun g hg => k1 hg (by simp)) (fun _ h => h),
  fun u hu => ((h.tab u hu).chg hc hlt (by simp) (by simp)).keep (fun g r hg hr => k1 hg (by rcases hr with rfl | rfl <;> simp)) (fun _ _ h => h),
  hr.keep (fun g hg => k1 hg (by simp)) (fun _ h => h), h.len, h.tlen⟩
end
theorem StoreIn.tabAt {o : Own} {w : World} {sb : Nat} {d : StoreD} {s : StoreW} (h : StoreIn o w sb d s) {v : Nat} (hv : v < d.vars.length) : ∃ gt cap, s.vt = .slice (some ⟨gt, 0, none⟩) s.ts.length cap ∧ w.cell? ⟨gt, v, none⟩ = some (.pointer (some ⟨s.ts.getD v 0, 0, none⟩)) ∧ v < s.ts.length ∧ s.ts.length ≤ 9223372036854775807 := by
 have hvl : v < s.ts.length := by rw [h.tlen]; exact hv
 obtain ⟨gt, cap, hvt, _, h1, h2⟩ := h.tabs.shape (by omega)
 have hr := h.tabs
 rw [hvt] at hr
 refine ⟨gt, cap, hvt, ?_, hvl, by unfold maxLen at h2; omega⟩
 rw [hr.cell v (by simpa using hvl), List.getElem?_map, List.getElem?_eq_getElem hvl]
 simp [ptrV, List.getD, hvl]
structure AddS (o : Own) (w : World) (sb : Nat) (d : StoreD) (ts : List Nat) (vt : Value) (o1 : Own) (wx : World) : Prop where
 st : ∃ s, StoreIn o1 wx sb d s ∧ s.ts = ts ∧ s.vt = vt
 lt : OwnLt o1 wx
 chg : Chg RStore o o1 w wx
theorem infoInt64 : (Tryz.prog.info? 3).map (fun i => (i.zero, i.size, i.bytes)) = some (some (.int .i64 0), 1, 8) := by kernel_rfl
def padC (cs : List Nat) (j : Nat) : List Nat := cs ++ List.replicate j 0
theorem padC_succ (cs : List Nat) (j : Nat) : padC cs (j + 1) = padC cs j ++ [0] := by unfold padC; rw [List.replicate_succ', List.append_assoc]
theorem padC_len (cs : List Nat) (j : Nat) : (padC cs j).length = cs.length + j := by simp [padC]
theorem padC_get (cs : List Nat) (j i : Nat) : (padC cs j).getD i 0 = cs.getD i 0 := by
 unfold padC
 simp only [List.getD, List.getElem?_append]
 split
 ·
  rfl
 ·
  rename_i h
  rw [List.getElem?_eq_none (l := cs) (by omega), List.getElem?_replicate]
  split <;> rfl
def StoreD.added (d : StoreD) (p' : PoolD) (cs : List Nat) (id v lo hi : Nat) : StoreD := ⟨d.vars, d.level, p', fun u => if u = v then putF (d.tab v) (lo, hi) (some id) else d.tab u, cs.set id 0, d.dead + 1⟩
theorem added_rel {d : StoreD} {p' : PoolD} {id v lo hi j : Nat} (hl : LiveC d (extOf d)) (hok : ∀ i b, nodesOf d i = some b → okE (nodesOf d) b.lo ∧ okE (nodesOf d) b.hi) (hr : TakeRel d.pool p' id ⟨0, v, lo, hi, 0⟩)
 (hid : id < (padC d.counts j).length) (hcl : (padC d.counts j).length ≤ 1048578) : AddRel d (d.added p' (padC d.counts j) id v lo hi) id v lo hi := by
 have hnone : nodesOf d id = none := by unfold nodesOf PoolD.get; rw [if_neg (by rw [hr.none]; simp)]; rfl
 have hnodes : nodesOf (d.added p' (padC d.counts j) id v lo hi) = addN (nodesOf d) id ⟨v, lo, hi⟩ := by
  funext i
  unfold nodesOf StoreD.added
  dsimp only
  rw [hr.get]
  by_cases e : i = id
  ·
   subst e; rw [if_pos rfl, addN_same]; rfl
  ·
   rw [if_neg e, addN_other _ e]
 have htk : ∀ i, p'.tk i = if i = id then true else d.pool.tk i := fun i => by
  have h1 := hr.get i
  unfold PoolD.get at h1
  by_cases e : i = id
  ·
   rw [if_pos e] at h1 ⊢
   split at h1
   ·
    assumption
   ·
    cases h1
  ·
   rw [if_neg e] at h1 ⊢
   by_cases h2 : p'.tk i = true <;> by_cases h3 : d.pool.tk i = true <;> simp [h2, h3] at h1 ⊢
 have hext : extOf (d.added p' (padC d.counts j) id v lo hi) = fun i => if i = id then 0 else extOf d i := by
  funext i
  unfold extOf
  have h1 := hr.get i
  show (if p'.tk i = true then ((p'.nd i).refs : Int) else 0) = _
  rw [htk]
  unfold PoolD.get at h1
  rw [htk] at h1
  by_cases e : i = id
  ·
   rw [if_pos e] at h1
   simp only [e, if_true] at h1 ⊢
   have h2 := Option.some.inj h1
   rw [h2]; rfl
  ·
   rw [if_neg e] at h1
   simp only [if_neg e] at h1 ⊢
   by_cases h3 : d.pool.tk i = true
   ·
    rw [if_pos h3, if_pos h3] at h1
    rw [if_pos h3, if_pos h3, Option.some.inj h1]
   ·
    rw [if_neg h3, if_neg h3]
 have hcnt : cntOf (d.added p' (padC d.counts j) id v lo hi) = setC (cntOf d) id 0 := by
  funext i
  unfold cntOf setC StoreD.added
  dsimp only
  by_cases e : i = id
  ·
   subst e; rw [if_pos rfl]; simp [List.getD, hid]
  ·
   rw [if_neg e, ← padC_get d.counts j i]
   simp only [List.getD, List.getElem?_set, if_neg (Ne.symm e)]
 have hn0 : id ≠ 0 := by have := hr.pos; omega
 refine ⟨rfl, rfl, rfl, hnodes, hnone, hr.pos, hr.many, hr.room, hext, ⟨?_, ?_, fun i b hb => ?_⟩, by simpa [StoreD.added] using hcl, hcnt⟩
 ·
  rw [hnodes, hcnt, hext]
  show Cnt p'.at_.length _ _ _
  refine Cnt.add (hl.cnt.weaken hr.le) hnone (fun i bi hb => ?_) hr.lt
  have h1 := hok i bi hb
  constructor
  ·
   rcases h1.1 with h2 | ⟨c, h2⟩
   ·
    omega
   ·
    intro e; rw [e, hnone] at h2; cases h2
  ·
   rcases h1.2 with h2 | ⟨c, h2⟩
   ·
    omega
   ·
    intro e; rw [e, hnone] at h2; cases h2
 ·
  rw [hnodes, hcnt]
  show ((d.dead + 1 : Nat) : Int) = deadN p'.at_.length _ _
  rw [deadN_add hl.cnt.lt hr.le hnone hr.lt, ← hl.dead]; omega
 ·
  rw [hnodes] at hb
  show i < ((padC d.counts j).set id 0).length
  rw [List.length_set]
  by_cases e : i = id
  ·
   subst e; exact hid
  ·
   rw [addN_other _ e] at hb
   have := hl.has i b hb
   rw [padC_len]; omega
set_option maxRecDepth 100000 in
set_option maxHeartbeats 1600000 in
theorem storeAdd_any {o : Own} {w : World} {sb : Nat} {d : StoreD} {s : StoreW} (h : StoreIn o w sb d s) (hlt : OwnLt o w) (hl : LiveC d (extOf d)) (hok : ∀ i b, nodesOf d i = some b → okE (nodesOf d) b.lo ∧ okE (nodesOf d) b.hi)
 (v lo hi : Nat) (hv : v < d.vars.length) (ht : d.tab v (lo, hi) = none) (hcl : d.counts.length ≤ 1048578) :
 Calls Tryz.prog 129 #[.pointer (some ⟨sb, 0, none⟩), .int .i64 v, .int .i64 lo, .int .i64 hi] w (AddPost o w sb d v lo hi) := by
 obtain ⟨c0, c1, c2, c3, c4, f0⟩ := cells5 h.blk
 have HTAKE := Lib.hid (poolTake_any o s.pb d.pool ⟨0, v, lo, hi, 0⟩ w h.pool hlt)
 have HRN : Hid (rnAgg ⟨0, v, lo, hi, 0⟩ = .agg #[.int .i64 0, .int .i64 v, .int .i64 lo, .int .i64 hi, .int .i64 0]) := rfl
 have HH := Lib.hid h
 have HLT := Lib.hid hlt
 have HREL := Lib.hid (fun p' id j hr h1 h2 => added_rel (p' := p') (id := id) (v := v) (lo := lo) (hi := hi) (j := j) hl hok hr h1 h2)
 have HREL2 : Hid (d.dead ≤ 1048577) := by
  show _ ≤ _
  have h1 := hl.dead
  have h2 := sumTo_le (f := dead1 (nodesOf d) (cntOf d)) (B := 1) d.pool.at_.length (fun i _ => by unfold dead1; split <;> first | omega | (split <;> omega))
  have h3 : deadN d.pool.at_.length (nodesOf d) (cntOf d) = sumTo d.pool.at_.length (dead1 (nodesOf d) (cntOf d)) := rfl
  have h4 := h.pool.top
  have h5 := h.pool.room
  omega
 have HV := Lib.hid hv
 have HT := Lib.hid ht
 clear h hlt hl hok hv ht
 go_enter Tryz.func129, Tryz.ntmps129
 go_wp2_with fail
 rw [← HRN.out]
 refine HTAKE.out.mono ?_
 rintro x w1 (⟨hm, rfl, hb⟩ | ⟨id, p', o1, rfl, hp, hr, hc, hl1⟩)
 ·
  have HM := Lib.hid hm
  have HB := Lib.hid hb
  clear hm hb
  go_wp2_with fail
  go_ret2
  exact .inl ⟨HM.out, rfl, HB.out⟩
 ·
  have st1 := HH.out.setPool HLT.out hp hc
  have hpl := hp.tk_lt (i := id) (by have h1 := hr.get id; unfold PoolD.get at h1; rw [if_pos rfl] at h1; split at h1; (· assumption); cases h1)
  have hpt := hp.top
  have hpr := hp.room
  have HS1 : Hid (AddS o w sb { d with pool := p' } s.ts s.vt o1 w1) := ⟨⟨s, st1, rfl, rfl⟩, hl1, hc.mono (fun r hr => by simp [RStore, hr])⟩
  have HR := Lib.hid hr
  have hidl : id ≤ 1048577 := by omega
  clear hp hr hc hl1 st1 HTAKE hpl hpt hpr c0 c1 c2 c3 c4 f0
  go_wp2_with fail
  go_loopg [] (id + 1 - d.counts.length) (fun gk wx => ∃ (j : Nat) (o2 : Own), AddS o w sb { d with pool := p', counts := padC d.counts j } s.ts s.vt o2 wx ∧ j + gk = id + 1 - d.counts.length)
  case atStart => exact ⟨0, o1, by have e : padC d.counts 0 = d.counts := by { simp [padC] }; rw [e]; exact HS1.out, by omega⟩
  case round =>
   obtain ⟨j, o2, hS, hj⟩ := hrel
   obtain ⟨⟨s2, hst, hts, hvt⟩, hl2, hc2⟩ := hS
   clear HS1
   obtain ⟨c0, c1, c2, c3, c4, f0⟩ := cells5 hst.blk
   have lsb : sb < wr.heap.size := lt_of_cell c0
   have hclen : (padC d.counts j).length ≤ 1048578 := by rw [padC_len]; omega
   have HST := Lib.hid hst
   have HL2 := Lib.hid hl2
   have HC2 := Lib.hid hc2
   have HTS := Lib.hid hts
   have HVT := Lib.hid hvt
   by_cases hlt : (padC d.counts j).length ≤ id
   ·
    obtain ⟨a, cap, hv, hcc, hcm, hnil, _⟩ := hst.counts.slice
    have hvv : s2.vc = .slice a (padC d.counts j).length cap := hv
    rw [hvv] at c3
    have HJ := Lib.hid hj
    have HCO : RowR o2 wr .counts 3 1 (.slice a (padC d.counts j).length cap) (padC d.counts j).length ((padC d.counts j).map nat64) := by have := hst.counts; rw [hvv] at this; exact this
    have hgk : 0 < gk := by rw [padC_len] at hlt; omega
    have hle : ((padC d.counts j).length : Int) ≤ id := by omega
    obtain ⟨cl, hcl'⟩ : ∃ n, n = (padC d.counts j).length := ⟨_, rfl⟩
    rw [← hcl'] at hclen hlt hle c3 HCO
    have HCO2 := Lib.hid HCO
    have HCL := Lib.hid hcl'
    clear hst hl2 hc2 hts hvt hv hvv HCO hj hcl'
    go_wp2_with (at_builtin
                 refine wpList_appOne 22 3 1 8 _ Tryz.underlying22 infoInt64 rfl (by decide) rfl _ _ rfl rfl rfl rfl (by simp) rfl (fun u hu => by simp at hu; subst hu; rfl) HCO2.out HL2.out (by omega) (by decide) ?_
                 intro g1 k1 w2 o3 hr1 hc1 hl1
                 obtain ⟨q0, q1, q2, q3, q4, fq⟩ := cells5 ((hc1.same HL2.out HST.out.own (by simp)).trans HST.out.blk)
                 have HR1 := Lib.hid hr1
                 have HC1 := Lib.hid hc1
                 have HL1 := Lib.hid hl1
                 clear hr1 hc1 hl1 c0 c1 c2 c3 c4 f0)
    have hr2 := HR1.out
    rw [show (padC d.counts j).map nat64 ++ (#[Value.int .i64 0] : Array Value).toList = (padC d.counts (j + 1)).map nat64 from by rw [padC_succ, List.map_append]; rfl] at hr2
    have e1 : cl + 1 = (padC d.counts (j + 1)).length := by rw [HCL.out, padC_len, padC_len]; omega
    have HST3 := Lib.hid (HST.out.setVc (cs := padC d.counts (j + 1)) HL2.out (by rw [← e1]; exact hr2) HC1.out)
    have HS3 : Hid (AddS o w sb { d with pool := p', counts := padC d.counts (j + 1) } s.ts s.vt o3 (w2.setCell ⟨sb, 3, none⟩ (.slice (some ⟨g1, 0, none⟩) (cl + 1) k1))) := ⟨⟨_, HST3.out, HTS.out, HVT.out⟩, HL1.out.mono (by simp [World.setCell]), (HC2.out.trans (HC1.out.mono (fun r hr => by simp [RStore, hr]))).setCell (p := ⟨sb, 3, none⟩) (HC1.out.ext _ _ HST.out.own) (.inl rfl) _⟩
    clear hr2 e1
    go_roundg (gk - 1)
    case measure => omega
    case rel => exact ⟨j + 1, o3, HS3.out, by have := HJ.out; omega⟩
   ·
    have hidc : id < (padC d.counts j).length := by omega
    have hle : (id : Int) < (padC d.counts j).length := by omega
    obtain ⟨gc, cap, hvc, hgo, hne, hlc, hcm, hfz, hcell⟩ := hst.countsAt hidc
    have hvv : s2.vc = .slice (some ⟨gc, 0, none⟩) (padC d.counts j).length cap := hvc
    rw [hvv] at c3
    have hcx := hcell _ hidc
    have hfx := hfz id
    have hne' : sb ≠ gc := fun e => hne e.symm
    have st3 := hst.setCount hvc hne id 0
    have lt3 : OwnLt o2 (wr.setCell ⟨gc, id, none⟩ (.int .i64 ((0 : Nat) : Int))) := hl2.mono (by simp [World.setCell])
    have st4 := st3.setDead lt3 (d.dead + 1)
    have lt4 : OwnLt o2 ((wr.setCell ⟨gc, id, none⟩ (.int .i64 ((0 : Nat) : Int))).setCell ⟨sb, 4, none⟩ (.int .i64 ((d.dead + 1 : Nat) : Int))) := lt3.mono (by simp [World.setCell])
    have ch4 := (hc2.setCell (p := ⟨gc, id, none⟩) hgo (by simp [RStore]) (.int .i64 ((0 : Nat) : Int))).setCell (p := ⟨sb, 4, none⟩) hst.own (by simp [RStore]) (.int .i64 ((d.dead + 1 : Nat) : Int))
    have hdb : d.dead ≤ 1048577 := HREL2.out
    have hclen' : (padC d.counts j).length ≤ 9223372036854775807 := by omega
    obtain ⟨W4, hW4⟩ : ∃ W, W = (wr.setCell ⟨gc, id, none⟩ (.int .i64 ((0 : Nat) : Int))).setCell ⟨sb, 4, none⟩ (.int .i64 ((d.dead + 1 : Nat) : Int)) := ⟨_, rfl⟩
    rw [← hW4] at st4 lt4 ch4
    have HWE : Hid (W4 = (wr.setCell ⟨gc, id, none⟩ (.int .i64 0)).setCell ⟨sb, 4, none⟩ (.int .i64 ((d.dead : Int) + 1))) := by
     show _ = _
     rw [hW4, show ((d.dead + 1 : Nat) : Int) = (d.dead : Int) + 1 from by omega]; rfl
    have HS4 := Lib.hid st4
    have HL4 := Lib.hid lt4
    have HC4 := Lib.hid ch4
    have HID := Lib.hid hidc
    obtain ⟨cl, hcl'⟩ : ∃ n, n = (padC d.counts j).length := ⟨_, rfl⟩
    rw [← hcl'] at hle c3 hclen hclen'
    have HCLE : Hid ((padC d.counts j).length ≤ 1048578) := by show _ ≤ _; omega
    obtain ⟨dn, hdn⟩ : ∃ n, n = d.dead := ⟨_, rfl⟩
    have c4' : wr.cell? ⟨sb, 4, none⟩ = some (.int .i64 (dn : Nat)) := by rw [hdn]; exact c4
    rw [← hdn] at hdb HWE
    clear hst hl2 hc2 hts hvt hvc hgo hne hlc hcm hfz hcell hvv st3 lt3 st4 lt4 ch4 hW4 hlt hidc c4 hcl' hdn HST HL2 HC2 hj
    have hle2 : ¬ ((cl : Int) ≤ id) := by omega
    go_upto_region 8 with fail
    rw [← HWE.out]
    clear HWE c0 c1 c2 c3 c4' f0 hcx hfx hne' hle hle2 hdb hclen hclen'
    obtain ⟨c0, c1, c2, c3, c4, f0⟩ := cells5 HS4.out.blk
    obtain ⟨gt, ct, hvt, cellv, hvl⟩ := HS4.out.tabAt (v := v) HV.out
    rw [hvt] at c2
    have hti := HS4.out.tab v (by rw [HS4.out.tlen]; exact HV.out)
    have HPUT := Lib.hid (put_any o2 v (s2.ts.getD v 0) (d.tab v) lo hi id W4 hti HL4.out HT.out)
    have hvl' : (v : Int) < s2.ts.length := by omega
    obtain ⟨tv, htv⟩ : ∃ t, t = s2.ts.getD v 0 := ⟨_, rfl⟩
    rw [← htv] at cellv HPUT
    have HTV := Lib.hid htv
    have htl : s2.ts.length ≤ 9223372036854775807 := hvl.2
    clear hti htv hvt hvl
    go_wp2_with fail
    refine HPUT.out.mono ?_
    rintro x w5 ⟨rfl, ht5, hc5, hl5⟩
    rw [HTV.out] at ht5
    have HS5 := Lib.hid (HS4.out.setTab HL4.out ht5 hc5)
    have HL5 := Lib.hid hl5
    have HC5 := Lib.hid (HC4.out.trans (hc5.mono (fun r hr => by simp [RStore, hr])))
    clear ht5 hc5 hl5 c0 c1 c2 c3 c4 f0 cellv
    go_wp2_with fail
    go_ret2
    exact .inr ⟨id, d.added p' (padC d.counts j) id v lo hi, o2, rfl, ⟨s2, HS5.out⟩, HL5.out, HREL.out p' id j HR.out HID.out HCLE.out, HC5.out⟩
open Go.RowKit
def levN (d : StoreD) (v : Nat) : Nat := d.level.getD v 0
structure StoreOK (d : StoreD) (V : Nat → BF) : Prop where
 dag : Dag d.vars.length (levN d) (nodesOf d) V
 live : LiveC d (extOf d)
 tab : ∀ v, v < d.vars.length → ∀ lo hi id, d.tab v (lo, hi) = some id ↔ nodesOf d id = some ⟨v, lo, hi⟩
 clen : d.counts.length ≤ 1048578
 small : d.vars.length ≤ 64
 inv : ∀ v, v < d.vars.length → d.vars.getD (levN d v) 0 = v
 vlt : ∀ i, i < d.vars.length → d.vars.getD i 0 < d.vars.length ∧ levN d (d.vars.getD i 0) = i
structure Ext (d : StoreD) (V : Nat → BF) (d' : StoreD) (V' : Nat → BF) : Prop where
 vars : d'.vars = d.vars
 level : d'.level = d.level
 room : d'.pool.room = d.pool.room
 nodes : ∀ i b, nodesOf d i = some b → nodesOf d' i = some b
 val : ∀ i, (i = 0 ∨ ∃ b, nodesOf d i = some b) → V' i = V i
 ext : ∀ i b, nodesOf d i = some b → extOf d' i = extOf d i
 ext0 : ∀ i, nodesOf d i = none → extOf d' i = 0
 many : d.pool.many ≤ d'.pool.many
theorem extOf_none {d : StoreD} {i : Nat} (h : nodesOf d i = none) : extOf d i = 0 := by unfold extOf; rw [nodesOf_none h]; simp
theorem Ext.refl (d : StoreD) (V : Nat → BF) : Ext d V d V := ⟨rfl, rfl, rfl, fun _ _ h => h, fun _ _ => rfl, fun _ _ _ => rfl, fun _ h => extOf_none h, Nat.le_refl _⟩
theorem Ext.trans {d d' d'' : StoreD} {V V' V'' : Nat → BF} (h : Ext d V d' V') (h' : Ext d' V' d'' V'') : Ext d V d'' V'' := by
 refine ⟨h'.vars.trans h.vars, h'.level.trans h.level, h'.room.trans h.room, fun i b hb => h'.nodes i b (h.nodes i b hb), fun i hi => ?_, fun i b hb => ?_, fun i hi => ?_, Nat.le_trans h.many h'.many⟩
 ·
  rw [h'.val i (hi.imp id fun ⟨b, hb⟩ => ⟨b, h.nodes i b hb⟩)]; exact h.val i hi
 ·
  rw [h'.ext i b (h.nodes i b hb)]; exact h.ext i b hb
 ·
  cases e : nodesOf d' i with
  | none => exact h'.ext0 i e
  | some b => rw [h'.ext i b e]; exact h.ext0 i hi
section
variable {d d' : StoreD} {V V' : Nat → BF}
theorem Ext.ok (h : Ext d V d' V') {e : Nat} (he : okE (nodesOf d) e) : okE (nodesOf d') e := he.imp id fun ⟨b, hb⟩ => ⟨b, h.nodes _ b hb⟩
theorem Ext.ef (h : Ext d V d' V') {e : Nat} (he : okE (nodesOf d) e) : ef V' e = ef V e := by
 funext ρ
 unfold Go.Proofs.YtchliiaknmknhaaGreat.ef
 rw [h.val (e / 2) he]
theorem Ext.lev (h : Ext d V d' V') : levN d' = levN d := by funext v; unfold levN; rw [h.level]
theorem Ext.lvE (h : Ext d V d' V') {n : Nat} {e : Nat} (he : okE (nodesOf d) e) (h0 : nodesOf d 0 = none) (h0' : nodesOf d' 0 = none) : lvE n (levN d') (nodesOf d') e = lvE n (levN d) (nodesOf d) e := by
 unfold Go.Proofs.YtchliiaknmknhaaGreat.lvE
 rw [h.lev]
 rcases he with he | ⟨b, hb⟩
 ·
  rw [he, h0, h0']
 ·
  rw [hb, h.nodes _ b hb]
theorem addRel_ok {id v lo hi : Nat} (h : StoreOK d V) (r : AddRel d d' id v lo hi) (hv : v < d.vars.length) (hlo : okE (nodesOf d) lo) (hhi : okE (nodesOf d) hi)
 (llo : levN d v < lvE d.vars.length (levN d) (nodesOf d) lo) (lhi : levN d v < lvE d.vars.length (levN d) (nodesOf d) hi) (hr : hi % 2 = 0) (hne : lo ≠ hi) (ht : d.tab v (lo, hi) = none) :
 StoreOK d' (addV V id ⟨v, lo, hi⟩) ∧ Ext d V d' (addV V id ⟨v, lo, hi⟩) := by
 have hnew : ∀ i, nodesOf d i ≠ some ⟨v, lo, hi⟩ := fun i e => by rw [(h.tab v hv lo hi i).2 e] at ht; cases ht
 have hl : levN d' = levN d := by funext u; unfold levN; rw [r.level]
 have hid : id ≠ 0 := by have := r.pos; omega
 refine ⟨⟨?_, r.live, fun u hu lo' hi' i => ?_, r.clen, by rw [r.vars]; exact h.small, ?_, ?_⟩, ⟨r.vars, r.level, r.room, fun i b hb => ?_, fun i hi' => ?_, fun i b hb => ?_, fun i hi' => ?_, by rw [r.many]; omega⟩⟩
 ·
  rw [r.vars, hl, r.nodes]
  exact h.dag.add r.none hid hv hlo hhi llo lhi hr hne hnew
 ·
  rw [r.vars] at hu
  rw [r.tab, r.nodes]
  dsimp only
  by_cases e : u = v
  ·
   subst e
   rw [if_pos rfl]
   unfold putF
   by_cases e2 : (lo', hi') = (lo, hi)
   ·
    cases e2
    rw [if_pos rfl]
    constructor
    ·
     intro e3; cases e3; rw [addN_same]
    ·
     intro e3
     by_cases e4 : i = id
     ·
      rw [e4]
     ·
      rw [addN_other _ e4] at e3; exact absurd e3 (hnew i)
   ·
    rw [if_neg e2, h.tab u hu]
    by_cases e4 : i = id
    ·
     subst e4
     rw [addN_same, r.none]
     constructor
     ·
      intro e5; cases e5
     ·
      intro e5; cases e5; exact absurd rfl e2
    ·
     rw [addN_other _ e4]
  ·
   rw [if_neg e, h.tab u hu]
   by_cases e4 : i = id
   ·
    subst e4
    rw [addN_same, r.none]
    constructor
    ·
     intro e5; cases e5
    ·
     intro e5; cases e5; exact absurd rfl e
   ·
    rw [addN_other _ e4]
 ·
  rw [r.vars, hl]; exact h.inv
 ·
  rw [r.vars, hl]; exact h.vlt
 ·
  rw [r.nodes]; exact addN_old r.none hb
 ·
  unfold addV
  rw [if_neg]
  rintro rfl
  rcases hi' with hi' | ⟨b, hb⟩
  ·
   exact hid hi'
  ·
   rw [r.none] at hb; cases hb
 ·
  rw [r.ext]
  dsimp only
  rw [if_neg]
  rintro rfl
  rw [r.none] at hb; cases hb
 ·
  rw [r.ext]
  dsimp only
  split
  ·
   rfl
  ·
   exact extOf_none hi'
theorem node_ef (h : StoreOK d V) {id v lo hi : Nat} (hb : nodesOf d id = some ⟨v, eflip lo (eneg hi), eflip hi (eneg hi)⟩) : ef V (eflip (2 * id) (eneg hi)) = iteF v (ef V hi) (ef V lo) := by
 funext ρ
 have h1 := h.dag.eqn id _ hb
 have h2 : ef V (2 * id) = V id := by
  funext ρ
  have e1 : 2 * id / 2 = id := by omega
  have e2 : 2 * id % 2 = 0 := by omega
  simp [ef, e1, e2]
 rw [ef_eflip, h2, h1]
 simp only [iteF]
 rw [ef_eflip, ef_eflip]
 cases ρ v <;> cases eneg hi <;> simp
theorem eflip_even (hi : Nat) : eflip hi (eneg hi) % 2 = 0 := by
 unfold eflip eneg
 rcases Nat.mod_two_eq_zero_or_one hi with h | h
 ·
  simp [h]
 ·
  simp [h, enot_mod]
theorem eflip_ne {lo hi : Nat} {b : Bool} (h : lo ≠ hi) : eflip lo b ≠ eflip hi b := by
 unfold eflip
 cases b
 ·
  simpa using h
 ·
  simp only [if_true]
  intro e
  have := congrArg enot e
  rw [enot_enot, enot_enot] at this
  exact h this
theorem lvE_eflip {n : Nat} {lev : Nat → Nat} {N : Nat → Option BN} {e : Nat} {b : Bool} : lvE n lev N (eflip e b) = lvE n lev N e := by unfold lvE; rw [eflip_half]
end
def levelZ (d : StoreD) (v : Int) : Int := if 0 ≤ v ∧ v < d.level.length then (levN d v.toNat : Nat) else -1
theorem levelZ_nat (d : StoreD) (v : Nat) : levelZ d v = d.levelOf v := by
 unfold levelZ StoreD.levelOf levN
 by_cases h : v < d.level.length
 ·
  rw [if_pos ⟨by omega, by omega⟩, if_pos h]; rfl
 ·
  rw [if_neg (by omega), if_neg h]
set_option maxRecDepth 100000 in
theorem levelsLevel_neg {o : Own} {w : World} {sb : Nat} {d : StoreD} {s : StoreW} (h : StoreIn o w sb d s) (v : Int) (hv : v < 0) :
 Calls Tryz.prog 116 #[.pointer (some ⟨s.lb, 0, none⟩), .int .i64 v] w fun x w' => x = .returned (.int .i64 (-1)) ∧ w = w' := by
 clear h
 go_enter Tryz.func116, Tryz.ntmps116
 go_wp2_with fail
 go_ret
 exact ⟨rfl, rfl⟩
set_option maxRecDepth 100000 in
theorem storeLevel_neg {o : Own} {w : World} {sb : Nat} {d : StoreD} {s : StoreW} (h : StoreIn o w sb d s) (v : Int) (hv : v < 0) :
 Calls Tryz.prog 77 #[.pointer (some ⟨sb, 0, none⟩), .int .i64 v] w fun x w' => x = .returned (.int .i64 (-1)) ∧ w = w' := by
 obtain ⟨c0, c1, c2, c3, c4, f0⟩ := cells5 h.blk
 have HC := Lib.hid (levelsLevel_neg h v hv)
 clear h hv
 go_enter Tryz.func77, Tryz.ntmps77
 go_wp2_with fail
 refine HC.out.mono ?_
 rintro x w' ⟨rfl, rfl⟩
 go_wp2_with fail
 go_ret
 exact ⟨rfl, rfl⟩
theorem storeLevelZ {o : Own} {w : World} {sb : Nat} {d : StoreD} {s : StoreW} (h : StoreIn o w sb d s) (v : Int) (hbig : d.level.length < 1000000) :
 Calls Tryz.prog 77 #[.pointer (some ⟨sb, 0, none⟩), .int .i64 v] w fun x w' => x = .returned (.int .i64 (levelZ d v)) ∧ w = w' := by
 by_cases h0 : v < 0
 ·
  have e : levelZ d v = -1 := by unfold levelZ; rw [if_neg (by omega)]
  rw [e]; exact storeLevel_neg h v h0
 ·
  obtain ⟨n, rfl⟩ := Int.eq_ofNat_of_zero_le (by omega : 0 ≤ v)
  have e := levelZ_nat d n
  rw [e]; exact storeLevel_any h n hbig
end Go.Proofs.YtchliiaknmknhaaGreat
