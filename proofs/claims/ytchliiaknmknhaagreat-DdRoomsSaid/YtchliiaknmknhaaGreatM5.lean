/- Several texts in one file. The node store: Drop. The node store: add (a new node). The node store: what is always true of it; a new node keeps it. The node store: Mk. The node store: New. -/
import Derived.Test.YtchliiaknmknhaaGreatM4
import Derived.Deep.Cut
import Derived.Deep.CutRange
import Derived.Deep.DeepCutAuto
set_option linter.unusedSimpArgs false
set_option linter.unusedVariables false
set_option linter.unusedSectionVars false
set_option linter.unnecessarySimpa false

-- Store9
namespace Go.Proofs.YtchliiaknmknhaaGreat
open Go.RowKit

set_option maxRecDepth 100000 in
set_option maxHeartbeats 800000 in
/-- At a constant. -/
theorem storeDrop_none {o : Own} {w : World} {sb : Nat} {d : StoreD} {s : StoreW} (h : StoreIn o w sb d s) (hlt : OwnLt o w) (hl : LiveC d (extOf d)) (f : Nat) (hf : f < eMax) (hx : enode f = 0) :
    Calls Tryz.prog 103 #[.pointer (some ⟨sb, 0, none⟩), .int .i64 f] w (HoldPost o w sb d s f (-1)) := by
  obtain ⟨c0, c1, c2, c3, c4, f0⟩ := cells5 h.blk
  have lsb : sb < w.heap.size := lt_of_cell c0
  have HPOST : Hid (∀ W : World, Below w.heap.size w W → HoldPost o w sb d s f (-1) (.returned (.int .i64 0)) W) := fun W hb =>
    ⟨d, rfl, h.below hlt hb, hlt.mono hb.size, ⟨rfl, rfl, rfl, rfl, rfl, rfl, rfl, rfl, rfl, fun i hi => by
      have e : f / 2 = 0 := hx
      simp [toE, e, Ne.symm hi], hl⟩, Chg.of_below hb _ _⟩
  have hisv : (decide (enode f = 0) || d.pool.tk (enode f)) = true := by rw [hx]; rfl
  have HIS : Hid (∀ W : World, Below w.heap.size w W → Calls Tryz.prog 87 #[.pointer (some ⟨sb, 0, none⟩), .int .i64 f] W fun x w' => x = .returned (.bool true) ∧ Below W.heap.size W w') := fun W hb => by
    have h1 := storeIs_any (h.below hlt hb) (hlt.mono hb.size) f hf
    rw [hisv] at h1
    exact h1
  have htk : d.pool.tk 0 = false := h.pool.zero
  have HPA : Hid (∀ W : World, Below w.heap.size w W → Calls Tryz.prog 123 #[.pointer (some ⟨s.pb, 0, none⟩), .int .i64 (enode f : Nat)] W fun x w' => x = .returned (.tuple #[rnAgg (d.pool.has (enode f)), .bool (d.pool.tk (enode f))]) ∧ Below W.heap.size W w') :=
    Lib.hid (fun W hb => poolAt_any o s.pb d.pool (enode f) W (h.pool.below hb hlt) (hlt.mono hb.size))
  have HC1 : Hid (∀ W : World, Below w.heap.size w W → W.cell? ⟨sb, 1, none⟩ = some (.pointer (some ⟨s.pb, 0, none⟩))) := Lib.hid (fun W hb => (hb.cell (p := ⟨sb, 1, none⟩) lsb).trans c1)
  have HN := Lib.hid (fun W => node_any f W hf)
  have htk' : d.pool.tk (enode f) = false := by rw [hx]; exact htk
  obtain ⟨N, hN⟩ : ∃ N, N = d.pool.has (enode f) := ⟨_, rfl⟩
  obtain ⟨B, hB⟩ : ∃ B, B = d.pool.tk (enode f) := ⟨_, rfl⟩
  obtain ⟨k, hk⟩ : ∃ k, k = enode f := ⟨_, rfl⟩
  rw [← hN, ← hB, ← hk] at HPA
  rw [← hk] at HN
  have HB := Lib.hid (hB.trans htk')
  clear h hlt hl hf hx hisv c0 c1 c2 c3 c4 f0 lsb htk htk' hN hk hB
  go_enter Tryz.func103, Tryz.ntmps103
  go_wp2_with fail
  refine (HIS.out _ (Below.refl _ _)).mono ?_
  rintro x w1 ⟨rfl, hb1⟩
  have HB1 := Lib.hid hb1
  clear hb1
  go_upto_region 5 with fail
  refine wp_region_left (fun W : World => Below w.heap.size w W) 13 (by kernel_rfl) (below_drewN HB1.out 1) ?_
  refine left_readE 0 rfl rfl (by kernel_rfl) ?_
  apply Exists.intro
  refine ⟨fun w' hw => ?_, ?_⟩
  · have hc1 := HC1.out w' hw
    go_simp
    rfl
  simp only [Act.put, List.setIfInBounds_toArray, List.set_cons_zero, List.set_cons_succ]
  refine left_readE 1 rfl rfl (by kernel_rfl) ?_
  apply Exists.intro
  refine ⟨fun w' hw => ?_, ?_⟩
  · have hc1 := HC1.out w' hw
    go_simp
    rfl
  simp only [Act.put, List.setIfInBounds_toArray, List.set_cons_zero, List.set_cons_succ]
  refine left_readE 2 rfl rfl (by kernel_rfl) ?_
  apply Exists.intro
  refine ⟨fun w' hw => ?_, ?_⟩
  · have hc1 := HC1.out w' hw
    go_simp
    rfl
  simp only [Act.put, List.setIfInBounds_toArray, List.set_cons_zero, List.set_cons_succ]
  refine left_readE 3 rfl rfl (by kernel_rfl) ?_
  apply Exists.intro
  refine ⟨fun w' hw => ?_, ?_⟩
  · have hc1 := HC1.out w' hw
    go_simp
    rfl
  simp only [Act.put, List.setIfInBounds_toArray, List.set_cons_zero, List.set_cons_succ]
  refine left_readE 4 rfl rfl (by kernel_rfl) ?_
  apply Exists.intro
  refine ⟨fun w' hw => ?_, ?_⟩
  · have hc1 := HC1.out w' hw
    go_simp
    rfl
  simp only [Act.put, List.setIfInBounds_toArray, List.set_cons_zero, List.set_cons_succ]
  refine left_alts [5, 10] (by kernel_rfl) (fun i hi hS o ho => ?_)
  simp only [List.mem_cons, List.not_mem_nil, or_false] at hi
  rcases hi with rfl | rfl
  · skip
    simp only [List.getElem?_cons_zero, List.getElem?_cons_succ, Option.some.injEq] at ho
    subst ho
    refine ⟨rfl, ?_⟩
    refine oper_call (v := (.int .i64 k)) (R := fun w' => w1.drew = w') (by go_simp) (HN.out _) ?_
    rintro w' rfl
    refine ⟨(below_drewN HB1.out 1), ?_⟩
    simp only [Act.put, List.setIfInBounds_toArray, List.set_cons_zero, List.set_cons_succ]
    refine left_alts [6, 10] (by kernel_rfl) (fun i hi hS o ho => ?_)
    simp only [List.mem_cons, List.not_mem_nil, or_false] at hi
    rcases hi with rfl | rfl
    · skip
      simp only [List.getElem?_cons_zero, List.getElem?_cons_succ, Option.some.injEq] at ho
      subst ho
      refine ⟨rfl, ?_⟩
      refine oper_call (v := (.tuple #[rnAgg N, .bool B])) (R := fun w' => Below (w1.drew).heap.size (w1.drew) w') (by go_simp) (HPA.out _ (below_drewN HB1.out 1)) ?_
      intro v2 hv2
      have hb2 := (below_drewN HB1.out 1).trans (hv2.mono (below_drewN HB1.out 1).size)
      refine ⟨hb2, ?_⟩
      simp only [Act.put, List.setIfInBounds_toArray, List.set_cons_zero, List.set_cons_succ]
      unfold rnAgg
      refine left_readE 7 rfl rfl (by kernel_rfl) ?_
      apply Exists.intro
      refine ⟨fun w' hw => ?_, ?_⟩
      · clear hw
        go_simp
        rfl
      simp only [Act.put, List.setIfInBounds_toArray, List.set_cons_zero, List.set_cons_succ]
      refine left_readE 8 rfl rfl (by kernel_rfl) ?_
      apply Exists.intro
      refine ⟨fun w' hw => ?_, ?_⟩
      · clear hw
        go_simp
        rfl
      simp only [Act.put, List.setIfInBounds_toArray, List.set_cons_zero, List.set_cons_succ]
      refine left_readE 9 rfl rfl (by kernel_rfl) ?_
      apply Exists.intro
      refine ⟨fun w' hw => ?_, ?_⟩
      · clear hw
        go_simp
        rfl
      simp only [Act.put, List.setIfInBounds_toArray, List.set_cons_zero, List.set_cons_succ]
      refine left_alts [10] (by kernel_rfl) (fun i hi hS o ho => ?_)
      simp only [List.mem_cons, List.not_mem_nil, or_false] at hi
      subst hi
      simp only [List.getElem?_cons_zero, List.getElem?_cons_succ, Option.some.injEq] at ho
      subst ho
      refine ⟨rfl, ?_⟩
      have hb3 := hb2.trans ((below_new1 (v2) (.cells #[.int .i64 0, .int .i64 0, .int .i64 0, .int .i64 0, .int .i64 0] 157)).mono hb2.size)
      have hx3 := heap_alloc_new (v2) (.cells #[.int .i64 0, .int .i64 0, .int .i64 0, .int .i64 0, .int .i64 0] 157)
      have hge : w.heap.size ≤ (v2).heap.size := hb2.size
      refine oper_value (v := .pointer (some ⟨(v2).heap.size, 0, none⟩)) (w' := (v2).alloc (.cells #[.int .i64 0, .int .i64 0, .int .i64 0, .int .i64 0, .int .i64 0] 157)) (by go_simp) ⟨hb3, ?_⟩
      simp only [Act.put, List.setIfInBounds_toArray, List.set_cons_zero, List.set_cons_succ]
      obtain ⟨bx, hbx⟩ : ∃ bx, bx = (v2).heap.size := ⟨_, rfl⟩
      rw [← hbx] at hx3 hge ⊢
      obtain ⟨u3, hu3⟩ : ∃ u, u = (v2).alloc (.cells #[.int .i64 0, .int .i64 0, .int .i64 0, .int .i64 0, .int .i64 0] 157) := ⟨_, rfl⟩
      rw [← hu3] at hx3 hb3 ⊢
      clear hu3 hbx
      refine left_alts [11] (by kernel_rfl) (fun i hi hS o ho => ?_)
      simp only [List.mem_cons, List.not_mem_nil, or_false] at hi
      subst hi
      simp only [List.getElem?_cons_zero, List.getElem?_cons_succ, Option.some.injEq] at ho
      subst ho
      refine ⟨rfl, ?_⟩
      obtain ⟨e0, e1, e2, e3, e4, fz⟩ := cells5 hx3
      refine oper_store (w' := set5 u3 bx 0 N) rfl (run_storeNode (k := 0) fz e0 e1 e2 e3 e4 _ _ _ _ _) ?_
      have hbf : Below w.heap.size w (set5 u3 bx 0 N) := below_set5 hb3 hge N
      have hxf := set5_new hx3 N
      refine ⟨hbf, ?_⟩
      simp only [Act.put, List.setIfInBounds_toArray, List.set_cons_zero, List.set_cons_succ]
      clear e0 e1 e2 e3 e4 fz
      refine left_readE 12 rfl rfl (by kernel_rfl) ?_
      apply Exists.intro
      refine ⟨fun w' hw => ?_, ?_⟩
      · clear hw
        go_simp
        rfl
      simp only [Act.put, List.setIfInBounds_toArray, List.set_cons_zero, List.set_cons_succ]
      refine left_end (by kernel_rfl) ?_
      obtain rfl : B = false := HB.out
      have HBF := Lib.hid hbf
      obtain ⟨W3, hW3⟩ : ∃ W, W = set5 u3 bx 0 N := ⟨_, rfl⟩
      rw [← hW3] at HBF ⊢
      clear hW3 hbf hxf HPA HN HIS HC1 HB1 HB
      go_wp2_with fail
      go_ret
      exact HPOST.out _ HBF.out
    · skip
      simp only [List.getElem?_cons_zero, List.getElem?_cons_succ, Option.some.injEq] at ho
      subst ho
      refine ⟨rfl, ?_⟩
      have hb4 := (below_drewN HB1.out 1).trans ((below_new1 (w1.drew) (.cells #[.int .i64 0, .int .i64 0, .int .i64 0, .int .i64 0, .int .i64 0] 157)).mono (below_drewN HB1.out 1).size)
      have hx4 := heap_alloc_new (w1.drew) (.cells #[.int .i64 0, .int .i64 0, .int .i64 0, .int .i64 0, .int .i64 0] 157)
      have hge : w.heap.size ≤ (w1.drew).heap.size := (below_drewN HB1.out 1).size
      refine oper_value (v := .pointer (some ⟨(w1.drew).heap.size, 0, none⟩)) (w' := (w1.drew).alloc (.cells #[.int .i64 0, .int .i64 0, .int .i64 0, .int .i64 0, .int .i64 0] 157)) (by go_simp) ⟨hb4, ?_⟩
      simp only [Act.put, List.setIfInBounds_toArray, List.set_cons_zero, List.set_cons_succ]
      obtain ⟨bx, hbx⟩ : ∃ bx, bx = (w1.drew).heap.size := ⟨_, rfl⟩
      rw [← hbx] at hx4 hge ⊢
      obtain ⟨u4, hu4⟩ : ∃ u, u = (w1.drew).alloc (.cells #[.int .i64 0, .int .i64 0, .int .i64 0, .int .i64 0, .int .i64 0] 157) := ⟨_, rfl⟩
      rw [← hu4] at hx4 hb4 ⊢
      clear hu4 hbx
      refine left_alts [6] (by kernel_rfl) (fun i hi hS o ho => ?_)
      simp only [List.mem_cons, List.not_mem_nil, or_false] at hi
      subst hi
      simp only [List.getElem?_cons_zero, List.getElem?_cons_succ, Option.some.injEq] at ho
      subst ho
      refine ⟨rfl, ?_⟩
      refine oper_call (v := (.tuple #[rnAgg N, .bool B])) (R := fun w' => Below (u4).heap.size (u4) w') (by go_simp) (HPA.out _ hb4) ?_
      intro v5 hv5
      have hb5 := hb4.trans (hv5.mono hb4.size)
      refine ⟨hb5, ?_⟩
      simp only [Act.put, List.setIfInBounds_toArray, List.set_cons_zero, List.set_cons_succ]
      unfold rnAgg
      have hx5 := (hv5.block _ (Array.getElem?_eq_some_iff.1 hx4).1).trans hx4
      refine left_readE 7 rfl rfl (by kernel_rfl) ?_
      apply Exists.intro
      refine ⟨fun w' hw => ?_, ?_⟩
      · clear hw
        go_simp
        rfl
      simp only [Act.put, List.setIfInBounds_toArray, List.set_cons_zero, List.set_cons_succ]
      refine left_readE 8 rfl rfl (by kernel_rfl) ?_
      apply Exists.intro
      refine ⟨fun w' hw => ?_, ?_⟩
      · clear hw
        go_simp
        rfl
      simp only [Act.put, List.setIfInBounds_toArray, List.set_cons_zero, List.set_cons_succ]
      refine left_readE 9 rfl rfl (by kernel_rfl) ?_
      apply Exists.intro
      refine ⟨fun w' hw => ?_, ?_⟩
      · clear hw
        go_simp
        rfl
      simp only [Act.put, List.setIfInBounds_toArray, List.set_cons_zero, List.set_cons_succ]
      refine left_alts [11] (by kernel_rfl) (fun i hi hS o ho => ?_)
      simp only [List.mem_cons, List.not_mem_nil, or_false] at hi
      subst hi
      simp only [List.getElem?_cons_zero, List.getElem?_cons_succ, Option.some.injEq] at ho
      subst ho
      refine ⟨rfl, ?_⟩
      obtain ⟨e0, e1, e2, e3, e4, fz⟩ := cells5 hx5
      refine oper_store (w' := set5 v5 bx 0 N) rfl (run_storeNode (k := 0) fz e0 e1 e2 e3 e4 _ _ _ _ _) ?_
      have hbf : Below w.heap.size w (set5 v5 bx 0 N) := below_set5 hb5 hge N
      have hxf := set5_new hx5 N
      refine ⟨hbf, ?_⟩
      simp only [Act.put, List.setIfInBounds_toArray, List.set_cons_zero, List.set_cons_succ]
      clear e0 e1 e2 e3 e4 fz
      refine left_readE 12 rfl rfl (by kernel_rfl) ?_
      apply Exists.intro
      refine ⟨fun w' hw => ?_, ?_⟩
      · clear hw
        go_simp
        rfl
      simp only [Act.put, List.setIfInBounds_toArray, List.set_cons_zero, List.set_cons_succ]
      refine left_end (by kernel_rfl) ?_
      obtain rfl : B = false := HB.out
      have HBF := Lib.hid hbf
      obtain ⟨W3, hW3⟩ : ∃ W, W = set5 v5 bx 0 N := ⟨_, rfl⟩
      rw [← hW3] at HBF ⊢
      clear hW3 hbf hxf HPA HN HIS HC1 HB1 HB
      go_wp2_with fail
      go_ret
      exact HPOST.out _ HBF.out
  · skip
    simp only [List.getElem?_cons_zero, List.getElem?_cons_succ, Option.some.injEq] at ho
    subst ho
    refine ⟨rfl, ?_⟩
    have hb6 := (below_drewN HB1.out 1).trans ((below_new1 (w1.drew) (.cells #[.int .i64 0, .int .i64 0, .int .i64 0, .int .i64 0, .int .i64 0] 157)).mono (below_drewN HB1.out 1).size)
    have hx6 := heap_alloc_new (w1.drew) (.cells #[.int .i64 0, .int .i64 0, .int .i64 0, .int .i64 0, .int .i64 0] 157)
    have hge : w.heap.size ≤ (w1.drew).heap.size := (below_drewN HB1.out 1).size
    refine oper_value (v := .pointer (some ⟨(w1.drew).heap.size, 0, none⟩)) (w' := (w1.drew).alloc (.cells #[.int .i64 0, .int .i64 0, .int .i64 0, .int .i64 0, .int .i64 0] 157)) (by go_simp) ⟨hb6, ?_⟩
    simp only [Act.put, List.setIfInBounds_toArray, List.set_cons_zero, List.set_cons_succ]
    obtain ⟨bx, hbx⟩ : ∃ bx, bx = (w1.drew).heap.size := ⟨_, rfl⟩
    rw [← hbx] at hx6 hge ⊢
    obtain ⟨u6, hu6⟩ : ∃ u, u = (w1.drew).alloc (.cells #[.int .i64 0, .int .i64 0, .int .i64 0, .int .i64 0, .int .i64 0] 157) := ⟨_, rfl⟩
    rw [← hu6] at hx6 hb6 ⊢
    clear hu6 hbx
    refine left_alts [5] (by kernel_rfl) (fun i hi hS o ho => ?_)
    simp only [List.mem_cons, List.not_mem_nil, or_false] at hi
    subst hi
    simp only [List.getElem?_cons_zero, List.getElem?_cons_succ, Option.some.injEq] at ho
    subst ho
    refine ⟨rfl, ?_⟩
    refine oper_call (v := (.int .i64 k)) (R := fun w' => u6 = w') (by go_simp) (HN.out _) ?_
    rintro w' rfl
    refine ⟨hb6, ?_⟩
    simp only [Act.put, List.setIfInBounds_toArray, List.set_cons_zero, List.set_cons_succ]
    refine left_alts [6] (by kernel_rfl) (fun i hi hS o ho => ?_)
    simp only [List.mem_cons, List.not_mem_nil, or_false] at hi
    subst hi
    simp only [List.getElem?_cons_zero, List.getElem?_cons_succ, Option.some.injEq] at ho
    subst ho
    refine ⟨rfl, ?_⟩
    refine oper_call (v := (.tuple #[rnAgg N, .bool B])) (R := fun w' => Below (u6).heap.size (u6) w') (by go_simp) (HPA.out _ hb6) ?_
    intro v8 hv8
    have hb8 := hb6.trans (hv8.mono hb6.size)
    refine ⟨hb8, ?_⟩
    simp only [Act.put, List.setIfInBounds_toArray, List.set_cons_zero, List.set_cons_succ]
    unfold rnAgg
    have hx8 := (hv8.block _ (Array.getElem?_eq_some_iff.1 hx6).1).trans hx6
    refine left_readE 7 rfl rfl (by kernel_rfl) ?_
    apply Exists.intro
    refine ⟨fun w' hw => ?_, ?_⟩
    · clear hw
      go_simp
      rfl
    simp only [Act.put, List.setIfInBounds_toArray, List.set_cons_zero, List.set_cons_succ]
    refine left_readE 8 rfl rfl (by kernel_rfl) ?_
    apply Exists.intro
    refine ⟨fun w' hw => ?_, ?_⟩
    · clear hw
      go_simp
      rfl
    simp only [Act.put, List.setIfInBounds_toArray, List.set_cons_zero, List.set_cons_succ]
    refine left_readE 9 rfl rfl (by kernel_rfl) ?_
    apply Exists.intro
    refine ⟨fun w' hw => ?_, ?_⟩
    · clear hw
      go_simp
      rfl
    simp only [Act.put, List.setIfInBounds_toArray, List.set_cons_zero, List.set_cons_succ]
    refine left_alts [11] (by kernel_rfl) (fun i hi hS o ho => ?_)
    simp only [List.mem_cons, List.not_mem_nil, or_false] at hi
    subst hi
    simp only [List.getElem?_cons_zero, List.getElem?_cons_succ, Option.some.injEq] at ho
    subst ho
    refine ⟨rfl, ?_⟩
    obtain ⟨e0, e1, e2, e3, e4, fz⟩ := cells5 hx8
    refine oper_store (w' := set5 v8 bx 0 N) rfl (run_storeNode (k := 0) fz e0 e1 e2 e3 e4 _ _ _ _ _) ?_
    have hbf : Below w.heap.size w (set5 v8 bx 0 N) := below_set5 hb8 hge N
    have hxf := set5_new hx8 N
    refine ⟨hbf, ?_⟩
    simp only [Act.put, List.setIfInBounds_toArray, List.set_cons_zero, List.set_cons_succ]
    clear e0 e1 e2 e3 e4 fz
    refine left_readE 12 rfl rfl (by kernel_rfl) ?_
    apply Exists.intro
    refine ⟨fun w' hw => ?_, ?_⟩
    · clear hw
      go_simp
      rfl
    simp only [Act.put, List.setIfInBounds_toArray, List.set_cons_zero, List.set_cons_succ]
    refine left_end (by kernel_rfl) ?_
    obtain rfl : B = false := HB.out
    have HBF := Lib.hid hbf
    obtain ⟨W3, hW3⟩ : ∃ W, W = set5 v8 bx 0 N := ⟨_, rfl⟩
    rw [← hW3] at HBF ⊢
    clear hW3 hbf hxf HPA HN HIS HC1 HB1 HB
    go_wp2_with fail
    go_ret
    exact HPOST.out _ HBF.out
set_option maxRecDepth 100000 in
set_option maxHeartbeats 1600000 in
/-- At a node. -/
theorem storeDrop_node {o : Own} {w : World} {sb : Nat} {d : StoreD} {s : StoreW} (h : StoreIn o w sb d s) (hlt : OwnLt o w) (hl : LiveC d (extOf d)) {rk : Nat → Nat} (ha : Acy (nodesOf d) rk) (f : Nat) {b : BN} (hx : nodesOf d (enode f) = some b)
    (htop : ∀ y b, nodesOf d y = some b → extOf d y < 1099511627776) (hpos : 1 ≤ extOf d (enode f)) (hcn : ∀ y, cntOf d y ≤ 2199023255552) :
    Calls Tryz.prog 103 #[.pointer (some ⟨sb, 0, none⟩), .int .i64 f] w (HoldPost o w sb d s f (-1)) := by
  obtain ⟨c0, c1, c2, c3, c4, f0⟩ := cells5 h.blk
  have lsb : sb < w.heap.size := lt_of_cell c0
  have hok : okE (nodesOf d) f := .inr ⟨b, hx⟩
  have hf : f < eMax := by have := h.edge_lt hok; unfold eMax; omega
  have hns := nodesOf_some hx
  have htl := h.tk_lt hx
  have hrf : (d.pool.nd (enode f)).refs < 1099511627776 := by have := htop _ _ hx; rw [extOf_node hns.1] at this; omega
  have hid : (d.pool.nd (enode f)).id = enode f := h.pool.id _ hns.1
  have hisv : (decide (enode f = 0) || d.pool.tk (enode f)) = true := by rw [hns.1]; simp
  have HIS : Hid (∀ W : World, Below w.heap.size w W → Calls Tryz.prog 87 #[.pointer (some ⟨sb, 0, none⟩), .int .i64 f] W fun x w' => x = .returned (.bool true) ∧ Below W.heap.size W w') := fun W hb => by
    have h1 := storeIs_any (h.below hlt hb) (hlt.mono hb.size) f hf
    rw [hisv] at h1
    exact h1
  have HPA : Hid (∀ W : World, Below w.heap.size w W → Calls Tryz.prog 123 #[.pointer (some ⟨s.pb, 0, none⟩), .int .i64 (enode f : Nat)] W fun x w' => x = .returned (.tuple #[rnAgg (d.pool.has (enode f)), .bool (d.pool.tk (enode f))]) ∧ Below W.heap.size W w') :=
    Lib.hid (fun W hb => poolAt_any o s.pb d.pool (enode f) W (h.pool.below hb hlt) (hlt.mono hb.size))
  have HC1 : Hid (∀ W : World, Below w.heap.size w W → W.cell? ⟨sb, 1, none⟩ = some (.pointer (some ⟨s.pb, 0, none⟩))) := Lib.hid (fun W hb => (hb.cell (p := ⟨sb, 1, none⟩) lsb).trans c1)
  have HN := Lib.hid (fun W => node_any f W hf)
  obtain ⟨r, hr⟩ : ∃ r, r = (d.pool.nd (enode f)).refs := ⟨_, rfl⟩
  have hrp : 1 ≤ r := by rw [extOf_node hns.1] at hpos; omega
  have HSET : Hid (∀ W : World, Below w.heap.size w W → Calls Tryz.prog 140 #[.pointer (some ⟨s.pb, 0, none⟩), rnAgg ((d.pool.nd (enode f)).ref (r - 1))] W fun x w' => x = .returned (.int .i64 0) ∧ StoreIn o w' sb { d with pool := d.pool.setNd (enode f) ((d.pool.nd (enode f)).ref (r - 1)) } s ∧ Chg RStore o o w w' ∧ OwnLt o w') := fun W hb => by
    have hi' : d.pool.tk ((d.pool.nd (enode f)).ref (r - 1)).id = true := by show d.pool.tk (d.pool.nd (enode f)).id = true; rw [hid]; exact hns.1
    refine (poolSet_any o s.pb d.pool ((d.pool.nd (enode f)).ref (r - 1)) W (h.pool.below hb hlt) (hlt.mono hb.size) hi').mono ?_
    rintro e w' ⟨rfl, hp, hc, hl'⟩
    have e1 : ((d.pool.nd (enode f)).ref (r - 1)).id = enode f := hid
    rw [e1] at hp
    exact ⟨rfl, (h.below hlt hb).setPool (hlt.mono hb.size) hp (hc.mono (fun r hr => by simp [RPool, hr])), (Chg.of_below hb _ _).trans (hc.mono rslots_store), hl'⟩
  have HMORE : Hid (∀ (W : World), StoreIn o W sb { d with pool := d.pool.setNd (enode f) ((d.pool.nd (enode f)).ref (r - 1)) } s → OwnLt o W → Chg RStore o o w W →
      Calls Tryz.prog 142 #[.pointer (some ⟨sb, 0, none⟩), .int .i64 f] W fun e w' => e = .returned (.tuple #[]) ∧ HoldPost o w sb d s f (-1) (.returned (.int .i64 0)) w') := fun W hs hl' hch => by
    have hnd := setRef_nodes (d := d) (k := r - 1) htl.2.1 hns.1
    refine (storeLess_any o sb s rk (rk (enode f) + 1) W _ (extOf d) f ⟨hs, hl', by rw [hnd]; exact ha, by rw [hnd]; exact hok, setRef_live htl.2.1 hns.1 hl, fun y => hcn y, fun y q hq => (by
      rw [hnd] at hq
      by_cases e : enode f = y
      · subst e
        have h1 : extOf d (enode f) = (r : Int) := by rw [extOf_node hns.1, hr]
        have h2 : toE f (enode f) = 1 := toE_hit f
        rw [h1, h2]; omega
      · have h1 : toE f y = 0 := if_neg e
        have h2 : 0 ≤ extOf d y := by unfold extOf; split <;> omega
        rw [h1]; omega), .inr (Nat.lt_succ_self _)⟩).mono ?_
    rintro e w' ⟨cs, dd, rfl, hs2, hl2, hcl, _, _, hc2⟩
    refine ⟨rfl, _, rfl, hs2, hl'.mono hc2.size, ⟨rfl, rfl, rfl, hnd, rfl, rfl, rfl, by simp [StoreD.cd, PoolD.setNd], hcl, fun i hi => ?_, hl2.congr (fun y b' hb' => ?_)⟩, hch.trans (hc2.mono rcnt_store)⟩
    · show extOf { d with pool := d.pool.setNd (enode f) ((d.pool.nd (enode f)).ref (r - 1)) } i = _
      rw [setRef_ext htl.2.1 hns.1]
      dsimp only
      unfold toE
      by_cases e : i = enode f
      · have e' : f / 2 = i := e.symm
        rw [if_pos e, if_pos e', e, extOf_node hns.1, ← hr]; omega
      · have e' : ¬ f / 2 = i := fun h' => e h'.symm
        rw [if_neg e, if_neg e']; omega
    · show extOf { d with pool := d.pool.setNd (enode f) ((d.pool.nd (enode f)).ref (r - 1)) } y = _
      rw [setRef_ext htl.2.1 hns.1]
      dsimp only
      unfold addE toE
      by_cases e : y = enode f
      · have e' : f / 2 = y := e.symm
        rw [if_pos e, if_pos e', e, extOf_node hns.1, ← hr]; omega
      · have e' : ¬ f / 2 = y := fun h' => e h'.symm
        rw [if_neg e, if_neg e']; omega
  have hNn : d.pool.has (enode f) = d.pool.nd (enode f) := hns.2.1
  rw [hNn] at HPA
  have HREF : Hid (rnAgg ((d.pool.nd (enode f)).ref (r - 1)) = .agg #[.int .i64 (d.pool.nd (enode f)).id, .int .i64 (d.pool.nd (enode f)).v, .int .i64 (d.pool.nd (enode f)).lo, .int .i64 (d.pool.nd (enode f)).hi, .int .i64 ((r : Int) - 1)]) := by
    show _ = _
    unfold rnAgg RN.ref
    dsimp only
    rw [show ((r - 1 : Nat) : Int) = (r : Int) - 1 from by omega]
  rw [hns.1] at HPA
  rw [← hr] at hrf
  obtain ⟨N, hN⟩ : ∃ N, N = d.pool.nd (enode f) := ⟨_, rfl⟩
  have hNr : N.refs = r := by rw [hN, hr]
  rw [← hN] at HPA HREF HSET HMORE
  obtain ⟨B, hB⟩ : ∃ B, B = true := ⟨_, rfl⟩
  rw [← hB] at HPA
  obtain ⟨k, hk⟩ : ∃ k, k = enode f := ⟨_, rfl⟩
  rw [← hk] at HPA HN
  have HBT := Lib.hid hB
  have HNR := Lib.hid hNr
  have HW0 := Lib.hid hk
  clear h hlt hl ha hx htop hf hns hisv htl hid hr hNn hN hB hk hok c0 c1 c2 c3 c4 f0 lsb hNr hpos hcn
  go_enter Tryz.func103, Tryz.ntmps103
  go_wp2_with fail
  refine (HIS.out _ (Below.refl _ _)).mono ?_
  rintro x w1 ⟨rfl, hb1⟩
  have HB1 := Lib.hid hb1
  clear hb1 HIS
  go_upto_region 5 with fail
  refine wp_region_left (fun W : World => Below w.heap.size w W) 13 (by kernel_rfl) (below_drewN HB1.out 1) ?_
  refine left_readE 0 rfl rfl (by kernel_rfl) ?_
  apply Exists.intro
  refine ⟨fun w' hw => ?_, ?_⟩
  · have hc1 := HC1.out w' hw
    go_simp
    rfl
  simp only [Act.put, List.setIfInBounds_toArray, List.set_cons_zero, List.set_cons_succ]
  refine left_readE 1 rfl rfl (by kernel_rfl) ?_
  apply Exists.intro
  refine ⟨fun w' hw => ?_, ?_⟩
  · have hc1 := HC1.out w' hw
    go_simp
    rfl
  simp only [Act.put, List.setIfInBounds_toArray, List.set_cons_zero, List.set_cons_succ]
  refine left_readE 2 rfl rfl (by kernel_rfl) ?_
  apply Exists.intro
  refine ⟨fun w' hw => ?_, ?_⟩
  · have hc1 := HC1.out w' hw
    go_simp
    rfl
  simp only [Act.put, List.setIfInBounds_toArray, List.set_cons_zero, List.set_cons_succ]
  refine left_readE 3 rfl rfl (by kernel_rfl) ?_
  apply Exists.intro
  refine ⟨fun w' hw => ?_, ?_⟩
  · have hc1 := HC1.out w' hw
    go_simp
    rfl
  simp only [Act.put, List.setIfInBounds_toArray, List.set_cons_zero, List.set_cons_succ]
  refine left_readE 4 rfl rfl (by kernel_rfl) ?_
  apply Exists.intro
  refine ⟨fun w' hw => ?_, ?_⟩
  · have hc1 := HC1.out w' hw
    go_simp
    rfl
  simp only [Act.put, List.setIfInBounds_toArray, List.set_cons_zero, List.set_cons_succ]
  refine left_alts [5, 10] (by kernel_rfl) (fun i hi hS o ho => ?_)
  simp only [List.mem_cons, List.not_mem_nil, or_false] at hi
  rcases hi with rfl | rfl
  · skip
    simp only [List.getElem?_cons_zero, List.getElem?_cons_succ, Option.some.injEq] at ho
    subst ho
    refine ⟨rfl, ?_⟩
    refine oper_call (v := (.int .i64 k)) (R := fun w' => w1.drew = w') (by go_simp) (HN.out _) ?_
    rintro w' rfl
    refine ⟨(below_drewN HB1.out 1), ?_⟩
    simp only [Act.put, List.setIfInBounds_toArray, List.set_cons_zero, List.set_cons_succ]
    refine left_alts [6, 10] (by kernel_rfl) (fun i hi hS o ho => ?_)
    simp only [List.mem_cons, List.not_mem_nil, or_false] at hi
    rcases hi with rfl | rfl
    · skip
      simp only [List.getElem?_cons_zero, List.getElem?_cons_succ, Option.some.injEq] at ho
      subst ho
      refine ⟨rfl, ?_⟩
      refine oper_call (v := (.tuple #[rnAgg N, .bool B])) (R := fun w' => Below (w1.drew).heap.size (w1.drew) w') (by go_simp) (HPA.out _ (below_drewN HB1.out 1)) ?_
      intro v2 hv2
      have hb2 := (below_drewN HB1.out 1).trans (hv2.mono (below_drewN HB1.out 1).size)
      refine ⟨hb2, ?_⟩
      simp only [Act.put, List.setIfInBounds_toArray, List.set_cons_zero, List.set_cons_succ]
      unfold rnAgg
      refine left_readE 7 rfl rfl (by kernel_rfl) ?_
      apply Exists.intro
      refine ⟨fun w' hw => ?_, ?_⟩
      · clear hw
        go_simp
        rfl
      simp only [Act.put, List.setIfInBounds_toArray, List.set_cons_zero, List.set_cons_succ]
      refine left_readE 8 rfl rfl (by kernel_rfl) ?_
      apply Exists.intro
      refine ⟨fun w' hw => ?_, ?_⟩
      · clear hw
        go_simp
        rfl
      simp only [Act.put, List.setIfInBounds_toArray, List.set_cons_zero, List.set_cons_succ]
      refine left_readE 9 rfl rfl (by kernel_rfl) ?_
      apply Exists.intro
      refine ⟨fun w' hw => ?_, ?_⟩
      · clear hw
        go_simp
        rfl
      simp only [Act.put, List.setIfInBounds_toArray, List.set_cons_zero, List.set_cons_succ]
      refine left_alts [10] (by kernel_rfl) (fun i hi hS o ho => ?_)
      simp only [List.mem_cons, List.not_mem_nil, or_false] at hi
      subst hi
      simp only [List.getElem?_cons_zero, List.getElem?_cons_succ, Option.some.injEq] at ho
      subst ho
      refine ⟨rfl, ?_⟩
      have hb3 := hb2.trans ((below_new1 (v2) (.cells #[.int .i64 0, .int .i64 0, .int .i64 0, .int .i64 0, .int .i64 0] 157)).mono hb2.size)
      have hx3 := heap_alloc_new (v2) (.cells #[.int .i64 0, .int .i64 0, .int .i64 0, .int .i64 0, .int .i64 0] 157)
      have hge : w.heap.size ≤ (v2).heap.size := hb2.size
      refine oper_value (v := .pointer (some ⟨(v2).heap.size, 0, none⟩)) (w' := (v2).alloc (.cells #[.int .i64 0, .int .i64 0, .int .i64 0, .int .i64 0, .int .i64 0] 157)) (by go_simp) ⟨hb3, ?_⟩
      simp only [Act.put, List.setIfInBounds_toArray, List.set_cons_zero, List.set_cons_succ]
      obtain ⟨bx, hbx⟩ : ∃ bx, bx = (v2).heap.size := ⟨_, rfl⟩
      rw [← hbx] at hx3 hge ⊢
      obtain ⟨u3, hu3⟩ : ∃ u, u = (v2).alloc (.cells #[.int .i64 0, .int .i64 0, .int .i64 0, .int .i64 0, .int .i64 0] 157) := ⟨_, rfl⟩
      rw [← hu3] at hx3 hb3 ⊢
      clear hu3 hbx
      refine left_alts [11] (by kernel_rfl) (fun i hi hS o ho => ?_)
      simp only [List.mem_cons, List.not_mem_nil, or_false] at hi
      subst hi
      simp only [List.getElem?_cons_zero, List.getElem?_cons_succ, Option.some.injEq] at ho
      subst ho
      refine ⟨rfl, ?_⟩
      obtain ⟨e0, e1, e2, e3, e4, fz⟩ := cells5 hx3
      refine oper_store (w' := set5 u3 bx 0 N) rfl (run_storeNode (k := 0) fz e0 e1 e2 e3 e4 _ _ _ _ _) ?_
      have hbf : Below w.heap.size w (set5 u3 bx 0 N) := below_set5 hb3 hge N
      have hxf := set5_new hx3 N
      refine ⟨hbf, ?_⟩
      simp only [Act.put, List.setIfInBounds_toArray, List.set_cons_zero, List.set_cons_succ]
      clear e0 e1 e2 e3 e4 fz
      refine left_readE 12 rfl rfl (by kernel_rfl) ?_
      apply Exists.intro
      refine ⟨fun w' hw => ?_, ?_⟩
      · clear hw
        go_simp
        rfl
      simp only [Act.put, List.setIfInBounds_toArray, List.set_cons_zero, List.set_cons_succ]
      refine left_end (by kernel_rfl) ?_
      obtain rfl : B = true := HBT.out
      have hxf' := hxf
      rw [HNR.out] at hxf'
      have HXF := Lib.hid hxf'
      have HBF := Lib.hid hbf
      obtain ⟨y0, y1, y2, y3, y4, yz⟩ := cells5 hxf'
      obtain ⟨W3, hW3⟩ : ∃ W, W = set5 u3 bx 0 N := ⟨_, rfl⟩
      rw [← hW3] at y0 y1 y2 y3 y4 yz HXF HBF ⊢
      clear hW3 hxf hxf' hbf HNR HPA HN HBT
      go_upto_region 11 with fail
      have hxz := heap_setCell_same (k := 4) HXF.out (.int .i64 ((r : Int) - 1))
      have hbz : Below w.heap.size w (W3.setCell ⟨bx, 4, none⟩ (.int .i64 ((r : Int) - 1))) := HBF.out.setCell (p := ⟨bx, 4, none⟩) hge _
      obtain ⟨W4, hW4⟩ : ∃ W, W = W3.setCell ⟨bx, 4, none⟩ (.int .i64 ((r : Int) - 1)) := ⟨_, rfl⟩
      rw [← hW4] at hxz hbz ⊢
      clear hW4 HXF HBF y0 y1 y2 y3 y4 yz
      simp at hxz
      obtain ⟨z0, z1, z2, z3, z4, zz⟩ := cells5 hxz
      have hc1 := HC1.out _ hbz
      refine wp_region_mix (fun w' => w' = W4.drew) true 5 [(0, false), (1, false), (2, false), (3, false), (4, false), (5, true)] (by kernel_rfl) (by kernel_rfl) rfl ?_
      simp only [planned, List.map_cons, List.map_nil, List.getElem?_cons_succ, List.getElem?_cons_zero]
      iterate 5
        refine mix_readE rfl ?_
        apply Exists.intro
        refine ⟨fun w' hw => ?_, ?_⟩
        · subst hw
          go_simp
          rfl
        simp only [Act.put, List.setIfInBounds_toArray, List.set_cons_zero, List.set_cons_succ]
      refine mix_last rfl (fun K hK => ?_)
      unfold Oper.wp
      go_simp
      rw [← HREF.out]
      refine (HSET.out _ (below_drewN hbz 1)).mono ?_
      rintro x w5 ⟨rfl, hs5, hc5, hl5⟩
      refine hK _ _ (np_normal ?_)
      have HS5 := Lib.hid hs5
      have HC5 := Lib.hid hc5
      have HL5 := Lib.hid hl5
      clear hs5 hc5 hl5 hxz hbz z0 z1 z2 z3 z4 zz hc1
      go_wp2_with fail
      refine (HMORE.out _ HS5.out HL5.out HC5.out).mono ?_
      rintro x w6 ⟨rfl, hp⟩
      have HP := Lib.hid hp
      clear hp
      go_wp2_with fail
      go_ret
      exact HP.out
    · skip
      simp only [List.getElem?_cons_zero, List.getElem?_cons_succ, Option.some.injEq] at ho
      subst ho
      refine ⟨rfl, ?_⟩
      have hb4 := (below_drewN HB1.out 1).trans ((below_new1 (w1.drew) (.cells #[.int .i64 0, .int .i64 0, .int .i64 0, .int .i64 0, .int .i64 0] 157)).mono (below_drewN HB1.out 1).size)
      have hx4 := heap_alloc_new (w1.drew) (.cells #[.int .i64 0, .int .i64 0, .int .i64 0, .int .i64 0, .int .i64 0] 157)
      have hge : w.heap.size ≤ (w1.drew).heap.size := (below_drewN HB1.out 1).size
      refine oper_value (v := .pointer (some ⟨(w1.drew).heap.size, 0, none⟩)) (w' := (w1.drew).alloc (.cells #[.int .i64 0, .int .i64 0, .int .i64 0, .int .i64 0, .int .i64 0] 157)) (by go_simp) ⟨hb4, ?_⟩
      simp only [Act.put, List.setIfInBounds_toArray, List.set_cons_zero, List.set_cons_succ]
      obtain ⟨bx, hbx⟩ : ∃ bx, bx = (w1.drew).heap.size := ⟨_, rfl⟩
      rw [← hbx] at hx4 hge ⊢
      obtain ⟨u4, hu4⟩ : ∃ u, u = (w1.drew).alloc (.cells #[.int .i64 0, .int .i64 0, .int .i64 0, .int .i64 0, .int .i64 0] 157) := ⟨_, rfl⟩
      rw [← hu4] at hx4 hb4 ⊢
      clear hu4 hbx
      refine left_alts [6] (by kernel_rfl) (fun i hi hS o ho => ?_)
      simp only [List.mem_cons, List.not_mem_nil, or_false] at hi
      subst hi
      simp only [List.getElem?_cons_zero, List.getElem?_cons_succ, Option.some.injEq] at ho
      subst ho
      refine ⟨rfl, ?_⟩
      refine oper_call (v := (.tuple #[rnAgg N, .bool B])) (R := fun w' => Below (u4).heap.size (u4) w') (by go_simp) (HPA.out _ hb4) ?_
      intro v5 hv5
      have hb5 := hb4.trans (hv5.mono hb4.size)
      refine ⟨hb5, ?_⟩
      simp only [Act.put, List.setIfInBounds_toArray, List.set_cons_zero, List.set_cons_succ]
      unfold rnAgg
      have hx5 := (hv5.block _ (Array.getElem?_eq_some_iff.1 hx4).1).trans hx4
      refine left_readE 7 rfl rfl (by kernel_rfl) ?_
      apply Exists.intro
      refine ⟨fun w' hw => ?_, ?_⟩
      · clear hw
        go_simp
        rfl
      simp only [Act.put, List.setIfInBounds_toArray, List.set_cons_zero, List.set_cons_succ]
      refine left_readE 8 rfl rfl (by kernel_rfl) ?_
      apply Exists.intro
      refine ⟨fun w' hw => ?_, ?_⟩
      · clear hw
        go_simp
        rfl
      simp only [Act.put, List.setIfInBounds_toArray, List.set_cons_zero, List.set_cons_succ]
      refine left_readE 9 rfl rfl (by kernel_rfl) ?_
      apply Exists.intro
      refine ⟨fun w' hw => ?_, ?_⟩
      · clear hw
        go_simp
        rfl
      simp only [Act.put, List.setIfInBounds_toArray, List.set_cons_zero, List.set_cons_succ]
      refine left_alts [11] (by kernel_rfl) (fun i hi hS o ho => ?_)
      simp only [List.mem_cons, List.not_mem_nil, or_false] at hi
      subst hi
      simp only [List.getElem?_cons_zero, List.getElem?_cons_succ, Option.some.injEq] at ho
      subst ho
      refine ⟨rfl, ?_⟩
      obtain ⟨e0, e1, e2, e3, e4, fz⟩ := cells5 hx5
      refine oper_store (w' := set5 v5 bx 0 N) rfl (run_storeNode (k := 0) fz e0 e1 e2 e3 e4 _ _ _ _ _) ?_
      have hbf : Below w.heap.size w (set5 v5 bx 0 N) := below_set5 hb5 hge N
      have hxf := set5_new hx5 N
      refine ⟨hbf, ?_⟩
      simp only [Act.put, List.setIfInBounds_toArray, List.set_cons_zero, List.set_cons_succ]
      clear e0 e1 e2 e3 e4 fz
      refine left_readE 12 rfl rfl (by kernel_rfl) ?_
      apply Exists.intro
      refine ⟨fun w' hw => ?_, ?_⟩
      · clear hw
        go_simp
        rfl
      simp only [Act.put, List.setIfInBounds_toArray, List.set_cons_zero, List.set_cons_succ]
      refine left_end (by kernel_rfl) ?_
      obtain rfl : B = true := HBT.out
      have hxf' := hxf
      rw [HNR.out] at hxf'
      have HXF := Lib.hid hxf'
      have HBF := Lib.hid hbf
      obtain ⟨y0, y1, y2, y3, y4, yz⟩ := cells5 hxf'
      obtain ⟨W3, hW3⟩ : ∃ W, W = set5 v5 bx 0 N := ⟨_, rfl⟩
      rw [← hW3] at y0 y1 y2 y3 y4 yz HXF HBF ⊢
      clear hW3 hxf hxf' hbf HNR HPA HN HBT
      go_upto_region 11 with fail
      have hxz := heap_setCell_same (k := 4) HXF.out (.int .i64 ((r : Int) - 1))
      have hbz : Below w.heap.size w (W3.setCell ⟨bx, 4, none⟩ (.int .i64 ((r : Int) - 1))) := HBF.out.setCell (p := ⟨bx, 4, none⟩) hge _
      obtain ⟨W4, hW4⟩ : ∃ W, W = W3.setCell ⟨bx, 4, none⟩ (.int .i64 ((r : Int) - 1)) := ⟨_, rfl⟩
      rw [← hW4] at hxz hbz ⊢
      clear hW4 HXF HBF y0 y1 y2 y3 y4 yz
      simp at hxz
      obtain ⟨z0, z1, z2, z3, z4, zz⟩ := cells5 hxz
      have hc1 := HC1.out _ hbz
      refine wp_region_mix (fun w' => w' = W4.drew) true 5 [(0, false), (1, false), (2, false), (3, false), (4, false), (5, true)] (by kernel_rfl) (by kernel_rfl) rfl ?_
      simp only [planned, List.map_cons, List.map_nil, List.getElem?_cons_succ, List.getElem?_cons_zero]
      iterate 5
        refine mix_readE rfl ?_
        apply Exists.intro
        refine ⟨fun w' hw => ?_, ?_⟩
        · subst hw
          go_simp
          rfl
        simp only [Act.put, List.setIfInBounds_toArray, List.set_cons_zero, List.set_cons_succ]
      refine mix_last rfl (fun K hK => ?_)
      unfold Oper.wp
      go_simp
      rw [← HREF.out]
      refine (HSET.out _ (below_drewN hbz 1)).mono ?_
      rintro x w5 ⟨rfl, hs5, hc5, hl5⟩
      refine hK _ _ (np_normal ?_)
      have HS5 := Lib.hid hs5
      have HC5 := Lib.hid hc5
      have HL5 := Lib.hid hl5
      clear hs5 hc5 hl5 hxz hbz z0 z1 z2 z3 z4 zz hc1
      go_wp2_with fail
      refine (HMORE.out _ HS5.out HL5.out HC5.out).mono ?_
      rintro x w6 ⟨rfl, hp⟩
      have HP := Lib.hid hp
      clear hp
      go_wp2_with fail
      go_ret
      exact HP.out
  · skip
    simp only [List.getElem?_cons_zero, List.getElem?_cons_succ, Option.some.injEq] at ho
    subst ho
    refine ⟨rfl, ?_⟩
    have hb6 := (below_drewN HB1.out 1).trans ((below_new1 (w1.drew) (.cells #[.int .i64 0, .int .i64 0, .int .i64 0, .int .i64 0, .int .i64 0] 157)).mono (below_drewN HB1.out 1).size)
    have hx6 := heap_alloc_new (w1.drew) (.cells #[.int .i64 0, .int .i64 0, .int .i64 0, .int .i64 0, .int .i64 0] 157)
    have hge : w.heap.size ≤ (w1.drew).heap.size := (below_drewN HB1.out 1).size
    refine oper_value (v := .pointer (some ⟨(w1.drew).heap.size, 0, none⟩)) (w' := (w1.drew).alloc (.cells #[.int .i64 0, .int .i64 0, .int .i64 0, .int .i64 0, .int .i64 0] 157)) (by go_simp) ⟨hb6, ?_⟩
    simp only [Act.put, List.setIfInBounds_toArray, List.set_cons_zero, List.set_cons_succ]
    obtain ⟨bx, hbx⟩ : ∃ bx, bx = (w1.drew).heap.size := ⟨_, rfl⟩
    rw [← hbx] at hx6 hge ⊢
    obtain ⟨u6, hu6⟩ : ∃ u, u = (w1.drew).alloc (.cells #[.int .i64 0, .int .i64 0, .int .i64 0, .int .i64 0, .int .i64 0] 157) := ⟨_, rfl⟩
    rw [← hu6] at hx6 hb6 ⊢
    clear hu6 hbx
    refine left_alts [5] (by kernel_rfl) (fun i hi hS o ho => ?_)
    simp only [List.mem_cons, List.not_mem_nil, or_false] at hi
    subst hi
    simp only [List.getElem?_cons_zero, List.getElem?_cons_succ, Option.some.injEq] at ho
    subst ho
    refine ⟨rfl, ?_⟩
    refine oper_call (v := (.int .i64 k)) (R := fun w' => u6 = w') (by go_simp) (HN.out _) ?_
    rintro w' rfl
    refine ⟨hb6, ?_⟩
    simp only [Act.put, List.setIfInBounds_toArray, List.set_cons_zero, List.set_cons_succ]
    refine left_alts [6] (by kernel_rfl) (fun i hi hS o ho => ?_)
    simp only [List.mem_cons, List.not_mem_nil, or_false] at hi
    subst hi
    simp only [List.getElem?_cons_zero, List.getElem?_cons_succ, Option.some.injEq] at ho
    subst ho
    refine ⟨rfl, ?_⟩
    refine oper_call (v := (.tuple #[rnAgg N, .bool B])) (R := fun w' => Below (u6).heap.size (u6) w') (by go_simp) (HPA.out _ hb6) ?_
    intro v8 hv8
    have hb8 := hb6.trans (hv8.mono hb6.size)
    refine ⟨hb8, ?_⟩
    simp only [Act.put, List.setIfInBounds_toArray, List.set_cons_zero, List.set_cons_succ]
    unfold rnAgg
    have hx8 := (hv8.block _ (Array.getElem?_eq_some_iff.1 hx6).1).trans hx6
    refine left_readE 7 rfl rfl (by kernel_rfl) ?_
    apply Exists.intro
    refine ⟨fun w' hw => ?_, ?_⟩
    · clear hw
      go_simp
      rfl
    simp only [Act.put, List.setIfInBounds_toArray, List.set_cons_zero, List.set_cons_succ]
    refine left_readE 8 rfl rfl (by kernel_rfl) ?_
    apply Exists.intro
    refine ⟨fun w' hw => ?_, ?_⟩
    · clear hw
      go_simp
      rfl
    simp only [Act.put, List.setIfInBounds_toArray, List.set_cons_zero, List.set_cons_succ]
    refine left_readE 9 rfl rfl (by kernel_rfl) ?_
    apply Exists.intro
    refine ⟨fun w' hw => ?_, ?_⟩
    · clear hw
      go_simp
      rfl
    simp only [Act.put, List.setIfInBounds_toArray, List.set_cons_zero, List.set_cons_succ]
    refine left_alts [11] (by kernel_rfl) (fun i hi hS o ho => ?_)
    simp only [List.mem_cons, List.not_mem_nil, or_false] at hi
    subst hi
    simp only [List.getElem?_cons_zero, List.getElem?_cons_succ, Option.some.injEq] at ho
    subst ho
    refine ⟨rfl, ?_⟩
    obtain ⟨e0, e1, e2, e3, e4, fz⟩ := cells5 hx8
    refine oper_store (w' := set5 v8 bx 0 N) rfl (run_storeNode (k := 0) fz e0 e1 e2 e3 e4 _ _ _ _ _) ?_
    have hbf : Below w.heap.size w (set5 v8 bx 0 N) := below_set5 hb8 hge N
    have hxf := set5_new hx8 N
    refine ⟨hbf, ?_⟩
    simp only [Act.put, List.setIfInBounds_toArray, List.set_cons_zero, List.set_cons_succ]
    clear e0 e1 e2 e3 e4 fz
    refine left_readE 12 rfl rfl (by kernel_rfl) ?_
    apply Exists.intro
    refine ⟨fun w' hw => ?_, ?_⟩
    · clear hw
      go_simp
      rfl
    simp only [Act.put, List.setIfInBounds_toArray, List.set_cons_zero, List.set_cons_succ]
    refine left_end (by kernel_rfl) ?_
    obtain rfl : B = true := HBT.out
    have hxf' := hxf
    rw [HNR.out] at hxf'
    have HXF := Lib.hid hxf'
    have HBF := Lib.hid hbf
    obtain ⟨y0, y1, y2, y3, y4, yz⟩ := cells5 hxf'
    obtain ⟨W3, hW3⟩ : ∃ W, W = set5 v8 bx 0 N := ⟨_, rfl⟩
    rw [← hW3] at y0 y1 y2 y3 y4 yz HXF HBF ⊢
    clear hW3 hxf hxf' hbf HNR HPA HN HBT
    go_upto_region 11 with fail
    have hxz := heap_setCell_same (k := 4) HXF.out (.int .i64 ((r : Int) - 1))
    have hbz : Below w.heap.size w (W3.setCell ⟨bx, 4, none⟩ (.int .i64 ((r : Int) - 1))) := HBF.out.setCell (p := ⟨bx, 4, none⟩) hge _
    obtain ⟨W4, hW4⟩ : ∃ W, W = W3.setCell ⟨bx, 4, none⟩ (.int .i64 ((r : Int) - 1)) := ⟨_, rfl⟩
    rw [← hW4] at hxz hbz ⊢
    clear hW4 HXF HBF y0 y1 y2 y3 y4 yz
    simp at hxz
    obtain ⟨z0, z1, z2, z3, z4, zz⟩ := cells5 hxz
    have hc1 := HC1.out _ hbz
    refine wp_region_mix (fun w' => w' = W4.drew) true 5 [(0, false), (1, false), (2, false), (3, false), (4, false), (5, true)] (by kernel_rfl) (by kernel_rfl) rfl ?_
    simp only [planned, List.map_cons, List.map_nil, List.getElem?_cons_succ, List.getElem?_cons_zero]
    iterate 5
      refine mix_readE rfl ?_
      apply Exists.intro
      refine ⟨fun w' hw => ?_, ?_⟩
      · subst hw
        go_simp
        rfl
      simp only [Act.put, List.setIfInBounds_toArray, List.set_cons_zero, List.set_cons_succ]
    refine mix_last rfl (fun K hK => ?_)
    unfold Oper.wp
    go_simp
    rw [← HREF.out]
    refine (HSET.out _ (below_drewN hbz 1)).mono ?_
    rintro x w5 ⟨rfl, hs5, hc5, hl5⟩
    refine hK _ _ (np_normal ?_)
    have HS5 := Lib.hid hs5
    have HC5 := Lib.hid hc5
    have HL5 := Lib.hid hl5
    clear hs5 hc5 hl5 hxz hbz z0 z1 z2 z3 z4 zz hc1
    go_wp2_with fail
    refine (HMORE.out _ HS5.out HL5.out HC5.out).mono ?_
    rintro x w6 ⟨rfl, hp⟩
    have HP := Lib.hid hp
    clear hp
    go_wp2_with fail
    go_ret
    exact HP.out

end Go.Proofs.YtchliiaknmknhaaGreat

-- Store10
namespace Go.Proofs.YtchliiaknmknhaaGreat
open Go.RowKit

/-! Take, in one contract. -/
structure TakeRel (p p' : PoolD) (id : Nat) (n : RN) : Prop where
  get : ∀ i, p'.get i = if i = id then some { n with id := id } else p.get i
  none : p.tk id = false
  pos : 0 < id
  lt : id < p'.at_.length
  le : p.at_.length ≤ p'.at_.length
  many : p'.many = p.many + 1
  room : p'.room = p.room
theorem poolTake_any (o : Own) (pb : Nat) (p : PoolD) (n : RN) (w : World) (h : PoolAt o w pb p) (hlt : OwnLt o w) :
    Calls Tryz.prog 154 #[.pointer (some ⟨pb, 0, none⟩), rnAgg n] w fun x w' => (p.many = p.room ∧ x = .returned (.tuple #[.int .i64 0, .int .i64 7]) ∧ Below w.heap.size w w') ∨
      (∃ id p' o', x = .returned (.tuple #[.int .i64 (id : Nat), .int .i64 0]) ∧ PoolAt o' w' pb p' ∧ TakeRel p p' id n ∧ Chg RPool o o' w w' ∧ OwnLt o' w') := by
  rcases List.eq_nil_or_concat p.free with hf | ⟨fs, id, hf⟩
  · by_cases hr : p.at_.length ≤ p.room
    · refine (poolTake_fresh o pb p n w h hlt hf hr).mono ?_
      rintro e w' ⟨rfl, o', h1, h2, h3⟩
      refine .inr ⟨_, _, o', rfl, h1, ⟨fun i => PoolD.fresh_get h.len i, ?_, h.pos, by simp [PoolD.fresh], by simp [PoolD.fresh], rfl, rfl⟩, h2, h3⟩
      simp [PoolD.tk, List.getD, List.getElem?_eq_none (Nat.le_of_eq h.len)]
    · refine (poolTake_full o pb p n w h hf (by omega)).mono ?_
      rintro e w' ⟨rfl, hb⟩
      refine .inl ⟨?_, rfl, hb⟩
      have h1 := h.many
      have h2 := h.top
      rw [hf] at h1
      simp at h1
      omega
  · rw [List.concat_eq_append] at hf
    have hm := h.free id (by rw [hf]; simp)
    refine (poolTake_reuse o pb p n fs id w h hlt hf).mono ?_
    rintro e w' ⟨rfl, h1, h2, h3⟩
    exact .inr ⟨id, _, o, rfl, h1, ⟨fun i => PoolD.reuse_get hm.2.1 (by rw [h.len]; exact hm.2.1) i, hm.2.2, hm.1, by simp [PoolD.reuse]; exact hm.2.1, by simp [PoolD.reuse], rfl, rfl⟩, h2, h3⟩

structure AddRel (d d' : StoreD) (id v lo hi : Nat) : Prop where
  vars : d'.vars = d.vars
  level : d'.level = d.level
  tab : d'.tab = fun u => if u = v then putF (d.tab v) (lo, hi) (some id) else d.tab u
  nodes : nodesOf d' = addN (nodesOf d) id ⟨v, lo, hi⟩
  none : nodesOf d id = none
  pos : 0 < id
  many : d'.pool.many = d.pool.many + 1
  room : d'.pool.room = d.pool.room
  ext : extOf d' = fun i => if i = id then 0 else extOf d i
  live : LiveC d' (extOf d')
  clen : d'.counts.length ≤ 1048578
def AddPost (o : Own) (w : World) (sb : Nat) (d : StoreD) (v lo hi : Nat) (e : Ending) (w' : World) : Prop :=
  (d.pool.many = d.pool.room ∧ e = .returned (.tuple #[.int .i64 0, .int .i64 7]) ∧ Below w.heap.size w w') ∨
  (∃ id d' o', e = .returned (.tuple #[.int .i64 (id : Nat), .int .i64 0]) ∧ StoreAt o' w' sb d' ∧ OwnLt o' w' ∧ AddRel d d' id v lo hi ∧ Chg RStore o o' w w')
theorem deadN_add {k k' : Nat} {N : Nat → Option BN} {c : Nat → Nat} {id : Nat} {b : BN} (hlt : ∀ i b, N i = some b → i < k) (hk : k ≤ k') (hf : N id = none) (hid : id < k') : deadN k' (addN N id b) (setC c id 0) = deadN k N c + 1 := by
  unfold deadN
  rw [sumTo_upd (f := dead1 N c) (j := id) (fun i hi => ?_) k' hid]
  · rw [sumTo_ext (k := k) (fun i hi => ?_) hk]
    · simp [dead1, hf, addN_same, setC]
    · unfold dead1
      cases e : N i with
      | none => rfl
      | some b' => exact absurd (hlt i b' e) (by omega)
  · unfold dead1; rw [addN_other _ hi]; simp only [setC, if_neg hi]
section
variable {o o' : Own} {w w' : World} {sb : Nat} {d : StoreD} {s : StoreW}
/-- A longer row of counts, stored in the field. -/
theorem StoreIn.setVc (h : StoreIn o w sb d s) (hlt : OwnLt o w) {v : Value} {cs : List Nat} (hr : RowR o' w' .counts 3 1 v cs.length (cs.map nat64)) (hc : Chg (· = .counts) o o' w w') : StoreIn o' (w'.setCell ⟨sb, 3, none⟩ v) sb (d.cd cs d.dead) { s with vc := v } := by
  have hob := hc.ext _ _ h.own
  have ne : ∀ {b r}, o' b = some r → r ≠ .store → b ≠ sb := fun hb hr e => by subst e; rw [hob] at hb; cases hb; exact hr rfl
  have k1 : ∀ {b r}, o' b = some r → r ≠ .store → (w'.setCell ⟨sb, 3, none⟩ v).heap[b]? = w'.heap[b]? := fun hb hr => heap_setCell_ne (ne hb hr) _
  refine ⟨hob, hc.ext _ _ h.ownl, heap_setCell_same (k := 3) ((hc.same hlt h.own (by simp)).trans h.blk) _, (k1 (hc.ext _ _ h.ownl) (by simp)).trans ((hc.same hlt h.ownl (by simp)).trans h.lev),
    (h.vars.chg hc hlt (by simp)).keep (fun g hg => k1 hg (by simp)) (fun _ h => h), (h.level.chg hc hlt (by simp)).keep (fun g hg => k1 hg (by simp)) (fun _ h => h),
    (h.pool.chg hc hlt (by simp) (by simp) (by simp) (by simp)).keep (fun g r hg hr => k1 hg (by rcases hr with rfl | rfl | rfl | rfl <;> simp)) (fun _ _ h => h),
    (h.tabs.chg hc hlt (by simp)).keep (fun g hg => k1 hg (by simp)) (fun _ h => h),
    fun u hu => ((h.tab u hu).chg hc hlt (by simp) (by simp)).keep (fun g r hg hr => k1 hg (by rcases hr with rfl | rfl <;> simp)) (fun _ _ h => h),
    hr.keep (fun g hg => k1 hg (by simp)) (fun _ h => h), h.len, h.tlen⟩
end
/-- The table of a variable. -/
theorem StoreIn.tabAt {o : Own} {w : World} {sb : Nat} {d : StoreD} {s : StoreW} (h : StoreIn o w sb d s) {v : Nat} (hv : v < d.vars.length) : ∃ gt cap, s.vt = .slice (some ⟨gt, 0, none⟩) s.ts.length cap ∧ w.cell? ⟨gt, v, none⟩ = some (.pointer (some ⟨s.ts.getD v 0, 0, none⟩)) ∧ v < s.ts.length ∧ s.ts.length ≤ 9223372036854775807 := by
  have hvl : v < s.ts.length := by rw [h.tlen]; exact hv
  obtain ⟨gt, cap, hvt, _, h1, h2⟩ := h.tabs.shape (by omega)
  have hr := h.tabs
  rw [hvt] at hr
  refine ⟨gt, cap, hvt, ?_, hvl, by unfold maxLen at h2; omega⟩
  rw [hr.cell v (by simpa using hvl), List.getElem?_map, List.getElem?_eq_getElem hvl]
  simp [ptrV, List.getD, hvl]
/-- Between the steps of add. -/
structure AddS (o : Own) (w : World) (sb : Nat) (d : StoreD) (ts : List Nat) (vt : Value) (o1 : Own) (wx : World) : Prop where
  st : ∃ s, StoreIn o1 wx sb d s ∧ s.ts = ts ∧ s.vt = vt
  lt : OwnLt o1 wx
  chg : Chg RStore o o1 w wx
theorem infoInt64 : (Tryz.prog.info? 3).map (fun i => (i.zero, i.size, i.bytes)) = some (some (.int .i64 0), 1, 8) := by kernel_rfl
/-- The counts with zeros behind them. -/
def padC (cs : List Nat) (j : Nat) : List Nat := cs ++ List.replicate j 0
theorem padC_succ (cs : List Nat) (j : Nat) : padC cs (j + 1) = padC cs j ++ [0] := by unfold padC; rw [List.replicate_succ', List.append_assoc]
theorem padC_len (cs : List Nat) (j : Nat) : (padC cs j).length = cs.length + j := by simp [padC]
theorem padC_get (cs : List Nat) (j i : Nat) : (padC cs j).getD i 0 = cs.getD i 0 := by
  unfold padC
  simp only [List.getD, List.getElem?_append]
  split
  · rfl
  · rename_i h
    rw [List.getElem?_eq_none (l := cs) (by omega), List.getElem?_replicate]
    split <;> rfl
/-- What add has changed in the end. -/
def StoreD.added (d : StoreD) (p' : PoolD) (cs : List Nat) (id v lo hi : Nat) : StoreD := ⟨d.vars, d.level, p', fun u => if u = v then putF (d.tab v) (lo, hi) (some id) else d.tab u, cs.set id 0, d.dead + 1⟩
theorem added_rel {d : StoreD} {p' : PoolD} {id v lo hi j : Nat} (hl : LiveC d (extOf d)) (hok : ∀ i b, nodesOf d i = some b → okE (nodesOf d) b.lo ∧ okE (nodesOf d) b.hi) (hr : TakeRel d.pool p' id ⟨0, v, lo, hi, 0⟩)
    (hid : id < (padC d.counts j).length) (hcl : (padC d.counts j).length ≤ 1048578) : AddRel d (d.added p' (padC d.counts j) id v lo hi) id v lo hi := by
  have hnone : nodesOf d id = none := by unfold nodesOf PoolD.get; rw [if_neg (by rw [hr.none]; simp)]; rfl
  have hnodes : nodesOf (d.added p' (padC d.counts j) id v lo hi) = addN (nodesOf d) id ⟨v, lo, hi⟩ := by
    funext i
    unfold nodesOf StoreD.added
    dsimp only
    rw [hr.get]
    by_cases e : i = id
    · subst e; rw [if_pos rfl, addN_same]; rfl
    · rw [if_neg e, addN_other _ e]
  have htk : ∀ i, p'.tk i = if i = id then true else d.pool.tk i := fun i => by
    have h1 := hr.get i
    unfold PoolD.get at h1
    by_cases e : i = id
    · rw [if_pos e] at h1 ⊢
      split at h1
      · assumption
      · cases h1
    · rw [if_neg e] at h1 ⊢
      by_cases h2 : p'.tk i = true <;> by_cases h3 : d.pool.tk i = true <;> simp [h2, h3] at h1 ⊢
  have hext : extOf (d.added p' (padC d.counts j) id v lo hi) = fun i => if i = id then 0 else extOf d i := by
    funext i
    unfold extOf
    have h1 := hr.get i
    show (if p'.tk i = true then ((p'.nd i).refs : Int) else 0) = _
    rw [htk]
    unfold PoolD.get at h1
    rw [htk] at h1
    by_cases e : i = id
    · rw [if_pos e] at h1
      simp only [e, if_true] at h1 ⊢
      have h2 := Option.some.inj h1
      rw [h2]; rfl
    · rw [if_neg e] at h1
      simp only [if_neg e] at h1 ⊢
      by_cases h3 : d.pool.tk i = true
      · rw [if_pos h3, if_pos h3] at h1
        rw [if_pos h3, if_pos h3, Option.some.inj h1]
      · rw [if_neg h3, if_neg h3]
  have hcnt : cntOf (d.added p' (padC d.counts j) id v lo hi) = setC (cntOf d) id 0 := by
    funext i
    unfold cntOf setC StoreD.added
    dsimp only
    by_cases e : i = id
    · subst e; rw [if_pos rfl]; simp [List.getD, hid]
    · rw [if_neg e, ← padC_get d.counts j i]
      simp only [List.getD, List.getElem?_set, if_neg (Ne.symm e)]
  have hn0 : id ≠ 0 := by have := hr.pos; omega
  refine ⟨rfl, rfl, rfl, hnodes, hnone, hr.pos, hr.many, hr.room, hext, ⟨?_, ?_, fun i b hb => ?_⟩, by simpa [StoreD.added] using hcl⟩
  · rw [hnodes, hcnt, hext]
    show Cnt p'.at_.length _ _ _
    refine Cnt.add (hl.cnt.weaken hr.le) hnone (fun i bi hb => ?_) hr.lt
    have h1 := hok i bi hb
    constructor
    · rcases h1.1 with h2 | ⟨c, h2⟩
      · omega
      · intro e; rw [e, hnone] at h2; cases h2
    · rcases h1.2 with h2 | ⟨c, h2⟩
      · omega
      · intro e; rw [e, hnone] at h2; cases h2
  · rw [hnodes, hcnt]
    show ((d.dead + 1 : Nat) : Int) = deadN p'.at_.length _ _
    rw [deadN_add hl.cnt.lt hr.le hnone hr.lt, ← hl.dead]; omega
  · rw [hnodes] at hb
    show i < ((padC d.counts j).set id 0).length
    rw [List.length_set]
    by_cases e : i = id
    · subst e; exact hid
    · rw [addN_other _ e] at hb
      have := hl.has i b hb
      rw [padC_len]; omega
set_option maxRecDepth 100000 in
set_option maxHeartbeats 1600000 in
theorem storeAdd_any {o : Own} {w : World} {sb : Nat} {d : StoreD} {s : StoreW} (h : StoreIn o w sb d s) (hlt : OwnLt o w) (hl : LiveC d (extOf d)) (hok : ∀ i b, nodesOf d i = some b → okE (nodesOf d) b.lo ∧ okE (nodesOf d) b.hi)
    (v lo hi : Nat) (hv : v < d.vars.length) (ht : d.tab v (lo, hi) = none) (hcl : d.counts.length ≤ 1048578) :
    Calls Tryz.prog 129 #[.pointer (some ⟨sb, 0, none⟩), .int .i64 v, .int .i64 lo, .int .i64 hi] w (AddPost o w sb d v lo hi) := by
  obtain ⟨c0, c1, c2, c3, c4, f0⟩ := cells5 h.blk
  have HTAKE := Lib.hid (poolTake_any o s.pb d.pool ⟨0, v, lo, hi, 0⟩ w h.pool hlt)
  have HRN : Hid (rnAgg ⟨0, v, lo, hi, 0⟩ = .agg #[.int .i64 0, .int .i64 v, .int .i64 lo, .int .i64 hi, .int .i64 0]) := rfl
  have HH := Lib.hid h
  have HLT := Lib.hid hlt
  have HREL := Lib.hid (fun p' id j hr h1 h2 => added_rel (p' := p') (id := id) (v := v) (lo := lo) (hi := hi) (j := j) hl hok hr h1 h2)
  have HREL2 : Hid (d.dead ≤ 1048577) := by
    show _ ≤ _
    have h1 := hl.dead
    have h2 := sumTo_le (f := dead1 (nodesOf d) (cntOf d)) (B := 1) d.pool.at_.length (fun i _ => by unfold dead1; split <;> first | omega | (split <;> omega))
    have h3 : deadN d.pool.at_.length (nodesOf d) (cntOf d) = sumTo d.pool.at_.length (dead1 (nodesOf d) (cntOf d)) := rfl
    have h4 := h.pool.top
    have h5 := h.pool.room
    omega
  have HV := Lib.hid hv
  have HT := Lib.hid ht
  clear h hlt hl hok hv ht
  go_enter Tryz.func129, Tryz.ntmps129
  go_wp2_with fail
  rw [← HRN.out]
  refine HTAKE.out.mono ?_
  rintro x w1 (⟨hm, rfl, hb⟩ | ⟨id, p', o1, rfl, hp, hr, hc, hl1⟩)
  · have HM := Lib.hid hm
    have HB := Lib.hid hb
    clear hm hb
    go_wp2_with fail
    go_ret2
    exact .inl ⟨HM.out, rfl, HB.out⟩
  · have st1 := HH.out.setPool HLT.out hp hc
    have hpl := hp.tk_lt (i := id) (by have h1 := hr.get id; unfold PoolD.get at h1; rw [if_pos rfl] at h1; split at h1; (· assumption); cases h1)
    have hpt := hp.top
    have hpr := hp.room
    have HS1 : Hid (AddS o w sb { d with pool := p' } s.ts s.vt o1 w1) := ⟨⟨s, st1, rfl, rfl⟩, hl1, hc.mono (fun r hr => by simp [RStore, hr])⟩
    have HR := Lib.hid hr
    have hidl : id ≤ 1048577 := by omega
    clear hp hr hc hl1 st1 HTAKE hpl hpt hpr c0 c1 c2 c3 c4 f0
    go_wp2_with fail
    go_loopg [] (id + 1 - d.counts.length) (fun gk wx => ∃ (j : Nat) (o2 : Own), AddS o w sb { d with pool := p', counts := padC d.counts j } s.ts s.vt o2 wx ∧ j + gk = id + 1 - d.counts.length)
    case atStart => exact ⟨0, o1, by have e : padC d.counts 0 = d.counts := by { simp [padC] }; rw [e]; exact HS1.out, by omega⟩
    case round =>
      obtain ⟨j, o2, hS, hj⟩ := hrel
      obtain ⟨⟨s2, hst, hts, hvt⟩, hl2, hc2⟩ := hS
      clear HS1
      obtain ⟨c0, c1, c2, c3, c4, f0⟩ := cells5 hst.blk
      have lsb : sb < wr.heap.size := lt_of_cell c0
      have hclen : (padC d.counts j).length ≤ 1048578 := by rw [padC_len]; omega
      have HST := Lib.hid hst
      have HL2 := Lib.hid hl2
      have HC2 := Lib.hid hc2
      have HTS := Lib.hid hts
      have HVT := Lib.hid hvt
      by_cases hlt : (padC d.counts j).length ≤ id
      · obtain ⟨a, cap, hv, hcc, hcm, hnil, _⟩ := hst.counts.slice
        have hvv : s2.vc = .slice a (padC d.counts j).length cap := hv
        rw [hvv] at c3
        have HJ := Lib.hid hj
        have HCO : RowR o2 wr .counts 3 1 (.slice a (padC d.counts j).length cap) (padC d.counts j).length ((padC d.counts j).map nat64) := by have := hst.counts; rw [hvv] at this; exact this
        have hgk : 0 < gk := by rw [padC_len] at hlt; omega
        have hle : ((padC d.counts j).length : Int) ≤ id := by omega
        obtain ⟨cl, hcl'⟩ : ∃ n, n = (padC d.counts j).length := ⟨_, rfl⟩
        rw [← hcl'] at hclen hlt hle c3 HCO
        have HCO2 := Lib.hid HCO
        have HCL := Lib.hid hcl'
        clear hst hl2 hc2 hts hvt hv hvv HCO hj hcl'
        go_wp2_with (at_builtin
                     refine wpList_appOne 22 3 1 8 _ Tryz.underlying22 infoInt64 rfl (by decide) rfl _ _ rfl rfl rfl rfl (by simp) rfl (fun u hu => by simp at hu; subst hu; rfl) HCO2.out HL2.out (by omega) (by decide) ?_
                     intro g1 k1 w2 o3 hr1 hc1 hl1
                     obtain ⟨q0, q1, q2, q3, q4, fq⟩ := cells5 ((hc1.same HL2.out HST.out.own (by simp)).trans HST.out.blk)
                     have HR1 := Lib.hid hr1
                     have HC1 := Lib.hid hc1
                     have HL1 := Lib.hid hl1
                     clear hr1 hc1 hl1 c0 c1 c2 c3 c4 f0)
        have hr2 := HR1.out
        rw [show (padC d.counts j).map nat64 ++ (#[Value.int .i64 0] : Array Value).toList = (padC d.counts (j + 1)).map nat64 from by rw [padC_succ, List.map_append]; rfl] at hr2
        have e1 : cl + 1 = (padC d.counts (j + 1)).length := by rw [HCL.out, padC_len, padC_len]; omega
        have HST3 := Lib.hid (HST.out.setVc (cs := padC d.counts (j + 1)) HL2.out (by rw [← e1]; exact hr2) HC1.out)
        have HS3 : Hid (AddS o w sb { d with pool := p', counts := padC d.counts (j + 1) } s.ts s.vt o3 (w2.setCell ⟨sb, 3, none⟩ (.slice (some ⟨g1, 0, none⟩) (cl + 1) k1))) := ⟨⟨_, HST3.out, HTS.out, HVT.out⟩, HL1.out.mono (by simp [World.setCell]), (HC2.out.trans (HC1.out.mono (fun r hr => by simp [RStore, hr]))).setCell (p := ⟨sb, 3, none⟩) (HC1.out.ext _ _ HST.out.own) (.inl rfl) _⟩
        clear hr2 e1
        go_roundg (gk - 1)
        case measure => omega
        case rel => exact ⟨j + 1, o3, HS3.out, by have := HJ.out; omega⟩
      · have hidc : id < (padC d.counts j).length := by omega
        have hle : (id : Int) < (padC d.counts j).length := by omega
        obtain ⟨gc, cap, hvc, hgo, hne, hlc, hcm, hfz, hcell⟩ := hst.countsAt hidc
        have hvv : s2.vc = .slice (some ⟨gc, 0, none⟩) (padC d.counts j).length cap := hvc
        rw [hvv] at c3
        have hcx := hcell _ hidc
        have hfx := hfz id
        have hne' : sb ≠ gc := fun e => hne e.symm
        -- the world behind the two stores
        have st3 := hst.setCount hvc hne id 0
        have lt3 : OwnLt o2 (wr.setCell ⟨gc, id, none⟩ (.int .i64 ((0 : Nat) : Int))) := hl2.mono (by simp [World.setCell])
        have st4 := st3.setDead lt3 (d.dead + 1)
        have lt4 : OwnLt o2 ((wr.setCell ⟨gc, id, none⟩ (.int .i64 ((0 : Nat) : Int))).setCell ⟨sb, 4, none⟩ (.int .i64 ((d.dead + 1 : Nat) : Int))) := lt3.mono (by simp [World.setCell])
        have ch4 := (hc2.setCell (p := ⟨gc, id, none⟩) hgo (by simp [RStore]) (.int .i64 ((0 : Nat) : Int))).setCell (p := ⟨sb, 4, none⟩) hst.own (by simp [RStore]) (.int .i64 ((d.dead + 1 : Nat) : Int))
        have hdb : d.dead ≤ 1048577 := HREL2.out
        have hclen' : (padC d.counts j).length ≤ 9223372036854775807 := by omega
        obtain ⟨W4, hW4⟩ : ∃ W, W = (wr.setCell ⟨gc, id, none⟩ (.int .i64 ((0 : Nat) : Int))).setCell ⟨sb, 4, none⟩ (.int .i64 ((d.dead + 1 : Nat) : Int)) := ⟨_, rfl⟩
        rw [← hW4] at st4 lt4 ch4
        have HWE : Hid (W4 = (wr.setCell ⟨gc, id, none⟩ (.int .i64 0)).setCell ⟨sb, 4, none⟩ (.int .i64 ((d.dead : Int) + 1))) := by
          show _ = _
          rw [hW4, show ((d.dead + 1 : Nat) : Int) = (d.dead : Int) + 1 from by omega]; rfl
        have HS4 := Lib.hid st4
        have HL4 := Lib.hid lt4
        have HC4 := Lib.hid ch4
        have HID := Lib.hid hidc
        obtain ⟨cl, hcl'⟩ : ∃ n, n = (padC d.counts j).length := ⟨_, rfl⟩
        rw [← hcl'] at hle c3 hclen hclen'
        have HCLE : Hid ((padC d.counts j).length ≤ 1048578) := by show _ ≤ _; omega
        obtain ⟨dn, hdn⟩ : ∃ n, n = d.dead := ⟨_, rfl⟩
        have c4' : wr.cell? ⟨sb, 4, none⟩ = some (.int .i64 (dn : Nat)) := by rw [hdn]; exact c4
        rw [← hdn] at hdb HWE
        clear hst hl2 hc2 hts hvt hvc hgo hne hlc hcm hfz hcell hvv st3 lt3 st4 lt4 ch4 hW4 hlt hidc c4 hcl' hdn HST HL2 HC2 hj
        have hle2 : ¬ ((cl : Int) ≤ id) := by omega
        go_upto_region 8 with fail
        rw [← HWE.out]
        clear HWE c0 c1 c2 c3 c4' f0 hcx hfx hne' hle hle2 hdb hclen hclen'
        obtain ⟨c0, c1, c2, c3, c4, f0⟩ := cells5 HS4.out.blk
        obtain ⟨gt, ct, hvt, cellv, hvl⟩ := HS4.out.tabAt (v := v) HV.out
        rw [hvt] at c2
        have hti := HS4.out.tab v (by rw [HS4.out.tlen]; exact HV.out)
        have HPUT := Lib.hid (put_any o2 v (s2.ts.getD v 0) (d.tab v) lo hi id W4 hti HL4.out HT.out)
        have hvl' : (v : Int) < s2.ts.length := by omega
        obtain ⟨tv, htv⟩ : ∃ t, t = s2.ts.getD v 0 := ⟨_, rfl⟩
        rw [← htv] at cellv HPUT
        have HTV := Lib.hid htv
        have htl : s2.ts.length ≤ 9223372036854775807 := hvl.2
        clear hti htv hvt hvl
        go_wp2_with fail
        refine HPUT.out.mono ?_
        rintro x w5 ⟨rfl, ht5, hc5, hl5⟩
        rw [HTV.out] at ht5
        have HS5 := Lib.hid (HS4.out.setTab HL4.out ht5 hc5)
        have HL5 := Lib.hid hl5
        have HC5 := Lib.hid (HC4.out.trans (hc5.mono (fun r hr => by simp [RStore, hr])))
        clear ht5 hc5 hl5 c0 c1 c2 c3 c4 f0 cellv
        go_wp2_with fail
        go_ret2
        exact .inr ⟨id, d.added p' (padC d.counts j) id v lo hi, o2, rfl, ⟨s2, HS5.out⟩, HL5.out, HREL.out p' id j HR.out HID.out HCLE.out, HC5.out⟩
end Go.Proofs.YtchliiaknmknhaaGreat

-- Store11
namespace Go.Proofs.YtchliiaknmknhaaGreat
open Go.RowKit

def levN (d : StoreD) (v : Nat) : Nat := d.level.getD v 0
structure StoreOK (d : StoreD) (V : Nat → BF) : Prop where
  dag : Dag d.vars.length (levN d) (nodesOf d) V
  live : LiveC d (extOf d)
  tab : ∀ v, v < d.vars.length → ∀ lo hi id, d.tab v (lo, hi) = some id ↔ nodesOf d id = some ⟨v, lo, hi⟩
  clen : d.counts.length ≤ 1048578
  small : d.vars.length ≤ 64
  inv : ∀ v, v < d.vars.length → d.vars.getD (levN d v) 0 = v
  vlt : ∀ i, i < d.vars.length → d.vars.getD i 0 < d.vars.length ∧ levN d (d.vars.getD i 0) = i
/-- More nodes; all that was there is there. -/
structure Ext (d : StoreD) (V : Nat → BF) (d' : StoreD) (V' : Nat → BF) : Prop where
  vars : d'.vars = d.vars
  level : d'.level = d.level
  room : d'.pool.room = d.pool.room
  nodes : ∀ i b, nodesOf d i = some b → nodesOf d' i = some b
  val : ∀ i, (i = 0 ∨ ∃ b, nodesOf d i = some b) → V' i = V i
  ext : ∀ i b, nodesOf d i = some b → extOf d' i = extOf d i
  ext0 : ∀ i, nodesOf d i = none → extOf d' i = 0
  many : d.pool.many ≤ d'.pool.many
theorem extOf_none {d : StoreD} {i : Nat} (h : nodesOf d i = none) : extOf d i = 0 := by unfold extOf; rw [nodesOf_none h]; simp
theorem Ext.refl (d : StoreD) (V : Nat → BF) : Ext d V d V := ⟨rfl, rfl, rfl, fun _ _ h => h, fun _ _ => rfl, fun _ _ _ => rfl, fun _ h => extOf_none h, Nat.le_refl _⟩
theorem Ext.trans {d d' d'' : StoreD} {V V' V'' : Nat → BF} (h : Ext d V d' V') (h' : Ext d' V' d'' V'') : Ext d V d'' V'' := by
  refine ⟨h'.vars.trans h.vars, h'.level.trans h.level, h'.room.trans h.room, fun i b hb => h'.nodes i b (h.nodes i b hb), fun i hi => ?_, fun i b hb => ?_, fun i hi => ?_, Nat.le_trans h.many h'.many⟩
  · rw [h'.val i (hi.imp id fun ⟨b, hb⟩ => ⟨b, h.nodes i b hb⟩)]; exact h.val i hi
  · rw [h'.ext i b (h.nodes i b hb)]; exact h.ext i b hb
  · cases e : nodesOf d' i with
    | none => exact h'.ext0 i e
    | some b => rw [h'.ext i b e]; exact h.ext0 i hi
section
variable {d d' : StoreD} {V V' : Nat → BF}
theorem Ext.ok (h : Ext d V d' V') {e : Nat} (he : okE (nodesOf d) e) : okE (nodesOf d') e := he.imp id fun ⟨b, hb⟩ => ⟨b, h.nodes _ b hb⟩
theorem Ext.ef (h : Ext d V d' V') {e : Nat} (he : okE (nodesOf d) e) : ef V' e = ef V e := by
  funext ρ
  unfold Go.Proofs.YtchliiaknmknhaaGreat.ef
  rw [h.val (e / 2) he]
theorem Ext.lev (h : Ext d V d' V') : levN d' = levN d := by funext v; unfold levN; rw [h.level]
theorem Ext.lvE (h : Ext d V d' V') {n : Nat} {e : Nat} (he : okE (nodesOf d) e) (h0 : nodesOf d 0 = none) (h0' : nodesOf d' 0 = none) : lvE n (levN d') (nodesOf d') e = lvE n (levN d) (nodesOf d) e := by
  unfold Go.Proofs.YtchliiaknmknhaaGreat.lvE
  rw [h.lev]
  rcases he with he | ⟨b, hb⟩
  · rw [he, h0, h0']
  · rw [hb, h.nodes _ b hb]

theorem addRel_ok {id v lo hi : Nat} (h : StoreOK d V) (r : AddRel d d' id v lo hi) (hv : v < d.vars.length) (hlo : okE (nodesOf d) lo) (hhi : okE (nodesOf d) hi)
    (llo : levN d v < lvE d.vars.length (levN d) (nodesOf d) lo) (lhi : levN d v < lvE d.vars.length (levN d) (nodesOf d) hi) (hr : hi % 2 = 0) (hne : lo ≠ hi) (ht : d.tab v (lo, hi) = none) :
    StoreOK d' (addV V id ⟨v, lo, hi⟩) ∧ Ext d V d' (addV V id ⟨v, lo, hi⟩) := by
  have hnew : ∀ i, nodesOf d i ≠ some ⟨v, lo, hi⟩ := fun i e => by rw [(h.tab v hv lo hi i).2 e] at ht; cases ht
  have hl : levN d' = levN d := by funext u; unfold levN; rw [r.level]
  have hid : id ≠ 0 := by have := r.pos; omega
  refine ⟨⟨?_, r.live, fun u hu lo' hi' i => ?_, r.clen, by rw [r.vars]; exact h.small, ?_, ?_⟩, ⟨r.vars, r.level, r.room, fun i b hb => ?_, fun i hi' => ?_, fun i b hb => ?_, fun i hi' => ?_, by rw [r.many]; omega⟩⟩
  · rw [r.vars, hl, r.nodes]
    exact h.dag.add r.none hid hv hlo hhi llo lhi hr hne hnew
  · rw [r.vars] at hu
    rw [r.tab, r.nodes]
    dsimp only
    by_cases e : u = v
    · subst e
      rw [if_pos rfl]
      unfold putF
      by_cases e2 : (lo', hi') = (lo, hi)
      · cases e2
        rw [if_pos rfl]
        constructor
        · intro e3; cases e3; rw [addN_same]
        · intro e3
          by_cases e4 : i = id
          · rw [e4]
          · rw [addN_other _ e4] at e3; exact absurd e3 (hnew i)
      · rw [if_neg e2, h.tab u hu]
        by_cases e4 : i = id
        · subst e4
          rw [addN_same, r.none]
          constructor
          · intro e5; cases e5
          · intro e5; cases e5; exact absurd rfl e2
        · rw [addN_other _ e4]
    · rw [if_neg e, h.tab u hu]
      by_cases e4 : i = id
      · subst e4
        rw [addN_same, r.none]
        constructor
        · intro e5; cases e5
        · intro e5; cases e5; exact absurd rfl e
      · rw [addN_other _ e4]
  · rw [r.vars, hl]; exact h.inv
  · rw [r.vars, hl]; exact h.vlt
  · rw [r.nodes]; exact addN_old r.none hb
  · unfold addV
    rw [if_neg]
    rintro rfl
    rcases hi' with hi' | ⟨b, hb⟩
    · exact hid hi'
    · rw [r.none] at hb; cases hb
  · rw [r.ext]
    dsimp only
    rw [if_neg]
    rintro rfl
    rw [r.none] at hb; cases hb
  · rw [r.ext]
    dsimp only
    split
    · rfl
    · exact extOf_none hi'
/-- A node's edge, turned: the function of if v then hi else lo. -/
theorem node_ef (h : StoreOK d V) {id v lo hi : Nat} (hb : nodesOf d id = some ⟨v, eflip lo (eneg hi), eflip hi (eneg hi)⟩) : ef V (eflip (2 * id) (eneg hi)) = iteF v (ef V hi) (ef V lo) := by
  funext ρ
  have h1 := h.dag.eqn id _ hb
  have h2 : ef V (2 * id) = V id := by
    funext ρ
    have e1 : 2 * id / 2 = id := by omega
    have e2 : 2 * id % 2 = 0 := by omega
    simp [ef, e1, e2]
  rw [ef_eflip, h2, h1]
  simp only [iteF]
  rw [ef_eflip, ef_eflip]
  cases ρ v <;> cases eneg hi <;> simp
theorem eflip_even (hi : Nat) : eflip hi (eneg hi) % 2 = 0 := by
  unfold eflip eneg
  rcases Nat.mod_two_eq_zero_or_one hi with h | h
  · simp [h]
  · simp [h, enot_mod]
theorem eflip_ne {lo hi : Nat} {b : Bool} (h : lo ≠ hi) : eflip lo b ≠ eflip hi b := by
  unfold eflip
  cases b
  · simpa using h
  · simp only [if_true]
    intro e
    have := congrArg enot e
    rw [enot_enot, enot_enot] at this
    exact h this
theorem lvE_eflip {n : Nat} {lev : Nat → Nat} {N : Nat → Option BN} {e : Nat} {b : Bool} : lvE n lev N (eflip e b) = lvE n lev N e := by unfold lvE; rw [eflip_half]
end
/-- The level of any number. -/
def levelZ (d : StoreD) (v : Int) : Int := if 0 ≤ v ∧ v < d.level.length then (levN d v.toNat : Nat) else -1
theorem levelZ_nat (d : StoreD) (v : Nat) : levelZ d v = d.levelOf v := by
  unfold levelZ StoreD.levelOf levN
  by_cases h : v < d.level.length
  · rw [if_pos ⟨by omega, by omega⟩, if_pos h]; rfl
  · rw [if_neg (by omega), if_neg h]
set_option maxRecDepth 100000 in
theorem levelsLevel_neg {o : Own} {w : World} {sb : Nat} {d : StoreD} {s : StoreW} (h : StoreIn o w sb d s) (v : Int) (hv : v < 0) :
    Calls Tryz.prog 116 #[.pointer (some ⟨s.lb, 0, none⟩), .int .i64 v] w fun x w' => x = .returned (.int .i64 (-1)) ∧ w = w' := by
  clear h
  go_enter Tryz.func116, Tryz.ntmps116
  go_wp2_with fail
  go_ret
  exact ⟨rfl, rfl⟩
set_option maxRecDepth 100000 in
theorem storeLevel_neg {o : Own} {w : World} {sb : Nat} {d : StoreD} {s : StoreW} (h : StoreIn o w sb d s) (v : Int) (hv : v < 0) :
    Calls Tryz.prog 77 #[.pointer (some ⟨sb, 0, none⟩), .int .i64 v] w fun x w' => x = .returned (.int .i64 (-1)) ∧ w = w' := by
  obtain ⟨c0, c1, c2, c3, c4, f0⟩ := cells5 h.blk
  have HC := Lib.hid (levelsLevel_neg h v hv)
  clear h hv
  go_enter Tryz.func77, Tryz.ntmps77
  go_wp2_with fail
  refine HC.out.mono ?_
  rintro x w' ⟨rfl, rfl⟩
  go_wp2_with fail
  go_ret
  exact ⟨rfl, rfl⟩
theorem storeLevelZ {o : Own} {w : World} {sb : Nat} {d : StoreD} {s : StoreW} (h : StoreIn o w sb d s) (v : Int) (hbig : d.level.length < 1000000) :
    Calls Tryz.prog 77 #[.pointer (some ⟨sb, 0, none⟩), .int .i64 v] w fun x w' => x = .returned (.int .i64 (levelZ d v)) ∧ w = w' := by
  by_cases h0 : v < 0
  · have e : levelZ d v = -1 := by unfold levelZ; rw [if_neg (by omega)]
    rw [e]; exact storeLevel_neg h v h0
  · obtain ⟨n, rfl⟩ := Int.eq_ofNat_of_zero_le (by omega : 0 ≤ v)
    have e := levelZ_nat d n
    rw [e]; exact storeLevel_any h n hbig
end Go.Proofs.YtchliiaknmknhaaGreat

-- Store12
namespace Go.Proofs.YtchliiaknmknhaaGreat
open Go.RowKit

/-- What Mk may leave behind. -/
def MkPost (o : Own) (w : World) (sb : Nat) (d : StoreD) (V : Nat → BF) (v : Int) (lo hi : Nat) (e : Ending) (w' : World) : Prop :=
  (¬ (0 ≤ v ∧ v < d.vars.length) ∧ e = .returned (.tuple #[.int .i64 0, .int .i64 9]) ∧ Below w.heap.size w w') ∨
  (0 ≤ v ∧ v < d.vars.length ∧ (lvE d.vars.length (levN d) (nodesOf d) lo ≤ levN d v.toNat ∨ lvE d.vars.length (levN d) (nodesOf d) hi ≤ levN d v.toNat) ∧ e = .returned (.tuple #[.int .i64 0, .int .i64 10]) ∧ Below w.heap.size w w') ∨
  (d.pool.many = d.pool.room ∧ e = .returned (.tuple #[.int .i64 0, .int .i64 7]) ∧ Below w.heap.size w w') ∨
  (0 ≤ v ∧ v < d.vars.length ∧ ∃ r d' V' o', e = .returned (.tuple #[.int .i64 (r : Nat), .int .i64 0]) ∧ StoreAt o' w' sb d' ∧ OwnLt o' w' ∧ StoreOK d' V' ∧ Ext d V d' V' ∧ okE (nodesOf d') r ∧
    ef V' r = iteF v.toNat (ef V hi) (ef V lo) ∧ levN d v.toNat ≤ lvE d.vars.length (levN d') (nodesOf d') r ∧ d'.pool.many ≤ d.pool.many + 1 ∧ Chg RStore o o' w w')
theorem under_eq {o : Own} {w : World} {sb : Nat} {d : StoreD} {s : StoreW} {V : Nat → BF} (h : StoreIn o w sb d s) (hk : StoreOK d V) {f : Nat} (hf : okE (nodesOf d) f) {lv : Nat} (hl : lv < d.vars.length) :
    (decide (enode f = 0) || (d.pool.tk (enode f) && decide ((lv : Int) < d.levelOf (d.pool.has (enode f)).v))) = decide (lv < lvE d.vars.length (levN d) (nodesOf d) f) := by
  unfold lvE
  rcases hf with h0 | ⟨b, hb⟩
  · have e : enode f = 0 := h0
    rw [h0, hk.dag.none0, e]; simp [hl]
  · have hn := nodesOf_some (i := enode f) hb
    have e0 : enode f ≠ 0 := by have := (h.tk_lt (i := enode f) hb).1; omega
    rw [hb, hn.1]
    have hv : (d.pool.has (enode f)).v = b.v := by rw [← hn.2.2]; rfl
    have hbv := hk.dag.var _ _ hb
    rw [hv]
    unfold StoreD.levelOf
    rw [if_pos (by rw [h.len]; exact hbv)]
    simp [e0, levN]
theorem is_eq {d : StoreD} {f : Nat} (hf : okE (nodesOf d) f) : (decide (enode f = 0) || d.pool.tk (enode f)) = true := by
  rcases hf with h0 | ⟨b, hb⟩
  · have e : enode f = 0 := h0
    simp [e]
  · rw [(nodesOf_some (i := enode f) hb).1]; simp
set_option maxRecDepth 100000 in
theorem mk_var {o : Own} {w : World} {sb : Nat} {d : StoreD} {s : StoreW} {V : Nat → BF} (h : StoreIn o w sb d s) (hk : StoreOK d V) (v : Int) (lo hi : Nat) (hv : ¬ (0 ≤ v ∧ v < d.vars.length)) :
    Calls Tryz.prog 89 #[.pointer (some ⟨sb, 0, none⟩), .int .i64 v, .int .i64 lo, .int .i64 hi] w (MkPost o w sb d V v lo hi) := by
  have HLV := Lib.hid (storeLevelZ h v (by rw [h.len]; have := hk.small; omega))
  have e : levelZ d v = -1 := by unfold levelZ; rw [if_neg (by rw [h.len]; exact hv)]
  rw [e] at HLV
  have HV := Lib.hid hv
  clear h hk e hv
  go_enter Tryz.func89, Tryz.ntmps89
  go_wp2_with fail
  refine HLV.out.mono ?_
  rintro x w' ⟨rfl, rfl⟩
  go_wp2_with fail
  go_ret2
  exact .inl ⟨HV.out, rfl, Below.refl _ _⟩
set_option maxRecDepth 100000 in
set_option maxHeartbeats 1600000 in
theorem mk_lo {o : Own} {w : World} {sb : Nat} {d : StoreD} {s : StoreW} {V : Nat → BF} (h : StoreIn o w sb d s) (hlt : OwnLt o w) (hk : StoreOK d V) (v lo hi : Nat) (hv : v < d.vars.length) (hlo : okE (nodesOf d) lo) (hhi : okE (nodesOf d) hi) (hbad : lvE d.vars.length (levN d) (nodesOf d) lo ≤ levN d v) :
    Calls Tryz.prog 89 #[.pointer (some ⟨sb, 0, none⟩), .int .i64 v, .int .i64 lo, .int .i64 hi] w (MkPost o w sb d V v lo hi) := by
  have hll : levN d v < d.vars.length := hk.dag.lt v hv
  have hlol := h.edge_lt hlo
  have hhil := h.edge_lt hhi
  have hlom : lo < eMax := by unfold eMax; omega
  have hhim : hi < eMax := by unfold eMax; omega
  have hlen : d.level.length < 1000000 := by rw [h.len]; have := hk.small; omega
  have HLV : Hid (∀ W : World, Below w.heap.size w W → Calls Tryz.prog 77 #[.pointer (some ⟨sb, 0, none⟩), .int .i64 v] W fun x w' => x = .returned (.int .i64 (levN d v : Nat)) ∧ W = w') := fun W hb => by
    have h1 := storeLevel_any (h.below hlt hb) v hlen
    unfold StoreD.levelOf at h1
    rw [if_pos (by rw [h.len]; exact hv)] at h1
    exact h1
  have HISL : Hid (∀ W : World, Below w.heap.size w W → Calls Tryz.prog 87 #[.pointer (some ⟨sb, 0, none⟩), .int .i64 lo] W fun x w' => x = .returned (.bool true) ∧ Below W.heap.size W w') := fun W hb => by
    have h1 := storeIs_any (h.below hlt hb) (hlt.mono hb.size) lo hlom
    rw [is_eq hlo] at h1; exact h1
  have HISH : Hid (∀ W : World, Below w.heap.size w W → Calls Tryz.prog 87 #[.pointer (some ⟨sb, 0, none⟩), .int .i64 hi] W fun x w' => x = .returned (.bool true) ∧ Below W.heap.size W w') := fun W hb => by
    have h1 := storeIs_any (h.below hlt hb) (hlt.mono hb.size) hi hhim
    rw [is_eq hhi] at h1; exact h1
  have HUL : Hid (∀ W : World, Below w.heap.size w W → Calls Tryz.prog 126 #[.pointer (some ⟨sb, 0, none⟩), .int .i64 lo, .int .i64 (levN d v : Nat)] W fun x w' => x = .returned (.bool (decide (levN d v < lvE d.vars.length (levN d) (nodesOf d) lo))) ∧ Below W.heap.size W w') := fun W hb => by
    have h1 := storeUnder_any (h.below hlt hb) (hlt.mono hb.size) lo hlom (levN d v : Nat) hlen
    rw [under_eq h hk hlo hll] at h1; exact h1
  have HUH : Hid (∀ W : World, Below w.heap.size w W → Calls Tryz.prog 126 #[.pointer (some ⟨sb, 0, none⟩), .int .i64 hi, .int .i64 (levN d v : Nat)] W fun x w' => x = .returned (.bool (decide (levN d v < lvE d.vars.length (levN d) (nodesOf d) hi))) ∧ Below W.heap.size W w') := fun W hb => by
    have h1 := storeUnder_any (h.below hlt hb) (hlt.mono hb.size) hi hhim (levN d v : Nat) hlen
    rw [under_eq h hk hhi hll] at h1; exact h1
  have HPOST : Hid (∀ W, Below w.heap.size w W → MkPost o w sb d V v lo hi (.returned (.tuple #[.int .i64 0, .int .i64 10])) W) := fun W hb => .inr (.inl ⟨by omega, by omega, .inl hbad, rfl, hb⟩)
  rw [decide_eq_false (by omega)] at HUL
  obtain ⟨l, hl⟩ : ∃ l, l = levN d v := ⟨_, rfl⟩
  rw [← hl] at HLV HUL HUH
  have hl0 : ¬ ((l : Nat) : Int) < 0 := by omega
  clear h hlt hk hv hlo hhi hbad hll hlol hhil hlom hhim hlen hl
  go_enter Tryz.func89, Tryz.ntmps89
  go_wp2_with fail
  refine (HLV.out _ (Below.refl _ _)).mono ?_
  rintro x w' ⟨rfl, rfl⟩
  go_wp2_with fail
  refine (HISL.out _ (Below.refl _ _)).mono ?_
  rintro x w1 ⟨rfl, hb1⟩
  have HB1 := Lib.hid hb1
  clear hb1
  go_wp2_with fail
  refine (HISH.out _ HB1.out).mono ?_
  rintro x w2 ⟨rfl, hb2⟩
  have HB2 := Lib.hid (HB1.out.trans (hb2.mono HB1.out.size))
  clear hb2
  go_wp2_with fail
  refine (HLV.out _ HB2.out).mono ?_
  rintro x w' ⟨rfl, rfl⟩
  go_wp2_with fail
  refine (HUL.out _ HB2.out).mono ?_
  rintro x w3 ⟨rfl, hb3⟩
  have HB3 := Lib.hid (HB2.out.trans (hb3.mono HB2.out.size))
  clear hb3
  go_wp2_with fail
  go_ret2
  exact HPOST.out _ HB3.out
set_option maxRecDepth 100000 in
set_option maxHeartbeats 1600000 in
theorem mk_hi {o : Own} {w : World} {sb : Nat} {d : StoreD} {s : StoreW} {V : Nat → BF} (h : StoreIn o w sb d s) (hlt : OwnLt o w) (hk : StoreOK d V) (v lo hi : Nat) (hv : v < d.vars.length) (hlo : okE (nodesOf d) lo) (hhi : okE (nodesOf d) hi) (hbad : lvE d.vars.length (levN d) (nodesOf d) hi ≤ levN d v) (hgood : levN d v < lvE d.vars.length (levN d) (nodesOf d) lo) :
    Calls Tryz.prog 89 #[.pointer (some ⟨sb, 0, none⟩), .int .i64 v, .int .i64 lo, .int .i64 hi] w (MkPost o w sb d V v lo hi) := by
  have hll : levN d v < d.vars.length := hk.dag.lt v hv
  have hlol := h.edge_lt hlo
  have hhil := h.edge_lt hhi
  have hlom : lo < eMax := by unfold eMax; omega
  have hhim : hi < eMax := by unfold eMax; omega
  have hlen : d.level.length < 1000000 := by rw [h.len]; have := hk.small; omega
  have HLV : Hid (∀ W : World, Below w.heap.size w W → Calls Tryz.prog 77 #[.pointer (some ⟨sb, 0, none⟩), .int .i64 v] W fun x w' => x = .returned (.int .i64 (levN d v : Nat)) ∧ W = w') := fun W hb => by
    have h1 := storeLevel_any (h.below hlt hb) v hlen
    unfold StoreD.levelOf at h1
    rw [if_pos (by rw [h.len]; exact hv)] at h1
    exact h1
  have HISL : Hid (∀ W : World, Below w.heap.size w W → Calls Tryz.prog 87 #[.pointer (some ⟨sb, 0, none⟩), .int .i64 lo] W fun x w' => x = .returned (.bool true) ∧ Below W.heap.size W w') := fun W hb => by
    have h1 := storeIs_any (h.below hlt hb) (hlt.mono hb.size) lo hlom
    rw [is_eq hlo] at h1; exact h1
  have HISH : Hid (∀ W : World, Below w.heap.size w W → Calls Tryz.prog 87 #[.pointer (some ⟨sb, 0, none⟩), .int .i64 hi] W fun x w' => x = .returned (.bool true) ∧ Below W.heap.size W w') := fun W hb => by
    have h1 := storeIs_any (h.below hlt hb) (hlt.mono hb.size) hi hhim
    rw [is_eq hhi] at h1; exact h1
  have HUL : Hid (∀ W : World, Below w.heap.size w W → Calls Tryz.prog 126 #[.pointer (some ⟨sb, 0, none⟩), .int .i64 lo, .int .i64 (levN d v : Nat)] W fun x w' => x = .returned (.bool (decide (levN d v < lvE d.vars.length (levN d) (nodesOf d) lo))) ∧ Below W.heap.size W w') := fun W hb => by
    have h1 := storeUnder_any (h.below hlt hb) (hlt.mono hb.size) lo hlom (levN d v : Nat) hlen
    rw [under_eq h hk hlo hll] at h1; exact h1
  have HUH : Hid (∀ W : World, Below w.heap.size w W → Calls Tryz.prog 126 #[.pointer (some ⟨sb, 0, none⟩), .int .i64 hi, .int .i64 (levN d v : Nat)] W fun x w' => x = .returned (.bool (decide (levN d v < lvE d.vars.length (levN d) (nodesOf d) hi))) ∧ Below W.heap.size W w') := fun W hb => by
    have h1 := storeUnder_any (h.below hlt hb) (hlt.mono hb.size) hi hhim (levN d v : Nat) hlen
    rw [under_eq h hk hhi hll] at h1; exact h1
  have HPOST : Hid (∀ W, Below w.heap.size w W → MkPost o w sb d V v lo hi (.returned (.tuple #[.int .i64 0, .int .i64 10])) W) := fun W hb => .inr (.inl ⟨by omega, by omega, .inr hbad, rfl, hb⟩)
  rw [decide_eq_true hgood] at HUL
  rw [decide_eq_false (by omega)] at HUH
  obtain ⟨l, hl⟩ : ∃ l, l = levN d v := ⟨_, rfl⟩
  rw [← hl] at HLV HUL HUH
  have hl0 : ¬ ((l : Nat) : Int) < 0 := by omega
  clear h hlt hk hv hlo hhi hbad hll hlol hhil hlom hhim hlen hl hgood
  go_enter Tryz.func89, Tryz.ntmps89
  go_wp2_with fail
  refine (HLV.out _ (Below.refl _ _)).mono ?_
  rintro x w' ⟨rfl, rfl⟩
  go_wp2_with fail
  refine (HISL.out _ (Below.refl _ _)).mono ?_
  rintro x w1 ⟨rfl, hb1⟩
  have HB1 := Lib.hid hb1
  clear hb1
  go_wp2_with fail
  refine (HISH.out _ HB1.out).mono ?_
  rintro x w2 ⟨rfl, hb2⟩
  have HB2 := Lib.hid (HB1.out.trans (hb2.mono HB1.out.size))
  clear hb2
  go_wp2_with fail
  refine (HLV.out _ HB2.out).mono ?_
  rintro x w' ⟨rfl, rfl⟩
  go_wp2_with fail
  refine (HUL.out _ HB2.out).mono ?_
  rintro x w3 ⟨rfl, hb3⟩
  have HB3 := Lib.hid (HB2.out.trans (hb3.mono HB2.out.size))
  clear hb3
  go_wp2_with fail
  refine (HLV.out _ HB3.out).mono ?_
  rintro x w' ⟨rfl, rfl⟩
  go_wp2_with fail
  refine (HUH.out _ HB3.out).mono ?_
  rintro x w4 ⟨rfl, hb4⟩
  have HB4 := Lib.hid (HB3.out.trans (hb4.mono HB3.out.size))
  clear hb4
  go_wp2_with fail
  go_ret2
  exact HPOST.out _ HB4.out
set_option maxRecDepth 100000 in
set_option maxHeartbeats 1600000 in
theorem mk_eq {o : Own} {w : World} {sb : Nat} {d : StoreD} {s : StoreW} {V : Nat → BF} (h : StoreIn o w sb d s) (hlt : OwnLt o w) (hk : StoreOK d V) (v lo hi : Nat) (hv : v < d.vars.length) (hlo : okE (nodesOf d) lo) (hhi : okE (nodesOf d) hi) (hgl : levN d v < lvE d.vars.length (levN d) (nodesOf d) lo) (hgh : levN d v < lvE d.vars.length (levN d) (nodesOf d) hi) (he : lo = hi) :
    Calls Tryz.prog 89 #[.pointer (some ⟨sb, 0, none⟩), .int .i64 v, .int .i64 lo, .int .i64 hi] w (MkPost o w sb d V v lo hi) := by
  have hll : levN d v < d.vars.length := hk.dag.lt v hv
  have hlol := h.edge_lt hlo
  have hhil := h.edge_lt hhi
  have hlom : lo < eMax := by unfold eMax; omega
  have hhim : hi < eMax := by unfold eMax; omega
  have hlen : d.level.length < 1000000 := by rw [h.len]; have := hk.small; omega
  have HLV : Hid (∀ W : World, Below w.heap.size w W → Calls Tryz.prog 77 #[.pointer (some ⟨sb, 0, none⟩), .int .i64 v] W fun x w' => x = .returned (.int .i64 (levN d v : Nat)) ∧ W = w') := fun W hb => by
    have h1 := storeLevel_any (h.below hlt hb) v hlen
    unfold StoreD.levelOf at h1
    rw [if_pos (by rw [h.len]; exact hv)] at h1
    exact h1
  have HISL : Hid (∀ W : World, Below w.heap.size w W → Calls Tryz.prog 87 #[.pointer (some ⟨sb, 0, none⟩), .int .i64 lo] W fun x w' => x = .returned (.bool true) ∧ Below W.heap.size W w') := fun W hb => by
    have h1 := storeIs_any (h.below hlt hb) (hlt.mono hb.size) lo hlom
    rw [is_eq hlo] at h1; exact h1
  have HISH : Hid (∀ W : World, Below w.heap.size w W → Calls Tryz.prog 87 #[.pointer (some ⟨sb, 0, none⟩), .int .i64 hi] W fun x w' => x = .returned (.bool true) ∧ Below W.heap.size W w') := fun W hb => by
    have h1 := storeIs_any (h.below hlt hb) (hlt.mono hb.size) hi hhim
    rw [is_eq hhi] at h1; exact h1
  have HUL : Hid (∀ W : World, Below w.heap.size w W → Calls Tryz.prog 126 #[.pointer (some ⟨sb, 0, none⟩), .int .i64 lo, .int .i64 (levN d v : Nat)] W fun x w' => x = .returned (.bool (decide (levN d v < lvE d.vars.length (levN d) (nodesOf d) lo))) ∧ Below W.heap.size W w') := fun W hb => by
    have h1 := storeUnder_any (h.below hlt hb) (hlt.mono hb.size) lo hlom (levN d v : Nat) hlen
    rw [under_eq h hk hlo hll] at h1; exact h1
  have HUH : Hid (∀ W : World, Below w.heap.size w W → Calls Tryz.prog 126 #[.pointer (some ⟨sb, 0, none⟩), .int .i64 hi, .int .i64 (levN d v : Nat)] W fun x w' => x = .returned (.bool (decide (levN d v < lvE d.vars.length (levN d) (nodesOf d) hi))) ∧ Below W.heap.size W w') := fun W hb => by
    have h1 := storeUnder_any (h.below hlt hb) (hlt.mono hb.size) hi hhim (levN d v : Nat) hlen
    rw [under_eq h hk hhi hll] at h1; exact h1
  subst he
  have HPOST : Hid (∀ W, Below w.heap.size w W → MkPost o w sb d V v lo lo (.returned (.tuple #[.int .i64 (lo : Nat), .int .i64 0])) W) := fun W hb => .inr (.inr (.inr ⟨by omega, by omega, lo, d, V, o, rfl, ⟨s, h.below hlt hb⟩, hlt.mono hb.size, hk, Ext.refl d V, hlo, by
    funext ρ; simp [iteF], Nat.le_of_lt hgl, by omega, Chg.of_below hb _ _⟩))
  rw [decide_eq_true hgl] at HUL
  rw [decide_eq_true hgh] at HUH
  obtain ⟨l, hl⟩ : ∃ l, l = levN d v := ⟨_, rfl⟩
  rw [← hl] at HLV HUL HUH
  have hl0 : ¬ ((l : Nat) : Int) < 0 := by omega
  clear h hlt hk hv hlo hhi hll hlol hhil hlom hhim hlen hl hgl hgh
  go_enter Tryz.func89, Tryz.ntmps89
  go_wp2_with fail
  refine (HLV.out _ (Below.refl _ _)).mono ?_
  rintro x w' ⟨rfl, rfl⟩
  go_wp2_with fail
  refine (HISL.out _ (Below.refl _ _)).mono ?_
  rintro x w1 ⟨rfl, hb1⟩
  have HB1 := Lib.hid hb1
  clear hb1
  go_wp2_with fail
  refine (HISH.out _ HB1.out).mono ?_
  rintro x w2 ⟨rfl, hb2⟩
  have HB2 := Lib.hid (HB1.out.trans (hb2.mono HB1.out.size))
  clear hb2
  go_wp2_with fail
  refine (HLV.out _ HB2.out).mono ?_
  rintro x w' ⟨rfl, rfl⟩
  go_wp2_with fail
  refine (HUL.out _ HB2.out).mono ?_
  rintro x w3 ⟨rfl, hb3⟩
  have HB3 := Lib.hid (HB2.out.trans (hb3.mono HB2.out.size))
  clear hb3
  go_wp2_with fail
  refine (HLV.out _ HB3.out).mono ?_
  rintro x w' ⟨rfl, rfl⟩
  go_wp2_with fail
  refine (HUH.out _ HB3.out).mono ?_
  rintro x w4 ⟨rfl, hb4⟩
  have HB4 := Lib.hid (HB3.out.trans (hb4.mono HB3.out.size))
  clear hb4
  go_wp2_with fail
  go_ret2
  exact HPOST.out _ HB4.out
set_option maxRecDepth 100000 in
set_option maxHeartbeats 1600000 in
theorem mk_found {o : Own} {w : World} {sb : Nat} {d : StoreD} {s : StoreW} {V : Nat → BF} (h : StoreIn o w sb d s) (hlt : OwnLt o w) (hk : StoreOK d V) (v lo hi : Nat) (hv : v < d.vars.length) (hlo : okE (nodesOf d) lo) (hhi : okE (nodesOf d) hi) (hgl : levN d v < lvE d.vars.length (levN d) (nodesOf d) lo) (hgh : levN d v < lvE d.vars.length (levN d) (nodesOf d) hi) (he : lo ≠ hi) (id : Nat) (hid : d.tab v (eflip lo (eneg hi), eflip hi (eneg hi)) = some id) :
    Calls Tryz.prog 89 #[.pointer (some ⟨sb, 0, none⟩), .int .i64 v, .int .i64 lo, .int .i64 hi] w (MkPost o w sb d V v lo hi) := by
  have hll : levN d v < d.vars.length := hk.dag.lt v hv
  have hlol := h.edge_lt hlo
  have hhil := h.edge_lt hhi
  have hlom : lo < eMax := by unfold eMax; omega
  have hhim : hi < eMax := by unfold eMax; omega
  have hlen : d.level.length < 1000000 := by rw [h.len]; have := hk.small; omega
  have HLV : Hid (∀ W : World, Below w.heap.size w W → Calls Tryz.prog 77 #[.pointer (some ⟨sb, 0, none⟩), .int .i64 v] W fun x w' => x = .returned (.int .i64 (levN d v : Nat)) ∧ W = w') := fun W hb => by
    have h1 := storeLevel_any (h.below hlt hb) v hlen
    unfold StoreD.levelOf at h1
    rw [if_pos (by rw [h.len]; exact hv)] at h1
    exact h1
  have HISL : Hid (∀ W : World, Below w.heap.size w W → Calls Tryz.prog 87 #[.pointer (some ⟨sb, 0, none⟩), .int .i64 lo] W fun x w' => x = .returned (.bool true) ∧ Below W.heap.size W w') := fun W hb => by
    have h1 := storeIs_any (h.below hlt hb) (hlt.mono hb.size) lo hlom
    rw [is_eq hlo] at h1; exact h1
  have HISH : Hid (∀ W : World, Below w.heap.size w W → Calls Tryz.prog 87 #[.pointer (some ⟨sb, 0, none⟩), .int .i64 hi] W fun x w' => x = .returned (.bool true) ∧ Below W.heap.size W w') := fun W hb => by
    have h1 := storeIs_any (h.below hlt hb) (hlt.mono hb.size) hi hhim
    rw [is_eq hhi] at h1; exact h1
  have HUL : Hid (∀ W : World, Below w.heap.size w W → Calls Tryz.prog 126 #[.pointer (some ⟨sb, 0, none⟩), .int .i64 lo, .int .i64 (levN d v : Nat)] W fun x w' => x = .returned (.bool (decide (levN d v < lvE d.vars.length (levN d) (nodesOf d) lo))) ∧ Below W.heap.size W w') := fun W hb => by
    have h1 := storeUnder_any (h.below hlt hb) (hlt.mono hb.size) lo hlom (levN d v : Nat) hlen
    rw [under_eq h hk hlo hll] at h1; exact h1
  have HUH : Hid (∀ W : World, Below w.heap.size w W → Calls Tryz.prog 126 #[.pointer (some ⟨sb, 0, none⟩), .int .i64 hi, .int .i64 (levN d v : Nat)] W fun x w' => x = .returned (.bool (decide (levN d v < lvE d.vars.length (levN d) (nodesOf d) hi))) ∧ Below W.heap.size W w') := fun W hb => by
    have h1 := storeUnder_any (h.below hlt hb) (hlt.mono hb.size) hi hhim (levN d v : Nat) hlen
    rw [under_eq h hk hhi hll] at h1; exact h1
  have hnode := (hk.tab v hv _ _ id).1 hid
  have hidl := (h.tk_lt hnode).2
  have HPOST : Hid (∀ W, Below w.heap.size w W → MkPost o w sb d V v lo hi (.returned (.tuple #[.int .i64 (eflip (2 * id) (eneg hi) : Nat), .int .i64 0])) W) := fun W hb => .inr (.inr (.inr ⟨by omega, by omega, _, d, V, o, rfl, ⟨s, h.below hlt hb⟩, hlt.mono hb.size, hk, Ext.refl d V, okE_eflip (okE_two hnode),
    node_ef hk hnode, by rw [lvE_eflip]; unfold lvE; rw [show 2 * id / 2 = id from by omega, hnode]; exact Nat.le_refl _, by omega, Chg.of_below hb _ _⟩))
  have HOF := Lib.hid (fun W => of_any id (eneg hi) W (by omega))
  rw [decide_eq_true hgl] at HUL
  rw [decide_eq_true hgh] at HUH
  obtain ⟨l, hl⟩ : ∃ l, l = levN d v := ⟨_, rfl⟩
  rw [← hl] at HLV HUL HUH
  have hl0 : ¬ ((l : Nat) : Int) < 0 := by omega
  have hnei : ((lo : Int) == hi) = false := by simp; omega
  have HNORM := Lib.hid (fun W => norm_any lo hi W hlom hhim)
  have HH := Lib.hid h
  have HLT := Lib.hid hlt
  have HV := Lib.hid hv
  have HF := Lib.hid (fun W (hb : Below w.heap.size w W) => find_yes o v (s.ts.getD v 0) (d.tab v) (eflip lo (eneg hi)) (eflip hi (eneg hi)) id W ((h.below hlt hb).tab v (by rw [h.tlen]; exact hv)) hid)
  obtain ⟨lo2, hlo2⟩ : ∃ x, x = eflip lo (eneg hi) := ⟨_, rfl⟩
  obtain ⟨hi2, hhi2⟩ : ∃ x, x = eflip hi (eneg hi) := ⟨_, rfl⟩
  obtain ⟨ng, hng⟩ : ∃ x, x = eneg hi := ⟨_, rfl⟩
  rw [← hlo2, ← hhi2] at HNORM HF
  rw [← hng] at HNORM HOF HPOST
  clear h hlt hk hv hlo hhi hll hlol hhil hlom hhim hlen hl hgl hgh he hid hnode hidl hlo2 hhi2 hng
  go_enter Tryz.func89, Tryz.ntmps89
  go_wp2_with fail
  refine (HLV.out _ (Below.refl _ _)).mono ?_
  rintro x w' ⟨rfl, rfl⟩
  go_wp2_with fail
  refine (HISL.out _ (Below.refl _ _)).mono ?_
  rintro x w1 ⟨rfl, hb1⟩
  have HB1 := Lib.hid hb1
  clear hb1
  go_wp2_with fail
  refine (HISH.out _ HB1.out).mono ?_
  rintro x w2 ⟨rfl, hb2⟩
  have HB2 := Lib.hid (HB1.out.trans (hb2.mono HB1.out.size))
  clear hb2
  go_wp2_with fail
  refine (HLV.out _ HB2.out).mono ?_
  rintro x w' ⟨rfl, rfl⟩
  go_wp2_with fail
  refine (HUL.out _ HB2.out).mono ?_
  rintro x w3 ⟨rfl, hb3⟩
  have HB3 := Lib.hid (HB2.out.trans (hb3.mono HB2.out.size))
  clear hb3
  go_wp2_with fail
  refine (HLV.out _ HB3.out).mono ?_
  rintro x w' ⟨rfl, rfl⟩
  go_wp2_with fail
  refine (HUH.out _ HB3.out).mono ?_
  rintro x w4 ⟨rfl, hb4⟩
  have HB4 := Lib.hid (HB3.out.trans (hb4.mono HB3.out.size))
  clear hb4
  go_wp2_with fail
  obtain ⟨gt, ct, hvt, cellv, hvl, htl⟩ := (HH.out.below HLT.out HB4.out).tabAt HV.out
  obtain ⟨c0, c1, c2, c3, c4, f0⟩ := cells5 (HH.out.below HLT.out HB4.out).blk
  rw [hvt] at c2
  have hvl' : (v : Int) < s.ts.length := by omega
  have hti := (HH.out.below HLT.out HB4.out).tab v hvl
  clear hvt
  refine (HNORM.out _).mono ?_
  rintro x w' ⟨rfl, rfl⟩
  have hf := HF.out _ HB4.out
  clear hti
  obtain ⟨tv, htv⟩ : ∃ t, t = s.ts.getD v 0 := ⟨_, rfl⟩
  rw [← htv] at cellv hf
  have HFD := Lib.hid hf
  clear htv hf
  go_wp2_with fail
  refine HFD.out.mono ?_
  rintro x w' ⟨rfl, rfl⟩
  go_wp2_with fail
  refine (HOF.out _).mono ?_
  rintro x w' ⟨rfl, rfl⟩
  go_wp2_with fail
  go_ret2
  exact HPOST.out _ HB4.out
set_option maxRecDepth 100000 in
set_option maxHeartbeats 1600000 in
theorem mk_new {o : Own} {w : World} {sb : Nat} {d : StoreD} {s : StoreW} {V : Nat → BF} (h : StoreIn o w sb d s) (hlt : OwnLt o w) (hk : StoreOK d V) (v lo hi : Nat) (hv : v < d.vars.length) (hlo : okE (nodesOf d) lo) (hhi : okE (nodesOf d) hi) (hgl : levN d v < lvE d.vars.length (levN d) (nodesOf d) lo) (hgh : levN d v < lvE d.vars.length (levN d) (nodesOf d) hi) (he : lo ≠ hi) (hid : d.tab v (eflip lo (eneg hi), eflip hi (eneg hi)) = none) :
    Calls Tryz.prog 89 #[.pointer (some ⟨sb, 0, none⟩), .int .i64 v, .int .i64 lo, .int .i64 hi] w (MkPost o w sb d V v lo hi) := by
  have hll : levN d v < d.vars.length := hk.dag.lt v hv
  have hlol := h.edge_lt hlo
  have hhil := h.edge_lt hhi
  have hlom : lo < eMax := by unfold eMax; omega
  have hhim : hi < eMax := by unfold eMax; omega
  have hlen : d.level.length < 1000000 := by rw [h.len]; have := hk.small; omega
  have HLV : Hid (∀ W : World, Below w.heap.size w W → Calls Tryz.prog 77 #[.pointer (some ⟨sb, 0, none⟩), .int .i64 v] W fun x w' => x = .returned (.int .i64 (levN d v : Nat)) ∧ W = w') := fun W hb => by
    have h1 := storeLevel_any (h.below hlt hb) v hlen
    unfold StoreD.levelOf at h1
    rw [if_pos (by rw [h.len]; exact hv)] at h1
    exact h1
  have HISL : Hid (∀ W : World, Below w.heap.size w W → Calls Tryz.prog 87 #[.pointer (some ⟨sb, 0, none⟩), .int .i64 lo] W fun x w' => x = .returned (.bool true) ∧ Below W.heap.size W w') := fun W hb => by
    have h1 := storeIs_any (h.below hlt hb) (hlt.mono hb.size) lo hlom
    rw [is_eq hlo] at h1; exact h1
  have HISH : Hid (∀ W : World, Below w.heap.size w W → Calls Tryz.prog 87 #[.pointer (some ⟨sb, 0, none⟩), .int .i64 hi] W fun x w' => x = .returned (.bool true) ∧ Below W.heap.size W w') := fun W hb => by
    have h1 := storeIs_any (h.below hlt hb) (hlt.mono hb.size) hi hhim
    rw [is_eq hhi] at h1; exact h1
  have HUL : Hid (∀ W : World, Below w.heap.size w W → Calls Tryz.prog 126 #[.pointer (some ⟨sb, 0, none⟩), .int .i64 lo, .int .i64 (levN d v : Nat)] W fun x w' => x = .returned (.bool (decide (levN d v < lvE d.vars.length (levN d) (nodesOf d) lo))) ∧ Below W.heap.size W w') := fun W hb => by
    have h1 := storeUnder_any (h.below hlt hb) (hlt.mono hb.size) lo hlom (levN d v : Nat) hlen
    rw [under_eq h hk hlo hll] at h1; exact h1
  have HUH : Hid (∀ W : World, Below w.heap.size w W → Calls Tryz.prog 126 #[.pointer (some ⟨sb, 0, none⟩), .int .i64 hi, .int .i64 (levN d v : Nat)] W fun x w' => x = .returned (.bool (decide (levN d v < lvE d.vars.length (levN d) (nodesOf d) hi))) ∧ Below W.heap.size W w') := fun W hb => by
    have h1 := storeUnder_any (h.below hlt hb) (hlt.mono hb.size) hi hhim (levN d v : Nat) hlen
    rw [under_eq h hk hhi hll] at h1; exact h1
  have HADD := Lib.hid (fun W (hb : Below w.heap.size w W) => storeAdd_any (h.below hlt hb) (hlt.mono hb.size) hk.live (fun i b hb => ⟨hk.dag.okLo i b hb, hk.dag.okHi i b hb⟩) v (eflip lo (eneg hi)) (eflip hi (eneg hi)) hv hid hk.clen)
  have HFULL : Hid (∀ W, Below w.heap.size w W → d.pool.many = d.pool.room → MkPost o w sb d V v lo hi (.returned (.tuple #[.int .i64 0, .int .i64 7])) W) := fun W hb hm => .inr (.inr (.inl ⟨hm, rfl, hb⟩))
  have HPOST : Hid (∀ W W' id d' o', Below w.heap.size w W → StoreAt o' W' sb d' → OwnLt o' W' → AddRel d d' id v (eflip lo (eneg hi)) (eflip hi (eneg hi)) → Chg RStore o o' W W' → MkPost o w sb d V v lo hi (.returned (.tuple #[.int .i64 (eflip (2 * id) (eneg hi) : Nat), .int .i64 0])) W') := fun W W' id d' o' hb hs hl hr hc => by
    obtain ⟨h1, h2⟩ := addRel_ok hk hr hv (okE_eflip hlo) (okE_eflip hhi) (by rw [lvE_eflip]; exact hgl) (by rw [lvE_eflip]; exact hgh) (eflip_even hi) (eflip_ne he) hid
    have hnode : nodesOf d' id = some ⟨v, eflip lo (eneg hi), eflip hi (eneg hi)⟩ := by rw [hr.nodes, addN_same]
    refine .inr (.inr (.inr ⟨by omega, by omega, _, d', _, o', rfl, hs, hl, h1, h2, okE_eflip (okE_two hnode), ?_, ?_, by rw [hr.many]; omega, (Chg.of_below hb _ _).trans hc⟩))
    · rw [node_ef h1 hnode, h2.ef hlo, h2.ef hhi]; rfl
    · rw [lvE_eflip, h2.lev]; unfold lvE; rw [show 2 * id / 2 = id from by omega, hnode]; exact Nat.le_refl _
  have HOF := Lib.hid (fun id W (hh : id < 2305843009213693952) => of_any id (eneg hi) W hh)
  rw [decide_eq_true hgl] at HUL
  rw [decide_eq_true hgh] at HUH
  obtain ⟨l, hl⟩ : ∃ l, l = levN d v := ⟨_, rfl⟩
  rw [← hl] at HLV HUL HUH
  have hl0 : ¬ ((l : Nat) : Int) < 0 := by omega
  have hnei : ((lo : Int) == hi) = false := by simp; omega
  have HNORM := Lib.hid (fun W => norm_any lo hi W hlom hhim)
  have HH := Lib.hid h
  have HLT := Lib.hid hlt
  have HV := Lib.hid hv
  have HF := Lib.hid (fun W (hb : Below w.heap.size w W) => find_no o v (s.ts.getD v 0) (d.tab v) (eflip lo (eneg hi)) (eflip hi (eneg hi)) W ((h.below hlt hb).tab v (by rw [h.tlen]; exact hv)) hid)
  obtain ⟨lo2, hlo2⟩ : ∃ x, x = eflip lo (eneg hi) := ⟨_, rfl⟩
  obtain ⟨hi2, hhi2⟩ : ∃ x, x = eflip hi (eneg hi) := ⟨_, rfl⟩
  obtain ⟨ng, hng⟩ : ∃ x, x = eneg hi := ⟨_, rfl⟩
  rw [← hlo2, ← hhi2] at HNORM HF HADD HPOST
  rw [← hng] at HNORM HOF HPOST
  clear h hlt hk hv hlo hhi hll hlol hhil hlom hhim hlen hl hgl hgh he hid hlo2 hhi2 hng
  go_enter Tryz.func89, Tryz.ntmps89
  go_wp2_with fail
  refine (HLV.out _ (Below.refl _ _)).mono ?_
  rintro x w' ⟨rfl, rfl⟩
  go_wp2_with fail
  refine (HISL.out _ (Below.refl _ _)).mono ?_
  rintro x w1 ⟨rfl, hb1⟩
  have HB1 := Lib.hid hb1
  clear hb1
  go_wp2_with fail
  refine (HISH.out _ HB1.out).mono ?_
  rintro x w2 ⟨rfl, hb2⟩
  have HB2 := Lib.hid (HB1.out.trans (hb2.mono HB1.out.size))
  clear hb2
  go_wp2_with fail
  refine (HLV.out _ HB2.out).mono ?_
  rintro x w' ⟨rfl, rfl⟩
  go_wp2_with fail
  refine (HUL.out _ HB2.out).mono ?_
  rintro x w3 ⟨rfl, hb3⟩
  have HB3 := Lib.hid (HB2.out.trans (hb3.mono HB2.out.size))
  clear hb3
  go_wp2_with fail
  refine (HLV.out _ HB3.out).mono ?_
  rintro x w' ⟨rfl, rfl⟩
  go_wp2_with fail
  refine (HUH.out _ HB3.out).mono ?_
  rintro x w4 ⟨rfl, hb4⟩
  have HB4 := Lib.hid (HB3.out.trans (hb4.mono HB3.out.size))
  clear hb4
  go_wp2_with fail
  obtain ⟨gt, ct, hvt, cellv, hvl, htl⟩ := (HH.out.below HLT.out HB4.out).tabAt HV.out
  obtain ⟨c0, c1, c2, c3, c4, f0⟩ := cells5 (HH.out.below HLT.out HB4.out).blk
  rw [hvt] at c2
  have hvl' : (v : Int) < s.ts.length := by omega
  have hti := (HH.out.below HLT.out HB4.out).tab v hvl
  clear hvt
  refine (HNORM.out _).mono ?_
  rintro x w' ⟨rfl, rfl⟩
  have hf := HF.out _ HB4.out
  clear hti
  obtain ⟨tv, htv⟩ : ∃ t, t = s.ts.getD v 0 := ⟨_, rfl⟩
  rw [← htv] at cellv hf
  have HFD := Lib.hid hf
  clear htv hf
  go_wp2_with fail
  refine HFD.out.mono ?_
  rintro x w' ⟨rfl, rfl⟩
  go_wp2_with fail
  refine (HADD.out _ HB4.out).mono ?_
  rintro x w6 (⟨hm, rfl, hb6⟩ | ⟨id, d', o', rfl, hs, hl6, hr, hc⟩)
  · have HB6 := Lib.hid (HB4.out.trans (hb6.mono HB4.out.size))
    have HM := Lib.hid hm
    clear hm hb6 c0 c1 c2 c3 c4 f0 cellv
    go_wp2_with fail
    go_ret2
    exact HFULL.out _ HB6.out HM.out
  · have HS := Lib.hid hs
    have HL6 := Lib.hid hl6
    have HR := Lib.hid hr
    have HC := Lib.hid hc
    have hidl : id < 2305843009213693952 := by
      obtain ⟨s', hs'⟩ := hs
      have := hs'.tk_lt (i := id) (b := ⟨v, lo2, hi2⟩) (by rw [hr.nodes, addN_same])
      omega
    clear hs hl6 hr hc c0 c1 c2 c3 c4 f0 cellv
    go_wp2_with fail
    refine (HOF.out _ _ hidl).mono ?_
    rintro x w' ⟨rfl, rfl⟩
    go_wp2_with fail
    go_ret2
    exact HPOST.out _ _ id d' o' HB4.out HS.out HL6.out HR.out HC.out
/-- Mk. -/
theorem storeMk_any {o : Own} {w : World} {sb : Nat} {d : StoreD} {V : Nat → BF} (h : StoreAt o w sb d) (hlt : OwnLt o w) (hk : StoreOK d V) (v : Int) (lo hi : Nat) (hlo : okE (nodesOf d) lo) (hhi : okE (nodesOf d) hi) :
    Calls Tryz.prog 89 #[.pointer (some ⟨sb, 0, none⟩), .int .i64 v, .int .i64 lo, .int .i64 hi] w (MkPost o w sb d V v lo hi) := by
  obtain ⟨s, h⟩ := h
  by_cases hv : 0 ≤ v ∧ v < d.vars.length
  · obtain ⟨n, rfl⟩ := Int.eq_ofNat_of_zero_le hv.1
    have hn : n < d.vars.length := by omega
    by_cases h1 : levN d n < lvE d.vars.length (levN d) (nodesOf d) lo
    · by_cases h2 : levN d n < lvE d.vars.length (levN d) (nodesOf d) hi
      · by_cases h3 : lo = hi
        · exact mk_eq h hlt hk n lo hi hn hlo hhi h1 h2 h3
        · cases h4 : d.tab n (eflip lo (eneg hi), eflip hi (eneg hi)) with
          | none => exact mk_new h hlt hk n lo hi hn hlo hhi h1 h2 h3 h4
          | some id => exact mk_found h hlt hk n lo hi hn hlo hhi h1 h2 h3 id h4
      · exact mk_hi h hlt hk n lo hi hn hlo hhi (by omega) h1
    · exact mk_lo h hlt hk n lo hi hn hlo hhi (by omega)
  · exact mk_var h hk v lo hi hv
end Go.Proofs.YtchliiaknmknhaaGreat

-- StoreNew
namespace Go.Proofs.YtchliiaknmknhaaGreat
open Go.RowKit

/-- A row that was just made is given a role. -/
theorem ownI_claim {o : Own} {w w' : World} {v : Value} {zs : List Int} (h : OwnI w' w.heap.size v zs) (hb : Below w.heap.size w w') (hlt : OwnLt o w) (r : Role) :
    ∃ o', RowR o' w' r 3 1 v zs.length (intsV zs) ∧ Chg (· = r) o o' w w' ∧ OwnLt o' w' := by
  obtain ⟨hl, h2⟩ := h
  rcases h2 with ⟨h1, h0⟩ | ⟨g, cap, cur, h1, h2, h3, h4, h5, h6, h7⟩
  · exact ⟨o, ⟨hl, .inl ⟨h1, h0⟩⟩, Chg.of_below hb _ _, hlt.mono hb.size⟩
  · have hg : g < w'.heap.size := (Array.getElem?_eq_some_iff.1 h3).1
    refine ⟨ownAt o g r, ⟨hl, .inr ⟨g, cap, cur, h1, ownAt_same _ _ _, h3, h4, h5, by omega, h7⟩⟩, ⟨hb.os, hb.tape, hb.output, hb.size, fun k hk _ => hb.block k hk, fun k q hq => ownAt_old hlt h2 hq, fun k hk => ?_⟩, fun k q hq => ?_⟩
    · by_cases e : k = g
      · subst e; exact ⟨h2, r, ownAt_same _ _ _, rfl⟩
      · exact absurd (by simp [ownAt, e]) hk
    · by_cases e : k = g
      · subst e; exact hg
      · simp only [ownAt, if_neg e] at hq; have := hlt k q hq; have := hb.size; omega
theorem ident_row (o : Own) (n : Nat) (hn : n ≤ 64) (r : Role) (w : World) (hlt : OwnLt o w) :
    Calls Tryz.prog 114 #[.int .i64 n] w fun e w' => ∃ v o', e = .returned v ∧ RowR o' w' r 3 1 v n ((List.range n).map nat64) ∧ Chg (· = r) o o' w w' ∧ OwnLt o' w' :=
  (permIdent_any n w).mono fun e w' ⟨v, h1, h2, h3⟩ => by
    obtain ⟨o', a, b, c⟩ := ownI_claim h2 h3 hlt r
    have e1 : identZ n = iota n := by unfold identZ; congr 1; omega
    have e2 : intsV (iota n) = (List.range n).map nat64 := by simp [intsV, iota, nat64]
    rw [e1, iota_length, e2] at a
    exact ⟨v, o', h1, a, b, c⟩
/-- An empty store. -/
def store0 (n room : Nat) : StoreD := ⟨List.range n, List.range n, pool0 room, fun _ _ => none, [], 0⟩
structure NewS (o : Own) (w : World) (n room sb : Nat) (s : StoreW) (j : Nat) (o1 : Own) (wx : World) : Prop where
  own : o1 sb = some .store
  ownl : o1 s.lb = some .levels
  blk : wx.heap[sb]? = some (.cells #[.pointer (some ⟨s.lb, 0, none⟩), .pointer (some ⟨s.pb, 0, none⟩), s.vt, .slice none 0 0, .int .i64 0] 145 (0, 0))
  lev : wx.heap[s.lb]? = some (.cells #[s.vv, s.vl] 142 (0, 0))
  vars : RowR o1 wx .vars 3 1 s.vv n ((List.range n).map nat64)
  level : RowR o1 wx .level 3 1 s.vl n ((List.range n).map nat64)
  pool : PoolAt o1 wx s.pb (pool0 room)
  tabs : RowR o1 wx .tabs 146 1 s.vt j (s.ts.map ptrV)
  tl : s.ts.length = j
  tab : ∀ v, v < j → TabIs o1 wx v (s.ts.getD v 0) (fun _ => none)
  chg : Chg RStore o o1 w wx
  lt : OwnLt o1 wx
  ge : w.heap.size ≤ sb
theorem NewS.done {o o1 : Own} {w wx : World} {n room sb : Nat} {s : StoreW} (h : NewS o w n room sb s n o1 wx) : StoreAt o1 wx sb (store0 n room) :=
  ⟨{ s with vc := .slice none 0 0 }, h.own, h.ownl, h.blk, h.lev, by simpa [store0] using h.vars, by simpa [store0] using h.level, h.pool, by rw [h.tl]; exact h.tabs, fun v hv => h.tab v (by rw [← h.tl]; exact hv), RowR.nil _ _ _ _ _, rfl, by simp [store0, h.tl]⟩
/-- A new table, and the row with it. -/
theorem NewS.grown {o o1 o2 o3 : Own} {w wx wy wz : World} {n room sb : Nat} {s : StoreW} {j t g cap : Nat} (h : NewS o w n room sb s j o1 wx) (ht : TabIs o2 wy j t (fun _ => none)) (hc : Chg (fun r => r = .tab j ∨ r = .tmap j) o1 o2 wx wy) (hl : OwnLt o2 wy)
    (hr : RowR o3 wz .tabs 146 1 (.slice (some ⟨g, 0, none⟩) (j + 1) cap) (j + 1) (s.ts.map ptrV ++ [ptrV t])) (hc2 : Chg (· = .tabs) o2 o3 wy wz) (hl2 : OwnLt o3 wz) :
    NewS o w n room sb { s with vt := .slice (some ⟨g, 0, none⟩) (j + 1) cap, ts := s.ts ++ [t] } (j + 1) o3 (wz.setCell ⟨sb, 2, none⟩ (.slice (some ⟨g, 0, none⟩) (j + 1) cap)) := by
  have hc' : Chg (fun r => r = .tab j ∨ r = .tmap j ∨ r = .tabs) o1 o3 wx wz := (hc.mono fun r e => by rcases e with e | e; exact .inl e; exact .inr (.inl e)).trans (hc2.mono fun r e => .inr (.inr e))
  have hos := hc'.ext _ _ h.own
  have ne : ∀ {a r}, o3 a = some r → r ≠ .store → a ≠ sb := fun ha hr e => by subst e; rw [ha] at hos; cases hos; exact hr rfl
  have hol := hc'.ext _ _ h.ownl
  have row : ∀ {r e k v m xs}, RowR o1 wx r e k v m xs → r ≠ .store → ¬ (r = .tab j ∨ r = .tmap j ∨ r = .tabs) → RowR o3 (wz.setCell ⟨sb, 2, none⟩ (.slice (some ⟨g, 0, none⟩) (j + 1) cap)) r e k v m xs := fun hr h1 h2 =>
    (hr.chg hc' h.lt h2).setCell_other (p := ⟨sb, 2, none⟩) (by rw [hos]; intro e; cases e; exact h1 rfl) _
  have ctab : ∀ v t f, TabIs o3 wz v t f → TabIs o3 (wz.setCell ⟨sb, 2, none⟩ (.slice (some ⟨g, 0, none⟩) (j + 1) cap)) v t f := fun v t f hT =>
    hT.keep (fun q r hq hr' => heap_setCell_ne (ne hq (by rintro rfl; rcases hr' with e | e <;> cases e)) _) (fun _ _ h => h)
  refine ⟨hos, hol, heap_setCell_same ((hc'.same h.lt h.own (by simp)).trans h.blk) _, (heap_setCell_ne (ne hol (by simp)) _).trans ((hc'.same h.lt h.ownl (by simp)).trans h.lev), row h.vars (by simp) (by simp), row h.level (by simp) (by simp), ?_, ?_, by simp [h.tl], fun v hv => ?_, ?_, hl2.mono (by simp [World.setCell]), h.ge⟩
  · have hp := h.pool.chg hc' h.lt (by simp) (by simp) (by simp) (by simp)
    exact hp.keep (fun q r hq hr' => heap_setCell_ne (ne hq (by rintro rfl; rcases hr' with e | e | e | e <;> cases e)) _) (fun _ _ h => h)
  · have := hr.setCell_other (p := ⟨sb, 2, none⟩) (by rw [hos]; simp) (.slice (some ⟨g, 0, none⟩) (j + 1) cap)
    simpa using this
  · dsimp only
    refine ctab _ _ _ ?_
    by_cases e : v = j
    · subst e
      have e2 : (s.ts ++ [t]).getD v 0 = t := by simp [List.getD, h.tl]
      rw [e2]; exact ht.chg hc2 hl (by simp) (by simp)
    · have e2 : (s.ts ++ [t]).getD v 0 = s.ts.getD v 0 := by
        have := h.tl
        simp [List.getD, List.getElem?_append_left (show v < s.ts.length by omega)]
      rw [e2]
      exact (h.tab v (by omega)).chg hc' h.lt (by simp [e]) (by simp [e])
  · exact (h.chg.trans (hc'.mono fun r e => by rcases e with rfl | rfl | rfl <;> simp [RStore])).setCell (p := ⟨sb, 2, none⟩) hos (by simp [RStore]) _
theorem infoPtrTab : (Tryz.prog.info? 146).map (fun i => (i.zero, i.size, i.bytes)) = some (some (.pointer none), 1, 8) := by kernel_rfl
set_option maxRecDepth 100000 in
set_option maxHeartbeats 1600000 in
theorem new_store (o : Own) (n room : Nat) (w : World) (hlt : OwnLt o w) (hn : n ≤ 64) (h1 : 1 ≤ room) (h2 : room ≤ 1048576) :
    Calls Tryz.prog 75 #[.int .i64 n, .int .i64 room] w fun x w' => ∃ sb o', x = .returned (.tuple #[.pointer (some ⟨sb, 0, none⟩), .int .i64 0]) ∧ StoreAt o' w' sb (store0 n room) ∧ Chg RStore o o' w w' ∧ OwnLt o' w' ∧ w.heap.size ≤ sb := by
  have hn' : (n : Int) ≤ 64 := by omega
  have hn0 : (0 : Int) ≤ n := by omega
  have HP := Lib.hid (new_pool o room w hlt h1 h2)
  clear hlt h1 h2
  go_enter Tryz.func75, Tryz.ntmps75
  go_wp2_with fail
  refine HP.out.mono ?_
  rintro x w1 ⟨pb, o1, rfl, hp1, hc1, hl1, hpb⟩
  have HI1 := Lib.hid (ident_row o1 n hn .vars w1 hl1)
  have HL1 := Lib.hid hl1
  have HP1 := Lib.hid hp1
  have HC1 := Lib.hid hc1
  clear hp1 hc1 hl1
  go_wp2_with fail
  refine HI1.out.mono ?_
  rintro x w2 ⟨vv, o2, rfl, hr2, hc2, hl2⟩
  have HI2 := Lib.hid (ident_row o2 n hn .level w2 hl2)
  have HR2 := Lib.hid hr2
  have HC2 := Lib.hid hc2
  have HL2 := Lib.hid hl2
  clear hr2 hc2 hl2
  go_wp2_with fail
  refine HI2.out.mono ?_
  rintro x w3 ⟨vl, o3, rfl, hr3, hc3, hl3⟩
  obtain ⟨av, cv, rfl, _⟩ := HR2.out.slice
  obtain ⟨al, cl, rfl, _⟩ := hr3.slice
  have HR3 := Lib.hid hr3
  have HC3 := Lib.hid hc3
  have HL3 := Lib.hid hl3
  clear hr3 hc3 hl3
  go_upto_region 7 with fail
  obtain ⟨wl, hwl⟩ : ∃ wl, wl = w3.alloc (.cells #[.slice av n cv, .slice al n cl] 142) := ⟨_, rfl⟩
  obtain ⟨ws, hws⟩ : ∃ ws, ws = wl.alloc (.cells #[.pointer (some ⟨w3.heap.size, 0, none⟩), .pointer (some ⟨pb, 0, none⟩), .slice none 0 0, .slice none 0 0, .int .i64 0] 145) := ⟨_, rfl⟩
  have hz1 : wl.heap.size = w3.heap.size + 1 := by rw [hwl]; simp
  have hS0 : NewS o w n room (w3.heap.size + 1) ⟨w3.heap.size, pb, .slice av n cv, .slice al n cl, .slice none 0 0, .slice none 0 0, []⟩ 0 (ownAt (ownAt o3 w3.heap.size .levels) (w3.heap.size + 1) .store) ws := by
    have c1 := (Chg.refl RStore o3 w3).allocR (r := .levels) HL3.out (.cells #[.slice av n cv, .slice al n cl] 142) (by simp [RStore])
    have l1 := HL3.out.allocR (.cells #[.slice av n cv, .slice al n cl] 142) .levels
    rw [← hwl] at c1 l1
    have c2 := c1.allocR (r := .store) l1 (.cells #[.pointer (some ⟨w3.heap.size, 0, none⟩), .pointer (some ⟨pb, 0, none⟩), .slice none 0 0, .slice none 0 0, .int .i64 0] 145) (by simp [RStore])
    have l2 := l1.allocR (.cells #[.pointer (some ⟨w3.heap.size, 0, none⟩), .pointer (some ⟨pb, 0, none⟩), .slice none 0 0, .slice none 0 0, .int .i64 0] 145) .store
    rw [← hws, hz1] at c2 l2
    have hb : Below w3.heap.size w3 ws := by rw [hws, hwl]; exact (below_new1 w3 _).alloc (by simp) _
    have hr2 := ((HR2.out.chg HC3.out HL2.out (by simp)).below HL3.out hb).keep (o' := ownAt (ownAt o3 w3.heap.size .levels) (w3.heap.size + 1) .store) (fun _ _ => rfl) (fun g hg => c2.ext g _ hg)
    have hr3 := (HR3.out.below HL3.out hb).keep (o' := ownAt (ownAt o3 w3.heap.size .levels) (w3.heap.size + 1) .store) (fun _ _ => rfl) (fun g hg => c2.ext g _ hg)
    have hcc := (HC1.out.mono (R' := RStore) (fun r hr => by rcases hr with rfl | rfl | rfl <;> simp [RStore, RPool])).trans ((HC2.out.mono (R' := RStore) (fun r hr => by subst hr; simp [RStore])).trans ((HC3.out.mono (R' := RStore) (fun r hr => by subst hr; simp [RStore])).trans c2))
    have hp3 := (HP1.out.chg (HC2.out) HL1.out (by simp) (by simp) (by simp) (by simp)).chg HC3.out HL2.out (by simp) (by simp) (by simp) (by simp)
    have hp := (hp3.below hb HL3.out).keep (o' := ownAt (ownAt o3 w3.heap.size .levels) (w3.heap.size + 1) .store) (fun _ _ _ _ => rfl) (fun g r hg => c2.ext g r hg)
    refine ⟨ownAt_same _ _ _, ownAt_old l1 (by omega) (ownAt_same _ _ _), ?_, ?_, hr2, hr3, hp, RowR.nil _ _ _ _ _, rfl, fun v hv => absurd hv (by omega), hcc, l2, ?_⟩
    · rw [hws, ← hz1]; exact heap_alloc_new wl _
    · rw [hws]; exact (Go.heap_alloc_old wl _ (show w3.heap.size < wl.heap.size by omega)).trans (by rw [hwl]; exact heap_alloc_new w3 _)
    · show w.heap.size ≤ w3.heap.size + 1
      exact Nat.le_succ_of_le (Nat.le_trans HC1.out.size (Nat.le_trans HC2.out.size HC3.out.size))
  rw [← hwl, ← hws]
  have HS0 := Lib.hid hS0
  clear hS0 hws hwl hz1 HR2 HR3 HC1 HC2 HC3 HL1 HL2 HL3 HP1 HI1 HI2 HP
  go_wp2_with fail
  go_loopw [31] (fun i wr => ∃ (j : Nat) (s : StoreW) (o1 : Own), j ≤ n ∧ i = .int .i64 j ∧ NewS o w n room (w3.heap.size + 1) s j o1 wr) (fun i _ => n - (intOf i).toNat)
  case atStart => exact ⟨0, _, _, by omega, rfl, HS0.out⟩
  case round =>
    obtain ⟨j, s, o1, hj, rfl, hS⟩ := hrel
    clear HS0
    by_cases hlt : j < n
    · obtain ⟨c0, c1, c2, c3, c4, f0⟩ := cells5 hS.blk
      obtain ⟨av, cv, hvt, _⟩ := hS.tabs.slice
      rw [hvt] at c2
      have hlt' : (j : Int) < n := by omega
      have HJ : (j : Int) + 1 ≤ 64 := by omega
      have HS := Lib.hid hS
      have HTR : Hid (RowR o1 wr .tabs 146 1 (.slice av j cv) j (s.ts.map ptrV)) := by show RowR _ _ _ _ _ _ _ _; rw [← hvt]; exact hS.tabs
      have HNU := Lib.hid (new_uniq o1 j wr.drew hS.lt)
      have HJ64 : j ≤ 64 := by omega
      have HVT := Lib.hid hvt
      clear hvt hS
      go_upto_region 9 with fail
      refine wp_region_mix (fun W : World => W.cell? ⟨w3.heap.size + 1, 2, none⟩ = some (.slice av j cv) ∧ W.frozen? ⟨w3.heap.size + 1, 2, none⟩ = false) true 10
        [(0, false), (1, false), (2, false), (3, false), (4, false), (5, true), (6, true), (7, true), (8, false), (9, false), (10, true)] (by kernel_rfl) (by kernel_rfl) ⟨c2, f0 2⟩ ?_
      simp only [planned, List.map_cons, List.map_nil, List.getElem?_cons_succ, List.getElem?_cons_zero]
      iterate 5
        refine mix_readE rfl ?_
        apply Exists.intro
        refine ⟨fun w' hw => ?_, ?_⟩
        · obtain ⟨h1, h2⟩ := hw
          go_simp
          rfl
        simp only [Act.put, List.setIfInBounds_toArray, List.set_cons_zero, List.set_cons_succ]
      refine mix_callR (R := fun v w' => ∃ t o2, v = .pointer (some ⟨t, 0, none⟩) ∧ TabIs o2 w' j t (fun _ => none) ∧ Chg (fun r => r = .tab j ∨ r = .tmap j) o1 o2 wr w' ∧ OwnLt o2 w') rfl (by go_simp) (HNU.out.mono (fun e w' he => ?_)) ?_
      · obtain ⟨t, o2, rfl, a1, a2, a3, a4⟩ := he
        obtain ⟨_, _, q2, _, _, q0⟩ := cells5 ((a2.same (by exact HS.out.lt) HS.out.own (by simp)).trans HS.out.blk)
        exact ⟨_, rfl, ⟨by rw [← HVT.out]; exact q2, q0 2⟩, t, o2, rfl, a1, ⟨a2.os, a2.tape, a2.output, a2.size, a2.block, a2.ext, a2.new⟩, a3⟩
      rintro v wy - ⟨t, o2, rfl, ht, hcy, hly⟩
      simp only [Act.put, List.setIfInBounds_toArray, List.set_cons_zero, List.set_cons_succ]
      have hsy := (hcy.same HS.out.lt HS.out.own (by simp)).trans HS.out.blk
      have hly2 : w3.heap.size + 1 < wy.heap.size := (Array.getElem?_eq_some_iff.1 hsy).1
      have HCY := Lib.hid hcy
      have HTY := Lib.hid ht
      have HLY := Lib.hid hly
      have HTR2 := HTR.out.chg hcy HS.out.lt (by simp)
      obtain ⟨wb, hwb⟩ : ∃ wb, wb = wy.alloc (.cells #[.pointer (some ⟨t, 0, none⟩)] 146) := ⟨_, rfl⟩
      obtain ⟨_, _, p2, _, _, p0⟩ := cells5 (show wb.heap[w3.heap.size + 1]? = _ from by rw [hwb]; exact (Go.heap_alloc_old _ _ hly2).trans hsy)
      refine mix_value (v := .slice (some ⟨wy.heap.size, 0, none⟩) 1 1) (w' := wb) rfl (by rw [hwb]; go_simp) ⟨by rw [← HVT.out]; exact p2, p0 2⟩ ?_
      simp only [Act.put, List.setIfInBounds_toArray, List.set_cons_zero, List.set_cons_succ]
      obtain ⟨g, cap, wz, o3, happ, hrz, hcz, hlz⟩ := run_appOne 143 146 143 1 8 (.pointer none) Tryz.underlying143 infoPtrTab rfl (by decide) #[.pointer (some ⟨t, 0, none⟩)] rfl (fun u hu => by simp at hu; subst hu; rfl) HTR2 hly (by omega) (by decide)
      rw [← hwb] at happ
      obtain ⟨_, _, r2, _, _, r0⟩ := cells5 ((hcz.same hly (hcy.ext _ _ HS.out.own) (by simp)).trans hsy)
      refine mix_value (v := .slice (some ⟨g, 0, none⟩) (j + 1) cap) (w' := wz) rfl (exec_append rfl rfl rfl happ) ⟨by rw [← HVT.out]; exact r2, r0 2⟩ ?_
      simp only [Act.put, List.setIfInBounds_toArray, List.set_cons_zero, List.set_cons_succ]
      have HG := Lib.hid (HS.out.grown ht hcy hly hrz hcz hlz)
      clear hsy hly2 hcy ht hly HTR2 hwb p2 p0 happ hrz hcz hlz
      iterate 2
        refine mix_readE rfl ?_
        apply Exists.intro
        refine ⟨fun w' hw => ?_, ?_⟩
        · obtain ⟨h1, h2⟩ := hw
          go_simp
          rfl
        simp only [Act.put, List.setIfInBounds_toArray, List.set_cons_zero, List.set_cons_succ]
      refine mix_last rfl (fun K hK => ?_)
      unfold Oper.wp
      go_simp
      refine hK _ _ (np_normal ?_)
      go_wp2_with fail
      go_roundw
      case rel => exact ⟨j + 1, _, _, by omega, by simp, HG.out⟩
      case measure => simp [intOf]; omega
    · obtain rfl : j = n := by omega
      have HS := Lib.hid hS
      clear hS
      go_wp2_with fail
      go_ret2
      exact ⟨_, _, rfl, HS.out.done, HS.out.chg, HS.out.lt, HS.out.ge⟩
end Go.Proofs.YtchliiaknmknhaaGreat
