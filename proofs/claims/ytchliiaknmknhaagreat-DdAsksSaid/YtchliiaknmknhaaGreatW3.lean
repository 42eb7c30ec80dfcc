/- Several texts in one file: contracts of the program's functions and what follows from them. -/
import Derived.Test.YtchliiaknmknhaaGreatW2
import Derived.Deep.Cut
import Derived.Deep.CutRange
import Derived.Deep.DeepCutAuto
import Derived.Deep.CutBlock
import Derived.RangeFuncNested
import Derived.RangeFuncBound
import Derived.RangeFuncCalls
import Derived.RangeFuncLeaves
import Derived.RangeFuncWrites
import Derived.Shelf.Abstract
import Derived.Shelf.RegionOpen
import Derived.OwnWalkIn
import Derived.TacticsInMore
import Derived.LoopNIn
import Derived.LoopIn
set_option linter.unusedSimpArgs false
set_option linter.unusedVariables false
set_option linter.unusedSectionVars false
set_option linter.unnecessarySimpa false
set_option maxRecDepth 100000
set_option maxHeartbeats 8000000
namespace Go.Proofs.YtchliiaknmknhaaGreat
open Go.RowKit
theorem storeDrop_none {o : Own} {w : World} {sb : Nat} {d : StoreD} {s : StoreW} (h : StoreIn o w sb d s) (hlt : OwnLt o w) (hl : LiveC d (extOf d)) (f : Nat) (hf : f < eMax) (hx : enode f = 0) :
 Calls Tryz.prog 103 #[.pointer (some ⟨sb, 0, none⟩), .int .i64 f] w (HoldPost o w sb d s f (-1)) := by
 obtain ⟨c0, c1, c2, c3, c4, f0⟩ := cells5 h.blk;have lsb : sb < w.heap.size := lt_of_cell c0;have HPOST : Hid (∀ W : World, Below w.heap.size w W -> HoldPost o w sb d s f (-1) (.returned (.int .i64 0)) W) := fun W hb =>
  ⟨d, rfl, h.below hlt hb, hlt.mono hb.size, ⟨rfl, rfl, rfl, rfl, rfl, rfl, rfl, rfl, rfl, fun i hi => by
   have e : f / 2 = 0 := hx;simp [toE, e, Ne.symm hi], hl⟩, Chg.of_below hb _ _⟩
 have hisv : (decide (enode f = 0) || d.pool.tk (enode f)) = true := by rw [hx]; rfl
 have HIS : Hid (∀ W : World, Below w.heap.size w W -> Calls Tryz.prog 87 #[.pointer (some ⟨sb, 0, none⟩), .int .i64 f] W fun x w' => x = .returned (.bool true) /\ Below W.heap.size W w') := fun W hb => by
  have h1 := storeIs_any (h.below hlt hb) (hlt.mono hb.size) f hf;rw [hisv] at h1;exact h1
 have htk : d.pool.tk 0 = false := h.pool.zero;have HPA : Hid (∀ W : World, Below w.heap.size w W -> Calls Tryz.prog 123 #[.pointer (some ⟨s.pb, 0, none⟩), .int .i64 (enode f : Nat)] W fun x w' => x = .returned (.tuple #[rnAgg (d.pool.has (enode f)), .bool (d.pool.tk (enode f))]) /\ Below W.heap.size W w') :=
  Lib.hid (fun W hb => poolAt_any o s.pb d.pool (enode f) W (h.pool.below hb hlt) (hlt.mono hb.size))
 have HC1 : Hid (∀ W : World, Below w.heap.size w W -> W.cell? ⟨sb, 1, none⟩ = some (.pointer (some ⟨s.pb, 0, none⟩))) := Lib.hid (fun W hb => (hb.cell (p := ⟨sb, 1, none⟩) lsb).trans c1);have HN := Lib.hid (fun W => node_any f W hf);have htk' : d.pool.tk (enode f) = false := by rw [hx]; exact htk
 obtain ⟨N, hN⟩ : ∃ N, N = d.pool.has (enode f) := ⟨_, rfl⟩;obtain ⟨B, hB⟩ : ∃ B, B = d.pool.tk (enode f) := ⟨_, rfl⟩;obtain ⟨k, hk⟩ : ∃ k, k = enode f := ⟨_, rfl⟩;rw [<- hN, <- hB, <- hk] at HPA;rw [<- hk] at HN;have HB := Lib.hid (hB.trans htk');clear h hlt hl hf hx hisv c0 c1 c2 c3 c4 f0 lsb htk htk' hN hk hB
 go_enter Tryz.func103, Tryz.ntmps103
 go_wp2_with fail;refine (HIS.out _ (Below.refl _ _)).mono ?_;rintro x w1 ⟨rfl, hb1⟩;have HB1 := Lib.hid hb1;clear hb1;go_upto_region 5 with fail;refine wp_region_left (fun W : World => Below w.heap.size w W) 13 (by kernel_rfl) (below_drewN HB1.out 1) ?_;refine left_readE 0 rfl rfl (by kernel_rfl) ?_;apply Exists.intro;refine ⟨fun w' hw => ?_, ?_⟩
 ·
  have hc1 := HC1.out w' hw;go_simp;rfl
 simp only [putLz];refine left_readE 1 rfl rfl (by kernel_rfl) ?_;apply Exists.intro;refine ⟨fun w' hw => ?_, ?_⟩
 ·
  have hc1 := HC1.out w' hw;go_simp;rfl
 simp only [putLz];refine left_readE 2 rfl rfl (by kernel_rfl) ?_;apply Exists.intro;refine ⟨fun w' hw => ?_, ?_⟩
 ·
  have hc1 := HC1.out w' hw;go_simp;rfl
 simp only [putLz];refine left_readE 3 rfl rfl (by kernel_rfl) ?_;apply Exists.intro;refine ⟨fun w' hw => ?_, ?_⟩
 ·
  have hc1 := HC1.out w' hw;go_simp;rfl
 simp only [putLz];refine left_readE 4 rfl rfl (by kernel_rfl) ?_;apply Exists.intro;refine ⟨fun w' hw => ?_, ?_⟩
 ·
  have hc1 := HC1.out w' hw;go_simp;rfl
 simp only [putLz];refine left_alts [5, 10] (by kernel_rfl) (fun i hi hS o ho => ?_);simp only [memLz] at hi;rcases hi with rfl | rfl
 ·
  skip
  simp only [altLz] at ho;subst ho;refine ⟨rfl, ?_⟩;refine oper_call (v := (.int .i64 k)) (R := fun w' => w1.drew = w') (by go_simp) (HN.out _) ?_;rintro w' rfl;refine ⟨(below_drewN HB1.out 1), ?_⟩;simp only [putLz];refine left_alts [6, 10] (by kernel_rfl) (fun i hi hS o ho => ?_);simp only [memLz] at hi;rcases hi with rfl | rfl
  ·
   skip
   simp only [altLz] at ho;subst ho;refine ⟨rfl, ?_⟩;refine oper_call (v := (.tuple #[rnAgg N, .bool B])) (R := fun w' => Below (w1.drew).heap.size (w1.drew) w') (by go_simp) (HPA.out _ (below_drewN HB1.out 1)) ?_;intro v2 hv2;have hb2 := (below_drewN HB1.out 1).trans (hv2.mono (below_drewN HB1.out 1).size);refine ⟨hb2, ?_⟩;simp only [putLz];unfold rnAgg;refine left_readE 7 rfl rfl (by kernel_rfl) ?_;apply Exists.intro;refine ⟨fun w' hw => ?_, ?_⟩
   ·
    clear hw;go_simp;rfl
   simp only [putLz];refine left_readE 8 rfl rfl (by kernel_rfl) ?_;apply Exists.intro;refine ⟨fun w' hw => ?_, ?_⟩
   ·
    clear hw;go_simp;rfl
   simp only [putLz];refine left_readE 9 rfl rfl (by kernel_rfl) ?_;apply Exists.intro;refine ⟨fun w' hw => ?_, ?_⟩
   ·
    clear hw;go_simp;rfl
   simp only [putLz];refine left_alts [10] (by kernel_rfl) (fun i hi hS o ho => ?_);simp only [memLz] at hi;subst hi;simp only [altLz] at ho;subst ho;refine ⟨rfl, ?_⟩;have hb3 := hb2.trans ((below_new1 (v2) (.cells #[.int .i64 0, .int .i64 0, .int .i64 0, .int .i64 0, .int .i64 0] 157)).mono hb2.size);have hx3 := heap_alloc_new (v2) (.cells #[.int .i64 0, .int .i64 0, .int .i64 0, .int .i64 0, .int .i64 0] 157);have hge : w.heap.size <= (v2).heap.size := hb2.size;refine oper_value (v := .pointer (some ⟨(v2).heap.size, 0, none⟩)) (w' := (v2).alloc (.cells #[.int .i64 0, .int .i64 0, .int .i64 0, .int .i64 0, .int .i64 0] 157)) (by go_simp) ⟨hb3, ?_⟩;simp only [putLz];obtain ⟨bx, hbx⟩ : ∃ bx, bx = (v2).heap.size := ⟨_, rfl⟩;rw [<- hbx] at hx3 hge ⊢;obtain ⟨u3, hu3⟩ : ∃ u, u = (v2).alloc (.cells #[.int .i64 0, .int .i64 0, .int .i64 0, .int .i64 0, .int .i64 0] 157) := ⟨_, rfl⟩;rw [<- hu3] at hx3 hb3 ⊢;clear hu3 hbx;refine left_alts [11] (by kernel_rfl) (fun i hi hS o ho => ?_);simp only [memLz] at hi;subst hi;simp only [altLz] at ho;subst ho;refine ⟨rfl, ?_⟩;obtain ⟨e0, e1, e2, e3, e4, fz⟩ := cells5 hx3;refine oper_store (w' := set5 u3 bx 0 N) rfl (run_storeNode (k := 0) fz e0 e1 e2 e3 e4 _ _ _ _ _) ?_;have hbf : Below w.heap.size w (set5 u3 bx 0 N) := below_set5 hb3 hge N;have hxf := set5_new hx3 N;refine ⟨hbf, ?_⟩;simp only [putLz];clear e0 e1 e2 e3 e4 fz;refine left_readE 12 rfl rfl (by kernel_rfl) ?_;apply Exists.intro;refine ⟨fun w' hw => ?_, ?_⟩
   ·
    clear hw;go_simp;rfl
   simp only [putLz];refine left_end (by kernel_rfl) ?_;obtain rfl : B = false := HB.out;have HBF := Lib.hid hbf;obtain ⟨W3, hW3⟩ : ∃ W, W = set5 u3 bx 0 N := ⟨_, rfl⟩;rw [<- hW3] at HBF ⊢;clear hW3 hbf hxf HPA HN HIS HC1 HB1 HB;go_wp2_with fail;go_ret;exact HPOST.out _ HBF.out
  ·
   skip
   simp only [altLz] at ho;subst ho;refine ⟨rfl, ?_⟩;have hb4 := (below_drewN HB1.out 1).trans ((below_new1 (w1.drew) (.cells #[.int .i64 0, .int .i64 0, .int .i64 0, .int .i64 0, .int .i64 0] 157)).mono (below_drewN HB1.out 1).size);have hx4 := heap_alloc_new (w1.drew) (.cells #[.int .i64 0, .int .i64 0, .int .i64 0, .int .i64 0, .int .i64 0] 157);have hge : w.heap.size <= (w1.drew).heap.size := (below_drewN HB1.out 1).size;refine oper_value (v := .pointer (some ⟨(w1.drew).heap.size, 0, none⟩)) (w' := (w1.drew).alloc (.cells #[.int .i64 0, .int .i64 0, .int .i64 0, .int .i64 0, .int .i64 0] 157)) (by go_simp) ⟨hb4, ?_⟩;simp only [putLz];obtain ⟨bx, hbx⟩ : ∃ bx, bx = (w1.drew).heap.size := ⟨_, rfl⟩;rw [<- hbx] at hx4 hge ⊢;obtain ⟨u4, hu4⟩ : ∃ u, u = (w1.drew).alloc (.cells #[.int .i64 0, .int .i64 0, .int .i64 0, .int .i64 0, .int .i64 0] 157) := ⟨_, rfl⟩;rw [<- hu4] at hx4 hb4 ⊢;clear hu4 hbx;refine left_alts [6] (by kernel_rfl) (fun i hi hS o ho => ?_);simp only [memLz] at hi;subst hi;simp only [altLz] at ho;subst ho;refine ⟨rfl, ?_⟩;refine oper_call (v := (.tuple #[rnAgg N, .bool B])) (R := fun w' => Below (u4).heap.size (u4) w') (by go_simp) (HPA.out _ hb4) ?_;intro v5 hv5;have hb5 := hb4.trans (hv5.mono hb4.size);refine ⟨hb5, ?_⟩;simp only [putLz];unfold rnAgg;have hx5 := (hv5.block _ (Array.getElem?_eq_some_iff.1 hx4).1).trans hx4;refine left_readE 7 rfl rfl (by kernel_rfl) ?_;apply Exists.intro;refine ⟨fun w' hw => ?_, ?_⟩
   ·
    clear hw;go_simp;rfl
   simp only [putLz];refine left_readE 8 rfl rfl (by kernel_rfl) ?_;apply Exists.intro;refine ⟨fun w' hw => ?_, ?_⟩
   ·
    clear hw;go_simp;rfl
   simp only [putLz];refine left_readE 9 rfl rfl (by kernel_rfl) ?_;apply Exists.intro;refine ⟨fun w' hw => ?_, ?_⟩
   ·
    clear hw;go_simp;rfl
   simp only [putLz];refine left_alts [11] (by kernel_rfl) (fun i hi hS o ho => ?_);simp only [memLz] at hi;subst hi;simp only [altLz] at ho;subst ho;refine ⟨rfl, ?_⟩;obtain ⟨e0, e1, e2, e3, e4, fz⟩ := cells5 hx5;refine oper_store (w' := set5 v5 bx 0 N) rfl (run_storeNode (k := 0) fz e0 e1 e2 e3 e4 _ _ _ _ _) ?_;have hbf : Below w.heap.size w (set5 v5 bx 0 N) := below_set5 hb5 hge N;have hxf := set5_new hx5 N;refine ⟨hbf, ?_⟩;simp only [putLz];clear e0 e1 e2 e3 e4 fz;refine left_readE 12 rfl rfl (by kernel_rfl) ?_;apply Exists.intro;refine ⟨fun w' hw => ?_, ?_⟩
   ·
    clear hw;go_simp;rfl
   simp only [putLz];refine left_end (by kernel_rfl) ?_;obtain rfl : B = false := HB.out;have HBF := Lib.hid hbf;obtain ⟨W3, hW3⟩ : ∃ W, W = set5 v5 bx 0 N := ⟨_, rfl⟩;rw [<- hW3] at HBF ⊢;clear hW3 hbf hxf HPA HN HIS HC1 HB1 HB;go_wp2_with fail;go_ret;exact HPOST.out _ HBF.out
 ·
  skip
  simp only [altLz] at ho;subst ho;refine ⟨rfl, ?_⟩;have hb6 := (below_drewN HB1.out 1).trans ((below_new1 (w1.drew) (.cells #[.int .i64 0, .int .i64 0, .int .i64 0, .int .i64 0, .int .i64 0] 157)).mono (below_drewN HB1.out 1).size);have hx6 := heap_alloc_new (w1.drew) (.cells #[.int .i64 0, .int .i64 0, .int .i64 0, .int .i64 0, .int .i64 0] 157);have hge : w.heap.size <= (w1.drew).heap.size := (below_drewN HB1.out 1).size;refine oper_value (v := .pointer (some ⟨(w1.drew).heap.size, 0, none⟩)) (w' := (w1.drew).alloc (.cells #[.int .i64 0, .int .i64 0, .int .i64 0, .int .i64 0, .int .i64 0] 157)) (by go_simp) ⟨hb6, ?_⟩;simp only [putLz];obtain ⟨bx, hbx⟩ : ∃ bx, bx = (w1.drew).heap.size := ⟨_, rfl⟩;rw [<- hbx] at hx6 hge ⊢;obtain ⟨u6, hu6⟩ : ∃ u, u = (w1.drew).alloc (.cells #[.int .i64 0, .int .i64 0, .int .i64 0, .int .i64 0, .int .i64 0] 157) := ⟨_, rfl⟩;rw [<- hu6] at hx6 hb6 ⊢;clear hu6 hbx;refine left_alts [5] (by kernel_rfl) (fun i hi hS o ho => ?_);simp only [memLz] at hi;subst hi;simp only [altLz] at ho;subst ho;refine ⟨rfl, ?_⟩;refine oper_call (v := (.int .i64 k)) (R := fun w' => u6 = w') (by go_simp) (HN.out _) ?_;rintro w' rfl;refine ⟨hb6, ?_⟩;simp only [putLz];refine left_alts [6] (by kernel_rfl) (fun i hi hS o ho => ?_);simp only [memLz] at hi;subst hi;simp only [altLz] at ho;subst ho;refine ⟨rfl, ?_⟩;refine oper_call (v := (.tuple #[rnAgg N, .bool B])) (R := fun w' => Below (u6).heap.size (u6) w') (by go_simp) (HPA.out _ hb6) ?_;intro v8 hv8;have hb8 := hb6.trans (hv8.mono hb6.size);refine ⟨hb8, ?_⟩;simp only [putLz];unfold rnAgg;have hx8 := (hv8.block _ (Array.getElem?_eq_some_iff.1 hx6).1).trans hx6;refine left_readE 7 rfl rfl (by kernel_rfl) ?_;apply Exists.intro;refine ⟨fun w' hw => ?_, ?_⟩
  ·
   clear hw;go_simp;rfl
  simp only [putLz];refine left_readE 8 rfl rfl (by kernel_rfl) ?_;apply Exists.intro;refine ⟨fun w' hw => ?_, ?_⟩
  ·
   clear hw;go_simp;rfl
  simp only [putLz];refine left_readE 9 rfl rfl (by kernel_rfl) ?_;apply Exists.intro;refine ⟨fun w' hw => ?_, ?_⟩
  ·
   clear hw;go_simp;rfl
  simp only [putLz];refine left_alts [11] (by kernel_rfl) (fun i hi hS o ho => ?_);simp only [memLz] at hi;subst hi;simp only [altLz] at ho;subst ho;refine ⟨rfl, ?_⟩;obtain ⟨e0, e1, e2, e3, e4, fz⟩ := cells5 hx8;refine oper_store (w' := set5 v8 bx 0 N) rfl (run_storeNode (k := 0) fz e0 e1 e2 e3 e4 _ _ _ _ _) ?_;have hbf : Below w.heap.size w (set5 v8 bx 0 N) := below_set5 hb8 hge N;have hxf := set5_new hx8 N;refine ⟨hbf, ?_⟩;simp only [putLz];clear e0 e1 e2 e3 e4 fz;refine left_readE 12 rfl rfl (by kernel_rfl) ?_;apply Exists.intro;refine ⟨fun w' hw => ?_, ?_⟩
  ·
   clear hw;go_simp;rfl
  simp only [putLz];refine left_end (by kernel_rfl) ?_;obtain rfl : B = false := HB.out;have HBF := Lib.hid hbf;obtain ⟨W3, hW3⟩ : ∃ W, W = set5 v8 bx 0 N := ⟨_, rfl⟩;rw [<- hW3] at HBF ⊢;clear hW3 hbf hxf HPA HN HIS HC1 HB1 HB;go_wp2_with fail;go_ret;exact HPOST.out _ HBF.out
theorem storeDrop_node {o : Own} {w : World} {sb : Nat} {d : StoreD} {s : StoreW} (h : StoreIn o w sb d s) (hlt : OwnLt o w) (hl : LiveC d (extOf d)) {rk : Nat -> Nat} (ha : Acy (nodesOf d) rk) (f : Nat) {b : BN} (hx : nodesOf d (enode f) = some b)
 (htop : ∀ y b, nodesOf d y = some b -> extOf d y < 1099511627776) (hpos : 1 <= extOf d (enode f)) (hcn : ∀ y b, nodesOf d y = some b -> cntOf d y <= 2199023255552) :
 Calls Tryz.prog 103 #[.pointer (some ⟨sb, 0, none⟩), .int .i64 f] w (HoldPost o w sb d s f (-1)) := by
 obtain ⟨c0, c1, c2, c3, c4, f0⟩ := cells5 h.blk;have lsb : sb < w.heap.size := lt_of_cell c0;have hok : okE (nodesOf d) f := .inr ⟨b, hx⟩;have hf : f < eMax := by have := h.edge_lt hok; unfold eMax; omega
 have hns := nodesOf_some hx;have htl := h.tk_lt hx;have hrf : (d.pool.nd (enode f)).refs < 1099511627776 := by have := htop _ _ hx; rw [extOf_node hns.1] at this; omega
 have hid : (d.pool.nd (enode f)).id = enode f := h.pool.id _ hns.1;have hisv : (decide (enode f = 0) || d.pool.tk (enode f)) = true := by rw [hns.1]; simp
 have HIS : Hid (∀ W : World, Below w.heap.size w W -> Calls Tryz.prog 87 #[.pointer (some ⟨sb, 0, none⟩), .int .i64 f] W fun x w' => x = .returned (.bool true) /\ Below W.heap.size W w') := fun W hb => by
  have h1 := storeIs_any (h.below hlt hb) (hlt.mono hb.size) f hf;rw [hisv] at h1;exact h1
 have HPA : Hid (∀ W : World, Below w.heap.size w W -> Calls Tryz.prog 123 #[.pointer (some ⟨s.pb, 0, none⟩), .int .i64 (enode f : Nat)] W fun x w' => x = .returned (.tuple #[rnAgg (d.pool.has (enode f)), .bool (d.pool.tk (enode f))]) /\ Below W.heap.size W w') :=
  Lib.hid (fun W hb => poolAt_any o s.pb d.pool (enode f) W (h.pool.below hb hlt) (hlt.mono hb.size))
 have HC1 : Hid (∀ W : World, Below w.heap.size w W -> W.cell? ⟨sb, 1, none⟩ = some (.pointer (some ⟨s.pb, 0, none⟩))) := Lib.hid (fun W hb => (hb.cell (p := ⟨sb, 1, none⟩) lsb).trans c1);have HN := Lib.hid (fun W => node_any f W hf);obtain ⟨r, hr⟩ : ∃ r, r = (d.pool.nd (enode f)).refs := ⟨_, rfl⟩;have hrp : 1 <= r := by rw [extOf_node hns.1] at hpos; omega
 have HSET : Hid (∀ W : World, Below w.heap.size w W -> Calls Tryz.prog 140 #[.pointer (some ⟨s.pb, 0, none⟩), rnAgg ((d.pool.nd (enode f)).ref (r - 1))] W fun x w' => x = .returned (.int .i64 0) /\ StoreIn o w' sb { d with pool := d.pool.setNd (enode f) ((d.pool.nd (enode f)).ref (r - 1)) } s /\ Chg RStore o o w w' /\ OwnLt o w') := fun W hb => by
  have hi' : d.pool.tk ((d.pool.nd (enode f)).ref (r - 1)).id = true := by show d.pool.tk (d.pool.nd (enode f)).id = true; rw [hid]; exact hns.1
  refine (poolSet_any o s.pb d.pool ((d.pool.nd (enode f)).ref (r - 1)) W (h.pool.below hb hlt) (hlt.mono hb.size) hi').mono ?_;rintro e w' ⟨rfl, hp, hc, hl'⟩;have e1 : ((d.pool.nd (enode f)).ref (r - 1)).id = enode f := hid;rw [e1] at hp;exact ⟨rfl, (h.below hlt hb).setPool (hlt.mono hb.size) hp (hc.mono (fun r hr => by simp [RPool, hr])), (Chg.of_below hb _ _).trans (hc.mono rslots_store), hl'⟩
 have HMORE : Hid (∀ (W : World), StoreIn o W sb { d with pool := d.pool.setNd (enode f) ((d.pool.nd (enode f)).ref (r - 1)) } s -> OwnLt o W -> Chg RStore o o w W ->
  Calls Tryz.prog 142 #[.pointer (some ⟨sb, 0, none⟩), .int .i64 f] W fun e w' => e = .returned (.tuple #[]) /\ HoldPost o w sb d s f (-1) (.returned (.int .i64 0)) w') := fun W hs hl' hch => by
  have hnd := setRef_nodes (d := d) (k := r - 1) htl.2.1 hns.1
  refine (storeLess_any o sb s rk (rk (enode f) + 1) W _ (extOf d) f ⟨hs, hl', by rw [hnd]; exact ha, by rw [hnd]; exact hok, setRef_live htl.2.1 hns.1 hl, fun y q hq => hcn y q (by rw [hnd] at hq; exact hq), fun y q hq => (by
   rw [hnd] at hq
   by_cases e : enode f = y
   ·
    subst e;have h1 : extOf d (enode f) = (r : Int) := by rw [extOf_node hns.1, hr]
    have h2 : toE f (enode f) = 1 := toE_hit f;rw [h1, h2]; omega
   ·
    have h1 : toE f y = 0 := if_neg e;have h2 : 0 <= extOf d y := by unfold extOf; split <;> omega
    rw [h1]; omega), .inr (Nat.lt_succ_self _)⟩).mono ?_
  rintro e w' ⟨cs, dd, rfl, hs2, hl2, hcl, _, _, hc2⟩;refine ⟨rfl, _, rfl, hs2, hl'.mono hc2.size, ⟨rfl, rfl, rfl, hnd, rfl, rfl, rfl, by simp [StoreD.cd, PoolD.setNd], hcl, fun i hi => ?_, hl2.congr (fun y b' hb' => ?_)⟩, hch.trans (hc2.mono rcnt_store)⟩
  ·
   show extOf { d with pool := d.pool.setNd (enode f) ((d.pool.nd (enode f)).ref (r - 1)) } i = _
   rw [setRef_ext htl.2.1 hns.1];dsimp only;unfold toE
   by_cases e : i = enode f
   ·
    have e' : f / 2 = i := e.symm;rw [if_pos e, if_pos e', e, extOf_node hns.1, <- hr]; omega
   ·
    have e' : ¬ f / 2 = i := fun h' => e h'.symm
    rw [if_neg e, if_neg e']; omega
  ·
   show extOf { d with pool := d.pool.setNd (enode f) ((d.pool.nd (enode f)).ref (r - 1)) } y = _
   rw [setRef_ext htl.2.1 hns.1];dsimp only;unfold addE toE
   by_cases e : y = enode f
   ·
    have e' : f / 2 = y := e.symm;rw [if_pos e, if_pos e', e, extOf_node hns.1, <- hr]; omega
   ·
    have e' : ¬ f / 2 = y := fun h' => e h'.symm
    rw [if_neg e, if_neg e']; omega
 have hNn : d.pool.has (enode f) = d.pool.nd (enode f) := hns.2.1;rw [hNn] at HPA;have HREF : Hid (rnAgg ((d.pool.nd (enode f)).ref (r - 1)) = .agg #[.int .i64 (d.pool.nd (enode f)).id, .int .i64 (d.pool.nd (enode f)).v, .int .i64 (d.pool.nd (enode f)).lo, .int .i64 (d.pool.nd (enode f)).hi, .int .i64 ((r : Int) - 1)]) := by
  show _ = _
  unfold rnAgg RN.ref;dsimp only;rw [show ((r - 1 : Nat) : Int) = (r : Int) - 1 from by omega]
 rw [hns.1] at HPA;rw [<- hr] at hrf;obtain ⟨N, hN⟩ : ∃ N, N = d.pool.nd (enode f) := ⟨_, rfl⟩;have hNr : N.refs = r := by rw [hN, hr]
 rw [<- hN] at HPA HREF HSET HMORE;obtain ⟨B, hB⟩ : ∃ B, B = true := ⟨_, rfl⟩;rw [<- hB] at HPA;obtain ⟨k, hk⟩ : ∃ k, k = enode f := ⟨_, rfl⟩;rw [<- hk] at HPA HN;have HBT := Lib.hid hB;have HNR := Lib.hid hNr;have HW0 := Lib.hid hk;clear h hlt hl ha hx htop hf hns hisv htl hid hr hNn hN hB hk hok c0 c1 c2 c3 c4 f0 lsb hNr hpos hcn
 go_enter Tryz.func103, Tryz.ntmps103
 go_wp2_with fail;refine (HIS.out _ (Below.refl _ _)).mono ?_;rintro x w1 ⟨rfl, hb1⟩;have HB1 := Lib.hid hb1;clear hb1 HIS;go_upto_region 5 with fail;refine wp_region_left (fun W : World => Below w.heap.size w W) 13 (by kernel_rfl) (below_drewN HB1.out 1) ?_;refine left_readE 0 rfl rfl (by kernel_rfl) ?_;apply Exists.intro;refine ⟨fun w' hw => ?_, ?_⟩
 ·
  have hc1 := HC1.out w' hw;go_simp;rfl
 simp only [putLz];refine left_readE 1 rfl rfl (by kernel_rfl) ?_;apply Exists.intro;refine ⟨fun w' hw => ?_, ?_⟩
 ·
  have hc1 := HC1.out w' hw;go_simp;rfl
 simp only [putLz];refine left_readE 2 rfl rfl (by kernel_rfl) ?_;apply Exists.intro;refine ⟨fun w' hw => ?_, ?_⟩
 ·
  have hc1 := HC1.out w' hw;go_simp;rfl
 simp only [putLz];refine left_readE 3 rfl rfl (by kernel_rfl) ?_;apply Exists.intro;refine ⟨fun w' hw => ?_, ?_⟩
 ·
  have hc1 := HC1.out w' hw;go_simp;rfl
 simp only [putLz];refine left_readE 4 rfl rfl (by kernel_rfl) ?_;apply Exists.intro;refine ⟨fun w' hw => ?_, ?_⟩
 ·
  have hc1 := HC1.out w' hw;go_simp;rfl
 simp only [putLz];refine left_alts [5, 10] (by kernel_rfl) (fun i hi hS o ho => ?_);simp only [memLz] at hi;rcases hi with rfl | rfl
 ·
  skip
  simp only [altLz] at ho;subst ho;refine ⟨rfl, ?_⟩;refine oper_call (v := (.int .i64 k)) (R := fun w' => w1.drew = w') (by go_simp) (HN.out _) ?_;rintro w' rfl;refine ⟨(below_drewN HB1.out 1), ?_⟩;simp only [putLz];refine left_alts [6, 10] (by kernel_rfl) (fun i hi hS o ho => ?_);simp only [memLz] at hi;rcases hi with rfl | rfl
  ·
   skip
   simp only [altLz] at ho;subst ho;refine ⟨rfl, ?_⟩;refine oper_call (v := (.tuple #[rnAgg N, .bool B])) (R := fun w' => Below (w1.drew).heap.size (w1.drew) w') (by go_simp) (HPA.out _ (below_drewN HB1.out 1)) ?_;intro v2 hv2;have hb2 := (below_drewN HB1.out 1).trans (hv2.mono (below_drewN HB1.out 1).size);refine ⟨hb2, ?_⟩;simp only [putLz];unfold rnAgg;refine left_readE 7 rfl rfl (by kernel_rfl) ?_;apply Exists.intro;refine ⟨fun w' hw => ?_, ?_⟩
   ·
    clear hw;go_simp;rfl
   simp only [putLz];refine left_readE 8 rfl rfl (by kernel_rfl) ?_;apply Exists.intro;refine ⟨fun w' hw => ?_, ?_⟩
   ·
    clear hw;go_simp;rfl
   simp only [putLz];refine left_readE 9 rfl rfl (by kernel_rfl) ?_;apply Exists.intro;refine ⟨fun w' hw => ?_, ?_⟩
   ·
    clear hw;go_simp;rfl
   simp only [putLz];refine left_alts [10] (by kernel_rfl) (fun i hi hS o ho => ?_);simp only [memLz] at hi;subst hi;simp only [altLz] at ho;subst ho;refine ⟨rfl, ?_⟩;have hb3 := hb2.trans ((below_new1 (v2) (.cells #[.int .i64 0, .int .i64 0, .int .i64 0, .int .i64 0, .int .i64 0] 157)).mono hb2.size);have hx3 := heap_alloc_new (v2) (.cells #[.int .i64 0, .int .i64 0, .int .i64 0, .int .i64 0, .int .i64 0] 157);have hge : w.heap.size <= (v2).heap.size := hb2.size;refine oper_value (v := .pointer (some ⟨(v2).heap.size, 0, none⟩)) (w' := (v2).alloc (.cells #[.int .i64 0, .int .i64 0, .int .i64 0, .int .i64 0, .int .i64 0] 157)) (by go_simp) ⟨hb3, ?_⟩;simp only [putLz];obtain ⟨bx, hbx⟩ : ∃ bx, bx = (v2).heap.size := ⟨_, rfl⟩;rw [<- hbx] at hx3 hge ⊢;obtain ⟨u3, hu3⟩ : ∃ u, u = (v2).alloc (.cells #[.int .i64 0, .int .i64 0, .int .i64 0, .int .i64 0, .int .i64 0] 157) := ⟨_, rfl⟩;rw [<- hu3] at hx3 hb3 ⊢;clear hu3 hbx;refine left_alts [11] (by kernel_rfl) (fun i hi hS o ho => ?_);simp only [memLz] at hi;subst hi;simp only [altLz] at ho;subst ho;refine ⟨rfl, ?_⟩;obtain ⟨e0, e1, e2, e3, e4, fz⟩ := cells5 hx3;refine oper_store (w' := set5 u3 bx 0 N) rfl (run_storeNode (k := 0) fz e0 e1 e2 e3 e4 _ _ _ _ _) ?_;have hbf : Below w.heap.size w (set5 u3 bx 0 N) := below_set5 hb3 hge N;have hxf := set5_new hx3 N;refine ⟨hbf, ?_⟩;simp only [putLz];clear e0 e1 e2 e3 e4 fz;refine left_readE 12 rfl rfl (by kernel_rfl) ?_;apply Exists.intro;refine ⟨fun w' hw => ?_, ?_⟩
   ·
    clear hw;go_simp;rfl
   simp only [putLz];refine left_end (by kernel_rfl) ?_;obtain rfl : B = true := HBT.out;have hxf' := hxf;rw [HNR.out] at hxf';have HXF := Lib.hid hxf';have HBF := Lib.hid hbf;obtain ⟨y0, y1, y2, y3, y4, yz⟩ := cells5 hxf';obtain ⟨W3, hW3⟩ : ∃ W, W = set5 u3 bx 0 N := ⟨_, rfl⟩;rw [<- hW3] at y0 y1 y2 y3 y4 yz HXF HBF ⊢;clear hW3 hxf hxf' hbf HNR HPA HN HBT;go_upto_region 11 with fail;have hxz := heap_setCell_same (k := 4) HXF.out (.int .i64 ((r : Int) - 1));have hbz : Below w.heap.size w (W3.setCell ⟨bx, 4, none⟩ (.int .i64 ((r : Int) - 1))) := HBF.out.setCell (p := ⟨bx, 4, none⟩) hge _;obtain ⟨W4, hW4⟩ : ∃ W, W = W3.setCell ⟨bx, 4, none⟩ (.int .i64 ((r : Int) - 1)) := ⟨_, rfl⟩;rw [<- hW4] at hxz hbz ⊢;clear hW4 HXF HBF y0 y1 y2 y3 y4 yz;simp at hxz;obtain ⟨z0, z1, z2, z3, z4, zz⟩ := cells5 hxz;have hc1 := HC1.out _ hbz;refine wp_region_mix (fun w' => w' = W4.drew) true 5 [(0, false), (1, false), (2, false), (3, false), (4, false), (5, true)] (by kernel_rfl) (by kernel_rfl) rfl ?_;simp only [planned, plnLz]
   iterate 5
    refine mix_readE rfl ?_;apply Exists.intro;refine ⟨fun w' hw => ?_, ?_⟩
    ·
     subst hw;go_simp;rfl
    simp only [putLz]
   refine mix_last rfl (fun K hK => ?_);unfold Oper.wp;go_simp;rw [<- HREF.out];refine (HSET.out _ (below_drewN hbz 1)).mono ?_;rintro x w5 ⟨rfl, hs5, hc5, hl5⟩;refine hK _ _ (np_normal ?_);have HS5 := Lib.hid hs5;have HC5 := Lib.hid hc5;have HL5 := Lib.hid hl5;clear hs5 hc5 hl5 hxz hbz z0 z1 z2 z3 z4 zz hc1;go_wp2_with fail;refine (HMORE.out _ HS5.out HL5.out HC5.out).mono ?_;rintro x w6 ⟨rfl, hp⟩;have HP := Lib.hid hp;clear hp;go_wp2_with fail;go_ret;exact HP.out
  ·
   skip
   simp only [altLz] at ho;subst ho;refine ⟨rfl, ?_⟩;have hb4 := (below_drewN HB1.out 1).trans ((below_new1 (w1.drew) (.cells #[.int .i64 0, .int .i64 0, .int .i64 0, .int .i64 0, .int .i64 0] 157)).mono (below_drewN HB1.out 1).size);have hx4 := heap_alloc_new (w1.drew) (.cells #[.int .i64 0, .int .i64 0, .int .i64 0, .int .i64 0, .int .i64 0] 157);have hge : w.heap.size <= (w1.drew).heap.size := (below_drewN HB1.out 1).size;refine oper_value (v := .pointer (some ⟨(w1.drew).heap.size, 0, none⟩)) (w' := (w1.drew).alloc (.cells #[.int .i64 0, .int .i64 0, .int .i64 0, .int .i64 0, .int .i64 0] 157)) (by go_simp) ⟨hb4, ?_⟩;simp only [putLz];obtain ⟨bx, hbx⟩ : ∃ bx, bx = (w1.drew).heap.size := ⟨_, rfl⟩;rw [<- hbx] at hx4 hge ⊢;obtain ⟨u4, hu4⟩ : ∃ u, u = (w1.drew).alloc (.cells #[.int .i64 0, .int .i64 0, .int .i64 0, .int .i64 0, .int .i64 0] 157) := ⟨_, rfl⟩;rw [<- hu4] at hx4 hb4 ⊢;clear hu4 hbx;refine left_alts [6] (by kernel_rfl) (fun i hi hS o ho => ?_);simp only [memLz] at hi;subst hi;simp only [altLz] at ho;subst ho;refine ⟨rfl, ?_⟩;refine oper_call (v := (.tuple #[rnAgg N, .bool B])) (R := fun w' => Below (u4).heap.size (u4) w') (by go_simp) (HPA.out _ hb4) ?_;intro v5 hv5;have hb5 := hb4.trans (hv5.mono hb4.size);refine ⟨hb5, ?_⟩;simp only [putLz];unfold rnAgg;have hx5 := (hv5.block _ (Array.getElem?_eq_some_iff.1 hx4).1).trans hx4;refine left_readE 7 rfl rfl (by kernel_rfl) ?_;apply Exists.intro;refine ⟨fun w' hw => ?_, ?_⟩
   ·
    clear hw;go_simp;rfl
   simp only [putLz];refine left_readE 8 rfl rfl (by kernel_rfl) ?_;apply Exists.intro;refine ⟨fun w' hw => ?_, ?_⟩
   ·
    clear hw;go_simp;rfl
   simp only [putLz];refine left_readE 9 rfl rfl (by kernel_rfl) ?_;apply Exists.intro;refine ⟨fun w' hw => ?_, ?_⟩
   ·
    clear hw;go_simp;rfl
   simp only [putLz];refine left_alts [11] (by kernel_rfl) (fun i hi hS o ho => ?_);simp only [memLz] at hi;subst hi;simp only [altLz] at ho;subst ho;refine ⟨rfl, ?_⟩;obtain ⟨e0, e1, e2, e3, e4, fz⟩ := cells5 hx5;refine oper_store (w' := set5 v5 bx 0 N) rfl (run_storeNode (k := 0) fz e0 e1 e2 e3 e4 _ _ _ _ _) ?_;have hbf : Below w.heap.size w (set5 v5 bx 0 N) := below_set5 hb5 hge N;have hxf := set5_new hx5 N;refine ⟨hbf, ?_⟩;simp only [putLz];clear e0 e1 e2 e3 e4 fz;refine left_readE 12 rfl rfl (by kernel_rfl) ?_;apply Exists.intro;refine ⟨fun w' hw => ?_, ?_⟩
   ·
    clear hw;go_simp;rfl
   simp only [putLz];refine left_end (by kernel_rfl) ?_;obtain rfl : B = true := HBT.out;have hxf' := hxf;rw [HNR.out] at hxf';have HXF := Lib.hid hxf';have HBF := Lib.hid hbf;obtain ⟨y0, y1, y2, y3, y4, yz⟩ := cells5 hxf';obtain ⟨W3, hW3⟩ : ∃ W, W = set5 v5 bx 0 N := ⟨_, rfl⟩;rw [<- hW3] at y0 y1 y2 y3 y4 yz HXF HBF ⊢;clear hW3 hxf hxf' hbf HNR HPA HN HBT;go_upto_region 11 with fail;have hxz := heap_setCell_same (k := 4) HXF.out (.int .i64 ((r : Int) - 1));have hbz : Below w.heap.size w (W3.setCell ⟨bx, 4, none⟩ (.int .i64 ((r : Int) - 1))) := HBF.out.setCell (p := ⟨bx, 4, none⟩) hge _;obtain ⟨W4, hW4⟩ : ∃ W, W = W3.setCell ⟨bx, 4, none⟩ (.int .i64 ((r : Int) - 1)) := ⟨_, rfl⟩;rw [<- hW4] at hxz hbz ⊢;clear hW4 HXF HBF y0 y1 y2 y3 y4 yz;simp at hxz;obtain ⟨z0, z1, z2, z3, z4, zz⟩ := cells5 hxz;have hc1 := HC1.out _ hbz;refine wp_region_mix (fun w' => w' = W4.drew) true 5 [(0, false), (1, false), (2, false), (3, false), (4, false), (5, true)] (by kernel_rfl) (by kernel_rfl) rfl ?_;simp only [planned, plnLz]
   iterate 5
    refine mix_readE rfl ?_;apply Exists.intro;refine ⟨fun w' hw => ?_, ?_⟩
    ·
     subst hw;go_simp;rfl
    simp only [putLz]
   refine mix_last rfl (fun K hK => ?_);unfold Oper.wp;go_simp;rw [<- HREF.out];refine (HSET.out _ (below_drewN hbz 1)).mono ?_;rintro x w5 ⟨rfl, hs5, hc5, hl5⟩;refine hK _ _ (np_normal ?_);have HS5 := Lib.hid hs5;have HC5 := Lib.hid hc5;have HL5 := Lib.hid hl5;clear hs5 hc5 hl5 hxz hbz z0 z1 z2 z3 z4 zz hc1;go_wp2_with fail;refine (HMORE.out _ HS5.out HL5.out HC5.out).mono ?_;rintro x w6 ⟨rfl, hp⟩;have HP := Lib.hid hp;clear hp;go_wp2_with fail;go_ret;exact HP.out
 ·
  skip
  simp only [altLz] at ho;subst ho;refine ⟨rfl, ?_⟩;have hb6 := (below_drewN HB1.out 1).trans ((below_new1 (w1.drew) (.cells #[.int .i64 0, .int .i64 0, .int .i64 0, .int .i64 0, .int .i64 0] 157)).mono (below_drewN HB1.out 1).size);have hx6 := heap_alloc_new (w1.drew) (.cells #[.int .i64 0, .int .i64 0, .int .i64 0, .int .i64 0, .int .i64 0] 157);have hge : w.heap.size <= (w1.drew).heap.size := (below_drewN HB1.out 1).size;refine oper_value (v := .pointer (some ⟨(w1.drew).heap.size, 0, none⟩)) (w' := (w1.drew).alloc (.cells #[.int .i64 0, .int .i64 0, .int .i64 0, .int .i64 0, .int .i64 0] 157)) (by go_simp) ⟨hb6, ?_⟩;simp only [putLz];obtain ⟨bx, hbx⟩ : ∃ bx, bx = (w1.drew).heap.size := ⟨_, rfl⟩;rw [<- hbx] at hx6 hge ⊢;obtain ⟨u6, hu6⟩ : ∃ u, u = (w1.drew).alloc (.cells #[.int .i64 0, .int .i64 0, .int .i64 0, .int .i64 0, .int .i64 0] 157) := ⟨_, rfl⟩;rw [<- hu6] at hx6 hb6 ⊢;clear hu6 hbx;refine left_alts [5] (by kernel_rfl) (fun i hi hS o ho => ?_);simp only [memLz] at hi;subst hi;simp only [altLz] at ho;subst ho;refine ⟨rfl, ?_⟩;refine oper_call (v := (.int .i64 k)) (R := fun w' => u6 = w') (by go_simp) (HN.out _) ?_;rintro w' rfl;refine ⟨hb6, ?_⟩;simp only [putLz];refine left_alts [6] (by kernel_rfl) (fun i hi hS o ho => ?_);simp only [memLz] at hi;subst hi;simp only [altLz] at ho;subst ho;refine ⟨rfl, ?_⟩;refine oper_call (v := (.tuple #[rnAgg N, .bool B])) (R := fun w' => Below (u6).heap.size (u6) w') (by go_simp) (HPA.out _ hb6) ?_;intro v8 hv8;have hb8 := hb6.trans (hv8.mono hb6.size);refine ⟨hb8, ?_⟩;simp only [putLz];unfold rnAgg;have hx8 := (hv8.block _ (Array.getElem?_eq_some_iff.1 hx6).1).trans hx6;refine left_readE 7 rfl rfl (by kernel_rfl) ?_;apply Exists.intro;refine ⟨fun w' hw => ?_, ?_⟩
  ·
   clear hw;go_simp;rfl
  simp only [putLz];refine left_readE 8 rfl rfl (by kernel_rfl) ?_;apply Exists.intro;refine ⟨fun w' hw => ?_, ?_⟩
  ·
   clear hw;go_simp;rfl
  simp only [putLz];refine left_readE 9 rfl rfl (by kernel_rfl) ?_;apply Exists.intro;refine ⟨fun w' hw => ?_, ?_⟩
  ·
   clear hw;go_simp;rfl
  simp only [putLz];refine left_alts [11] (by kernel_rfl) (fun i hi hS o ho => ?_);simp only [memLz] at hi;subst hi;simp only [altLz] at ho;subst ho;refine ⟨rfl, ?_⟩;obtain ⟨e0, e1, e2, e3, e4, fz⟩ := cells5 hx8;refine oper_store (w' := set5 v8 bx 0 N) rfl (run_storeNode (k := 0) fz e0 e1 e2 e3 e4 _ _ _ _ _) ?_;have hbf : Below w.heap.size w (set5 v8 bx 0 N) := below_set5 hb8 hge N;have hxf := set5_new hx8 N;refine ⟨hbf, ?_⟩;simp only [putLz];clear e0 e1 e2 e3 e4 fz;refine left_readE 12 rfl rfl (by kernel_rfl) ?_;apply Exists.intro;refine ⟨fun w' hw => ?_, ?_⟩
  ·
   clear hw;go_simp;rfl
  simp only [putLz];refine left_end (by kernel_rfl) ?_;obtain rfl : B = true := HBT.out;have hxf' := hxf;rw [HNR.out] at hxf';have HXF := Lib.hid hxf';have HBF := Lib.hid hbf;obtain ⟨y0, y1, y2, y3, y4, yz⟩ := cells5 hxf';obtain ⟨W3, hW3⟩ : ∃ W, W = set5 v8 bx 0 N := ⟨_, rfl⟩;rw [<- hW3] at y0 y1 y2 y3 y4 yz HXF HBF ⊢;clear hW3 hxf hxf' hbf HNR HPA HN HBT;go_upto_region 11 with fail;have hxz := heap_setCell_same (k := 4) HXF.out (.int .i64 ((r : Int) - 1));have hbz : Below w.heap.size w (W3.setCell ⟨bx, 4, none⟩ (.int .i64 ((r : Int) - 1))) := HBF.out.setCell (p := ⟨bx, 4, none⟩) hge _;obtain ⟨W4, hW4⟩ : ∃ W, W = W3.setCell ⟨bx, 4, none⟩ (.int .i64 ((r : Int) - 1)) := ⟨_, rfl⟩;rw [<- hW4] at hxz hbz ⊢;clear hW4 HXF HBF y0 y1 y2 y3 y4 yz;simp at hxz;obtain ⟨z0, z1, z2, z3, z4, zz⟩ := cells5 hxz;have hc1 := HC1.out _ hbz;refine wp_region_mix (fun w' => w' = W4.drew) true 5 [(0, false), (1, false), (2, false), (3, false), (4, false), (5, true)] (by kernel_rfl) (by kernel_rfl) rfl ?_;simp only [planned, plnLz]
  iterate 5
   refine mix_readE rfl ?_;apply Exists.intro;refine ⟨fun w' hw => ?_, ?_⟩
   ·
    subst hw;go_simp;rfl
   simp only [putLz]
  refine mix_last rfl (fun K hK => ?_);unfold Oper.wp;go_simp;rw [<- HREF.out];refine (HSET.out _ (below_drewN hbz 1)).mono ?_;rintro x w5 ⟨rfl, hs5, hc5, hl5⟩;refine hK _ _ (np_normal ?_);have HS5 := Lib.hid hs5;have HC5 := Lib.hid hc5;have HL5 := Lib.hid hl5;clear hs5 hc5 hl5 hxz hbz z0 z1 z2 z3 z4 zz hc1;go_wp2_with fail;refine (HMORE.out _ HS5.out HL5.out HC5.out).mono ?_;rintro x w6 ⟨rfl, hp⟩;have HP := Lib.hid hp;clear hp;go_wp2_with fail;go_ret;exact HP.out
open Go.RowKit
structure TakeRel (p p' : PoolD) (id : Nat) (n : RN) : Prop where
 get : ∀ i, p'.get i = if i = id then some { n with id := id } else p.get i
 none : p.tk id = false
 pos : 0 < id
 lt : id < p'.at_.length
 le : p.at_.length <= p'.at_.length
 many : p'.many = p.many + 1
 room : p'.room = p.room
theorem poolTake_any (o : Own) (pb : Nat) (p : PoolD) (n : RN) (w : World) (h : PoolAt o w pb p) (hlt : OwnLt o w) :
 Calls Tryz.prog 154 #[.pointer (some ⟨pb, 0, none⟩), rnAgg n] w fun x w' => (p.many = p.room /\ x = .returned (.tuple #[.int .i64 0, .int .i64 7]) /\ Below w.heap.size w w') \/
  (∃ id p' o', x = .returned (.tuple #[.int .i64 (id : Nat), .int .i64 0]) /\ PoolAt o' w' pb p' /\ TakeRel p p' id n /\ Chg RPool o o' w w' /\ OwnLt o' w') := by
 rcases List.eq_nil_or_concat p.free with hf | ⟨fs, id, hf⟩
 ·
  by_cases hr : p.at_.length <= p.room
  ·
   refine (poolTake_fresh o pb p n w h hlt hf hr).mono ?_;rintro e w' ⟨rfl, o', h1, h2, h3⟩;refine .inr ⟨_, _, o', rfl, h1, ⟨fun i => PoolD.fresh_get h.len i, ?_, h.pos, by simp [PoolD.fresh], by simp [PoolD.fresh], rfl, rfl⟩, h2, h3⟩;simp [PoolD.tk, List.getD, List.getElem?_eq_none (Nat.le_of_eq h.len)]
  ·
   refine (poolTake_full o pb p n w h hf (by omega)).mono ?_;rintro e w' ⟨rfl, hb⟩;refine .inl ⟨?_, rfl, hb⟩;have h1 := h.many;have h2 := h.top;rw [hf] at h1;simp at h1;omega
 ·
  rw [List.concat_eq_append] at hf;have hm := h.free id (by rw [hf]; simp);refine (poolTake_reuse o pb p n fs id w h hlt hf).mono ?_;rintro e w' ⟨rfl, h1, h2, h3⟩;exact .inr ⟨id, _, o, rfl, h1, ⟨fun i => PoolD.reuse_get hm.2.1 (by rw [h.len]; exact hm.2.1) i, hm.2.2, hm.1, by simp [PoolD.reuse]; exact hm.2.1, by simp [PoolD.reuse], rfl, rfl⟩, h2, h3⟩
structure AddRel (d d' : StoreD) (id v lo hi : Nat) : Prop where
 vars : d'.vars = d.vars
 level : d'.level = d.level
 tab : d'.tab = fun u => if u = v then putF (d.tab v) (lo, hi) (some id) else d.tab u
 nodes : nodesOf d' = addN (nodesOf d) id ⟨v, lo, hi⟩
 none : nodesOf d id = none
 pos : 0 < id
 many : d'.pool.many = d.pool.many + 1
 room : d'.pool.room = d.pool.room
 ext : extOf d' = fun i => if i = id then 0 else extOf d i
 live : LiveC d' (extOf d')
 clen : d'.counts.length <= 1048578
 cnt : cntOf d' = setC (cntOf d) id 0
def AddPost (o : Own) (w : World) (sb : Nat) (d : StoreD) (v lo hi : Nat) (e : Ending) (w' : World) : Prop :=
 (d.pool.many = d.pool.room /\ e = .returned (.tuple #[.int .i64 0, .int .i64 7]) /\ Below w.heap.size w w') \/
 (∃ id d' o', e = .returned (.tuple #[.int .i64 (id : Nat), .int .i64 0]) /\ StoreAt o' w' sb d' /\ OwnLt o' w' /\ AddRel d d' id v lo hi /\ Chg RStore o o' w w')
theorem deadN_add {k k' : Nat} {N : Nat -> Option BN} {c : Nat -> Nat} {id : Nat} {b : BN} (hlt : ∀ i b, N i = some b -> i < k) (hk : k <= k') (hf : N id = none) (hid : id < k') : deadN k' (addN N id b) (setC c id 0) = deadN k N c + 1 := by
 unfold deadN;rw [sumTo_upd (f := dead1 N c) (j := id) (fun i hi => ?_) k' hid]
 ·
  rw [sumTo_ext (k := k) (fun i hi => ?_) hk]
  ·
   simp [dead1, hf, addN_same, setC]
  ·
   unfold dead1;cases e : N i with
   | none => rfl
   | some b' => exact absurd (hlt i b' e) (by omega)
 ·
  unfold dead1; rw [addN_other _ hi]; simp only [setC, if_neg hi]
section
variable {o o' : Own} {w w' : World} {sb : Nat} {d : StoreD} {s : StoreW}
theorem StoreIn.setVc (h : StoreIn o w sb d s) (hlt : OwnLt o w) {v : Value} {cs : List Nat} (hr : RowR o' w' .counts 3 1 v cs.length (cs.map nat64)) (hc : Chg (· = .counts) o o' w w') : StoreIn o' (w'.setCell ⟨sb, 3, none⟩ v) sb (d.cd cs d.dead) { s with vc := v } := by
 have hob := hc.ext _ _ h.own;have ne : ∀ {b r}, o' b = some r -> r ≠ .store -> b ≠ sb := fun hb hr e => by subst e; rw [hob] at hb; cases hb; exact hr rfl
 have k1 : ∀ {b r}, o' b = some r -> r ≠ .store -> (w'.setCell ⟨sb, 3, none⟩ v).heap[b]? = w'.heap[b]? := fun hb hr => heap_setCell_ne (ne hb hr) _
 refine ⟨hob, hc.ext _ _ h.ownl, heap_setCell_same (k := 3) ((hc.same hlt h.own (by simp)).trans h.blk) _, (k1 (hc.ext _ _ h.ownl) (by simp)).trans ((hc.same hlt h.ownl (by simp)).trans h.lev),
  (h.vars.chg hc hlt (by simp)).keep (fun g hg => k1 hg (by simp)) (fun _ h => h), (h.level.chg hc hlt (by simp)).keep (fun g hg => k1 hg (by simp)) (fun _ h => h),
  (h.pool.chg hc hlt (by simp) (by simp) (by simp) (by simp)).keep (fun g r hg hr => k1 hg (by rcases hr with rfl | rfl | rfl | rfl <;> simp)) (fun _ _ h => h),
  (h.tabs.chg hc hlt (by simp)).keep (fun g hg => k1 hg (by simp)) (fun _ h => h),
  fun u hu => ((h.tab u hu).chg hc hlt (by simp) (by simp)).keep (fun g r hg hr => k1 hg (by rcases hr with rfl | rfl <;> simp)) (fun _ _ h => h),
  hr.keep (fun g hg => k1 hg (by simp)) (fun _ h => h), h.len, h.tlen⟩
end
theorem StoreIn.tabAt {o : Own} {w : World} {sb : Nat} {d : StoreD} {s : StoreW} (h : StoreIn o w sb d s) {v : Nat} (hv : v < d.vars.length) : ∃ gt cap, s.vt = .slice (some ⟨gt, 0, none⟩) s.ts.length cap /\ w.cell? ⟨gt, v, none⟩ = some (.pointer (some ⟨s.ts.getD v 0, 0, none⟩)) /\ v < s.ts.length /\ s.ts.length <= 9223372036854775807 := by
 have hvl : v < s.ts.length := by rw [h.tlen]; exact hv
 obtain ⟨gt, cap, hvt, _, h1, h2⟩ := h.tabs.shape (by omega);have hr := h.tabs;rw [hvt] at hr;refine ⟨gt, cap, hvt, ?_, hvl, by unfold maxLen at h2; omega⟩;rw [hr.cell v (by simpa using hvl), List.getElem?_map, List.getElem?_eq_getElem hvl];simp [ptrV, List.getD, hvl]
structure AddS (o : Own) (w : World) (sb : Nat) (d : StoreD) (ts : List Nat) (vt : Value) (o1 : Own) (wx : World) : Prop where
 st : ∃ s, StoreIn o1 wx sb d s /\ s.ts = ts /\ s.vt = vt
 lt : OwnLt o1 wx
 chg : Chg RStore o o1 w wx
theorem infoInt64 : (Tryz.prog.info? 3).map (fun i => (i.zero, i.size, i.bytes)) = some (some (.int .i64 0), 1, 8) := by kernel_rfl
def padC (cs : List Nat) (j : Nat) : List Nat := cs ++ List.replicate j 0
theorem padC_succ (cs : List Nat) (j : Nat) : padC cs (j + 1) = padC cs j ++ [0] := by unfold padC; rw [List.replicate_succ', List.append_assoc]
theorem padC_len (cs : List Nat) (j : Nat) : (padC cs j).length = cs.length + j := by simp [padC]
theorem padC_get (cs : List Nat) (j i : Nat) : (padC cs j).getD i 0 = cs.getD i 0 := by
 unfold padC;simp only [List.getD, List.getElem?_append];split
 ·
  rfl
 ·
  rename_i h
  rw [List.getElem?_eq_none (l := cs) (by omega), List.getElem?_replicate];split <;> rfl
def StoreD.added (d : StoreD) (p' : PoolD) (cs : List Nat) (id v lo hi : Nat) : StoreD := ⟨d.vars, d.level, p', fun u => if u = v then putF (d.tab v) (lo, hi) (some id) else d.tab u, cs.set id 0, d.dead + 1⟩
theorem added_rel {d : StoreD} {p' : PoolD} {id v lo hi j : Nat} (hl : LiveC d (extOf d)) (hok : ∀ i b, nodesOf d i = some b -> okE (nodesOf d) b.lo /\ okE (nodesOf d) b.hi) (hr : TakeRel d.pool p' id ⟨0, v, lo, hi, 0⟩)
 (hid : id < (padC d.counts j).length) (hcl : (padC d.counts j).length <= 1048578) : AddRel d (d.added p' (padC d.counts j) id v lo hi) id v lo hi := by
 have hnone : nodesOf d id = none := by unfold nodesOf PoolD.get; rw [if_neg (by rw [hr.none]; simp)]; rfl
 have hnodes : nodesOf (d.added p' (padC d.counts j) id v lo hi) = addN (nodesOf d) id ⟨v, lo, hi⟩ := by
  funext i;unfold nodesOf StoreD.added;dsimp only;rw [hr.get]
  by_cases e : i = id
  ·
   subst e; rw [if_pos rfl, addN_same]; rfl
  ·
   rw [if_neg e, addN_other _ e]
 have htk : ∀ i, p'.tk i = if i = id then true else d.pool.tk i := fun i => by
  have h1 := hr.get i;unfold PoolD.get at h1
  by_cases e : i = id
  ·
   rw [if_pos e] at h1 ⊢;split at h1
   ·
    assumption
   ·
    cases h1
  ·
   rw [if_neg e] at h1 ⊢
   by_cases h2 : p'.tk i = true <;> by_cases h3 : d.pool.tk i = true <;> simp [h2, h3] at h1 ⊢
 have hext : extOf (d.added p' (padC d.counts j) id v lo hi) = fun i => if i = id then 0 else extOf d i := by
  funext i;unfold extOf;have h1 := hr.get i
  show (if p'.tk i = true then ((p'.nd i).refs : Int) else 0) = _
  rw [htk];unfold PoolD.get at h1;rw [htk] at h1
  by_cases e : i = id
  ·
   rw [if_pos e] at h1;simp only [e, if_true] at h1 ⊢;have h2 := Option.some.inj h1;rw [h2]; rfl
  ·
   rw [if_neg e] at h1;simp only [if_neg e] at h1 ⊢
   by_cases h3 : d.pool.tk i = true
   ·
    rw [if_pos h3, if_pos h3] at h1;rw [if_pos h3, if_pos h3, Option.some.inj h1]
   ·
    rw [if_neg h3, if_neg h3]
 have hcnt : cntOf (d.added p' (padC d.counts j) id v lo hi) = setC (cntOf d) id 0 := by
  funext i;unfold cntOf setC StoreD.added;dsimp only
  by_cases e : i = id
  ·
   subst e; rw [if_pos rfl]; simp [List.getD, hid]
  ·
   rw [if_neg e, <- padC_get d.counts j i];simp only [List.getD, List.getElem?_set, if_neg (Ne.symm e)]
 have hn0 : id ≠ 0 := by have := hr.pos; omega
 refine ⟨rfl, rfl, rfl, hnodes, hnone, hr.pos, hr.many, hr.room, hext, ⟨?_, ?_, fun i b hb => ?_⟩, by simpa [StoreD.added] using hcl, hcnt⟩
 ·
  rw [hnodes, hcnt, hext]
  show Cnt p'.at_.length _ _ _
  refine Cnt.add (hl.cnt.weaken hr.le) hnone (fun i bi hb => ?_) hr.lt;have h1 := hok i bi hb;constructor
  ·
   rcases h1.1 with h2 | ⟨c, h2⟩
   ·
    omega
   ·
    intro e; rw [e, hnone] at h2; cases h2
  ·
   rcases h1.2 with h2 | ⟨c, h2⟩
   ·
    omega
   ·
    intro e; rw [e, hnone] at h2; cases h2
 ·
  rw [hnodes, hcnt]
  show ((d.dead + 1 : Nat) : Int) = deadN p'.at_.length _ _
  rw [deadN_add hl.cnt.lt hr.le hnone hr.lt, <- hl.dead]; omega
 ·
  rw [hnodes] at hb
  show i < ((padC d.counts j).set id 0).length
  rw [List.length_set]
  by_cases e : i = id
  ·
   subst e; exact hid
  ·
   rw [addN_other _ e] at hb;have := hl.has i b hb;rw [padC_len]; omega
theorem storeAdd_any {o : Own} {w : World} {sb : Nat} {d : StoreD} {s : StoreW} (h : StoreIn o w sb d s) (hlt : OwnLt o w) (hl : LiveC d (extOf d)) (hok : ∀ i b, nodesOf d i = some b -> okE (nodesOf d) b.lo /\ okE (nodesOf d) b.hi)
 (v lo hi : Nat) (hv : v < d.vars.length) (ht : d.tab v (lo, hi) = none) (hcl : d.counts.length <= 1048578) :
 Calls Tryz.prog 129 #[.pointer (some ⟨sb, 0, none⟩), .int .i64 v, .int .i64 lo, .int .i64 hi] w (AddPost o w sb d v lo hi) := by
 obtain ⟨c0, c1, c2, c3, c4, f0⟩ := cells5 h.blk;have HTAKE := Lib.hid (poolTake_any o s.pb d.pool ⟨0, v, lo, hi, 0⟩ w h.pool hlt);have HRN : Hid (rnAgg ⟨0, v, lo, hi, 0⟩ = .agg #[.int .i64 0, .int .i64 v, .int .i64 lo, .int .i64 hi, .int .i64 0]) := rfl;have HH := Lib.hid h;have HLT := Lib.hid hlt;have HREL := Lib.hid (fun p' id j hr h1 h2 => added_rel (p' := p') (id := id) (v := v) (lo := lo) (hi := hi) (j := j) hl hok hr h1 h2);have HREL2 : Hid (d.dead <= 1048577) := by
  show _ <= _
  have h1 := hl.dead;have h2 := sumTo_le (f := dead1 (nodesOf d) (cntOf d)) (B := 1) d.pool.at_.length (fun i _ => by unfold dead1; split <;> first | omega | (split <;> omega));have h3 : deadN d.pool.at_.length (nodesOf d) (cntOf d) = sumTo d.pool.at_.length (dead1 (nodesOf d) (cntOf d)) := rfl;have h4 := h.pool.top;have h5 := h.pool.room;omega
 have HV := Lib.hid hv;have HT := Lib.hid ht;clear h hlt hl hok hv ht
 go_enter Tryz.func129, Tryz.ntmps129
 go_wp2_with fail;rw [<- HRN.out];refine HTAKE.out.mono ?_;rintro x w1 (⟨hm, rfl, hb⟩ | ⟨id, p', o1, rfl, hp, hr, hc, hl1⟩)
 ·
  have HM := Lib.hid hm;have HB := Lib.hid hb;clear hm hb;go_wp2_with fail
  go_ret2
  exact .inl ⟨HM.out, rfl, HB.out⟩
 ·
  have st1 := HH.out.setPool HLT.out hp hc;have hpl := hp.tk_lt (i := id) (by have h1 := hr.get id; unfold PoolD.get at h1; rw [if_pos rfl] at h1; split at h1; (· assumption); cases h1);have hpt := hp.top;have hpr := hp.room;have HS1 : Hid (AddS o w sb { d with pool := p' } s.ts s.vt o1 w1) := ⟨⟨s, st1, rfl, rfl⟩, hl1, hc.mono (fun r hr => by simp [RStore, hr])⟩;have HR := Lib.hid hr;have hidl : id <= 1048577 := by omega
  clear hp hr hc hl1 st1 HTAKE hpl hpt hpr c0 c1 c2 c3 c4 f0;go_wp2_with fail
  go_loopg [] (id + 1 - d.counts.length) (fun gk wx => ∃ (j : Nat) (o2 : Own), AddS o w sb { d with pool := p', counts := padC d.counts j } s.ts s.vt o2 wx /\ j + gk = id + 1 - d.counts.length)
  case atStart => exact ⟨0, o1, by have e : padC d.counts 0 = d.counts := by { simp [padC] }; rw [e]; exact HS1.out, by omega⟩
  case round =>
   obtain ⟨j, o2, hS, hj⟩ := hrel;obtain ⟨⟨s2, hst, hts, hvt⟩, hl2, hc2⟩ := hS;clear HS1;obtain ⟨c0, c1, c2, c3, c4, f0⟩ := cells5 hst.blk;have lsb : sb < wr.heap.size := lt_of_cell c0;have hclen : (padC d.counts j).length <= 1048578 := by rw [padC_len]; omega
   have HST := Lib.hid hst;have HL2 := Lib.hid hl2;have HC2 := Lib.hid hc2;have HTS := Lib.hid hts;have HVT := Lib.hid hvt
   by_cases hlt : (padC d.counts j).length <= id
   ·
    obtain ⟨a, cap, hv, hcc, hcm, hnil, _⟩ := hst.counts.slice;have hvv : s2.vc = .slice a (padC d.counts j).length cap := hv;rw [hvv] at c3;have HJ := Lib.hid hj;have HCO : RowR o2 wr .counts 3 1 (.slice a (padC d.counts j).length cap) (padC d.counts j).length ((padC d.counts j).map nat64) := by have := hst.counts; rw [hvv] at this; exact this
    have hgk : 0 < gk := by rw [padC_len] at hlt; omega
    have hle : ((padC d.counts j).length : Int) <= id := by omega
    obtain ⟨cl, hcl'⟩ : ∃ n, n = (padC d.counts j).length := ⟨_, rfl⟩;rw [<- hcl'] at hclen hlt hle c3 HCO;have HCO2 := Lib.hid HCO;have HCL := Lib.hid hcl';clear hst hl2 hc2 hts hvt hv hvv HCO hj hcl'
    go_wp2_with (at_builtin
                 refine wpList_appOne 22 3 1 8 _ Tryz.underlying22 infoInt64 rfl (by decide) rfl _ _ rfl rfl rfl rfl (by simp) rfl (fun u hu => by simp at hu; subst hu; rfl) HCO2.out HL2.out (by omega) (by decide) ?_;intro g1 k1 w2 o3 hr1 hc1 hl1;obtain ⟨q0, q1, q2, q3, q4, fq⟩ := cells5 ((hc1.same HL2.out HST.out.own (by simp)).trans HST.out.blk);have HR1 := Lib.hid hr1;have HC1 := Lib.hid hc1;have HL1 := Lib.hid hl1;clear hr1 hc1 hl1 c0 c1 c2 c3 c4 f0)
    have hr2 := HR1.out;rw [show (padC d.counts j).map nat64 ++ (#[Value.int .i64 0] : Array Value).toList = (padC d.counts (j + 1)).map nat64 from by rw [padC_succ, List.map_append]; rfl] at hr2;have e1 : cl + 1 = (padC d.counts (j + 1)).length := by rw [HCL.out, padC_len, padC_len]; omega
    have HST3 := Lib.hid (HST.out.setVc (cs := padC d.counts (j + 1)) HL2.out (by rw [<- e1]; exact hr2) HC1.out);have HS3 : Hid (AddS o w sb { d with pool := p', counts := padC d.counts (j + 1) } s.ts s.vt o3 (w2.setCell ⟨sb, 3, none⟩ (.slice (some ⟨g1, 0, none⟩) (cl + 1) k1))) := ⟨⟨_, HST3.out, HTS.out, HVT.out⟩, HL1.out.mono (by simp [World.setCell]), (HC2.out.trans (HC1.out.mono (fun r hr => by simp [RStore, hr]))).setCell (p := ⟨sb, 3, none⟩) (HC1.out.ext _ _ HST.out.own) (.inl rfl) _⟩;clear hr2 e1
    go_roundg (gk - 1)
    case measure => omega
    case rel => exact ⟨j + 1, o3, HS3.out, by have := HJ.out; omega⟩
   ·
    have hidc : id < (padC d.counts j).length := by omega
    have hle : (id : Int) < (padC d.counts j).length := by omega
    obtain ⟨gc, cap, hvc, hgo, hne, hlc, hcm, hfz, hcell⟩ := hst.countsAt hidc;have hvv : s2.vc = .slice (some ⟨gc, 0, none⟩) (padC d.counts j).length cap := hvc;rw [hvv] at c3;have hcx := hcell _ hidc;have hfx := hfz id;have hne' : sb ≠ gc := fun e => hne e.symm
    have st3 := hst.setCount hvc hne id 0;have lt3 : OwnLt o2 (wr.setCell ⟨gc, id, none⟩ (.int .i64 ((0 : Nat) : Int))) := hl2.mono (by simp [World.setCell]);have st4 := st3.setDead lt3 (d.dead + 1);have lt4 : OwnLt o2 ((wr.setCell ⟨gc, id, none⟩ (.int .i64 ((0 : Nat) : Int))).setCell ⟨sb, 4, none⟩ (.int .i64 ((d.dead + 1 : Nat) : Int))) := lt3.mono (by simp [World.setCell]);have ch4 := (hc2.setCell (p := ⟨gc, id, none⟩) hgo (by simp [RStore]) (.int .i64 ((0 : Nat) : Int))).setCell (p := ⟨sb, 4, none⟩) hst.own (by simp [RStore]) (.int .i64 ((d.dead + 1 : Nat) : Int));have hdb : d.dead <= 1048577 := HREL2.out;have hclen' : (padC d.counts j).length <= 9223372036854775807 := by omega
    obtain ⟨W4, hW4⟩ : ∃ W, W = (wr.setCell ⟨gc, id, none⟩ (.int .i64 ((0 : Nat) : Int))).setCell ⟨sb, 4, none⟩ (.int .i64 ((d.dead + 1 : Nat) : Int)) := ⟨_, rfl⟩;rw [<- hW4] at st4 lt4 ch4;have HWE : Hid (W4 = (wr.setCell ⟨gc, id, none⟩ (.int .i64 0)).setCell ⟨sb, 4, none⟩ (.int .i64 ((d.dead : Int) + 1))) := by
     show _ = _
     rw [hW4, show ((d.dead + 1 : Nat) : Int) = (d.dead : Int) + 1 from by omega]; rfl
    have HS4 := Lib.hid st4;have HL4 := Lib.hid lt4;have HC4 := Lib.hid ch4;have HID := Lib.hid hidc;obtain ⟨cl, hcl'⟩ : ∃ n, n = (padC d.counts j).length := ⟨_, rfl⟩;rw [<- hcl'] at hle c3 hclen hclen';have HCLE : Hid ((padC d.counts j).length <= 1048578) := by show _ <= _; omega
    obtain ⟨dn, hdn⟩ : ∃ n, n = d.dead := ⟨_, rfl⟩;have c4' : wr.cell? ⟨sb, 4, none⟩ = some (.int .i64 (dn : Nat)) := by rw [hdn]; exact c4
    rw [<- hdn] at hdb HWE;clear hst hl2 hc2 hts hvt hvc hgo hne hlc hcm hfz hcell hvv st3 lt3 st4 lt4 ch4 hW4 hlt hidc c4 hcl' hdn HST HL2 HC2 hj;have hle2 : ¬ ((cl : Int) <= id) := by omega
    go_upto_region 8 with fail;rw [<- HWE.out];clear HWE c0 c1 c2 c3 c4' f0 hcx hfx hne' hle hle2 hdb hclen hclen';obtain ⟨c0, c1, c2, c3, c4, f0⟩ := cells5 HS4.out.blk;obtain ⟨gt, ct, hvt, cellv, hvl⟩ := HS4.out.tabAt (v := v) HV.out;rw [hvt] at c2;have hti := HS4.out.tab v (by rw [HS4.out.tlen]; exact HV.out);have HPUT := Lib.hid (put_any o2 v (s2.ts.getD v 0) (d.tab v) lo hi id W4 hti HL4.out HT.out);have hvl' : (v : Int) < s2.ts.length := by omega
    obtain ⟨tv, htv⟩ : ∃ t, t = s2.ts.getD v 0 := ⟨_, rfl⟩;rw [<- htv] at cellv HPUT;have HTV := Lib.hid htv;have htl : s2.ts.length <= 9223372036854775807 := hvl.2;clear hti htv hvt hvl;go_wp2_with fail;refine HPUT.out.mono ?_;rintro x w5 ⟨rfl, ht5, hc5, hl5⟩;rw [HTV.out] at ht5;have HS5 := Lib.hid (HS4.out.setTab HL4.out ht5 hc5);have HL5 := Lib.hid hl5;have HC5 := Lib.hid (HC4.out.trans (hc5.mono (fun r hr => by simp [RStore, hr])));clear ht5 hc5 hl5 c0 c1 c2 c3 c4 f0 cellv;go_wp2_with fail
    go_ret2
    exact .inr ⟨id, d.added p' (padC d.counts j) id v lo hi, o2, rfl, ⟨s2, HS5.out⟩, HL5.out, HREL.out p' id j HR.out HID.out HCLE.out, HC5.out⟩
open Go.RowKit
def levN (d : StoreD) (v : Nat) : Nat := d.level.getD v 0
structure StoreOK (d : StoreD) (V : Nat -> BF) : Prop where
 dag : Dag d.vars.length (levN d) (nodesOf d) V
 live : LiveC d (extOf d)
 tab : ∀ v, v < d.vars.length -> ∀ lo hi id, d.tab v (lo, hi) = some id ↔ nodesOf d id = some ⟨v, lo, hi⟩
 clen : d.counts.length <= 1048578
 small : d.vars.length <= 64
 inv : ∀ v, v < d.vars.length -> d.vars.getD (levN d v) 0 = v
 vlt : ∀ i, i < d.vars.length -> d.vars.getD i 0 < d.vars.length /\ levN d (d.vars.getD i 0) = i
structure Ext (d : StoreD) (V : Nat -> BF) (d' : StoreD) (V' : Nat -> BF) : Prop where
 vars : d'.vars = d.vars
 level : d'.level = d.level
 room : d'.pool.room = d.pool.room
 nodes : ∀ i b, nodesOf d i = some b -> nodesOf d' i = some b
 val : ∀ i, (i = 0 \/ ∃ b, nodesOf d i = some b) -> V' i = V i
 ext : ∀ i b, nodesOf d i = some b -> extOf d' i = extOf d i
 ext0 : ∀ i, nodesOf d i = none -> extOf d' i = 0
 many : d.pool.many <= d'.pool.many
theorem extOf_none {d : StoreD} {i : Nat} (h : nodesOf d i = none) : extOf d i = 0 := by unfold extOf; rw [nodesOf_none h]; simp
theorem Ext.refl (d : StoreD) (V : Nat -> BF) : Ext d V d V := ⟨rfl, rfl, rfl, fun _ _ h => h, fun _ _ => rfl, fun _ _ _ => rfl, fun _ h => extOf_none h, Nat.le_refl _⟩
theorem Ext.trans {d d' d'' : StoreD} {V V' V'' : Nat -> BF} (h : Ext d V d' V') (h' : Ext d' V' d'' V'') : Ext d V d'' V'' := by
 refine ⟨h'.vars.trans h.vars, h'.level.trans h.level, h'.room.trans h.room, fun i b hb => h'.nodes i b (h.nodes i b hb), fun i hi => ?_, fun i b hb => ?_, fun i hi => ?_, Nat.le_trans h.many h'.many⟩
 ·
  rw [h'.val i (hi.imp id fun ⟨b, hb⟩ => ⟨b, h.nodes i b hb⟩)]; exact h.val i hi
 ·
  rw [h'.ext i b (h.nodes i b hb)]; exact h.ext i b hb
 ·
  cases e : nodesOf d' i with
  | none => exact h'.ext0 i e
  | some b => rw [h'.ext i b e]; exact h.ext0 i hi
section
variable {d d' : StoreD} {V V' : Nat -> BF}
theorem Ext.ok (h : Ext d V d' V') {e : Nat} (he : okE (nodesOf d) e) : okE (nodesOf d') e := he.imp id fun ⟨b, hb⟩ => ⟨b, h.nodes _ b hb⟩
theorem Ext.ef (h : Ext d V d' V') {e : Nat} (he : okE (nodesOf d) e) : ef V' e = ef V e := by
 funext ρ;unfold Go.Proofs.YtchliiaknmknhaaGreat.ef;rw [h.val (e / 2) he]
theorem Ext.lev (h : Ext d V d' V') : levN d' = levN d := by funext v; unfold levN; rw [h.level]
theorem Ext.lvE (h : Ext d V d' V') {n : Nat} {e : Nat} (he : okE (nodesOf d) e) (h0 : nodesOf d 0 = none) (h0' : nodesOf d' 0 = none) : lvE n (levN d') (nodesOf d') e = lvE n (levN d) (nodesOf d) e := by
 unfold Go.Proofs.YtchliiaknmknhaaGreat.lvE;rw [h.lev];rcases he with he | ⟨b, hb⟩
 ·
  rw [he, h0, h0']
 ·
  rw [hb, h.nodes _ b hb]
theorem addRel_ok {id v lo hi : Nat} (h : StoreOK d V) (r : AddRel d d' id v lo hi) (hv : v < d.vars.length) (hlo : okE (nodesOf d) lo) (hhi : okE (nodesOf d) hi)
 (llo : levN d v < lvE d.vars.length (levN d) (nodesOf d) lo) (lhi : levN d v < lvE d.vars.length (levN d) (nodesOf d) hi) (hr : hi % 2 = 0) (hne : lo ≠ hi) (ht : d.tab v (lo, hi) = none) :
 StoreOK d' (addV V id ⟨v, lo, hi⟩) /\ Ext d V d' (addV V id ⟨v, lo, hi⟩) := by
 have hnew : ∀ i, nodesOf d i ≠ some ⟨v, lo, hi⟩ := fun i e => by rw [(h.tab v hv lo hi i).2 e] at ht; cases ht
 have hl : levN d' = levN d := by funext u; unfold levN; rw [r.level]
 have hid : id ≠ 0 := by have := r.pos; omega
 refine ⟨⟨?_, r.live, fun u hu lo' hi' i => ?_, r.clen, by rw [r.vars]; exact h.small, ?_, ?_⟩, ⟨r.vars, r.level, r.room, fun i b hb => ?_, fun i hi' => ?_, fun i b hb => ?_, fun i hi' => ?_, by rw [r.many]; omega⟩⟩
 ·
  rw [r.vars, hl, r.nodes];exact h.dag.add r.none hid hv hlo hhi llo lhi hr hne hnew
 ·
  rw [r.vars] at hu;rw [r.tab, r.nodes];dsimp only
  by_cases e : u = v
  ·
   subst e;rw [if_pos rfl];unfold putF
   by_cases e2 : (lo', hi') = (lo, hi)
   ·
    cases e2;rw [if_pos rfl];constructor
    ·
     intro e3; cases e3; rw [addN_same]
    ·
     intro e3
     by_cases e4 : i = id
     ·
      rw [e4]
     ·
      rw [addN_other _ e4] at e3; exact absurd e3 (hnew i)
   ·
    rw [if_neg e2, h.tab u hu]
    by_cases e4 : i = id
    ·
     subst e4;rw [addN_same, r.none];constructor
     ·
      intro e5; cases e5
     ·
      intro e5; cases e5; exact absurd rfl e2
    ·
     rw [addN_other _ e4]
  ·
   rw [if_neg e, h.tab u hu]
   by_cases e4 : i = id
   ·
    subst e4;rw [addN_same, r.none];constructor
    ·
     intro e5; cases e5
    ·
     intro e5; cases e5; exact absurd rfl e
   ·
    rw [addN_other _ e4]
 ·
  rw [r.vars, hl]; exact h.inv
 ·
  rw [r.vars, hl]; exact h.vlt
 ·
  rw [r.nodes]; exact addN_old r.none hb
 ·
  unfold addV;rw [if_neg];rintro rfl;rcases hi' with hi' | ⟨b, hb⟩
  ·
   exact hid hi'
  ·
   rw [r.none] at hb; cases hb
 ·
  rw [r.ext];dsimp only;rw [if_neg];rintro rfl;rw [r.none] at hb; cases hb
 ·
  rw [r.ext];dsimp only;split
  ·
   rfl
  ·
   exact extOf_none hi'
theorem node_ef (h : StoreOK d V) {id v lo hi : Nat} (hb : nodesOf d id = some ⟨v, eflip lo (eneg hi), eflip hi (eneg hi)⟩) : ef V (eflip (2 * id) (eneg hi)) = iteF v (ef V hi) (ef V lo) := by
 funext ρ;have h1 := h.dag.eqn id _ hb;have h2 : ef V (2 * id) = V id := by
  funext ρ;have e1 : 2 * id / 2 = id := by omega
  have e2 : 2 * id % 2 = 0 := by omega
  simp [ef, e1, e2]
 rw [ef_eflip, h2, h1];simp only [iteF];rw [ef_eflip, ef_eflip];cases ρ v <;> cases eneg hi <;> simp
theorem eflip_even (hi : Nat) : eflip hi (eneg hi) % 2 = 0 := by
 unfold eflip eneg;rcases Nat.mod_two_eq_zero_or_one hi with h | h
 ·
  simp [h]
 ·
  simp [h, enot_mod]
theorem eflip_ne {lo hi : Nat} {b : Bool} (h : lo ≠ hi) : eflip lo b ≠ eflip hi b := by
 unfold eflip;cases b
 ·
  simpa using h
 ·
  simp only [if_true];intro e;have := congrArg enot e;rw [enot_enot, enot_enot] at this;exact h this
theorem lvE_eflip {n : Nat} {lev : Nat -> Nat} {N : Nat -> Option BN} {e : Nat} {b : Bool} : lvE n lev N (eflip e b) = lvE n lev N e := by unfold lvE; rw [eflip_half]
end
def levelZ (d : StoreD) (v : Int) : Int := if 0 <= v /\ v < d.level.length then (levN d v.toNat : Nat) else -1
theorem levelZ_nat (d : StoreD) (v : Nat) : levelZ d v = d.levelOf v := by
 unfold levelZ StoreD.levelOf levN
 by_cases h : v < d.level.length
 ·
  rw [if_pos ⟨by omega, by omega⟩, if_pos h]; rfl
 ·
  rw [if_neg (by omega), if_neg h]
theorem levelsLevel_neg {o : Own} {w : World} {sb : Nat} {d : StoreD} {s : StoreW} (h : StoreIn o w sb d s) (v : Int) (hv : v < 0) :
 Calls Tryz.prog 116 #[.pointer (some ⟨s.lb, 0, none⟩), .int .i64 v] w fun x w' => x = .returned (.int .i64 (-1)) /\ w = w' := by
 clear h
 go_enter Tryz.func116, Tryz.ntmps116
 go_wp2_with fail;go_ret;exact ⟨rfl, rfl⟩
theorem storeLevel_neg {o : Own} {w : World} {sb : Nat} {d : StoreD} {s : StoreW} (h : StoreIn o w sb d s) (v : Int) (hv : v < 0) :
 Calls Tryz.prog 77 #[.pointer (some ⟨sb, 0, none⟩), .int .i64 v] w fun x w' => x = .returned (.int .i64 (-1)) /\ w = w' := by
 obtain ⟨c0, c1, c2, c3, c4, f0⟩ := cells5 h.blk;have HC := Lib.hid (levelsLevel_neg h v hv);clear h hv
 go_enter Tryz.func77, Tryz.ntmps77
 go_wp2_with fail;refine HC.out.mono ?_;rintro x w' ⟨rfl, rfl⟩;go_wp2_with fail;go_ret;exact ⟨rfl, rfl⟩
theorem storeLevelZ {o : Own} {w : World} {sb : Nat} {d : StoreD} {s : StoreW} (h : StoreIn o w sb d s) (v : Int) (hbig : d.level.length < 1000000) :
 Calls Tryz.prog 77 #[.pointer (some ⟨sb, 0, none⟩), .int .i64 v] w fun x w' => x = .returned (.int .i64 (levelZ d v)) /\ w = w' := by
 by_cases h0 : v < 0
 ·
  have e : levelZ d v = -1 := by unfold levelZ; rw [if_neg (by omega)]
  rw [e]; exact storeLevel_neg h v h0
 ·
  obtain ⟨n, rfl⟩ := Int.eq_ofNat_of_zero_le (by omega : 0 <= v);have e := levelZ_nat d n;rw [e]; exact storeLevel_any h n hbig
open Go.RowKit
def MkPost (o : Own) (w : World) (sb : Nat) (d : StoreD) (V : Nat -> BF) (v : Int) (lo hi : Nat) (e : Ending) (w' : World) : Prop :=
 (¬ (0 <= v /\ v < d.vars.length) /\ e = .returned (.tuple #[.int .i64 0, .int .i64 9]) /\ Below w.heap.size w w') \/
 (0 <= v /\ v < d.vars.length /\ (lvE d.vars.length (levN d) (nodesOf d) lo <= levN d v.toNat \/ lvE d.vars.length (levN d) (nodesOf d) hi <= levN d v.toNat) /\ e = .returned (.tuple #[.int .i64 0, .int .i64 10]) /\ Below w.heap.size w w') \/
 (d.pool.many = d.pool.room /\ e = .returned (.tuple #[.int .i64 0, .int .i64 7]) /\ Below w.heap.size w w') \/
 (0 <= v /\ v < d.vars.length /\ ∃ r d' V' o', e = .returned (.tuple #[.int .i64 (r : Nat), .int .i64 0]) /\ StoreAt o' w' sb d' /\ OwnLt o' w' /\ StoreOK d' V' /\ Ext d V d' V' /\ okE (nodesOf d') r /\
  ef V' r = iteF v.toNat (ef V hi) (ef V lo) /\ levN d v.toNat <= lvE d.vars.length (levN d') (nodesOf d') r /\ d'.pool.many <= d.pool.many + 1 /\ Chg RStore o o' w w')
theorem under_eq {o : Own} {w : World} {sb : Nat} {d : StoreD} {s : StoreW} {V : Nat -> BF} (h : StoreIn o w sb d s) (hk : StoreOK d V) {f : Nat} (hf : okE (nodesOf d) f) {lv : Nat} (hl : lv < d.vars.length) :
 (decide (enode f = 0) || (d.pool.tk (enode f) && decide ((lv : Int) < d.levelOf (d.pool.has (enode f)).v))) = decide (lv < lvE d.vars.length (levN d) (nodesOf d) f) := by
 unfold lvE;rcases hf with h0 | ⟨b, hb⟩
 ·
  have e : enode f = 0 := h0;rw [h0, hk.dag.none0, e]; simp [hl]
 ·
  have hn := nodesOf_some (i := enode f) hb;have e0 : enode f ≠ 0 := by have := (h.tk_lt (i := enode f) hb).1; omega
  rw [hb, hn.1];have hv : (d.pool.has (enode f)).v = b.v := by rw [<- hn.2.2]; rfl
  have hbv := hk.dag.var _ _ hb;rw [hv];unfold StoreD.levelOf;rw [if_pos (by rw [h.len]; exact hbv)];simp [e0, levN]
theorem is_eq {d : StoreD} {f : Nat} (hf : okE (nodesOf d) f) : (decide (enode f = 0) || d.pool.tk (enode f)) = true := by
 rcases hf with h0 | ⟨b, hb⟩
 ·
  have e : enode f = 0 := h0;simp [e]
 ·
  rw [(nodesOf_some (i := enode f) hb).1]; simp
theorem mk_var {o : Own} {w : World} {sb : Nat} {d : StoreD} {s : StoreW} {V : Nat -> BF} (h : StoreIn o w sb d s) (hk : StoreOK d V) (v : Int) (lo hi : Nat) (hv : ¬ (0 <= v /\ v < d.vars.length)) :
 Calls Tryz.prog 89 #[.pointer (some ⟨sb, 0, none⟩), .int .i64 v, .int .i64 lo, .int .i64 hi] w (MkPost o w sb d V v lo hi) := by
 have HLV := Lib.hid (storeLevelZ h v (by rw [h.len]; have := hk.small; omega));have e : levelZ d v = -1 := by unfold levelZ; rw [if_neg (by rw [h.len]; exact hv)]
 rw [e] at HLV;have HV := Lib.hid hv;clear h hk e hv
 go_enter Tryz.func89, Tryz.ntmps89
 go_wp2_with fail;refine HLV.out.mono ?_;rintro x w' ⟨rfl, rfl⟩;go_wp2_with fail
 go_ret2
 exact .inl ⟨HV.out, rfl, Below.refl _ _⟩
theorem mk_lo {o : Own} {w : World} {sb : Nat} {d : StoreD} {s : StoreW} {V : Nat -> BF} (h : StoreIn o w sb d s) (hlt : OwnLt o w) (hk : StoreOK d V) (v lo hi : Nat) (hv : v < d.vars.length) (hlo : okE (nodesOf d) lo) (hhi : okE (nodesOf d) hi) (hbad : lvE d.vars.length (levN d) (nodesOf d) lo <= levN d v) :
 Calls Tryz.prog 89 #[.pointer (some ⟨sb, 0, none⟩), .int .i64 v, .int .i64 lo, .int .i64 hi] w (MkPost o w sb d V v lo hi) := by
 have hll : levN d v < d.vars.length := hk.dag.lt v hv;have hlol := h.edge_lt hlo;have hhil := h.edge_lt hhi;have hlom : lo < eMax := by unfold eMax; omega
 have hhim : hi < eMax := by unfold eMax; omega
 have hlen : d.level.length < 1000000 := by rw [h.len]; have := hk.small; omega
 have HLV : Hid (∀ W : World, Below w.heap.size w W -> Calls Tryz.prog 77 #[.pointer (some ⟨sb, 0, none⟩), .int .i64 v] W fun x w' => x = .returned (.int .i64 (levN d v : Nat)) /\ W = w') := fun W hb => by
  have h1 := storeLevel_any (h.below hlt hb) v hlen;unfold StoreD.levelOf at h1;rw [if_pos (by rw [h.len]; exact hv)] at h1;exact h1
 have HISL : Hid (∀ W : World, Below w.heap.size w W -> Calls Tryz.prog 87 #[.pointer (some ⟨sb, 0, none⟩), .int .i64 lo] W fun x w' => x = .returned (.bool true) /\ Below W.heap.size W w') := fun W hb => by
  have h1 := storeIs_any (h.below hlt hb) (hlt.mono hb.size) lo hlom;rw [is_eq hlo] at h1; exact h1
 have HISH : Hid (∀ W : World, Below w.heap.size w W -> Calls Tryz.prog 87 #[.pointer (some ⟨sb, 0, none⟩), .int .i64 hi] W fun x w' => x = .returned (.bool true) /\ Below W.heap.size W w') := fun W hb => by
  have h1 := storeIs_any (h.below hlt hb) (hlt.mono hb.size) hi hhim;rw [is_eq hhi] at h1; exact h1
 have HUL : Hid (∀ W : World, Below w.heap.size w W -> Calls Tryz.prog 126 #[.pointer (some ⟨sb, 0, none⟩), .int .i64 lo, .int .i64 (levN d v : Nat)] W fun x w' => x = .returned (.bool (decide (levN d v < lvE d.vars.length (levN d) (nodesOf d) lo))) /\ Below W.heap.size W w') := fun W hb => by
  have h1 := storeUnder_any (h.below hlt hb) (hlt.mono hb.size) lo hlom (levN d v : Nat) hlen;rw [under_eq h hk hlo hll] at h1; exact h1
 have HUH : Hid (∀ W : World, Below w.heap.size w W -> Calls Tryz.prog 126 #[.pointer (some ⟨sb, 0, none⟩), .int .i64 hi, .int .i64 (levN d v : Nat)] W fun x w' => x = .returned (.bool (decide (levN d v < lvE d.vars.length (levN d) (nodesOf d) hi))) /\ Below W.heap.size W w') := fun W hb => by
  have h1 := storeUnder_any (h.below hlt hb) (hlt.mono hb.size) hi hhim (levN d v : Nat) hlen;rw [under_eq h hk hhi hll] at h1; exact h1
 have HPOST : Hid (∀ W, Below w.heap.size w W -> MkPost o w sb d V v lo hi (.returned (.tuple #[.int .i64 0, .int .i64 10])) W) := fun W hb => .inr (.inl ⟨by omega, by omega, .inl hbad, rfl, hb⟩)
 rw [decide_eq_false (by omega)] at HUL;obtain ⟨l, hl⟩ : ∃ l, l = levN d v := ⟨_, rfl⟩;rw [<- hl] at HLV HUL HUH;have hl0 : ¬ ((l : Nat) : Int) < 0 := by omega
 clear h hlt hk hv hlo hhi hbad hll hlol hhil hlom hhim hlen hl
 go_enter Tryz.func89, Tryz.ntmps89
 go_wp2_with fail;refine (HLV.out _ (Below.refl _ _)).mono ?_;rintro x w' ⟨rfl, rfl⟩;go_wp2_with fail;refine (HISL.out _ (Below.refl _ _)).mono ?_;rintro x w1 ⟨rfl, hb1⟩;have HB1 := Lib.hid hb1;clear hb1;go_wp2_with fail;refine (HISH.out _ HB1.out).mono ?_;rintro x w2 ⟨rfl, hb2⟩;have HB2 := Lib.hid (HB1.out.trans (hb2.mono HB1.out.size));clear hb2;go_wp2_with fail;refine (HLV.out _ HB2.out).mono ?_;rintro x w' ⟨rfl, rfl⟩;go_wp2_with fail;refine (HUL.out _ HB2.out).mono ?_;rintro x w3 ⟨rfl, hb3⟩;have HB3 := Lib.hid (HB2.out.trans (hb3.mono HB2.out.size));clear hb3;go_wp2_with fail
 go_ret2
 exact HPOST.out _ HB3.out
theorem mk_hi {o : Own} {w : World} {sb : Nat} {d : StoreD} {s : StoreW} {V : Nat -> BF} (h : StoreIn o w sb d s) (hlt : OwnLt o w) (hk : StoreOK d V) (v lo hi : Nat) (hv : v < d.vars.length) (hlo : okE (nodesOf d) lo) (hhi : okE (nodesOf d) hi) (hbad : lvE d.vars.length (levN d) (nodesOf d) hi <= levN d v) (hgood : levN d v < lvE d.vars.length (levN d) (nodesOf d) lo) :
 Calls Tryz.prog 89 #[.pointer (some ⟨sb, 0, none⟩), .int .i64 v, .int .i64 lo, .int .i64 hi] w (MkPost o w sb d V v lo hi) := by
 have hll : levN d v < d.vars.length := hk.dag.lt v hv;have hlol := h.edge_lt hlo;have hhil := h.edge_lt hhi;have hlom : lo < eMax := by unfold eMax; omega
 have hhim : hi < eMax := by unfold eMax; omega
 have hlen : d.level.length < 1000000 := by rw [h.len]; have := hk.small; omega
 have HLV : Hid (∀ W : World, Below w.heap.size w W -> Calls Tryz.prog 77 #[.pointer (some ⟨sb, 0, none⟩), .int .i64 v] W fun x w' => x = .returned (.int .i64 (levN d v : Nat)) /\ W = w') := fun W hb => by
  have h1 := storeLevel_any (h.below hlt hb) v hlen;unfold StoreD.levelOf at h1;rw [if_pos (by rw [h.len]; exact hv)] at h1;exact h1
 have HISL : Hid (∀ W : World, Below w.heap.size w W -> Calls Tryz.prog 87 #[.pointer (some ⟨sb, 0, none⟩), .int .i64 lo] W fun x w' => x = .returned (.bool true) /\ Below W.heap.size W w') := fun W hb => by
  have h1 := storeIs_any (h.below hlt hb) (hlt.mono hb.size) lo hlom;rw [is_eq hlo] at h1; exact h1
 have HISH : Hid (∀ W : World, Below w.heap.size w W -> Calls Tryz.prog 87 #[.pointer (some ⟨sb, 0, none⟩), .int .i64 hi] W fun x w' => x = .returned (.bool true) /\ Below W.heap.size W w') := fun W hb => by
  have h1 := storeIs_any (h.below hlt hb) (hlt.mono hb.size) hi hhim;rw [is_eq hhi] at h1; exact h1
 have HUL : Hid (∀ W : World, Below w.heap.size w W -> Calls Tryz.prog 126 #[.pointer (some ⟨sb, 0, none⟩), .int .i64 lo, .int .i64 (levN d v : Nat)] W fun x w' => x = .returned (.bool (decide (levN d v < lvE d.vars.length (levN d) (nodesOf d) lo))) /\ Below W.heap.size W w') := fun W hb => by
  have h1 := storeUnder_any (h.below hlt hb) (hlt.mono hb.size) lo hlom (levN d v : Nat) hlen;rw [under_eq h hk hlo hll] at h1; exact h1
 have HUH : Hid (∀ W : World, Below w.heap.size w W -> Calls Tryz.prog 126 #[.pointer (some ⟨sb, 0, none⟩), .int .i64 hi, .int .i64 (levN d v : Nat)] W fun x w' => x = .returned (.bool (decide (levN d v < lvE d.vars.length (levN d) (nodesOf d) hi))) /\ Below W.heap.size W w') := fun W hb => by
  have h1 := storeUnder_any (h.below hlt hb) (hlt.mono hb.size) hi hhim (levN d v : Nat) hlen;rw [under_eq h hk hhi hll] at h1; exact h1
 have HPOST : Hid (∀ W, Below w.heap.size w W -> MkPost o w sb d V v lo hi (.returned (.tuple #[.int .i64 0, .int .i64 10])) W) := fun W hb => .inr (.inl ⟨by omega, by omega, .inr hbad, rfl, hb⟩)
 rw [decide_eq_true hgood] at HUL;rw [decide_eq_false (by omega)] at HUH;obtain ⟨l, hl⟩ : ∃ l, l = levN d v := ⟨_, rfl⟩;rw [<- hl] at HLV HUL HUH;have hl0 : ¬ ((l : Nat) : Int) < 0 := by omega
 clear h hlt hk hv hlo hhi hbad hll hlol hhil hlom hhim hlen hl hgood
 go_enter Tryz.func89, Tryz.ntmps89
 go_wp2_with fail;refine (HLV.out _ (Below.refl _ _)).mono ?_;rintro x w' ⟨rfl, rfl⟩;go_wp2_with fail;refine (HISL.out _ (Below.refl _ _)).mono ?_;rintro x w1 ⟨rfl, hb1⟩;have HB1 := Lib.hid hb1;clear hb1;go_wp2_with fail;refine (HISH.out _ HB1.out).mono ?_;rintro x w2 ⟨rfl, hb2⟩;have HB2 := Lib.hid (HB1.out.trans (hb2.mono HB1.out.size));clear hb2;go_wp2_with fail;refine (HLV.out _ HB2.out).mono ?_;rintro x w' ⟨rfl, rfl⟩;go_wp2_with fail;refine (HUL.out _ HB2.out).mono ?_;rintro x w3 ⟨rfl, hb3⟩;have HB3 := Lib.hid (HB2.out.trans (hb3.mono HB2.out.size));clear hb3;go_wp2_with fail;refine (HLV.out _ HB3.out).mono ?_;rintro x w' ⟨rfl, rfl⟩;go_wp2_with fail;refine (HUH.out _ HB3.out).mono ?_;rintro x w4 ⟨rfl, hb4⟩;have HB4 := Lib.hid (HB3.out.trans (hb4.mono HB3.out.size));clear hb4;go_wp2_with fail
 go_ret2
 exact HPOST.out _ HB4.out
theorem mk_eq {o : Own} {w : World} {sb : Nat} {d : StoreD} {s : StoreW} {V : Nat -> BF} (h : StoreIn o w sb d s) (hlt : OwnLt o w) (hk : StoreOK d V) (v lo hi : Nat) (hv : v < d.vars.length) (hlo : okE (nodesOf d) lo) (hhi : okE (nodesOf d) hi) (hgl : levN d v < lvE d.vars.length (levN d) (nodesOf d) lo) (hgh : levN d v < lvE d.vars.length (levN d) (nodesOf d) hi) (he : lo = hi) :
 Calls Tryz.prog 89 #[.pointer (some ⟨sb, 0, none⟩), .int .i64 v, .int .i64 lo, .int .i64 hi] w (MkPost o w sb d V v lo hi) := by
 have hll : levN d v < d.vars.length := hk.dag.lt v hv;have hlol := h.edge_lt hlo;have hhil := h.edge_lt hhi;have hlom : lo < eMax := by unfold eMax; omega
 have hhim : hi < eMax := by unfold eMax; omega
 have hlen : d.level.length < 1000000 := by rw [h.len]; have := hk.small; omega
 have HLV : Hid (∀ W : World, Below w.heap.size w W -> Calls Tryz.prog 77 #[.pointer (some ⟨sb, 0, none⟩), .int .i64 v] W fun x w' => x = .returned (.int .i64 (levN d v : Nat)) /\ W = w') := fun W hb => by
  have h1 := storeLevel_any (h.below hlt hb) v hlen;unfold StoreD.levelOf at h1;rw [if_pos (by rw [h.len]; exact hv)] at h1;exact h1
 have HISL : Hid (∀ W : World, Below w.heap.size w W -> Calls Tryz.prog 87 #[.pointer (some ⟨sb, 0, none⟩), .int .i64 lo] W fun x w' => x = .returned (.bool true) /\ Below W.heap.size W w') := fun W hb => by
  have h1 := storeIs_any (h.below hlt hb) (hlt.mono hb.size) lo hlom;rw [is_eq hlo] at h1; exact h1
 have HISH : Hid (∀ W : World, Below w.heap.size w W -> Calls Tryz.prog 87 #[.pointer (some ⟨sb, 0, none⟩), .int .i64 hi] W fun x w' => x = .returned (.bool true) /\ Below W.heap.size W w') := fun W hb => by
  have h1 := storeIs_any (h.below hlt hb) (hlt.mono hb.size) hi hhim;rw [is_eq hhi] at h1; exact h1
 have HUL : Hid (∀ W : World, Below w.heap.size w W -> Calls Tryz.prog 126 #[.pointer (some ⟨sb, 0, none⟩), .int .i64 lo, .int .i64 (levN d v : Nat)] W fun x w' => x = .returned (.bool (decide (levN d v < lvE d.vars.length (levN d) (nodesOf d) lo))) /\ Below W.heap.size W w') := fun W hb => by
  have h1 := storeUnder_any (h.below hlt hb) (hlt.mono hb.size) lo hlom (levN d v : Nat) hlen;rw [under_eq h hk hlo hll] at h1; exact h1
 have HUH : Hid (∀ W : World, Below w.heap.size w W -> Calls Tryz.prog 126 #[.pointer (some ⟨sb, 0, none⟩), .int .i64 hi, .int .i64 (levN d v : Nat)] W fun x w' => x = .returned (.bool (decide (levN d v < lvE d.vars.length (levN d) (nodesOf d) hi))) /\ Below W.heap.size W w') := fun W hb => by
  have h1 := storeUnder_any (h.below hlt hb) (hlt.mono hb.size) hi hhim (levN d v : Nat) hlen;rw [under_eq h hk hhi hll] at h1; exact h1
 subst he
 have HPOST : Hid (∀ W, Below w.heap.size w W -> MkPost o w sb d V v lo lo (.returned (.tuple #[.int .i64 (lo : Nat), .int .i64 0])) W) := fun W hb => .inr (.inr (.inr ⟨by omega, by omega, lo, d, V, o, rfl, ⟨s, h.below hlt hb⟩, hlt.mono hb.size, hk, Ext.refl d V, hlo, by
  funext ρ; simp [iteF], Nat.le_of_lt hgl, by omega, Chg.of_below hb _ _⟩))
 rw [decide_eq_true hgl] at HUL;rw [decide_eq_true hgh] at HUH;obtain ⟨l, hl⟩ : ∃ l, l = levN d v := ⟨_, rfl⟩;rw [<- hl] at HLV HUL HUH;have hl0 : ¬ ((l : Nat) : Int) < 0 := by omega
 clear h hlt hk hv hlo hhi hll hlol hhil hlom hhim hlen hl hgl hgh
 go_enter Tryz.func89, Tryz.ntmps89
 go_wp2_with fail;refine (HLV.out _ (Below.refl _ _)).mono ?_;rintro x w' ⟨rfl, rfl⟩;go_wp2_with fail;refine (HISL.out _ (Below.refl _ _)).mono ?_;rintro x w1 ⟨rfl, hb1⟩;have HB1 := Lib.hid hb1;clear hb1;go_wp2_with fail;refine (HISH.out _ HB1.out).mono ?_;rintro x w2 ⟨rfl, hb2⟩;have HB2 := Lib.hid (HB1.out.trans (hb2.mono HB1.out.size));clear hb2;go_wp2_with fail;refine (HLV.out _ HB2.out).mono ?_;rintro x w' ⟨rfl, rfl⟩;go_wp2_with fail;refine (HUL.out _ HB2.out).mono ?_;rintro x w3 ⟨rfl, hb3⟩;have HB3 := Lib.hid (HB2.out.trans (hb3.mono HB2.out.size));clear hb3;go_wp2_with fail;refine (HLV.out _ HB3.out).mono ?_;rintro x w' ⟨rfl, rfl⟩;go_wp2_with fail;refine (HUH.out _ HB3.out).mono ?_;rintro x w4 ⟨rfl, hb4⟩;have HB4 := Lib.hid (HB3.out.trans (hb4.mono HB3.out.size));clear hb4;go_wp2_with fail
 go_ret2
 exact HPOST.out _ HB4.out
def MkSame (w : World) (r : Nat) (e : Ending) (w' : World) : Prop := e = .returned (.tuple #[.int .i64 (r : Nat), .int .i64 0]) /\ Below w.heap.size w w'
theorem mk_found0 {o : Own} {w : World} {sb : Nat} {d : StoreD} {s : StoreW} {V : Nat -> BF} (h : StoreIn o w sb d s) (hlt : OwnLt o w) (hk : StoreOK d V) (v lo hi : Nat) (hv : v < d.vars.length) (hlo : okE (nodesOf d) lo) (hhi : okE (nodesOf d) hi) (hgl : levN d v < lvE d.vars.length (levN d) (nodesOf d) lo) (hgh : levN d v < lvE d.vars.length (levN d) (nodesOf d) hi) (he : lo ≠ hi) (id : Nat) (hid : d.tab v (eflip lo (eneg hi), eflip hi (eneg hi)) = some id) :
 Calls Tryz.prog 89 #[.pointer (some ⟨sb, 0, none⟩), .int .i64 v, .int .i64 lo, .int .i64 hi] w (MkSame w (eflip (2 * id) (eneg hi))) := by
 have hll : levN d v < d.vars.length := hk.dag.lt v hv;have hlol := h.edge_lt hlo;have hhil := h.edge_lt hhi;have hlom : lo < eMax := by unfold eMax; omega
 have hhim : hi < eMax := by unfold eMax; omega
 have hlen : d.level.length < 1000000 := by rw [h.len]; have := hk.small; omega
 have HLV : Hid (∀ W : World, Below w.heap.size w W -> Calls Tryz.prog 77 #[.pointer (some ⟨sb, 0, none⟩), .int .i64 v] W fun x w' => x = .returned (.int .i64 (levN d v : Nat)) /\ W = w') := fun W hb => by
  have h1 := storeLevel_any (h.below hlt hb) v hlen;unfold StoreD.levelOf at h1;rw [if_pos (by rw [h.len]; exact hv)] at h1;exact h1
 have HISL : Hid (∀ W : World, Below w.heap.size w W -> Calls Tryz.prog 87 #[.pointer (some ⟨sb, 0, none⟩), .int .i64 lo] W fun x w' => x = .returned (.bool true) /\ Below W.heap.size W w') := fun W hb => by
  have h1 := storeIs_any (h.below hlt hb) (hlt.mono hb.size) lo hlom;rw [is_eq hlo] at h1; exact h1
 have HISH : Hid (∀ W : World, Below w.heap.size w W -> Calls Tryz.prog 87 #[.pointer (some ⟨sb, 0, none⟩), .int .i64 hi] W fun x w' => x = .returned (.bool true) /\ Below W.heap.size W w') := fun W hb => by
  have h1 := storeIs_any (h.below hlt hb) (hlt.mono hb.size) hi hhim;rw [is_eq hhi] at h1; exact h1
 have HUL : Hid (∀ W : World, Below w.heap.size w W -> Calls Tryz.prog 126 #[.pointer (some ⟨sb, 0, none⟩), .int .i64 lo, .int .i64 (levN d v : Nat)] W fun x w' => x = .returned (.bool (decide (levN d v < lvE d.vars.length (levN d) (nodesOf d) lo))) /\ Below W.heap.size W w') := fun W hb => by
  have h1 := storeUnder_any (h.below hlt hb) (hlt.mono hb.size) lo hlom (levN d v : Nat) hlen;rw [under_eq h hk hlo hll] at h1; exact h1
 have HUH : Hid (∀ W : World, Below w.heap.size w W -> Calls Tryz.prog 126 #[.pointer (some ⟨sb, 0, none⟩), .int .i64 hi, .int .i64 (levN d v : Nat)] W fun x w' => x = .returned (.bool (decide (levN d v < lvE d.vars.length (levN d) (nodesOf d) hi))) /\ Below W.heap.size W w') := fun W hb => by
  have h1 := storeUnder_any (h.below hlt hb) (hlt.mono hb.size) hi hhim (levN d v : Nat) hlen;rw [under_eq h hk hhi hll] at h1; exact h1
 have hnode := (hk.tab v hv _ _ id).1 hid;have hidl := (h.tk_lt hnode).2;have HPOST : Hid (∀ W, Below w.heap.size w W -> MkSame w (eflip (2 * id) (eneg hi)) (.returned (.tuple #[.int .i64 (eflip (2 * id) (eneg hi) : Nat), .int .i64 0])) W) := fun W hb => ⟨rfl, hb⟩
 have HOF := Lib.hid (fun W => of_any id (eneg hi) W (by omega));rw [decide_eq_true hgl] at HUL;rw [decide_eq_true hgh] at HUH;obtain ⟨l, hl⟩ : ∃ l, l = levN d v := ⟨_, rfl⟩;rw [<- hl] at HLV HUL HUH;have hl0 : ¬ ((l : Nat) : Int) < 0 := by omega
 have hnei : ((lo : Int) == hi) = false := by simp; omega
 have HNORM := Lib.hid (fun W => norm_any lo hi W hlom hhim);have HH := Lib.hid h;have HLT := Lib.hid hlt;have HV := Lib.hid hv;have HF := Lib.hid (fun W (hb : Below w.heap.size w W) => find_yes o v (s.ts.getD v 0) (d.tab v) (eflip lo (eneg hi)) (eflip hi (eneg hi)) id W ((h.below hlt hb).tab v (by rw [h.tlen]; exact hv)) hid);obtain ⟨lo2, hlo2⟩ : ∃ x, x = eflip lo (eneg hi) := ⟨_, rfl⟩;obtain ⟨hi2, hhi2⟩ : ∃ x, x = eflip hi (eneg hi) := ⟨_, rfl⟩;obtain ⟨ng, hng⟩ : ∃ x, x = eneg hi := ⟨_, rfl⟩;rw [<- hlo2, <- hhi2] at HNORM HF;rw [<- hng] at HNORM HOF HPOST ⊢;clear h hlt hk hv hlo hhi hll hlol hhil hlom hhim hlen hl hgl hgh he hid hnode hidl hlo2 hhi2 hng
 go_enter Tryz.func89, Tryz.ntmps89
 go_wp2_with fail;refine (HLV.out _ (Below.refl _ _)).mono ?_;rintro x w' ⟨rfl, rfl⟩;go_wp2_with fail;refine (HISL.out _ (Below.refl _ _)).mono ?_;rintro x w1 ⟨rfl, hb1⟩;have HB1 := Lib.hid hb1;clear hb1;go_wp2_with fail;refine (HISH.out _ HB1.out).mono ?_;rintro x w2 ⟨rfl, hb2⟩;have HB2 := Lib.hid (HB1.out.trans (hb2.mono HB1.out.size));clear hb2;go_wp2_with fail;refine (HLV.out _ HB2.out).mono ?_;rintro x w' ⟨rfl, rfl⟩;go_wp2_with fail;refine (HUL.out _ HB2.out).mono ?_;rintro x w3 ⟨rfl, hb3⟩;have HB3 := Lib.hid (HB2.out.trans (hb3.mono HB2.out.size));clear hb3;go_wp2_with fail;refine (HLV.out _ HB3.out).mono ?_;rintro x w' ⟨rfl, rfl⟩;go_wp2_with fail;refine (HUH.out _ HB3.out).mono ?_;rintro x w4 ⟨rfl, hb4⟩;have HB4 := Lib.hid (HB3.out.trans (hb4.mono HB3.out.size));clear hb4;go_wp2_with fail;obtain ⟨gt, ct, hvt, cellv, hvl, htl⟩ := (HH.out.below HLT.out HB4.out).tabAt HV.out;obtain ⟨c0, c1, c2, c3, c4, f0⟩ := cells5 (HH.out.below HLT.out HB4.out).blk;rw [hvt] at c2;have hvl' : (v : Int) < s.ts.length := by omega
 have hti := (HH.out.below HLT.out HB4.out).tab v hvl;clear hvt;refine (HNORM.out _).mono ?_;rintro x w' ⟨rfl, rfl⟩;have hf := HF.out _ HB4.out;clear hti;obtain ⟨tv, htv⟩ : ∃ t, t = s.ts.getD v 0 := ⟨_, rfl⟩;rw [<- htv] at cellv hf;have HFD := Lib.hid hf;clear htv hf;go_wp2_with fail;refine HFD.out.mono ?_;rintro x w' ⟨rfl, rfl⟩;go_wp2_with fail;refine (HOF.out _).mono ?_;rintro x w' ⟨rfl, rfl⟩;go_wp2_with fail
 go_ret2
 exact HPOST.out _ HB4.out
theorem mk_found {o : Own} {w : World} {sb : Nat} {d : StoreD} {s : StoreW} {V : Nat -> BF} (h : StoreIn o w sb d s) (hlt : OwnLt o w) (hk : StoreOK d V) (v lo hi : Nat) (hv : v < d.vars.length) (hlo : okE (nodesOf d) lo) (hhi : okE (nodesOf d) hi) (hgl : levN d v < lvE d.vars.length (levN d) (nodesOf d) lo) (hgh : levN d v < lvE d.vars.length (levN d) (nodesOf d) hi) (he : lo ≠ hi) (id : Nat) (hid : d.tab v (eflip lo (eneg hi), eflip hi (eneg hi)) = some id) :
 Calls Tryz.prog 89 #[.pointer (some ⟨sb, 0, none⟩), .int .i64 v, .int .i64 lo, .int .i64 hi] w (MkPost o w sb d V v lo hi) := by
 have hnode := (hk.tab v hv _ _ id).1 hid;have hidl := (h.tk_lt hnode).2;refine (mk_found0 h hlt hk v lo hi hv hlo hhi hgl hgh he id hid).mono ?_;rintro e w' ⟨rfl, hb⟩
 exact .inr (.inr (.inr ⟨by omega, by omega, _, d, V, o, rfl, ⟨s, h.below hlt hb⟩, hlt.mono hb.size, hk, Ext.refl d V, okE_eflip (okE_two hnode),
  node_ef hk hnode, by rw [lvE_eflip]; unfold lvE; rw [show 2 * id / 2 = id from by omega, hnode]; exact Nat.le_refl _, by omega, Chg.of_below hb _ _⟩))
theorem mk_new {o : Own} {w : World} {sb : Nat} {d : StoreD} {s : StoreW} {V : Nat -> BF} (h : StoreIn o w sb d s) (hlt : OwnLt o w) (hk : StoreOK d V) (v lo hi : Nat) (hv : v < d.vars.length) (hlo : okE (nodesOf d) lo) (hhi : okE (nodesOf d) hi) (hgl : levN d v < lvE d.vars.length (levN d) (nodesOf d) lo) (hgh : levN d v < lvE d.vars.length (levN d) (nodesOf d) hi) (he : lo ≠ hi) (hid : d.tab v (eflip lo (eneg hi), eflip hi (eneg hi)) = none) :
 Calls Tryz.prog 89 #[.pointer (some ⟨sb, 0, none⟩), .int .i64 v, .int .i64 lo, .int .i64 hi] w (MkPost o w sb d V v lo hi) := by
 have hll : levN d v < d.vars.length := hk.dag.lt v hv;have hlol := h.edge_lt hlo;have hhil := h.edge_lt hhi;have hlom : lo < eMax := by unfold eMax; omega
 have hhim : hi < eMax := by unfold eMax; omega
 have hlen : d.level.length < 1000000 := by rw [h.len]; have := hk.small; omega
 have HLV : Hid (∀ W : World, Below w.heap.size w W -> Calls Tryz.prog 77 #[.pointer (some ⟨sb, 0, none⟩), .int .i64 v] W fun x w' => x = .returned (.int .i64 (levN d v : Nat)) /\ W = w') := fun W hb => by
  have h1 := storeLevel_any (h.below hlt hb) v hlen;unfold StoreD.levelOf at h1;rw [if_pos (by rw [h.len]; exact hv)] at h1;exact h1
 have HISL : Hid (∀ W : World, Below w.heap.size w W -> Calls Tryz.prog 87 #[.pointer (some ⟨sb, 0, none⟩), .int .i64 lo] W fun x w' => x = .returned (.bool true) /\ Below W.heap.size W w') := fun W hb => by
  have h1 := storeIs_any (h.below hlt hb) (hlt.mono hb.size) lo hlom;rw [is_eq hlo] at h1; exact h1
 have HISH : Hid (∀ W : World, Below w.heap.size w W -> Calls Tryz.prog 87 #[.pointer (some ⟨sb, 0, none⟩), .int .i64 hi] W fun x w' => x = .returned (.bool true) /\ Below W.heap.size W w') := fun W hb => by
  have h1 := storeIs_any (h.below hlt hb) (hlt.mono hb.size) hi hhim;rw [is_eq hhi] at h1; exact h1
 have HUL : Hid (∀ W : World, Below w.heap.size w W -> Calls Tryz.prog 126 #[.pointer (some ⟨sb, 0, none⟩), .int .i64 lo, .int .i64 (levN d v : Nat)] W fun x w' => x = .returned (.bool (decide (levN d v < lvE d.vars.length (levN d) (nodesOf d) lo))) /\ Below W.heap.size W w') := fun W hb => by
  have h1 := storeUnder_any (h.below hlt hb) (hlt.mono hb.size) lo hlom (levN d v : Nat) hlen;rw [under_eq h hk hlo hll] at h1; exact h1
 have HUH : Hid (∀ W : World, Below w.heap.size w W -> Calls Tryz.prog 126 #[.pointer (some ⟨sb, 0, none⟩), .int .i64 hi, .int .i64 (levN d v : Nat)] W fun x w' => x = .returned (.bool (decide (levN d v < lvE d.vars.length (levN d) (nodesOf d) hi))) /\ Below W.heap.size W w') := fun W hb => by
  have h1 := storeUnder_any (h.below hlt hb) (hlt.mono hb.size) hi hhim (levN d v : Nat) hlen;rw [under_eq h hk hhi hll] at h1; exact h1
 have HADD := Lib.hid (fun W (hb : Below w.heap.size w W) => storeAdd_any (h.below hlt hb) (hlt.mono hb.size) hk.live (fun i b hb => ⟨hk.dag.okLo i b hb, hk.dag.okHi i b hb⟩) v (eflip lo (eneg hi)) (eflip hi (eneg hi)) hv hid hk.clen);have HFULL : Hid (∀ W, Below w.heap.size w W -> d.pool.many = d.pool.room -> MkPost o w sb d V v lo hi (.returned (.tuple #[.int .i64 0, .int .i64 7])) W) := fun W hb hm => .inr (.inr (.inl ⟨hm, rfl, hb⟩))
 have HPOST : Hid (∀ W W' id d' o', Below w.heap.size w W -> StoreAt o' W' sb d' -> OwnLt o' W' -> AddRel d d' id v (eflip lo (eneg hi)) (eflip hi (eneg hi)) -> Chg RStore o o' W W' -> MkPost o w sb d V v lo hi (.returned (.tuple #[.int .i64 (eflip (2 * id) (eneg hi) : Nat), .int .i64 0])) W') := fun W W' id d' o' hb hs hl hr hc => by
  obtain ⟨h1, h2⟩ := addRel_ok hk hr hv (okE_eflip hlo) (okE_eflip hhi) (by rw [lvE_eflip]; exact hgl) (by rw [lvE_eflip]; exact hgh) (eflip_even hi) (eflip_ne he) hid;have hnode : nodesOf d' id = some ⟨v, eflip lo (eneg hi), eflip hi (eneg hi)⟩ := by rw [hr.nodes, addN_same]
  refine .inr (.inr (.inr ⟨by omega, by omega, _, d', _, o', rfl, hs, hl, h1, h2, okE_eflip (okE_two hnode), ?_, ?_, by rw [hr.many]; omega, (Chg.of_below hb _ _).trans hc⟩))
  ·
   rw [node_ef h1 hnode, h2.ef hlo, h2.ef hhi]; rfl
  ·
   rw [lvE_eflip, h2.lev]; unfold lvE; rw [show 2 * id / 2 = id from by omega, hnode]; exact Nat.le_refl _
 have HOF := Lib.hid (fun id W (hh : id < 2305843009213693952) => of_any id (eneg hi) W hh);rw [decide_eq_true hgl] at HUL;rw [decide_eq_true hgh] at HUH;obtain ⟨l, hl⟩ : ∃ l, l = levN d v := ⟨_, rfl⟩;rw [<- hl] at HLV HUL HUH;have hl0 : ¬ ((l : Nat) : Int) < 0 := by omega
 have hnei : ((lo : Int) == hi) = false := by simp; omega
 have HNORM := Lib.hid (fun W => norm_any lo hi W hlom hhim);have HH := Lib.hid h;have HLT := Lib.hid hlt;have HV := Lib.hid hv;have HF := Lib.hid (fun W (hb : Below w.heap.size w W) => find_no o v (s.ts.getD v 0) (d.tab v) (eflip lo (eneg hi)) (eflip hi (eneg hi)) W ((h.below hlt hb).tab v (by rw [h.tlen]; exact hv)) hid);obtain ⟨lo2, hlo2⟩ : ∃ x, x = eflip lo (eneg hi) := ⟨_, rfl⟩;obtain ⟨hi2, hhi2⟩ : ∃ x, x = eflip hi (eneg hi) := ⟨_, rfl⟩;obtain ⟨ng, hng⟩ : ∃ x, x = eneg hi := ⟨_, rfl⟩;rw [<- hlo2, <- hhi2] at HNORM HF HADD HPOST;rw [<- hng] at HNORM HOF HPOST;clear h hlt hk hv hlo hhi hll hlol hhil hlom hhim hlen hl hgl hgh he hid hlo2 hhi2 hng
 go_enter Tryz.func89, Tryz.ntmps89
 go_wp2_with fail;refine (HLV.out _ (Below.refl _ _)).mono ?_;rintro x w' ⟨rfl, rfl⟩;go_wp2_with fail;refine (HISL.out _ (Below.refl _ _)).mono ?_;rintro x w1 ⟨rfl, hb1⟩;have HB1 := Lib.hid hb1;clear hb1;go_wp2_with fail;refine (HISH.out _ HB1.out).mono ?_;rintro x w2 ⟨rfl, hb2⟩;have HB2 := Lib.hid (HB1.out.trans (hb2.mono HB1.out.size));clear hb2;go_wp2_with fail;refine (HLV.out _ HB2.out).mono ?_;rintro x w' ⟨rfl, rfl⟩;go_wp2_with fail;refine (HUL.out _ HB2.out).mono ?_;rintro x w3 ⟨rfl, hb3⟩;have HB3 := Lib.hid (HB2.out.trans (hb3.mono HB2.out.size));clear hb3;go_wp2_with fail;refine (HLV.out _ HB3.out).mono ?_;rintro x w' ⟨rfl, rfl⟩;go_wp2_with fail;refine (HUH.out _ HB3.out).mono ?_;rintro x w4 ⟨rfl, hb4⟩;have HB4 := Lib.hid (HB3.out.trans (hb4.mono HB3.out.size));clear hb4;go_wp2_with fail;obtain ⟨gt, ct, hvt, cellv, hvl, htl⟩ := (HH.out.below HLT.out HB4.out).tabAt HV.out;obtain ⟨c0, c1, c2, c3, c4, f0⟩ := cells5 (HH.out.below HLT.out HB4.out).blk;rw [hvt] at c2;have hvl' : (v : Int) < s.ts.length := by omega
 have hti := (HH.out.below HLT.out HB4.out).tab v hvl;clear hvt;refine (HNORM.out _).mono ?_;rintro x w' ⟨rfl, rfl⟩;have hf := HF.out _ HB4.out;clear hti;obtain ⟨tv, htv⟩ : ∃ t, t = s.ts.getD v 0 := ⟨_, rfl⟩;rw [<- htv] at cellv hf;have HFD := Lib.hid hf;clear htv hf;go_wp2_with fail;refine HFD.out.mono ?_;rintro x w' ⟨rfl, rfl⟩;go_wp2_with fail;refine (HADD.out _ HB4.out).mono ?_;rintro x w6 (⟨hm, rfl, hb6⟩ | ⟨id, d', o', rfl, hs, hl6, hr, hc⟩)
 ·
  have HB6 := Lib.hid (HB4.out.trans (hb6.mono HB4.out.size));have HM := Lib.hid hm;clear hm hb6 c0 c1 c2 c3 c4 f0 cellv;go_wp2_with fail
  go_ret2
  exact HFULL.out _ HB6.out HM.out
 ·
  have HS := Lib.hid hs;have HL6 := Lib.hid hl6;have HR := Lib.hid hr;have HC := Lib.hid hc;have hidl : id < 2305843009213693952 := by
   obtain ⟨s', hs'⟩ := hs;have := hs'.tk_lt (i := id) (b := ⟨v, lo2, hi2⟩) (by rw [hr.nodes, addN_same]);omega
  clear hs hl6 hr hc c0 c1 c2 c3 c4 f0 cellv;go_wp2_with fail;refine (HOF.out _ _ hidl).mono ?_;rintro x w' ⟨rfl, rfl⟩;go_wp2_with fail
  go_ret2
  exact HPOST.out _ _ id d' o' HB4.out HS.out HL6.out HR.out HC.out
theorem storeMk_any {o : Own} {w : World} {sb : Nat} {d : StoreD} {V : Nat -> BF} (h : StoreAt o w sb d) (hlt : OwnLt o w) (hk : StoreOK d V) (v : Int) (lo hi : Nat) (hlo : okE (nodesOf d) lo) (hhi : okE (nodesOf d) hi) :
 Calls Tryz.prog 89 #[.pointer (some ⟨sb, 0, none⟩), .int .i64 v, .int .i64 lo, .int .i64 hi] w (MkPost o w sb d V v lo hi) := by
 obtain ⟨s, h⟩ := h
 by_cases hv : 0 <= v /\ v < d.vars.length
 ·
  obtain ⟨n, rfl⟩ := Int.eq_ofNat_of_zero_le hv.1;have hn : n < d.vars.length := by omega
  by_cases h1 : levN d n < lvE d.vars.length (levN d) (nodesOf d) lo
  ·
   by_cases h2 : levN d n < lvE d.vars.length (levN d) (nodesOf d) hi
   ·
    by_cases h3 : lo = hi
    ·
     exact mk_eq h hlt hk n lo hi hn hlo hhi h1 h2 h3
    ·
     cases h4 : d.tab n (eflip lo (eneg hi), eflip hi (eneg hi)) with
     | none => exact mk_new h hlt hk n lo hi hn hlo hhi h1 h2 h3 h4
     | some id => exact mk_found h hlt hk n lo hi hn hlo hhi h1 h2 h3 id h4
   ·
    exact mk_hi h hlt hk n lo hi hn hlo hhi (by omega) h1
  ·
   exact mk_lo h hlt hk n lo hi hn hlo hhi (by omega)
 ·
  exact mk_var h hk v lo hi hv
open Go.RowKit
theorem ownI_claim {o : Own} {w w' : World} {v : Value} {zs : List Int} (h : OwnI w' w.heap.size v zs) (hb : Below w.heap.size w w') (hlt : OwnLt o w) (r : Role) :
 ∃ o', RowR o' w' r 3 1 v zs.length (intsV zs) /\ Chg (· = r) o o' w w' /\ OwnLt o' w' := by
 obtain ⟨hl, h2⟩ := h;rcases h2 with ⟨h1, h0⟩ | ⟨g, cap, cur, h1, h2, h3, h4, h5, h6, h7⟩
 ·
  exact ⟨o, ⟨hl, .inl ⟨h1, h0⟩⟩, Chg.of_below hb _ _, hlt.mono hb.size⟩
 ·
  have hg : g < w'.heap.size := (Array.getElem?_eq_some_iff.1 h3).1;refine ⟨ownAt o g r, ⟨hl, .inr ⟨g, cap, cur, h1, ownAt_same _ _ _, h3, h4, h5, by omega, h7⟩⟩, ⟨hb.os, hb.tape, hb.output, hb.size, fun k hk _ => hb.block k hk, fun k q hq => ownAt_old hlt h2 hq, fun k hk => ?_⟩, fun k q hq => ?_⟩
  ·
   by_cases e : k = g
   ·
    subst e; exact ⟨h2, r, ownAt_same _ _ _, rfl⟩
   ·
    exact absurd (by simp [ownAt, e]) hk
  ·
   by_cases e : k = g
   ·
    subst e; exact hg
   ·
    simp only [ownAt, if_neg e] at hq; have := hlt k q hq; have := hb.size; omega
theorem ident_row (o : Own) (n : Nat) (hn : n <= 64) (r : Role) (w : World) (hlt : OwnLt o w) :
 Calls Tryz.prog 114 #[.int .i64 n] w fun e w' => ∃ v o', e = .returned v /\ RowR o' w' r 3 1 v n ((List.range n).map nat64) /\ Chg (· = r) o o' w w' /\ OwnLt o' w' :=
 (permIdent_any n w).mono fun e w' ⟨v, h1, h2, h3⟩ => by
  obtain ⟨o', a, b, c⟩ := ownI_claim h2 h3 hlt r;have e1 : identZ n = iota n := by unfold identZ; congr 1; omega
  have e2 : intsV (iota n) = (List.range n).map nat64 := by simp [intsV, iota, nat64]
  rw [e1, iota_length, e2] at a;exact ⟨v, o', h1, a, b, c⟩
def store0 (n room : Nat) : StoreD := ⟨List.range n, List.range n, pool0 room, fun _ _ => none, [], 0⟩
structure NewS (o : Own) (w : World) (n room sb : Nat) (s : StoreW) (j : Nat) (o1 : Own) (wx : World) : Prop where
 own : o1 sb = some .store
 ownl : o1 s.lb = some .levels
 blk : wx.heap[sb]? = some (.cells #[.pointer (some ⟨s.lb, 0, none⟩), .pointer (some ⟨s.pb, 0, none⟩), s.vt, .slice none 0 0, .int .i64 0] 145 (0, 0))
 lev : wx.heap[s.lb]? = some (.cells #[s.vv, s.vl] 142 (0, 0))
 vars : RowR o1 wx .vars 3 1 s.vv n ((List.range n).map nat64)
 level : RowR o1 wx .level 3 1 s.vl n ((List.range n).map nat64)
 pool : PoolAt o1 wx s.pb (pool0 room)
 tabs : RowR o1 wx .tabs 146 1 s.vt j (s.ts.map ptrV)
 tl : s.ts.length = j
 tab : ∀ v, v < j -> TabIs o1 wx v (s.ts.getD v 0) (fun _ => none)
 chg : Chg RStore o o1 w wx
 lt : OwnLt o1 wx
 ge : w.heap.size <= sb
theorem NewS.done {o o1 : Own} {w wx : World} {n room sb : Nat} {s : StoreW} (h : NewS o w n room sb s n o1 wx) : StoreAt o1 wx sb (store0 n room) :=
 ⟨{ s with vc := .slice none 0 0 }, h.own, h.ownl, h.blk, h.lev, by simpa [store0] using h.vars, by simpa [store0] using h.level, h.pool, by rw [h.tl]; exact h.tabs, fun v hv => h.tab v (by rw [<- h.tl]; exact hv), RowR.nil _ _ _ _ _, rfl, by simp [store0, h.tl]⟩
theorem NewS.grown {o o1 o2 o3 : Own} {w wx wy wz : World} {n room sb : Nat} {s : StoreW} {j t g cap : Nat} (h : NewS o w n room sb s j o1 wx) (ht : TabIs o2 wy j t (fun _ => none)) (hc : Chg (fun r => r = .tab j \/ r = .tmap j) o1 o2 wx wy) (hl : OwnLt o2 wy)
 (hr : RowR o3 wz .tabs 146 1 (.slice (some ⟨g, 0, none⟩) (j + 1) cap) (j + 1) (s.ts.map ptrV ++ [ptrV t])) (hc2 : Chg (· = .tabs) o2 o3 wy wz) (hl2 : OwnLt o3 wz) :
 NewS o w n room sb { s with vt := .slice (some ⟨g, 0, none⟩) (j + 1) cap, ts := s.ts ++ [t] } (j + 1) o3 (wz.setCell ⟨sb, 2, none⟩ (.slice (some ⟨g, 0, none⟩) (j + 1) cap)) := by
 have hc' : Chg (fun r => r = .tab j \/ r = .tmap j \/ r = .tabs) o1 o3 wx wz := (hc.mono fun r e => by rcases e with e | e; exact .inl e; exact .inr (.inl e)).trans (hc2.mono fun r e => .inr (.inr e));have hos := hc'.ext _ _ h.own;have ne : ∀ {a r}, o3 a = some r -> r ≠ .store -> a ≠ sb := fun ha hr e => by subst e; rw [ha] at hos; cases hos; exact hr rfl
 have hol := hc'.ext _ _ h.ownl;have row : ∀ {r e k v m xs}, RowR o1 wx r e k v m xs -> r ≠ .store -> ¬ (r = .tab j \/ r = .tmap j \/ r = .tabs) -> RowR o3 (wz.setCell ⟨sb, 2, none⟩ (.slice (some ⟨g, 0, none⟩) (j + 1) cap)) r e k v m xs := fun hr h1 h2 =>
  (hr.chg hc' h.lt h2).setCell_other (p := ⟨sb, 2, none⟩) (by rw [hos]; intro e; cases e; exact h1 rfl) _
 have ctab : ∀ v t f, TabIs o3 wz v t f -> TabIs o3 (wz.setCell ⟨sb, 2, none⟩ (.slice (some ⟨g, 0, none⟩) (j + 1) cap)) v t f := fun v t f hT =>
  hT.keep (fun q r hq hr' => heap_setCell_ne (ne hq (by rintro rfl; rcases hr' with e | e <;> cases e)) _) (fun _ _ h => h)
 refine ⟨hos, hol, heap_setCell_same ((hc'.same h.lt h.own (by simp)).trans h.blk) _, (heap_setCell_ne (ne hol (by simp)) _).trans ((hc'.same h.lt h.ownl (by simp)).trans h.lev), row h.vars (by simp) (by simp), row h.level (by simp) (by simp), ?_, ?_, by simp [h.tl], fun v hv => ?_, ?_, hl2.mono (by simp [World.setCell]), h.ge⟩
 ·
  have hp := h.pool.chg hc' h.lt (by simp) (by simp) (by simp) (by simp);exact hp.keep (fun q r hq hr' => heap_setCell_ne (ne hq (by rintro rfl; rcases hr' with e | e | e | e <;> cases e)) _) (fun _ _ h => h)
 ·
  have := hr.setCell_other (p := ⟨sb, 2, none⟩) (by rw [hos]; simp) (.slice (some ⟨g, 0, none⟩) (j + 1) cap);simpa using this
 ·
  dsimp only;refine ctab _ _ _ ?_
  by_cases e : v = j
  ·
   subst e;have e2 : (s.ts ++ [t]).getD v 0 = t := by simp [List.getD, h.tl]
   rw [e2]; exact ht.chg hc2 hl (by simp) (by simp)
  ·
   have e2 : (s.ts ++ [t]).getD v 0 = s.ts.getD v 0 := by
    have := h.tl;simp [List.getD, List.getElem?_append_left (show v < s.ts.length by omega)]
   rw [e2];exact (h.tab v (by omega)).chg hc' h.lt (by simp [e]) (by simp [e])
 ·
  exact (h.chg.trans (hc'.mono fun r e => by rcases e with rfl | rfl | rfl <;> simp [RStore])).setCell (p := ⟨sb, 2, none⟩) hos (by simp [RStore]) _
theorem infoPtrTab : (Tryz.prog.info? 146).map (fun i => (i.zero, i.size, i.bytes)) = some (some (.pointer none), 1, 8) := by kernel_rfl
theorem new_store (o : Own) (n room : Nat) (w : World) (hlt : OwnLt o w) (hn : n <= 64) (h1 : 1 <= room) (h2 : room <= 1048576) :
 Calls Tryz.prog 75 #[.int .i64 n, .int .i64 room] w fun x w' => ∃ sb o', x = .returned (.tuple #[.pointer (some ⟨sb, 0, none⟩), .int .i64 0]) /\ StoreAt o' w' sb (store0 n room) /\ Chg RStore o o' w w' /\ OwnLt o' w' /\ w.heap.size <= sb := by
 have hn' : (n : Int) <= 64 := by omega
 have hn0 : (0 : Int) <= n := by omega
 have HP := Lib.hid (new_pool o room w hlt h1 h2);clear hlt h1 h2
 go_enter Tryz.func75, Tryz.ntmps75
 go_wp2_with fail;refine HP.out.mono ?_;rintro x w1 ⟨pb, o1, rfl, hp1, hc1, hl1, hpb⟩;have HI1 := Lib.hid (ident_row o1 n hn .vars w1 hl1);have HL1 := Lib.hid hl1;have HP1 := Lib.hid hp1;have HC1 := Lib.hid hc1;clear hp1 hc1 hl1;go_wp2_with fail;refine HI1.out.mono ?_;rintro x w2 ⟨vv, o2, rfl, hr2, hc2, hl2⟩;have HI2 := Lib.hid (ident_row o2 n hn .level w2 hl2);have HR2 := Lib.hid hr2;have HC2 := Lib.hid hc2;have HL2 := Lib.hid hl2;clear hr2 hc2 hl2;go_wp2_with fail;refine HI2.out.mono ?_;rintro x w3 ⟨vl, o3, rfl, hr3, hc3, hl3⟩;obtain ⟨av, cv, rfl, _⟩ := HR2.out.slice;obtain ⟨al, cl, rfl, _⟩ := hr3.slice;have HR3 := Lib.hid hr3;have HC3 := Lib.hid hc3;have HL3 := Lib.hid hl3;clear hr3 hc3 hl3;go_upto_region 7 with fail;obtain ⟨wl, hwl⟩ : ∃ wl, wl = w3.alloc (.cells #[.slice av n cv, .slice al n cl] 142) := ⟨_, rfl⟩;obtain ⟨ws, hws⟩ : ∃ ws, ws = wl.alloc (.cells #[.pointer (some ⟨w3.heap.size, 0, none⟩), .pointer (some ⟨pb, 0, none⟩), .slice none 0 0, .slice none 0 0, .int .i64 0] 145) := ⟨_, rfl⟩;have hz1 : wl.heap.size = w3.heap.size + 1 := by rw [hwl]; simp
 have hS0 : NewS o w n room (w3.heap.size + 1) ⟨w3.heap.size, pb, .slice av n cv, .slice al n cl, .slice none 0 0, .slice none 0 0, []⟩ 0 (ownAt (ownAt o3 w3.heap.size .levels) (w3.heap.size + 1) .store) ws := by
  have c1 := (Chg.refl RStore o3 w3).allocR (r := .levels) HL3.out (.cells #[.slice av n cv, .slice al n cl] 142) (by simp [RStore]);have l1 := HL3.out.allocR (.cells #[.slice av n cv, .slice al n cl] 142) .levels;rw [<- hwl] at c1 l1;have c2 := c1.allocR (r := .store) l1 (.cells #[.pointer (some ⟨w3.heap.size, 0, none⟩), .pointer (some ⟨pb, 0, none⟩), .slice none 0 0, .slice none 0 0, .int .i64 0] 145) (by simp [RStore]);have l2 := l1.allocR (.cells #[.pointer (some ⟨w3.heap.size, 0, none⟩), .pointer (some ⟨pb, 0, none⟩), .slice none 0 0, .slice none 0 0, .int .i64 0] 145) .store;rw [<- hws, hz1] at c2 l2;have hb : Below w3.heap.size w3 ws := by rw [hws, hwl]; exact (below_new1 w3 _).alloc (by simp) _
  have hr2 := ((HR2.out.chg HC3.out HL2.out (by simp)).below HL3.out hb).keep (o' := ownAt (ownAt o3 w3.heap.size .levels) (w3.heap.size + 1) .store) (fun _ _ => rfl) (fun g hg => c2.ext g _ hg);have hr3 := (HR3.out.below HL3.out hb).keep (o' := ownAt (ownAt o3 w3.heap.size .levels) (w3.heap.size + 1) .store) (fun _ _ => rfl) (fun g hg => c2.ext g _ hg);have hcc := (HC1.out.mono (R' := RStore) (fun r hr => by rcases hr with rfl | rfl | rfl <;> simp [RStore, RPool])).trans ((HC2.out.mono (R' := RStore) (fun r hr => by subst hr; simp [RStore])).trans ((HC3.out.mono (R' := RStore) (fun r hr => by subst hr; simp [RStore])).trans c2));have hp3 := (HP1.out.chg (HC2.out) HL1.out (by simp) (by simp) (by simp) (by simp)).chg HC3.out HL2.out (by simp) (by simp) (by simp) (by simp);have hp := (hp3.below hb HL3.out).keep (o' := ownAt (ownAt o3 w3.heap.size .levels) (w3.heap.size + 1) .store) (fun _ _ _ _ => rfl) (fun g r hg => c2.ext g r hg);refine ⟨ownAt_same _ _ _, ownAt_old l1 (by omega) (ownAt_same _ _ _), ?_, ?_, hr2, hr3, hp, RowR.nil _ _ _ _ _, rfl, fun v hv => absurd hv (by omega), hcc, l2, ?_⟩
  ·
   rw [hws, <- hz1]; exact heap_alloc_new wl _
  ·
   rw [hws]; exact (Go.heap_alloc_old wl _ (show w3.heap.size < wl.heap.size by omega)).trans (by rw [hwl]; exact heap_alloc_new w3 _)
  ·
   show w.heap.size <= w3.heap.size + 1
   exact Nat.le_succ_of_le (Nat.le_trans HC1.out.size (Nat.le_trans HC2.out.size HC3.out.size))
 rw [<- hwl, <- hws];have HS0 := Lib.hid hS0;clear hS0 hws hwl hz1 HR2 HR3 HC1 HC2 HC3 HL1 HL2 HL3 HP1 HI1 HI2 HP;go_wp2_with fail
 go_loopw [31] (fun i wr => ∃ (j : Nat) (s : StoreW) (o1 : Own), j <= n /\ i = .int .i64 j /\ NewS o w n room (w3.heap.size + 1) s j o1 wr) (fun i _ => n - (intOf i).toNat)
 case atStart => exact ⟨0, _, _, by omega, rfl, HS0.out⟩
 case round =>
  obtain ⟨j, s, o1, hj, rfl, hS⟩ := hrel;clear HS0
  by_cases hlt : j < n
  ·
   obtain ⟨c0, c1, c2, c3, c4, f0⟩ := cells5 hS.blk;obtain ⟨av, cv, hvt, _⟩ := hS.tabs.slice;rw [hvt] at c2;have hlt' : (j : Int) < n := by omega
   have HJ : (j : Int) + 1 <= 64 := by omega
   have HS := Lib.hid hS;have HTR : Hid (RowR o1 wr .tabs 146 1 (.slice av j cv) j (s.ts.map ptrV)) := by show RowR _ _ _ _ _ _ _ _; rw [<- hvt]; exact hS.tabs
   have HNU := Lib.hid (new_uniq o1 j wr.drew hS.lt);have HJ64 : j <= 64 := by omega
   have HVT := Lib.hid hvt;clear hvt hS;go_upto_region 9 with fail;refine wp_region_mix (fun W : World => W.cell? ⟨w3.heap.size + 1, 2, none⟩ = some (.slice av j cv) /\ W.frozen? ⟨w3.heap.size + 1, 2, none⟩ = false) true 10
    [(0, false), (1, false), (2, false), (3, false), (4, false), (5, true), (6, true), (7, true), (8, false), (9, false), (10, true)] (by kernel_rfl) (by kernel_rfl) ⟨c2, f0 2⟩ ?_
   simp only [planned, plnLz]
   iterate 5
    refine mix_readE rfl ?_;apply Exists.intro;refine ⟨fun w' hw => ?_, ?_⟩
    ·
     obtain ⟨h1, h2⟩ := hw;go_simp;rfl
    simp only [putLz]
   refine mix_callR (R := fun v w' => ∃ t o2, v = .pointer (some ⟨t, 0, none⟩) /\ TabIs o2 w' j t (fun _ => none) /\ Chg (fun r => r = .tab j \/ r = .tmap j) o1 o2 wr w' /\ OwnLt o2 w') rfl (by go_simp) (HNU.out.mono (fun e w' he => ?_)) ?_
   ·
    obtain ⟨t, o2, rfl, a1, a2, a3, a4⟩ := he;obtain ⟨_, _, q2, _, _, q0⟩ := cells5 ((a2.same (by exact HS.out.lt) HS.out.own (by simp)).trans HS.out.blk);exact ⟨_, rfl, ⟨by rw [<- HVT.out]; exact q2, q0 2⟩, t, o2, rfl, a1, ⟨a2.os, a2.tape, a2.output, a2.size, a2.block, a2.ext, a2.new⟩, a3⟩
   rintro v wy - ⟨t, o2, rfl, ht, hcy, hly⟩;simp only [putLz];have hsy := (hcy.same HS.out.lt HS.out.own (by simp)).trans HS.out.blk;have hly2 : w3.heap.size + 1 < wy.heap.size := (Array.getElem?_eq_some_iff.1 hsy).1;have HCY := Lib.hid hcy;have HTY := Lib.hid ht;have HLY := Lib.hid hly;have HTR2 := HTR.out.chg hcy HS.out.lt (by simp);obtain ⟨wb, hwb⟩ : ∃ wb, wb = wy.alloc (.cells #[.pointer (some ⟨t, 0, none⟩)] 146) := ⟨_, rfl⟩;obtain ⟨_, _, p2, _, _, p0⟩ := cells5 (show wb.heap[w3.heap.size + 1]? = _ from by rw [hwb]; exact (Go.heap_alloc_old _ _ hly2).trans hsy);refine mix_value (v := .slice (some ⟨wy.heap.size, 0, none⟩) 1 1) (w' := wb) rfl (by rw [hwb]; go_simp) ⟨by rw [<- HVT.out]; exact p2, p0 2⟩ ?_;simp only [putLz];obtain ⟨g, cap, wz, o3, happ, hrz, hcz, hlz⟩ := run_appOne 143 146 143 1 8 (.pointer none) Tryz.underlying143 infoPtrTab rfl (by decide) #[.pointer (some ⟨t, 0, none⟩)] rfl (fun u hu => by simp at hu; subst hu; rfl) HTR2 hly (by omega) (by decide);rw [<- hwb] at happ;obtain ⟨_, _, r2, _, _, r0⟩ := cells5 ((hcz.same hly (hcy.ext _ _ HS.out.own) (by simp)).trans hsy);refine mix_value (v := .slice (some ⟨g, 0, none⟩) (j + 1) cap) (w' := wz) rfl (exec_append rfl rfl rfl happ) ⟨by rw [<- HVT.out]; exact r2, r0 2⟩ ?_;simp only [putLz];have HG := Lib.hid (HS.out.grown ht hcy hly hrz hcz hlz);clear hsy hly2 hcy ht hly HTR2 hwb p2 p0 happ hrz hcz hlz
   iterate 2
    refine mix_readE rfl ?_;apply Exists.intro;refine ⟨fun w' hw => ?_, ?_⟩
    ·
     obtain ⟨h1, h2⟩ := hw;go_simp;rfl
    simp only [putLz]
   refine mix_last rfl (fun K hK => ?_);unfold Oper.wp;go_simp;refine hK _ _ (np_normal ?_);go_wp2_with fail;go_roundw
   case rel => exact ⟨j + 1, _, _, by omega, by simp, HG.out⟩
   case measure => simp [intOf]; omega
  ·
   obtain rfl : j = n := by omega
   have HS := Lib.hid hS;clear hS;go_wp2_with fail
   go_ret2
   exact ⟨_, _, rfl, HS.out.done, HS.out.chg, HS.out.lt, HS.out.ge⟩
open Go.RowKit
structure Ev where
 after : Int
 kind : Int
 level : Int
def evL (e : Ev) : List Value := [.int .i64 e.after, .int .i64 e.kind, .int .i64 e.level]
def evA (e : Ev) : Value := .agg #[.int .i64 e.after, .int .i64 e.kind, .int .i64 e.level]
structure WaitsAt (o : Own) (w : World) (v : Value) (ws : List Ev) : Prop where
 ex : (v = .slice none 0 0 /\ ws = []) \/ ∃ g off cap cur, v = .slice (some ⟨g, off, none⟩) ws.length cap /\ o g = some .waits /\ w.heap[g]? = some (.cells cur 94 (0, 0)) /\ ws.length <= cap /\ cap <= maxLen /\
  off + cap * 3 <= cur.size /\ (cur.toList.drop off).take (ws.length * 3) = ws.flatMap evL
theorem WaitsAt.keep {o o' : Own} {w w' : World} {v : Value} {ws : List Ev} (h : WaitsAt o w v ws) (hk : ∀ g, o g = some .waits -> w'.heap[g]? = w.heap[g]?) (ho : ∀ g, o g = some .waits -> o' g = some .waits) : WaitsAt o' w' v ws := by
 refine ⟨h.ex.imp id ?_⟩;rintro ⟨g, off, cap, cur, h1, h2, h3, rest⟩;exact ⟨g, off, cap, cur, h1, ho g h2, (hk g h2).trans h3, rest⟩
theorem WaitsAt.chg {R : Role -> Prop} {o o' : Own} {w w' : World} {v : Value} {ws : List Ev} (h : WaitsAt o w v ws) (hc : Chg R o o' w w') (hlt : OwnLt o w) (hr : ¬ R .waits) : WaitsAt o' w' v ws :=
 h.keep (fun g hg => hc.same hlt hg hr) (fun g hg => hc.ext g _ hg)
theorem WaitsAt.nil (o : Own) (w : World) : WaitsAt o w (.slice none 0 0) [] := ⟨.inl ⟨rfl, rfl⟩⟩
theorem WaitsAt.slice {o : Own} {w : World} {v : Value} {ws : List Ev} (h : WaitsAt o w v ws) : ∃ a cap, v = .slice a ws.length cap /\ (a = none -> cap = 0) := by
 rcases h.ex with ⟨h1, h0⟩ | ⟨g, off, cap, cur, h1, _⟩
 ·
  exact ⟨none, 0, by rw [h1, h0]; rfl, fun _ => rfl⟩
 ·
  exact ⟨_, cap, h1, by simp⟩
theorem evFlat_length (ws : List Ev) : (ws.flatMap evL).length = ws.length * 3 := flat_length evL 3 (fun _ => rfl) ws
theorem WaitsAt.first {o : Own} {w : World} {v : Value} {ev : Ev} {ws : List Ev} (h : WaitsAt o w v (ev :: ws)) : ∃ g off cap, v = .slice (some ⟨g, off, none⟩) (ws.length + 1) cap /\ o g = some .waits /\ ws.length + 1 <= cap /\ cap <= maxLen /\
 w.cell? ⟨g, off, none⟩ = some (.int .i64 ev.after) /\ w.cell? ⟨g, off + 1, none⟩ = some (.int .i64 ev.kind) /\ w.cell? ⟨g, off + 2, none⟩ = some (.int .i64 ev.level) /\ WaitsAt o w (.slice (if cap = 1 then some ⟨g, off, none⟩ else some ⟨g, off + 3, none⟩) ws.length (cap - 1)) ws := by
 rcases h.ex with ⟨h1, h0⟩ | ⟨g, off, cap, cur, h1, h2, h3, h4, h5, h6, h7⟩
 ·
  cases h0
 ·
  simp only [List.length_cons] at h1 h4 h7;have hc : ∀ j u, (evL ev ++ ws.flatMap evL)[j]? = some u -> w.cell? ⟨g, off + j, none⟩ = some u := by
   intro j u hj;have hl := (List.getElem?_eq_some_iff.1 hj).1;have hl' : j < (ws.length + 1) * 3 := by
    have e1 : (evL ev ++ ws.flatMap evL).length = 3 + ws.length * 3 := by rw [List.length_append, evFlat_length]; rfl
    omega
   rw [cell_of_row w g (off + j) cur _ (0, 0) h3];have e2 : (evL ev ++ ws.flatMap evL)[j]? = ((cur.toList.drop off).take ((ws.length + 1) * 3))[j]? := by rw [h7]; rfl
   rw [e2, List.getElem?_take, if_pos hl', List.getElem?_drop] at hj;simpa using hj
  refine ⟨g, off, cap, h1, h2, h4, h5, hc 0 _ rfl, hc 1 _ rfl, hc 2 _ rfl, ⟨.inr ?_⟩⟩
  by_cases e1 : cap = 1
  ·
   have e2 : ws = [] := List.eq_nil_of_length_eq_zero (by omega);subst e2;exact ⟨g, off, cap - 1, cur, by rw [if_pos e1], h2, h3, by simp, by omega, by omega, by simp⟩
  ·
   refine ⟨g, off + 3, cap - 1, cur, by rw [if_neg e1], h2, h3, by omega, by omega, by omega, ?_⟩;have e3 : (cur.toList.drop (off + 3)).take (ws.length * 3) = ((cur.toList.drop off).take ((ws.length + 1) * 3)).drop 3 := by
    rw [List.drop_take, List.drop_drop];congr 1;omega
   rw [e3, h7];rfl
structure ManD where
 d : StoreD
 hs : List (Int × Nat)
 next : Int
 waits : List Ev
 calls : Int
structure ManW where
 sb : Nat
 me : Nat
 hb : Nat
 vw : Value
def encH (hs : List (Int × Nat)) : List (Int × Value) := hs.map fun p => (p.1, .int .i64 (p.2 : Nat))
structure ManIn (F : Phi) (o : Own) (w : World) (mb : Nat) (m : ManD) (s : ManW) : Prop where
 own : o mb = some .man
 blk : w.heap[mb]? = some (.cells #[.pointer (some ⟨s.sb, 0, none⟩), .pointer (some ⟨s.me, 0, none⟩), .map (some s.hb), .int .i64 m.next, s.vw, .int .i64 m.calls] 105 (0, 0))
 store : StoreAt o w s.sb m.d
 memo : MemoAt o w s.me F
 ownh : o s.hb = some .handles
 map : MapIs w s.hb (Value.int .i64) (encH m.hs)
 waits : WaitsAt o w s.vw m.waits
def ManAt (F : Phi) (o : Own) (w : World) (mb : Nat) (m : ManD) : Prop := ∃ s, ManIn F o w mb m s
theorem cells6 {w : World} {g : Nat} {a b c d e f : Value} {T : TypeId} (h : w.heap[g]? = some (.cells #[a, b, c, d, e, f] T (0, 0))) : w.cell? ⟨g, 0, none⟩ = some a /\ w.cell? ⟨g, 1, none⟩ = some b /\ w.cell? ⟨g, 2, none⟩ = some c /\ w.cell? ⟨g, 3, none⟩ = some d /\ w.cell? ⟨g, 4, none⟩ = some e /\ w.cell? ⟨g, 5, none⟩ = some f /\
 (∀ k, w.frozen? ⟨g, k, none⟩ = false) :=
 ⟨by rw [cell_of_row w g 0 _ _ _ h]; rfl, by rw [cell_of_row w g 1 _ _ _ h]; rfl, by rw [cell_of_row w g 2 _ _ _ h]; rfl, by rw [cell_of_row w g 3 _ _ _ h]; rfl, by rw [cell_of_row w g 4 _ _ _ h]; rfl, by rw [cell_of_row w g 5 _ _ _ h]; rfl, fun k => by simp [World.frozen?, h]⟩
section
variable {F : Phi} {o o' : Own} {w w' : World} {mb : Nat} {m : ManD} {s : ManW}
theorem MapIs.keepB {w w' : World} {b : Nat} {enc : Int -> Value} {l : List (Int × Value)} (h : MapIs w b enc l) (hk : w'.heap[b]? = w.heap[b]?) : MapIs w' b enc l := by
 obtain ⟨es, c, hb, rest⟩ := h.ex;exact ⟨⟨es, c, hk.trans hb, rest⟩, h.nodup⟩
theorem StoreAt.keepR {sb : Nat} {d : StoreD} (h : StoreAt o w sb d) (hk : ∀ g r, o g = some r -> RStore r -> w'.heap[g]? = w.heap[g]?) (ho : ∀ g r, o g = some r -> o' g = some r) : StoreAt o' w' sb d := by
 obtain ⟨s, h⟩ := h;have row : ∀ {r e k v n xs}, RStore r -> RowR o w r e k v n xs -> RowR o' w' r e k v n xs := fun hr h => h.keep (fun g hg => hk g _ hg hr) (fun g hg => ho g _ hg)
 refine ⟨s, ho _ _ h.own, ho _ _ h.ownl, (hk _ _ h.own (by simp [RStore])).trans h.blk, (hk _ _ h.ownl (by simp [RStore])).trans h.lev, row (by simp [RStore]) h.vars, row (by simp [RStore]) h.level,
  h.pool.keep (fun g r hg hr => hk g r hg (by rcases hr with rfl | rfl | rfl | rfl <;> simp [RStore, RPool])) ho, row (by simp [RStore]) h.tabs,
  fun v hv => (h.tab v hv).keep (fun g r hg hr => hk g r hg (by rcases hr with rfl | rfl <;> simp [RStore])) ho, row (by simp [RStore]) h.counts, h.len, h.tlen⟩
theorem MemoAt.mono {G : Phi} {me : Nat} (h : MemoAt o w me F) (hF : ∀ op a b c r, F op a b c r -> G op a b c r) : MemoAt o w me G := by
 obtain ⟨ve, a, f, h1, h2⟩ := h.ex;refine ⟨h.own, ve, a, f, h1, h2.imp id ?_⟩;rintro ⟨ge, cap, l, e1, e2, e3, e4⟩;exact ⟨ge, cap, l, e1, e2, e3, fun i hi => hF _ _ _ _ _ (e4 i hi)⟩
theorem ManIn.keep (h : ManIn F o w mb m s) (hk : ∀ g r, o g = some r -> w'.heap[g]? = w.heap[g]?) (ho : ∀ g r, o g = some r -> o' g = some r) : ManIn F o' w' mb m s :=
 ⟨ho _ _ h.own, (hk _ _ h.own).trans h.blk, h.store.keepR (fun g r hg _ => hk g r hg) ho, h.memo.keep (fun g r hg _ => hk g r hg) ho, ho _ _ h.ownh, h.map.keepB (hk _ _ h.ownh), h.waits.keep (fun g hg => hk g _ hg) (fun g hg => ho g _ hg)⟩
theorem ManIn.below (h : ManIn F o w mb m s) (hlt : OwnLt o w) (hb : Below w.heap.size w w') : ManIn F o w' mb m s := h.keep (fun g r hg => hb.block g (hlt g r hg)) (fun _ _ h => h)
theorem ManIn.setStore {d' : StoreD} (h : ManIn F o w mb m s) (hlt : OwnLt o w) (hs : StoreAt o' w' s.sb d') (hc : Chg RStore o o' w w') : ManIn F o' w' mb { m with d := d' } s :=
 ⟨hc.ext _ _ h.own, (hc.same hlt h.own (by simp [RStore, RPool])).trans h.blk, hs, h.memo.chg hc hlt (by simp [RStore, RPool]) (by simp [RStore, RPool]), hc.ext _ _ h.ownh, h.map.keepB (hc.same hlt h.ownh (by simp [RStore, RPool])), h.waits.chg hc hlt (by simp [RStore, RPool])⟩
theorem ManIn.setMemo {G : Phi} (h : ManIn F o w mb m s) (hlt : OwnLt o w) (hm : MemoAt o' w' s.me G) (hc : Chg (fun r => r = .memo \/ r = .entries) o o' w w') : ManIn G o' w' mb m s :=
 ⟨hc.ext _ _ h.own, (hc.same hlt h.own (by simp)).trans h.blk, h.store.keepR (fun g r hg hr => hc.same hlt hg (by rintro (rfl | rfl) <;> simp [RStore, RPool] at hr)) hc.ext, hm, hc.ext _ _ h.ownh, h.map.keepB (hc.same hlt h.ownh (by simp)), h.waits.chg hc hlt (by simp)⟩
theorem ManIn.mono {G : Phi} (h : ManIn F o w mb m s) (hF : ∀ op a b c r, F op a b c r -> G op a b c r) : ManIn G o w mb m s := ⟨h.own, h.blk, h.store, h.memo.mono hF, h.ownh, h.map, h.waits⟩
theorem ManIn.field (h : ManIn F o w mb m s) {k : Nat} {u : Value} {m' : ManD} {s' : ManW} (hd : m'.d = m.d) (hh : m'.hs = m.hs) (h1 : s'.sb = s.sb) (h2 : s'.me = s.me) (h3 : s'.hb = s.hb) (hw : WaitsAt o w s'.vw m'.waits)
 (hb : (#[.pointer (some ⟨s.sb, 0, none⟩), .pointer (some ⟨s.me, 0, none⟩), .map (some s.hb), .int .i64 m.next, s.vw, .int .i64 m.calls] : Array Value).setIfInBounds k u = #[.pointer (some ⟨s.sb, 0, none⟩), .pointer (some ⟨s.me, 0, none⟩), .map (some s.hb), .int .i64 m'.next, s'.vw, .int .i64 m'.calls]) :
 ManIn F o (w.setCell ⟨mb, k, none⟩ u) mb m' s' := by
 have ne : ∀ {g r}, o g = some r -> r ≠ .man -> g ≠ mb := fun hg hr e => by subst e; have := h.own; rw [hg] at this; cases this; exact hr rfl
 refine ⟨h.own, ?_, ?_, ?_, by rw [h3]; exact h.ownh, ?_, hw.keep (fun g hg => heap_setCell_ne (ne hg (by simp)) _) (fun _ h => h)⟩
 ·
  rw [h1, h2, h3, <- hb]; exact heap_setCell_same h.blk _
 ·
  rw [h1, hd]; exact h.store.keepR (fun g r hg hr => heap_setCell_ne (ne hg (by rintro rfl; simp [RStore, RPool] at hr)) _) (fun _ _ h => h)
 ·
  rw [h2]; exact h.memo.keep (fun g r hg hr => heap_setCell_ne (ne hg (by rintro rfl; rcases hr with e | e <;> cases e)) _) (fun _ _ h => h)
 ·
  rw [h3, hh]; exact h.map.keepB (heap_setCell_ne (ne h.ownh (by simp)) _)
end
abbrev Law := StoreD -> (Nat -> BF) -> Phi
def minL (d : StoreD) (a b c : Nat) : Nat := min (lvE d.vars.length (levN d) (nodesOf d) a) (min (lvE d.vars.length (levN d) (nodesOf d) b) (lvE d.vars.length (levN d) (nodesOf d) c))
structure IteP (d : StoreD) (V : Nat -> BF) (a b c r : Nat) : Prop where
 okA : okE (nodesOf d) a
 okB : okE (nodesOf d) b
 okC : okE (nodesOf d) c
 okR : okE (nodesOf d) r
 val : ∀ ρ, ef V r ρ = if ef V a ρ then ef V b ρ else ef V c ρ
 lev : minL d a b c <= lvE d.vars.length (levN d) (nodesOf d) r
structure LawOK (K : Law) : Prop where
 ite : ∀ d V a b c r, K d V 1 a b c r ↔ IteP d V a b c r
 ext : ∀ d V d' V' op a b c r, StoreOK d V -> StoreOK d' V' -> Ext d V d' V' -> K d V op a b c r -> K d' V' op a b c r
 same : ∀ d d' V op a b c r, d'.vars = d.vars -> d'.level = d.level -> nodesOf d' = nodesOf d -> K d V op a b c r -> K d' V op a b c r
def refsOf (hs : List (Int × Nat)) (i : Nat) : Nat := (hs.filter fun p => decide (1 < p.1) && p.2 / 2 == i).length
structure HandlesOK (m : ManD) : Prop where
 nodup : (m.hs.map Prod.fst).Nodup
 zero : (0, 1) ∈ m.hs
 one : (1, 0) ∈ m.hs
 lt : ∀ p ∈ m.hs, 0 <= p.1 /\ p.1 < m.next
 next : 2 <= m.next
 ok : ∀ p ∈ m.hs, okE (nodesOf m.d) p.2
 len : (m.hs.length : Int) <= m.next
 refs : ∀ i b, nodesOf m.d i = some b -> extOf m.d i = refsOf m.hs i
structure ManOK (m : ManD) (V : Nat -> BF) : Prop where
 store : StoreOK m.d V
 handles : HandlesOK m
structure Step (K : Law) (o : Own) (w : World) (mb : Nat) (m : ManD) (V : Nat -> BF) (o' : Own) (w' : World) (m' : ManD) (V' : Nat -> BF) : Prop where
 is : ManAt (K m'.d V') o' w' mb m'
 lt : OwnLt o' w'
 chg : Chg (fun _ => True) o o' w w'
 ok : StoreOK m'.d V'
 ext : Ext m.d V m'.d V'
 hs : m'.hs = m.hs
 next : m'.next = m.next
theorem Step.trans {K : Law} {o o' o'' : Own} {w w' w'' : World} {mb : Nat} {m m' m'' : ManD} {V V' V'' : Nat -> BF} (h : Step K o w mb m V o' w' m' V') (h' : Step K o' w' mb m' V' o'' w'' m'' V'') : Step K o w mb m V o'' w'' m'' V'' :=
 ⟨h'.is, h'.lt, h.chg.trans h'.chg, h'.ok, h.ext.trans h'.ext, h'.hs.trans h.hs, h'.next.trans h.next⟩
structure CtxAt (o : Own) (w : World) (xb mb : Nat) : Prop where
 cell : w.cell? ⟨xb, 0, none⟩ = some (.pointer (some ⟨mb, 0, none⟩))
 own : o xb = none
theorem CtxAt.chg {R : Role -> Prop} {o o' : Own} {w w' : World} {xb mb : Nat} (h : CtxAt o w xb mb) (hc : Chg R o o' w w') : CtxAt o' w' xb mb := ⟨hc.cell h.cell h.own, hc.alien' (World.block_lt_of_cell? w _ h.cell) h.own⟩
open Go.RowKit
def sw1 (f g : Nat) : Nat := if g = f then 0 else if g = enot f then 1 else g
def sw2 (f h : Nat) : Nat := if h = f then 1 else if h = enot f then 0 else h
theorem sw1_lt {f g : Nat} (h : g < eMax) : sw1 f g < eMax := by unfold sw1; unfold eMax at *; split <;> (try split) <;> omega
theorem sw2_lt {f g : Nat} (h : g < eMax) : sw2 f g < eMax := by unfold sw2; unfold eMax at *; split <;> (try split) <;> omega
theorem eqE2 (w : World) (a b c d : Nat) : (Op.equalIn 10000 168 (.agg #[.int .i64 a, .int .i64 b]) (.agg #[.int .i64 c, .int .i64 d])).run Tryz.prog w = .ok (decide (a = c /\ b = d)) w := by
 have h := eqE w (a, b) (c, d);unfold encE Op.equal at h;simp only [Prod.mk.injEq] at h;exact h
structure IteR where
 a : Nat
 b : Nat
 c : Nat
 n : Bool
 r : Nat
 dn : Bool
def iteV (x : IteR) : Value := .tuple #[.int .i64 x.a, .int .i64 x.b, .int .i64 x.c, .bool x.n, .int .i64 x.r, .bool x.dn]
def iteM (f g h : Nat) : IteR := if eneg f then ⟨enot f, eflip h (eneg h), eflip g (eneg h), eneg h, 0, false⟩ else ⟨f, eflip g (eneg g), eflip h (eneg g), eneg g, 0, false⟩
def iteK (f g h : Nat) : IteR :=
 if f = 0 \/ g = h then ⟨0, 0, 0, false, g, true⟩ else if f = 1 then ⟨0, 0, 0, false, h, true⟩ else if g = 0 /\ h = 1 then ⟨0, 0, 0, false, f, true⟩ else if g = 1 /\ h = 0 then ⟨0, 0, 0, false, enot f, true⟩ else iteM f g h
def iteR (f g h : Nat) : IteR := iteK f (sw1 f g) (sw2 f h)
theorem results_tmp6 {fn : Func} {t u v x y z : Tmp} (h : fn.results = #[.tmp t, .tmp u, .tmp v, .tmp x, .tmp y, .tmp z]) (tmps : Array Value) (P : Program) (w : World) :
 (results fn tmps).run P w = .ok (.tuple #[tmps.getD t undef, tmps.getD u undef, tmps.getD v undef, tmps.getD x undef, tmps.getD y undef, tmps.getD z undef]) w := by
 simp [results, h]
theorem ite_any (f g h : Nat) (w : World) (hf : f < eMax) (hg : g < eMax) (hh : h < eMax) :
 Calls Tryz.prog 92 #[.int .i64 f, .int .i64 g, .int .i64 h] w fun x w' => x = .returned (iteV (iteR f g h)) /\ w = w' := by
 have HN := Lib.hid (fun W : World => not_any f W hf);have HG' := Lib.hid (sw1_lt (f := f) hg);have HH := Lib.hid hh;have HH' := Lib.hid (sw2_lt (f := f) hh);have HFF := Lib.hid hf;clear hf hg hh
 go_enter Tryz.func92, Tryz.ntmps92
 go_upto_block 0 with fail
 go_cut [1] from 13 (fun s1 wx => s1 = .int .i64 (sw1 f g : Nat) /\ wx = w)
 case first =>
  by_cases h1 : g = f
  ·
   have HX : Hid ((sw1 f g : Nat) = 0) := by show _ = _; simp [sw1, h1]
   subst h1;go_wp2_with fail;go_meet;exact ⟨by rw [HX.out]; rfl, rfl⟩
  ·
   have H1 : (g == f) = false := by simp [h1]
   by_cases h2 : g = enot f
   ·
    have HX : Hid ((sw1 f g : Nat) = 1) := by show _ = _; unfold sw1; rw [if_neg h1, if_pos h2]
    subst h2;clear h1;go_wp2_with (go_at_call 102; refine (HN.out _).mono ?_; rintro x w' ⟨rfl, rfl⟩);go_meet;exact ⟨by rw [HX.out]; rfl, rfl⟩
   ·
    have HX : Hid ((sw1 f g : Nat) = g) := by show _ = _; unfold sw1; rw [if_neg h1, if_neg h2]
    have H2 : (g == enot f) = false := by simp [h2]
    clear h1 h2;go_wp2_with (go_at_call 102; refine (HN.out _).mono ?_; rintro x w' ⟨rfl, rfl⟩);go_meet;exact ⟨by rw [HX.out], rfl⟩
 case rest =>
  obtain ⟨rfl, rfl⟩ := hcut;have HX1 : Hid (iteR f g h = iteK f (sw1 f g) (sw2 f h)) := by show _ = _; rfl
  obtain ⟨g', hg'⟩ : ∃ g', g' = sw1 f g := ⟨_, rfl⟩;rw [<- hg'] at HX1;rw [<- hg'] at HG' ⊢;clear hg'
  go_upto_block 1 with fail
  go_cut [2] from 13 (fun s2 wx => s2 = .int .i64 (sw2 f h : Nat) /\ wx = wc)
  case first =>
   by_cases h1 : h = f
   ·
    have HX : Hid ((sw2 f h : Nat) = 1) := by show _ = _; simp [sw2, h1]
    subst h1;go_wp2_with fail;go_meet;exact ⟨by rw [HX.out]; rfl, rfl⟩
   ·
    have H1 : (h == f) = false := by simp [h1]
    by_cases h2 : h = enot f
    ·
     have HX : Hid ((sw2 f h : Nat) = 0) := by show _ = _; unfold sw2; rw [if_neg h1, if_pos h2]
     subst h2;clear h1;go_wp2_with (go_at_call 102; refine (HN.out _).mono ?_; rintro x w' ⟨rfl, rfl⟩);go_meet;exact ⟨by rw [HX.out]; rfl, rfl⟩
    ·
     have HX : Hid ((sw2 f h : Nat) = h) := by show _ = _; unfold sw2; rw [if_neg h1, if_neg h2]
     have H2 : (h == enot f) = false := by simp [h2]
     clear h1 h2;go_wp2_with (go_at_call 102; refine (HN.out _).mono ?_; rintro x w' ⟨rfl, rfl⟩);go_meet;exact ⟨by rw [HX.out], rfl⟩
  case rest =>
   obtain ⟨rfl, rfl⟩ := hcut;obtain ⟨h', hh'⟩ : ∃ h', h' = sw2 f h := ⟨_, rfl⟩;rw [<- hh'] at HX1 HH' ⊢;clear hh'
   rename World => w
   have hq := fun (a b c d : Nat) => eqE2 w a b c d
   by_cases f0 : f = 0
   ·
    have HR : Hid (iteR f g h = ⟨0, 0, 0, false, g', true⟩) := by show _ = _; rw [HX1.out, iteK, if_pos (.inl f0)]
    subst f0;go_wp2_with fail;refine bodyPost_ret (results_tmp6 rfl _ _ _) rfl ?_;exact ⟨by rw [HR.out]; rfl, rfl⟩
   ·
    have H0 : ((f : Int) == 0) = false := by simp [f0]
    by_cases e1 : g' = h'
    ·
     have HR : Hid (iteR f g h = ⟨0, 0, 0, false, g', true⟩) := by show _ = _; rw [HX1.out, iteK, if_pos (.inr e1)]
     subst e1;go_wp2_with fail;refine bodyPost_ret (results_tmp6 rfl _ _ _) rfl ?_;exact ⟨by rw [HR.out]; rfl, rfl⟩
    ·
     have H1 : (g' == h') = false := by simp [e1]
     by_cases f1 : f = 1
     ·
      have HR : Hid (iteR f g h = ⟨0, 0, 0, false, h', true⟩) := by show _ = _; rw [HX1.out, iteK, if_neg (by simp [f0, e1]), if_pos f1]
      have HR := HR;subst f1;clear f0 e1;go_wp2_with fail;refine bodyPost_ret (results_tmp6 rfl _ _ _) rfl ?_;exact ⟨by rw [HR.out]; rfl, rfl⟩
     ·
      have H2 : ((f : Int) == 1) = false := by simp; omega
      by_cases q1 : g' = 0 /\ h' = 1
      ·
       have HR : Hid (iteR f g h = ⟨0, 0, 0, false, f, true⟩) := by show _ = _; rw [HX1.out, iteK, if_neg (by simp [f0, e1]), if_neg f1, if_pos q1]
       have hq1 : (Op.equalIn 10000 168 (.agg #[.int .i64 g', .int .i64 h']) (.agg #[.int .i64 0, .int .i64 1])).run Tryz.prog w = .ok true w := (hq g' h' 0 1).trans (by simp [q1]);clear f0 e1 f1 q1 hq;go_wp2_with fail;refine bodyPost_ret (results_tmp6 rfl _ _ _) rfl ?_;exact ⟨by rw [HR.out]; rfl, rfl⟩
      ·
       have hq1 : (Op.equalIn 10000 168 (.agg #[.int .i64 g', .int .i64 h']) (.agg #[.int .i64 0, .int .i64 1])).run Tryz.prog w = .ok false w := (hq g' h' 0 1).trans (by simp [q1])
       by_cases q2 : g' = 1 /\ h' = 0
       ·
        have HR : Hid (iteR f g h = ⟨0, 0, 0, false, enot f, true⟩) := by show _ = _; rw [HX1.out, iteK, if_neg (by simp [f0, e1]), if_neg f1, if_neg q1, if_pos q2]
        have hq2 : (Op.equalIn 10000 168 (.agg #[.int .i64 g', .int .i64 h']) (.agg #[.int .i64 1, .int .i64 0])).run Tryz.prog w = .ok true w := (hq g' h' 1 0).trans (by simp [q2]);clear f0 e1 f1 q1 hq q2;go_wp2_with (go_at_call 102; refine (HN.out _).mono ?_; rintro x w' ⟨rfl, rfl⟩);refine bodyPost_ret (results_tmp6 rfl _ _ _) rfl ?_;exact ⟨by rw [HR.out]; rfl, rfl⟩
       ·
        have hq2 : (Op.equalIn 10000 168 (.agg #[.int .i64 g', .int .i64 h']) (.agg #[.int .i64 1, .int .i64 0])).run Tryz.prog w = .ok false w := (hq g' h' 1 0).trans (by simp [q2]);have HR0 : Hid (iteR f g h = iteM f g' h') := by show _ = _; rw [HX1.out, iteK, if_neg (by simp [f0, e1]), if_neg f1, if_neg q1, if_neg q2]
        clear f0 e1 f1 q1 hq q2;have HNE := Lib.hid (fun W : World => neg_any f W HFF.out);cases hb : eneg f with
        | true =>
          have HR : Hid (iteR f g h = ⟨enot f, eflip h' (eneg h'), eflip g' (eneg h'), eneg h', 0, false⟩) := by show _ = _; rw [HR0.out, iteM, if_pos hb]
          rw [hb] at HNE;clear hb;go_wp2_with fail;refine (HNE.out _).mono ?_;rintro x w' ⟨rfl, rfl⟩;go_wp2_with fail;refine (HN.out _).mono ?_;rintro x w' ⟨rfl, rfl⟩;go_wp2_with fail;refine (neg_any h' _ HH'.out).mono ?_;rintro x w' ⟨rfl, rfl⟩;go_wp2_with fail;refine (flip_any h' _ _ HH'.out).mono ?_;rintro x w' ⟨rfl, rfl⟩;go_wp2_with fail;refine (flip_any g' _ _ HG'.out).mono ?_;rintro x w' ⟨rfl, rfl⟩;go_wp2_with fail;refine bodyPost_ret (results_tmp6 rfl _ _ _) rfl ?_;exact ⟨by rw [HR.out]; rfl, rfl⟩
        | false =>
          have HR : Hid (iteR f g h = ⟨f, eflip g' (eneg g'), eflip h' (eneg g'), eneg g', 0, false⟩) := by show _ = _; rw [HR0.out, iteM, if_neg (by simp [hb])]
          rw [hb] at HNE;clear hb;go_wp2_with fail;refine (HNE.out _).mono ?_;rintro x w' ⟨rfl, rfl⟩;go_wp2_with fail;refine (neg_any g' _ HG'.out).mono ?_;rintro x w' ⟨rfl, rfl⟩;go_wp2_with fail;refine (flip_any g' _ _ HG'.out).mono ?_;rintro x w' ⟨rfl, rfl⟩;go_wp2_with fail;refine (flip_any h' _ _ HH'.out).mono ?_;rintro x w' ⟨rfl, rfl⟩;go_wp2_with fail;refine bodyPost_ret (results_tmp6 rfl _ _ _) rfl ?_;exact ⟨by rw [HR.out]; rfl, rfl⟩
end Go.Proofs.YtchliiaknmknhaaGreat

namespace Go.Proofs.YtchliiaknmknhaaGreat
def HalfIn (e f g h : Nat) : Prop := e / 2 = 0 \/ e / 2 = f / 2 \/ e / 2 = g / 2 \/ e / 2 = h / 2
def iteB (a b c : Bool) : Bool := if a then b else c
section
variable {V : Nat -> BF} (hV : ∀ ρ, V 0 ρ = true)
theorem ef_zero (hV : ∀ ρ, V 0 ρ = true) (ρ : Nat -> Bool) : ef V 0 ρ = true := by simp [ef, hV]
theorem ef_one (hV : ∀ ρ, V 0 ρ = true) (ρ : Nat -> Bool) : ef V 1 ρ = false := by simp [ef, hV]
theorem sw1_ef (hV : ∀ ρ, V 0 ρ = true) (f g : Nat) (h : Bool) (ρ : Nat -> Bool) : iteB (ef V f ρ) (ef V (sw1 f g) ρ) h = iteB (ef V f ρ) (ef V g ρ) h := by
 unfold sw1
 by_cases e1 : g = f
 ·
  subst e1; rw [if_pos rfl, ef_zero hV]; unfold iteB; cases ef V g ρ <;> rfl
 ·
  by_cases e2 : g = enot f
  ·
   subst e2; rw [if_neg e1, if_pos rfl, ef_enot, ef_one hV]; unfold iteB; cases ef V f ρ <;> rfl
  ·
   rw [if_neg e1, if_neg e2]
end
theorem sw2_ef {V : Nat -> BF} (hV : ∀ ρ, V 0 ρ = true) (f h : Nat) (g : Bool) (ρ : Nat -> Bool) : iteB (ef V f ρ) g (ef V (sw2 f h) ρ) = iteB (ef V f ρ) g (ef V h ρ) := by
 unfold sw2
 by_cases e1 : h = f
 ·
  subst e1; rw [if_pos rfl, ef_one hV]; unfold iteB; cases ef V h ρ <;> rfl
 ·
  by_cases e2 : h = enot f
  ·
   subst e2; rw [if_neg e1, if_pos rfl, ef_enot, ef_zero hV]; unfold iteB; cases ef V f ρ <;> rfl
  ·
   rw [if_neg e1, if_neg e2]
theorem sw1_half (f g : Nat) : sw1 f g / 2 = 0 \/ sw1 f g / 2 = g / 2 := by unfold sw1; split <;> (try split) <;> simp
theorem sw2_half (f g : Nat) : sw2 f g / 2 = 0 \/ sw2 f g / 2 = g / 2 := by unfold sw2; split <;> (try split) <;> simp
theorem iteR_done {f g h : Nat} (hd : (iteR f g h).dn = true) : HalfIn (iteR f g h).r f g h /\ ∀ {V : Nat -> BF}, (∀ ρ, V 0 ρ = true) -> ∀ ρ, ef V (iteR f g h).r ρ = iteB (ef V f ρ) (ef V g ρ) (ef V h ρ) := by
 have q1 := sw1_half f g;have q2 := sw2_half f h;have key : ∀ {V : Nat -> BF}, (∀ ρ, V 0 ρ = true) -> ∀ ρ, iteB (ef V f ρ) (ef V g ρ) (ef V h ρ) = iteB (ef V f ρ) (ef V (sw1 f g) ρ) (ef V (sw2 f h) ρ) := fun hV ρ => by rw [sw1_ef hV, sw2_ef hV]
 unfold iteR at hd ⊢
 generalize sw1 f g = g' at *
 generalize sw2 f h = h' at *
 unfold iteK at hd ⊢
 by_cases e1 : f = 0 \/ g' = h'
 ·
  simp only [if_pos e1];refine ⟨by unfold HalfIn; omega, fun hV ρ => ?_⟩;rw [key hV];rcases e1 with e | e
  ·
   subst e; rw [ef_zero hV]; rfl
  ·
   subst e; unfold iteB; split <;> rfl
 ·
  simp only [if_neg e1] at hd ⊢
  by_cases e2 : f = 1
  ·
   simp only [if_pos e2];refine ⟨by unfold HalfIn; omega, fun hV ρ => ?_⟩;rw [key hV]; subst e2; rw [ef_one hV]; rfl
  ·
   simp only [if_neg e2] at hd ⊢
   by_cases e3 : g' = 0 /\ h' = 1
   ·
    simp only [if_pos e3];refine ⟨by unfold HalfIn; omega, fun hV ρ => ?_⟩;rw [key hV, e3.1, e3.2, ef_one hV, ef_zero hV]; unfold iteB; cases ef _ f ρ <;> rfl
   ·
    simp only [if_neg e3] at hd ⊢
    by_cases e4 : g' = 1 /\ h' = 0
    ·
     simp only [if_pos e4];have := enot_half f;refine ⟨by unfold HalfIn; omega, fun hV ρ => ?_⟩;rw [key hV, e4.1, e4.2, ef_one hV, ef_zero hV, ef_enot]; unfold iteB; cases ef _ f ρ <;> rfl
    ·
     simp only [if_neg e4] at hd;unfold iteM at hd;split at hd <;> cases hd
theorem iteR_more {f g h : Nat} (hd : (iteR f g h).dn = false) : HalfIn (iteR f g h).a f g h /\ HalfIn (iteR f g h).b f g h /\ HalfIn (iteR f g h).c f g h /\ (iteR f g h).a / 2 ≠ 0 /\
 ∀ {V : Nat -> BF}, (∀ ρ, V 0 ρ = true) -> ∀ ρ, iteB (ef V f ρ) (ef V g ρ) (ef V h ρ) = ((iteR f g h).n != iteB (ef V (iteR f g h).a ρ) (ef V (iteR f g h).b ρ) (ef V (iteR f g h).c ρ)) := by
 have q1 := sw1_half f g;have q2 := sw2_half f h;have key : ∀ {V : Nat -> BF}, (∀ ρ, V 0 ρ = true) -> ∀ ρ, iteB (ef V f ρ) (ef V g ρ) (ef V h ρ) = iteB (ef V f ρ) (ef V (sw1 f g) ρ) (ef V (sw2 f h) ρ) := fun hV ρ => by rw [sw1_ef hV, sw2_ef hV]
 unfold iteR at hd ⊢
 generalize sw1 f g = g' at *
 generalize sw2 f h = h' at *
 unfold iteK at hd ⊢
 by_cases e1 : f = 0 \/ g' = h'
 ·
  simp [if_pos e1] at hd
 ·
  by_cases e2 : f = 1
  ·
   simp [if_neg e1, if_pos e2] at hd
  ·
   by_cases e3 : g' = 0 /\ h' = 1
   ·
    simp [if_neg e1, if_neg e2, if_pos e3] at hd
   ·
    by_cases e4 : g' = 1 /\ h' = 0
    ·
     simp [if_neg e1, if_neg e2, if_neg e3, if_pos e4] at hd
    ·
     simp only [if_neg e1, if_neg e2, if_neg e3, if_neg e4];unfold iteM
     by_cases e5 : eneg f = true
     ·
      simp only [if_pos e5];have a1 := enot_half f;have a2 := eflip_half h' (eneg h');have a3 := eflip_half g' (eneg h');refine ⟨by unfold HalfIn; omega, by unfold HalfIn; omega, by unfold HalfIn; omega, by omega, fun hV ρ => ?_⟩;rw [key hV, ef_enot, ef_eflip, ef_eflip];unfold iteB;cases ef _ f ρ <;> cases eneg h' <;> simp
     ·
      simp only [if_neg e5];have a2 := eflip_half h' (eneg g');have a3 := eflip_half g' (eneg g');refine ⟨by unfold HalfIn; omega, by unfold HalfIn; omega, by unfold HalfIn; omega, by omega, fun hV ρ => ?_⟩;rw [key hV, ef_eflip, ef_eflip];unfold iteB;cases ef _ f ρ <;> cases eneg g' <;> simp
open Go.RowKit
def atV (d : StoreD) (f : Nat) : Value :=
 match nodesOf d (f / 2) with
 | some b => .tuple #[.int .i64 b.v, .int .i64 (eflip b.lo (eneg f) : Nat), .int .i64 (eflip b.hi (eneg f) : Nat), .bool true]
 | none => .tuple #[.int .i64 (-1), .int .i64 0, .int .i64 0, .bool false]
theorem storeAt_ok {o : Own} {w : World} {sb : Nat} {d : StoreD} {V : Nat -> BF} (h : StoreAt o w sb d) (hlt : OwnLt o w) (hk : StoreOK d V) (f : Nat) (hf : okE (nodesOf d) f) :
 Calls Tryz.prog 91 #[.pointer (some ⟨sb, 0, none⟩), .int .i64 f] w fun x w' => x = .returned (atV d f) /\ Below w.heap.size w w' := by
 obtain ⟨s, h⟩ := h;have lt : ∀ e, okE (nodesOf d) e -> e < eMax := fun e he => by have := h.edge_lt he; unfold eMax; omega
 cases hb : nodesOf d (f / 2) with
 | none =>
   have ht : d.pool.tk (enode f) = false := nodesOf_none hb;have hz : d.pool.has (enode f) = rn0 := by unfold PoolD.has; rw [ht]; rfl
   refine (storeAt_any h hlt f (lt f hf) (by rw [hz]; decide) (by rw [hz]; decide)).mono ?_;rintro x w' ⟨rfl, hb'⟩;exact ⟨by simp [ht, atV, hb], hb'⟩
 | some b =>
   have hn := nodesOf_some hb;have ht : d.pool.tk (enode f) = true := hn.1;have hbn : bnOf (d.pool.has (enode f)) = b := hn.2.2;have e1 : (d.pool.has (enode f)).v = b.v := by rw [<- hbn]; rfl
   have e2 : (d.pool.has (enode f)).lo = b.lo := by rw [<- hbn]; rfl
   have e3 : (d.pool.has (enode f)).hi = b.hi := by rw [<- hbn]; rfl
   refine (storeAt_any h hlt f (lt f hf) (by rw [e2]; exact lt _ (hk.dag.okLo _ _ hb)) (by rw [e3]; exact lt _ (hk.dag.okHi _ _ hb))).mono ?_;rintro x w' ⟨rfl, hb'⟩;exact ⟨by simp [ht, atV, hb, e1, e2, e3], hb'⟩
theorem StoreAt.below {o : Own} {w w' : World} {sb : Nat} {d : StoreD} (h : StoreAt o w sb d) (hlt : OwnLt o w) (hb : Below w.heap.size w w') : StoreAt o w' sb d := by
 obtain ⟨s, h⟩ := h; exact ⟨s, h.below hlt hb⟩
theorem ctxLevel_any {F : Phi} {o : Own} {w : World} {xb mb : Nat} {m : ManD} {V : Nat -> BF} (h : ManAt F o w mb m) (hx : CtxAt o w xb mb) (hk : StoreOK m.d V) (v : Int) :
 Calls Tryz.prog 35 #[.pointer (some ⟨xb, 0, none⟩), .int .i64 v] w fun x w' => x = .returned (.int .i64 (levelZ m.d v)) /\ w = w' := by
 obtain ⟨s, h⟩ := h;obtain ⟨st, hst⟩ := h.store;obtain ⟨c0, c1, c2, c3, c4, c5, f0⟩ := cells6 h.blk;have HL := Lib.hid (storeLevelZ hst v (by rw [hst.len]; have := hk.small; omega));have cx := hx.cell;clear h hst hx hk
 go_enter Tryz.func35, Tryz.ntmps35
 go_wp2_with fail;refine HL.out.mono ?_;rintro x w' ⟨rfl, rfl⟩;go_wp2_with fail;go_ret;exact ⟨rfl, rfl⟩
def cofs (d : StoreD) (f : Nat) (v : Int) : Nat × Nat :=
 match nodesOf d (f / 2) with
 | some b => if (b.v : Int) = v then (eflip b.lo (eneg f), eflip b.hi (eneg f)) else (f, f)
 | none => (f, f)
theorem ctxSplit_any {F : Phi} {o : Own} {w : World} {xb mb : Nat} {m : ManD} {V : Nat -> BF} (h : ManAt F o w mb m) (hlt : OwnLt o w) (hx : CtxAt o w xb mb) (hk : StoreOK m.d V) (f : Nat) (hf : okE (nodesOf m.d) f) (v : Int) :
 Calls Tryz.prog 36 #[.pointer (some ⟨xb, 0, none⟩), .int .i64 f, .int .i64 v] w fun x w' => x = .returned (.tuple #[.int .i64 (cofs m.d f v).1, .int .i64 (cofs m.d f v).2]) /\ Below w.heap.size w w' := by
 obtain ⟨s, h⟩ := h;obtain ⟨c0, c1, c2, c3, c4, c5, f0⟩ := cells6 h.blk;have HA := Lib.hid (storeAt_ok h.store hlt hk f hf);have cx := hx.cell;clear h hx hk hlt hf;unfold atV at HA;unfold cofs;cases hb : nodesOf m.d (f / 2) with
 | none =>
   rw [hb] at HA;clear hb
   go_enter Tryz.func36, Tryz.ntmps36
   go_wp2_with fail;refine HA.out.mono ?_;rintro x w' ⟨rfl, hb⟩;have HB := Lib.hid hb;clear hb;go_wp2_with fail
   go_ret2
   exact ⟨rfl, HB.out⟩
 | some b =>
   rw [hb] at HA;clear hb
   by_cases e : (b.v : Int) = v
   ·
    subst e;have HE : Hid ((if (b.v : Int) = b.v then (eflip b.lo (eneg f), eflip b.hi (eneg f)) else (f, f)) = (eflip b.lo (eneg f), eflip b.hi (eneg f))) := by show _ = _; rw [if_pos rfl]
    go_enter Tryz.func36, Tryz.ntmps36
    go_wp2_with fail;refine HA.out.mono ?_;rintro x w' ⟨rfl, hb⟩;have HB := Lib.hid hb;clear hb;go_wp2_with fail
    go_ret2
    exact ⟨by first | rfl | (rw [HE.out]; rfl), HB.out⟩
   ·
    have HE : Hid ((if (b.v : Int) = v then (eflip b.lo (eneg f), eflip b.hi (eneg f)) else (f, f)) = (f, f)) := by show _ = _; rw [if_neg e]
    have H1 : ((b.v : Int) == v) = false := by simpa using e
    go_enter Tryz.func36, Tryz.ntmps36
    go_wp2_with fail;refine HA.out.mono ?_;rintro x w' ⟨rfl, hb⟩;have HB := Lib.hid hb;clear hb;go_wp2_with fail
    go_ret2
    exact ⟨by first | rfl | (rw [HE.out]; rfl), HB.out⟩
def TopS (d : StoreD) (zs : List Nat) (top least : Int) : Prop :=
 (top = -1 /\ least = 0 /\ ∀ e ∈ zs, nodesOf d (e / 2) = none) \/
 ∃ v : Nat, top = v /\ least = (levN d v : Nat) /\ v < d.vars.length /\ (∃ e ∈ zs, ∃ b, nodesOf d (e / 2) = some b /\ b.v = v) /\ ∀ e ∈ zs, levN d v <= lvE d.vars.length (levN d) (nodesOf d) e
theorem TopS.none {d : StoreD} {zs : List Nat} {top least : Int} {e : Nat} (h : TopS d zs top least) (hl : ∀ v, v < d.vars.length -> levN d v < d.vars.length) (he : nodesOf d (e / 2) = none) : TopS d (zs ++ [e]) top least := by
 rcases h with ⟨h1, h2, h3⟩ | ⟨v, h1, h2, h3, ⟨e0, he0, hb⟩, h5⟩
 ·
  refine .inl ⟨h1, h2, fun x hx => ?_⟩;rcases List.mem_append.1 hx with hx | hx
  ·
   exact h3 x hx
  ·
   simp at hx; subst hx; exact he
 ·
  refine .inr ⟨v, h1, h2, h3, ⟨e0, by simp [he0], hb⟩, fun x hx => ?_⟩;rcases List.mem_append.1 hx with hx | hx
  ·
   exact h5 x hx
  ·
   simp at hx; subst hx; unfold lvE; rw [he]; exact Nat.le_of_lt (hl v h3)
theorem TopS.keep {d : StoreD} {zs : List Nat} {v : Nat} {least : Int} {e : Nat} {b : BN} (h : TopS d zs v least) (he : nodesOf d (e / 2) = some b) (hle : ¬ ((levN d b.v : Nat) : Int) < least) : TopS d (zs ++ [e]) v least := by
 rcases h with ⟨h1, h2, h3⟩ | ⟨u, h1, h2, h3, ⟨e0, he0, hb⟩, h5⟩
 ·
  omega
 ·
  obtain rfl : v = u := by omega
  refine .inr ⟨v, rfl, h2, h3, ⟨e0, by simp [he0], hb⟩, fun x hx => ?_⟩;rcases List.mem_append.1 hx with hx | hx
  ·
   exact h5 x hx
  ·
   simp at hx; subst hx; unfold lvE; rw [he]; dsimp only; omega
theorem TopS.take {d : StoreD} {zs : List Nat} {top least : Int} {e : Nat} {b : BN} (h : TopS d zs top least) (hv : b.v < d.vars.length) (hl : ∀ v, v < d.vars.length -> levN d v < d.vars.length) (he : nodesOf d (e / 2) = some b) (hle : top < 0 \/ ((levN d b.v : Nat) : Int) < least) : TopS d (zs ++ [e]) b.v (levN d b.v : Nat) := by
 refine .inr ⟨b.v, rfl, rfl, hv, ⟨e, by simp, b, he, rfl⟩, fun x hx => ?_⟩;rcases List.mem_append.1 hx with hx | hx
 ·
  rcases h with ⟨h1, h2, h3⟩ | ⟨u, h1, h2, h3, ⟨e0, he0, hb⟩, h5⟩
  ·
   unfold lvE; rw [h3 x hx]; exact Nat.le_of_lt (hl _ hv)
  ·
   have := h5 x hx; omega
 ·
  simp at hx; subst hx; unfold lvE; rw [he]; exact Nat.le_refl _
theorem levelZ_of {d : StoreD} {v : Nat} (h : v < d.level.length) : levelZ d v = (levN d v : Nat) := by unfold levelZ; rw [if_pos ⟨by omega, by omega⟩]; rfl
theorem ctxTop_any {F : Phi} {o : Own} {w : World} {xb mb : Nat} {m : ManD} {V : Nat -> BF} (h : ManAt F o w mb m) (hlt : OwnLt o w) (hx : CtxAt o w xb mb) (hk : StoreOK m.d V) (zs : List Nat) (hz : ∀ e ∈ zs, okE (nodesOf m.d) e) (a : Option Addr) (c : Nat) (hzs : IntsAt w a (zs.map Int.ofNat)) :
 Calls Tryz.prog 33 #[.pointer (some ⟨xb, 0, none⟩), .slice a zs.length c] w fun x w' => ∃ top least, x = .returned (.int .i64 top) /\ TopS m.d zs top least /\ Below w.heap.size w w' := by
 obtain ⟨s, h⟩ := h;obtain ⟨st, hst⟩ := h.store;have hlen : m.d.level.length = m.d.vars.length := hst.len;have HM := Lib.hid h;have HX := Lib.hid hx;have HLT := Lib.hid hlt;have HK := Lib.hid hk;have HZ := Lib.hid hz;have HZS := Lib.hid hzs;have hzl := hzs.len;simp only [List.length_map] at hzl;clear h hst hx hlt hk hz hzs
 go_enter Tryz.func33, Tryz.ntmps33
 go_wp2_with fail
 go_loopw [5, 6, 15] (fun s5 s6 i wr => ∃ (k : Nat) (top least : Int), k <= zs.length /\ i = .int .i64 k /\ s5 = .int .i64 top /\ s6 = .int .i64 least /\ TopS m.d (zs.take k) top least /\ Below w.heap.size w wr) (fun _ _ i _ => zs.length - (intOf i).toNat)
 case atStart => exact ⟨0, -1, 0, by omega, rfl, rfl, rfl, .inl ⟨rfl, rfl, by simp⟩, Below.refl _ _⟩
 case round =>
  obtain ⟨k, top, least, hk, rfl, rfl, rfl, hT, hB⟩ := hrel
  by_cases hkl : k < zs.length
  ·
   obtain ⟨b0, off, ha, hcell⟩ := (HZS.out.below hB).cells k (by simpa using hkl);subst ha;have he : at0 (zs.map Int.ofNat) k = (zs[k] : Int) := by rw [at0_eq (by simpa using hkl)]; simp
   rw [he] at hcell;have hmem : zs[k] ∈ zs := List.getElem_mem hkl;have htk : zs.take (k + 1) = zs.take k ++ [zs[k]] := by rw [List.take_add_one, List.getElem?_eq_getElem hkl]; rfl
   have hok := HZ.out _ hmem;obtain ⟨f, hf⟩ : ∃ f, f = zs[k] := ⟨_, rfl⟩;rw [<- hf] at hcell hok htk;obtain ⟨c0, c1, c2, c3, c4, c5, f0⟩ := cells6 ((HM.out.below HLT.out hB).blk);have cx : wr.cell? ⟨xb, 0, none⟩ = _ := (hB.cell (p := ⟨xb, 0, none⟩) (lt_of_cell HX.out.cell)).trans HX.out.cell;have HA := Lib.hid (storeAt_ok ((HM.out.below HLT.out hB).store) (HLT.out.mono hB.size) HK.out f hok);have HTK := Lib.hid htk;have HT := Lib.hid hT;have HB := Lib.hid hB;have hkl' : (k : Int) < zs.length := by omega
   clear hf hmem he hT hB hok htk;unfold atV at HA;have HLV : Hid (∀ v, v < m.d.vars.length -> levN m.d v < m.d.vars.length) := Lib.hid HK.out.dag.lt;have HCL := Lib.hid (fun W hb v => ctxLevel_any ⟨s, HM.out.below HLT.out hb⟩ (o := o) (w := W) (xb := xb) (mb := mb) ⟨(hb.cell (p := ⟨xb, 0, none⟩) (lt_of_cell HX.out.cell)).trans HX.out.cell, HX.out.own⟩ HK.out v);cases hb : nodesOf m.d (f / 2) with
   | none =>
     rw [hb] at HA;have HN := Lib.hid hb;clear hb;go_wp2_with fail;refine HA.out.mono ?_;rintro x w' ⟨rfl, hb2⟩;have HB2 := Lib.hid (HB.out.trans (hb2.mono HB.out.size));clear hb2;go_wp2_with fail;go_roundw
     case rel => exact ⟨k + 1, top, least, by omega, by simp, rfl, rfl, by rw [HTK.out]; exact HT.out.none HLV.out HN.out, HB2.out⟩
     case measure => simp [intOf]; omega
   | some b =>
     rw [hb] at HA;have HN := Lib.hid hb;have hbv := HK.out.dag.var _ _ hb;have hlz : levelZ m.d b.v = (levN m.d b.v : Nat) := levelZ_of (by rw [hlen]; exact hbv);have HBV := Lib.hid hbv;have HCL2 := Lib.hid (fun W hb => HCL.out W hb b.v);rw [hlz] at HCL2;clear hb hbv hlz HCL
     by_cases ht : top < 0
     ·
      have HTT := Lib.hid ht;go_wp2_with fail;refine HA.out.mono ?_;rintro x w' ⟨rfl, hb2⟩;have HB2 := Lib.hid (HB.out.trans (hb2.mono HB.out.size));clear hb2;go_wp2_with fail;refine (HCL2.out _ HB2.out).mono ?_;rintro x w'' ⟨rfl, rfl⟩;go_wp2_with fail;go_roundw
      case rel => exact ⟨k + 1, _, _, by omega, by simp, rfl, rfl, by rw [HTK.out]; exact HT.out.take HBV.out HLV.out HN.out (.inl HTT.out), HB2.out⟩
      case measure => simp [intOf]; omega
     ·
      by_cases hle : ((levN m.d b.v : Nat) : Int) < least
      ·
       have HLE := Lib.hid hle;go_wp2_with fail;refine HA.out.mono ?_;rintro x w' ⟨rfl, hb2⟩;have HB2 := Lib.hid (HB.out.trans (hb2.mono HB.out.size));clear hb2;go_wp2_with fail;refine (HCL2.out _ HB2.out).mono ?_;rintro x w'' ⟨rfl, rfl⟩;go_wp2_with fail;refine (HCL2.out _ HB2.out).mono ?_;rintro x w'' ⟨rfl, rfl⟩;go_wp2_with fail;go_roundw
       case rel => exact ⟨k + 1, _, _, by omega, by simp, rfl, rfl, by rw [HTK.out]; exact HT.out.take HBV.out HLV.out HN.out (.inr HLE.out), HB2.out⟩
       case measure => simp [intOf]; omega
      ·
       obtain ⟨tn, htn⟩ : ∃ tn : Nat, top = tn := ⟨top.toNat, by omega⟩;subst htn;have HLE := Lib.hid hle;go_wp2_with fail;refine HA.out.mono ?_;rintro x w' ⟨rfl, hb2⟩;have HB2 := Lib.hid (HB.out.trans (hb2.mono HB.out.size));clear hb2;go_wp2_with fail;refine (HCL2.out _ HB2.out).mono ?_;rintro x w'' ⟨rfl, rfl⟩;go_wp2_with fail;go_roundw
       case rel => exact ⟨k + 1, _, _, by omega, by simp, rfl, rfl, by rw [HTK.out]; exact HT.out.keep HN.out (by have := HLE.out; omega), HB2.out⟩
       case measure => simp [intOf]; omega
  ·
   obtain rfl : k = zs.length := by omega
   have HT := Lib.hid hT;have HB := Lib.hid hB;clear hT hB;go_wp2_with fail;go_ret;exact ⟨top, least, rfl, by have := HT.out; rwa [List.take_length] at this, HB.out⟩
open Go.RowKit
def stopP (er : Int) (event : Bool) (ev : Ev) : Ending := .panicked [{ v := .iface 116 (.agg #[.int .i64 er, .bool event, .int .i64 ev.after, .int .i64 ev.kind, .int .i64 ev.level]), recovered := false }]
def ev0 : Ev := ⟨0, 0, 0⟩
def callsUp (c : Int) : Int := wrap64 (c + 1)
def MkErr (d : StoreD) (v : Int) (lo hi : Nat) (er : Int) : Prop :=
 (er = 9 /\ ¬ (0 <= v /\ v < d.vars.length)) \/
 (er = 10 /\ 0 <= v /\ v < d.vars.length /\ (lvE d.vars.length (levN d) (nodesOf d) lo <= levN d v.toNat \/ lvE d.vars.length (levN d) (nodesOf d) hi <= levN d v.toNat)) \/
 (er = 7 /\ d.pool.many = d.pool.room)
def CtxMkPost (K : Law) (o : Own) (w : World) (mb : Nat) (m : ManD) (V : Nat -> BF) (v : Int) (lo hi : Nat) (e : Ending) (w' : World) : Prop :=
 ∃ o' m' V', Step K o w mb m V o' w' m' V' /\
  ((∃ ev, m.waits = ev :: m'.waits /\ ev.after <= callsUp m.calls /\ m'.calls = 0 /\ m'.d = m.d /\ V' = V /\ e = stopP 0 true ev) \/
   (m'.waits = m.waits /\ m'.calls = callsUp m.calls /\ (∀ ev ws, m.waits = ev :: ws -> callsUp m.calls < ev.after) /\
    ((∃ er, MkErr m.d v lo hi er /\ m'.d = m.d /\ V' = V /\ e = stopP er false ev0) \/
     (0 <= v /\ v < m.d.vars.length /\ ∃ r : Nat, e = .returned (.int .i64 r) /\ okE (nodesOf m'.d) r /\ ef V' r = iteF v.toNat (ef V hi) (ef V lo) /\
      levN m.d v.toNat <= lvE m.d.vars.length (levN m'.d) (nodesOf m'.d) r /\ m'.d.pool.many <= m.d.pool.many + 1))))
theorem Chg.ofDrewN {R : Role -> Prop} {o o' : Own} {w w' : World} {n : Nat} (h : Chg R o o' (w.drewN n) w') : Chg R o o' w w' := ⟨h.os, h.tape, h.output, h.size, h.block, h.ext, h.new⟩
theorem belowOf {w w' : World} {n : Nat} (h : Below (w.drewN n).heap.size (w.drewN n) w') : Below w.heap.size w w' := ⟨h.os, h.tape, h.output, h.size, h.block⟩
theorem Chg.any {R : Role -> Prop} {o o' : Own} {w w' : World} (h : Chg R o o' w w') : Chg (fun _ => True) o o' w w' := h.mono fun _ _ => trivial
theorem ctxMk_go {K : Law} {o : Own} {w : World} {xb mb : Nat} {m : ManD} {V : Nat -> BF} (hK : LawOK K) (h : ManAt (K m.d V) o w mb m) (hlt : OwnLt o w) (hx : CtxAt o w xb mb) (hk : StoreOK m.d V) (v : Int) (lo hi : Nat) (hlo : okE (nodesOf m.d) lo) (hhi : okE (nodesOf m.d) hi)
 (hdue : ∀ ev ws, m.waits = ev :: ws -> callsUp m.calls < ev.after) :
 Calls Tryz.prog 26 #[.pointer (some ⟨xb, 0, none⟩), .int .i64 v, .int .i64 lo, .int .i64 hi] w (CtxMkPost K o w mb m V v lo hi) := by
 obtain ⟨s, h⟩ := h;obtain ⟨c0, c1, c2, c3, c4, c5, f0⟩ := cells6 h.blk;have cx := hx.cell;obtain ⟨W, hW⟩ : ∃ W, W = w.setCell ⟨mb, 5, none⟩ (.int .i64 (callsUp m.calls)) := ⟨_, rfl⟩;have hMW : ManIn (K m.d V) o W mb { m with calls := callsUp m.calls } s := by rw [hW]; exact h.field rfl rfl rfl rfl rfl h.waits rfl
 have hCW : Chg (fun _ => True) o o w W := by rw [hW]; exact (Chg.refl _ o w).setCell (p := ⟨mb, 5, none⟩) h.own trivial _
 have hLW : OwnLt o W := hlt.mono hCW.size;have hXW := hx.chg hCW;obtain ⟨d0, d1, d2, d3, d4, d5, g0⟩ := cells6 hMW.blk;have dx := hXW.cell;obtain ⟨aw, cw, hvw, hnil⟩ := hMW.waits.slice;have hwl : (m.waits = [] /\ True) \/ ∃ ev ws, m.waits = ev :: ws := by cases m.waits with
  | nil => exact .inl ⟨rfl, trivial⟩
  | cons ev ws => exact .inr ⟨ev, ws, rfl⟩
 have HK := Lib.hid hK;have HCW := Lib.hid hCW;have HLW := Lib.hid hLW;have HMW := Lib.hid hMW;have HOK := Lib.hid hk;have HMK : Hid (∀ n, Calls Tryz.prog 89 #[.pointer (some ⟨s.sb, 0, none⟩), .int .i64 v, .int .i64 lo, .int .i64 hi] (W.drewN n) (MkPost o (W.drewN n) s.sb m.d V v lo hi)) :=
  Lib.hid fun n => storeMk_any (hMW.store.below hLW (below_draw W n)) (hLW.mono (below_draw W n).size) hk v lo hi hlo hhi
 have HDUE := Lib.hid hdue;have HW : Hid (w.setCell ⟨mb, 5, none⟩ (.int .i64 (wrap64 (m.calls + 1))) = W) := Lib.hid hW.symm;have hneg : 5 ≠ 4 := by decide
 clear h hlt hx hk hlo hhi hMW hCW hLW hXW hW hdue
 go_enter Tryz.func26, Tryz.ntmps26
 go_upto_region 3 with fail;rw [HW.out];obtain ⟨cu, hcu⟩ : ∃ cu, cu = wrap64 (m.calls + 1) := ⟨_, rfl⟩;have d5' : W.cell? ⟨mb, 5, none⟩ = some (.int .i64 cu) := by rw [hcu]; exact d5
 have HCU : Hid (callsUp m.calls = cu) := Lib.hid hcu.symm;rw [<- hcu];clear c0 c1 c2 c3 c4 c5 f0 cx hneg d5 hcu;have STE : Hid (∀ w', Below W.heap.size W w' -> Step K o w mb m V o w' { m with calls := callsUp m.calls } V) :=
  Lib.hid fun w' hb => ⟨⟨s, HMW.out.below HLW.out hb⟩, HLW.out.mono hb.size, HCW.out.trans (Chg.of_below hb _ _), HOK.out, Ext.refl _ _, rfl, rfl⟩
 rcases hwl with ⟨hw0, _⟩ | ⟨ev, ws, hw1⟩
 ·
  rw [hvw] at d4;dsimp only at d4;rw [hw0] at d4;have d4' : W.cell? ⟨mb, 4, none⟩ = some (.slice aw 0 cw) := d4;clear d4 hw0 hvw hnil
  go_quiet (fail)
  go_wp2_with fail;refine (HMK.out nq).mono ?_;rintro x w' (⟨q1, rfl, q2⟩ | ⟨q1, q2, q3, rfl, q4⟩ | ⟨q1, rfl, q2⟩ | ⟨q1, q2, r, d', V', o', rfl, q4, q5, q6, q7, q8, q9, q10, q11, q12⟩)
  ·
   have H1 := Lib.hid (STE.out w' (belowOf q2));have H2 : Hid (MkErr m.d v lo hi 9) := Lib.hid (.inl ⟨rfl, q1⟩);clear q1 q2;go_wp2_with fail;refine ⟨rfl, o, _, V, H1.out, .inr ⟨rfl, rfl, HDUE.out, .inl ⟨9, H2.out, rfl, rfl, rfl⟩⟩⟩
  ·
   have H1 := Lib.hid (STE.out w' (belowOf q4));have H2 : Hid (MkErr m.d v lo hi 10) := Lib.hid (.inr (.inl ⟨rfl, q1, q2, q3⟩));clear q1 q2 q3 q4;go_wp2_with fail;refine ⟨rfl, o, _, V, H1.out, .inr ⟨rfl, rfl, HDUE.out, .inl ⟨10, H2.out, rfl, rfl, rfl⟩⟩⟩
  ·
   have H1 := Lib.hid (STE.out w' (belowOf q2));have H2 : Hid (MkErr m.d v lo hi 7) := Lib.hid (.inr (.inr ⟨rfl, q1⟩));clear q1 q2;go_wp2_with fail;refine ⟨rfl, o, _, V, H1.out, .inr ⟨rfl, rfl, HDUE.out, .inl ⟨7, H2.out, rfl, rfl, rfl⟩⟩⟩
  ·
   have H1 : Hid (Step K o w mb m V o' w' { m with calls := callsUp m.calls, d := d' } V') := Lib.hid ⟨⟨s, (HMW.out.setStore HLW.out q4 q12.ofDrewN).mono fun op a b c r h => HK.out.ext _ _ _ _ _ _ _ _ _ HOK.out q6 q7 h⟩, q5, HCW.out.trans q12.ofDrewN.any, q6, q7, rfl, rfl⟩;have H2 : Hid (_ /\ _ /\ _ /\ _ /\ _ /\ _) := Lib.hid ⟨q1, q2, q8, q9, q10, q11⟩;clear q1 q2 q4 q5 q6 q7 q8 q9 q10 q11 q12;go_wp2_with fail;go_ret;obtain ⟨a1, a2, a3, a4, a5, a6⟩ := H2.out;exact ⟨o', _, V', H1.out, .inr ⟨rfl, rfl, HDUE.out, .inr ⟨a1, a2, r, rfl, a3, a4, a5, a6⟩⟩⟩
 ·
  have HWA := HMW.out.waits;have e0 : ({ m with calls := callsUp m.calls } : ManD).waits = ev :: ws := hw1;rw [e0] at HWA;obtain ⟨g, off, cap, hvs, hog, hwc, hcm, k0, k1, k2, _⟩ := HWA.first
  have hlt : ¬ ev.after <= cu := by have := HDUE.out ev ws hw1; rw [HCU.out] at this; omega
  rw [hvs] at d4;have hp : (0 : Int) < ((ws.length + 1 : Nat) : Int) := by omega
  clear hvw hvs hnil HWA e0 hw1 hog
  go_quiet (fail)
  go_wp2_with fail;refine (HMK.out nq).mono ?_;rintro x w' (⟨q1, rfl, q2⟩ | ⟨q1, q2, q3, rfl, q4⟩ | ⟨q1, rfl, q2⟩ | ⟨q1, q2, r, d', V', o', rfl, q4, q5, q6, q7, q8, q9, q10, q11, q12⟩)
  ·
   have H1 := Lib.hid (STE.out w' (belowOf q2));have H2 : Hid (MkErr m.d v lo hi 9) := Lib.hid (.inl ⟨rfl, q1⟩);clear q1 q2;go_wp2_with fail;refine ⟨rfl, o, _, V, H1.out, .inr ⟨rfl, rfl, HDUE.out, .inl ⟨9, H2.out, rfl, rfl, rfl⟩⟩⟩
  ·
   have H1 := Lib.hid (STE.out w' (belowOf q4));have H2 : Hid (MkErr m.d v lo hi 10) := Lib.hid (.inr (.inl ⟨rfl, q1, q2, q3⟩));clear q1 q2 q3 q4;go_wp2_with fail;refine ⟨rfl, o, _, V, H1.out, .inr ⟨rfl, rfl, HDUE.out, .inl ⟨10, H2.out, rfl, rfl, rfl⟩⟩⟩
  ·
   have H1 := Lib.hid (STE.out w' (belowOf q2));have H2 : Hid (MkErr m.d v lo hi 7) := Lib.hid (.inr (.inr ⟨rfl, q1⟩));clear q1 q2;go_wp2_with fail;refine ⟨rfl, o, _, V, H1.out, .inr ⟨rfl, rfl, HDUE.out, .inl ⟨7, H2.out, rfl, rfl, rfl⟩⟩⟩
  ·
   have H1 : Hid (Step K o w mb m V o' w' { m with calls := callsUp m.calls, d := d' } V') := Lib.hid ⟨⟨s, (HMW.out.setStore HLW.out q4 q12.ofDrewN).mono fun op a b c r h => HK.out.ext _ _ _ _ _ _ _ _ _ HOK.out q6 q7 h⟩, q5, HCW.out.trans q12.ofDrewN.any, q6, q7, rfl, rfl⟩;have H2 : Hid (_ /\ _ /\ _ /\ _ /\ _ /\ _) := Lib.hid ⟨q1, q2, q8, q9, q10, q11⟩;clear q1 q2 q4 q5 q6 q7 q8 q9 q10 q11 q12;go_wp2_with fail;go_ret;obtain ⟨a1, a2, a3, a4, a5, a6⟩ := H2.out;exact ⟨o', _, V', H1.out, .inr ⟨rfl, rfl, HDUE.out, .inr ⟨a1, a2, r, rfl, a3, a4, a5, a6⟩⟩⟩
open Go.RowKit
theorem ctxMk_due {K : Law} {o : Own} {w : World} {xb mb : Nat} {m : ManD} {V : Nat -> BF} (h : ManAt (K m.d V) o w mb m) (hlt : OwnLt o w) (hx : CtxAt o w xb mb) (hk : StoreOK m.d V) (v : Int) (lo hi : Nat) {ev : Ev} {ws : List Ev}
 (hw1 : m.waits = ev :: ws) (hdue : ev.after <= callsUp m.calls) :
 Calls Tryz.prog 26 #[.pointer (some ⟨xb, 0, none⟩), .int .i64 v, .int .i64 lo, .int .i64 hi] w (CtxMkPost K o w mb m V v lo hi) := by
 obtain ⟨s, h⟩ := h;obtain ⟨c0, c1, c2, c3, c4, c5, f0⟩ := cells6 h.blk;have cx := hx.cell;obtain ⟨W, hW⟩ : ∃ W, W = w.setCell ⟨mb, 5, none⟩ (.int .i64 (callsUp m.calls)) := ⟨_, rfl⟩;have hMW : ManIn (K m.d V) o W mb { m with calls := callsUp m.calls } s := by rw [hW]; exact h.field rfl rfl rfl rfl rfl h.waits rfl
 have hCW : Chg (fun _ => True) o o w W := by rw [hW]; exact (Chg.refl _ o w).setCell (p := ⟨mb, 5, none⟩) h.own trivial _
 have hLW : OwnLt o W := hlt.mono hCW.size;obtain ⟨d0, d1, d2, d3, d4, d5, g0⟩ := cells6 hMW.blk;have hmb : mb < W.heap.size := lt_of_cell d0;have hWA := hMW.waits;have e0 : ({ m with calls := callsUp m.calls } : ManD).waits = ev :: ws := hw1;rw [e0] at hWA;obtain ⟨g, off, cap, hvs, hog, hwc, hcm, k0, k1, k2, hrest⟩ := hWA.first
 rw [hvs] at d4;have hp : (0 : Int) < ((ws.length + 1 : Nat) : Int) := by omega
 have HCW := Lib.hid hCW;have HLW := Lib.hid hLW;have HMW := Lib.hid hMW;have HOK := Lib.hid hk;have HRE := Lib.hid hrest;have HW1 := Lib.hid hw1;have HD := Lib.hid hdue;have HW : Hid (w.setCell ⟨mb, 5, none⟩ (.int .i64 (wrap64 (m.calls + 1))) = W) := Lib.hid hW.symm;clear h hlt hx hk hMW hCW hLW hW hrest hWA e0 hvs hog hw1
 go_enter Tryz.func26, Tryz.ntmps26
 go_upto_region 3 with fail;rw [HW.out];obtain ⟨cu, hcu⟩ : ∃ cu, cu = wrap64 (m.calls + 1) := ⟨_, rfl⟩;have d5' : W.cell? ⟨mb, 5, none⟩ = some (.int .i64 cu) := by rw [hcu]; exact d5
 have hle : ev.after <= cu := by rw [hcu]; exact hdue
 rw [<- hcu];clear c0 c1 c2 c3 c4 c5 f0 cx d5 hcu hdue
 go_quiet (fail)
 obtain ⟨W2, hW2⟩ : ∃ W2, W2 = W.drewN nq := ⟨_, rfl⟩;have hb2 : Below W.heap.size W W2 := by rw [hW2]; exact below_draw W nq
 rw [<- hW2];have HMW2 := Lib.hid (HMW.out.below HLW.out hb2);have HLW2 := Lib.hid (HLW.out.mono hb2.size);have HCW2 := Lib.hid (HCW.out.trans (Chg.of_below hb2 _ _));have d4' : W2.cell? ⟨mb, 4, none⟩ = _ := (hb2.cell (p := ⟨mb, 4, none⟩) hmb).trans d4;have hgl : g < W.heap.size := lt_of_cell k0;have l0 : W2.cell? ⟨g, off, none⟩ = _ := (hb2.cell (p := ⟨g, off, none⟩) hgl).trans k0;have l1 : W2.cell? ⟨g, off + 1, none⟩ = _ := (hb2.cell (p := ⟨g, off + 1, none⟩) hgl).trans k1;have l2 : W2.cell? ⟨g, off + 2, none⟩ = _ := (hb2.cell (p := ⟨g, off + 2, none⟩) hgl).trans k2;have HRE2 := Lib.hid (HRE.out.keep (w' := W2) (o' := o) (fun q hq => hb2.block q (HLW.out q _ hq)) (fun _ h => h));clear hW2 k0 k1 k2 d0 d1 d2 d3 d4 d5' g0 hb2 HMW HLW HCW HRE HW;obtain ⟨d0, d1, d2, d3, _, d5, g0⟩ := cells6 HMW2.out.blk;have hmb : mb < W2.heap.size := lt_of_cell d0;have hgl : g < W2.heap.size := lt_of_cell l0;go_upto_region 5 with fail;obtain ⟨bx, hbx⟩ : ∃ bx, bx = W2.heap.size := ⟨_, rfl⟩;obtain ⟨W3, hW3⟩ : ∃ W3, W3 = W2.alloc (.cells #[.int .i64 ev.after, .int .i64 ev.kind, .int .i64 ev.level] 94) := ⟨_, rfl⟩;have hb3 : Below W2.heap.size W2 W3 := by rw [hW3]; exact below_new1 W2 _
 have hbo : o bx = none := by rw [hbx]; exact HLW2.out.none (Nat.le_refl _)
 have x3 : W3.heap[bx]? = some (.cells #[.int .i64 ev.after, .int .i64 ev.kind, .int .i64 ev.level] 94 (0, 0)) := by rw [hW3, hbx]; exact heap_alloc_new W2 _
 rw [<- hW3, <- hbx];have HMW3 := Lib.hid (HMW2.out.below HLW2.out hb3);have HLW3 := Lib.hid (HLW2.out.mono hb3.size);have HCW3 := Lib.hid (HCW2.out.trans (Chg.of_below hb3 _ _));have d4 : W3.cell? ⟨mb, 4, none⟩ = _ := (hb3.cell (p := ⟨mb, 4, none⟩) hmb).trans d4';have HRE3 := Lib.hid (HRE2.out.keep (w' := W3) (o' := o) (fun q hq => hb3.block q (HLW2.out q _ hq)) (fun _ h => h));clear hW3 hbx l0 l1 l2 d0 d1 d2 d3 d4' d5 g0 hb3 HMW2 HLW2 HCW2 HRE2;obtain ⟨d0, d1, d2, d3, _, d5, g0⟩ := cells6 HMW3.out.blk;have hne : bx ≠ mb := by rintro rfl; rw [HMW3.out.own] at hbo; cases hbo
 obtain ⟨W4, hW4⟩ : ∃ W4, W4 = (W3.setCell ⟨mb, 4, none⟩ (.slice (if cap = 1 then some ⟨g, off, none⟩ else some ⟨g, off + 3, none⟩) ws.length (cap - 1))).setCell ⟨mb, 5, none⟩ (.int .i64 0) := ⟨_, rfl⟩;have hM4 : ManIn (K m.d V) o W4 mb { m with calls := 0, waits := ws } { s with vw := .slice (if cap = 1 then some ⟨g, off, none⟩ else some ⟨g, off + 3, none⟩) ws.length (cap - 1) } := by
  have a1 := HMW3.out.field (k := 4) (u := .slice (if cap = 1 then some ⟨g, off, none⟩ else some ⟨g, off + 3, none⟩) ws.length (cap - 1)) (m' := { m with calls := callsUp m.calls, waits := ws }) (s' := { s with vw := .slice (if cap = 1 then some ⟨g, off, none⟩ else some ⟨g, off + 3, none⟩) ws.length (cap - 1) }) rfl rfl rfl rfl rfl HRE3.out rfl;have a2 := a1.field (k := 5) (u := .int .i64 0) (m' := { m with calls := 0, waits := ws }) (s' := { s with vw := .slice (if cap = 1 then some ⟨g, off, none⟩ else some ⟨g, off + 3, none⟩) ws.length (cap - 1) }) rfl rfl rfl rfl rfl a1.waits rfl;rw [hW4]; exact a2
 have hC4 : Chg (fun _ => True) o o w W4 := by rw [hW4]; exact (HCW3.out.setCell (p := ⟨mb, 4, none⟩) HMW3.out.own trivial _).setCell (p := ⟨mb, 5, none⟩) HMW3.out.own trivial _
 have hx4 : W4.heap[bx]? = some (.cells #[.int .i64 ev.after, .int .i64 ev.kind, .int .i64 ev.level] 94 (0, 0)) := by rw [hW4]; exact (heap_setCell_ne hne _).trans ((heap_setCell_ne hne _).trans x3)
 have hst : Step K o w mb m V o W4 { m with calls := 0, waits := ws } V := ⟨⟨_, hM4⟩, HLW3.out.mono (by rw [hW4]; simp [World.setCell]), hC4, HOK.out, Ext.refl _ _, rfl, rfl⟩;have HST := Lib.hid hst;have y0 : W4.cell? ⟨bx, 0, none⟩ = some (.int .i64 ev.after) := by rw [cell_of_row W4 bx 0 _ _ _ hx4]; rfl
 have y1 : W4.cell? ⟨bx, 1, none⟩ = some (.int .i64 ev.kind) := by rw [cell_of_row W4 bx 1 _ _ _ hx4]; rfl
 have y2 : W4.cell? ⟨bx, 2, none⟩ = some (.int .i64 ev.level) := by rw [cell_of_row W4 bx 2 _ _ _ hx4]; rfl
 have HW4 := Lib.hid hW4;clear hM4 hC4 hx4 hst hW4;go_upto_region 6 with fail;rw [<- HW4.out];clear HW4 d0 d1 d2 d3 d4 d5 g0 x3 HMW3 HLW3 HCW3 HRE3;go_wp2_with fail
 all_goals exact ⟨rfl, o, _, V, HST.out, .inl ⟨ev, HW1.out, HD.out, rfl, rfl, rfl, rfl⟩⟩
theorem ctxMk_any {K : Law} {o : Own} {w : World} {xb mb : Nat} {m : ManD} {V : Nat -> BF} (hK : LawOK K) (h : ManAt (K m.d V) o w mb m) (hlt : OwnLt o w) (hx : CtxAt o w xb mb) (hk : StoreOK m.d V) (v : Int) (lo hi : Nat) (hlo : okE (nodesOf m.d) lo) (hhi : okE (nodesOf m.d) hi) :
 Calls Tryz.prog 26 #[.pointer (some ⟨xb, 0, none⟩), .int .i64 v, .int .i64 lo, .int .i64 hi] w (CtxMkPost K o w mb m V v lo hi) := by
 by_cases hd : ∀ ev ws, m.waits = ev :: ws -> callsUp m.calls < ev.after
 ·
  exact ctxMk_go hK h hlt hx hk v lo hi hlo hhi hd
 ·
  cases hw : m.waits with
  | nil => exact absurd (fun ev ws e => by rw [hw] at e; cases e) hd
  | cons ev ws => exact ctxMk_due h hlt hx hk v lo hi hw (Int.not_lt.1 fun hl => hd fun ev' ws' e => by rw [hw] at e; cases e; exact hl)
end Go.Proofs.YtchliiaknmknhaaGreat

namespace Go.Proofs.YtchliiaknmknhaaGreat
section
variable {d d' : StoreD} {V V' : Nat -> BF}
theorem lvE_const (hk : StoreOK d V) {e : Nat} (h : e / 2 = 0) : lvE d.vars.length (levN d) (nodesOf d) e = d.vars.length := by unfold lvE; rw [h, hk.dag.none0]
theorem lvE_halves {e f : Nat} (h : e / 2 = f / 2) : lvE d.vars.length (levN d) (nodesOf d) e = lvE d.vars.length (levN d) (nodesOf d) f := by unfold lvE; rw [h]
theorem okE_halves {N : Nat -> Option BN} {e f : Nat} (h : e / 2 = f / 2) (hf : okE N f) : okE N e := by unfold okE; rw [h]; exact hf
theorem cofs_ok (hk : StoreOK d V) {f v : Nat} (hf : okE (nodesOf d) f) (hv : v < d.vars.length) (hl : levN d v <= lvE d.vars.length (levN d) (nodesOf d) f) :
 okE (nodesOf d) (cofs d f v).1 /\ okE (nodesOf d) (cofs d f v).2 /\ levN d v < lvE d.vars.length (levN d) (nodesOf d) (cofs d f v).1 /\ levN d v < lvE d.vars.length (levN d) (nodesOf d) (cofs d f v).2 /\
  ∀ ρ, ef V f ρ = if ρ v then ef V (cofs d f v).2 ρ else ef V (cofs d f v).1 ρ := by
 unfold cofs;cases hb : nodesOf d (f / 2) with
 | none =>
   have hl' : levN d v < lvE d.vars.length (levN d) (nodesOf d) f := by unfold lvE; rw [hb]; exact hk.dag.lt v hv
   exact ⟨hf, hf, hl', hl', fun ρ => by simp⟩
 | some b =>
   by_cases e : (b.v : Int) = v
   ·
    have e' : b.v = v := by omega
    simp only [if_pos e];refine ⟨okE_eflip (hk.dag.okLo _ _ hb), okE_eflip (hk.dag.okHi _ _ hb), ?_, ?_, fun ρ => ?_⟩
    ·
     rw [lvE_eflip, <- e']; exact hk.dag.lvLo _ _ hb
    ·
     rw [lvE_eflip, <- e']; exact hk.dag.lvHi _ _ hb
    ·
     rw [ef_eflip, ef_eflip];have h1 := hk.dag.eqn _ _ hb;unfold eneg;have h2 : ef V f ρ = ((f % 2 == 1) != V (f / 2) ρ) := rfl;rw [h2, h1];simp only [iteF, e'];split <;> rfl
   ·
    simp only [if_neg e];have hl' : levN d v < lvE d.vars.length (levN d) (nodesOf d) f := by
     rcases Nat.lt_or_eq_of_le hl with h | h
     ·
      exact h
     ·
      exfalso;unfold lvE at h;rw [hb] at h;have := hk.dag.inj _ _ hv (hk.dag.var _ _ hb) h;exact e (by omega)
    exact ⟨hf, hf, hl', hl', fun ρ => by simp⟩
theorem minL_le_n (hk : StoreOK d V) (f g h : Nat) : minL d f g h <= d.vars.length := by unfold minL; have := hk.dag.lvE_le f; omega
theorem le_minL {k f g h : Nat} (h1 : k <= lvE d.vars.length (levN d) (nodesOf d) f) (h2 : k <= lvE d.vars.length (levN d) (nodesOf d) g) (h3 : k <= lvE d.vars.length (levN d) (nodesOf d) h) : k <= minL d f g h := by unfold minL; omega
theorem HalfIn.ok (hk : StoreOK d V) {e f g h : Nat} (hi : HalfIn e f g h) (hf : okE (nodesOf d) f) (hg : okE (nodesOf d) g) (hh : okE (nodesOf d) h) :
 okE (nodesOf d) e /\ minL d f g h <= lvE d.vars.length (levN d) (nodesOf d) e := by
 rcases hi with e0 | e0 | e0 | e0
 ·
  exact ⟨.inl e0, by rw [lvE_const hk e0]; exact minL_le_n hk f g h⟩
 ·
  exact ⟨okE_halves e0 hf, by rw [lvE_halves e0]; unfold minL; omega⟩
 ·
  exact ⟨okE_halves e0 hg, by rw [lvE_halves e0]; unfold minL; omega⟩
 ·
  exact ⟨okE_halves e0 hh, by rw [lvE_halves e0]; unfold minL; omega⟩
structure IteS (d : StoreD) (V : Nat -> BF) (f0 g0 h0 : Nat) (f g h : Nat) (nt : Bool) : Prop where
 okF : okE (nodesOf d) f
 okG : okE (nodesOf d) g
 okH : okE (nodesOf d) h
 lev : minL d f0 g0 h0 <= minL d f g h
 val : ∀ ρ, iteB (ef V f0 ρ) (ef V g0 ρ) (ef V h0 ρ) = (nt != iteB (ef V f ρ) (ef V g ρ) (ef V h ρ))
theorem IteS.start {f g h : Nat} (hf : okE (nodesOf d) f) (hg : okE (nodesOf d) g) (hh : okE (nodesOf d) h) : IteS d V f g h f g h false := ⟨hf, hg, hh, Nat.le_refl _, fun ρ => by simp⟩
theorem IteS.next {f0 g0 h0 f g h : Nat} {nt : Bool} (hk : StoreOK d V) (s : IteS d V f0 g0 h0 f g h nt) (hd : (iteR f g h).dn = false) :
 IteS d V f0 g0 h0 (iteR f g h).a (iteR f g h).b (iteR f g h).c (nt != (iteR f g h).n) /\ (iteR f g h).a / 2 ≠ 0 := by
 obtain ⟨ha, hb, hc, hn, hv⟩ := iteR_more hd;obtain ⟨a1, a2⟩ := ha.ok hk s.okF s.okG s.okH;obtain ⟨b1, b2⟩ := hb.ok hk s.okF s.okG s.okH;obtain ⟨c1, c2⟩ := hc.ok hk s.okF s.okG s.okH;refine ⟨⟨a1, b1, c1, Nat.le_trans s.lev (le_minL a2 b2 c2), fun ρ => ?_⟩, hn⟩;rw [s.val, hv hk.dag.one];cases nt <;> cases (iteR f g h).n <;> simp
theorem IteS.answer {f0 g0 h0 f g h r : Nat} {nt : Bool} (s : IteS d V f0 g0 h0 f g h nt) (h1 : okE (nodesOf d) f0) (h2 : okE (nodesOf d) g0) (h3 : okE (nodesOf d) h0) (hr : okE (nodesOf d) r) (hl : minL d f g h <= lvE d.vars.length (levN d) (nodesOf d) r)
 (hv : ∀ ρ, ef V r ρ = iteB (ef V f ρ) (ef V g ρ) (ef V h ρ)) : IteP d V f0 g0 h0 (eflip r nt) :=
 ⟨h1, h2, h3, okE_eflip hr, fun ρ => by rw [ef_eflip, hv, <- s.val]; rfl, by rw [lvE_eflip]; exact Nat.le_trans s.lev hl⟩
theorem IteS.done {f0 g0 h0 f g h : Nat} {nt : Bool} (hk : StoreOK d V) (s : IteS d V f0 g0 h0 f g h nt) (h1 : okE (nodesOf d) f0) (h2 : okE (nodesOf d) g0) (h3 : okE (nodesOf d) h0) (hd : (iteR f g h).dn = true) : IteP d V f0 g0 h0 (eflip (iteR f g h).r nt) := by
 obtain ⟨hh, hv⟩ := iteR_done hd;obtain ⟨q1, q2⟩ := hh.ok hk s.okF s.okG s.okH;exact s.answer h1 h2 h3 q1 q2 (hv hk.dag.one)
theorem Ext.minL (x : Ext d V d' V') (hk : StoreOK d V) (hk' : StoreOK d' V') {f g h : Nat} (hf : okE (nodesOf d) f) (hg : okE (nodesOf d) g) (hh : okE (nodesOf d) h) : minL d' f g h = Go.Proofs.YtchliiaknmknhaaGreat.minL d f g h := by
 unfold Go.Proofs.YtchliiaknmknhaaGreat.minL;rw [x.vars, x.lvE hf hk.dag.none0 hk'.dag.none0, x.lvE hg hk.dag.none0 hk'.dag.none0, x.lvE hh hk.dag.none0 hk'.dag.none0]
theorem IteS.ext {f0 g0 h0 f g h : Nat} {nt : Bool} (s : IteS d V f0 g0 h0 f g h nt) (x : Ext d V d' V') (hk : StoreOK d V) (hk' : StoreOK d' V') (h1 : okE (nodesOf d) f0) (h2 : okE (nodesOf d) g0) (h3 : okE (nodesOf d) h0) : IteS d' V' f0 g0 h0 f g h nt :=
 ⟨x.ok s.okF, x.ok s.okG, x.ok s.okH, by rw [x.minL hk hk' h1 h2 h3, x.minL hk hk' s.okF s.okG s.okH]; exact s.lev, fun ρ => by rw [x.ef s.okF, x.ef s.okG, x.ef s.okH, x.ef h1, x.ef h2, x.ef h3]; exact s.val ρ⟩
theorem IteP.ext {f g h r : Nat} (s : IteP d V f g h r) (x : Ext d V d' V') (hk : StoreOK d V) (hk' : StoreOK d' V') : IteP d' V' f g h r :=
 ⟨x.ok s.okA, x.ok s.okB, x.ok s.okC, x.ok s.okR, fun ρ => by rw [x.ef s.okA, x.ef s.okB, x.ef s.okC, x.ef s.okR]; exact s.val ρ,
  by rw [x.minL hk hk' s.okA s.okB s.okC, x.vars, x.lvE s.okR hk.dag.none0 hk'.dag.none0]; exact s.lev⟩
theorem ite_join (hk : StoreOK d V) {f g h v lo hi r : Nat} (hf : okE (nodesOf d) f) (hg : okE (nodesOf d) g) (hh : okE (nodesOf d) h) (hv : v < d.vars.length) (hl : levN d v <= minL d f g h)
 (c1 : ∀ ρ, ef V lo ρ = iteB (ef V (cofs d f v).1 ρ) (ef V (cofs d g v).1 ρ) (ef V (cofs d h v).1 ρ)) (c2 : ∀ ρ, ef V hi ρ = iteB (ef V (cofs d f v).2 ρ) (ef V (cofs d g v).2 ρ) (ef V (cofs d h v).2 ρ))
 (hr : ef V r = iteF v (ef V hi) (ef V lo)) (ρ : Nat -> Bool) : ef V r ρ = iteB (ef V f ρ) (ef V g ρ) (ef V h ρ) := by
 have lf := (cofs_ok hk hf hv (by unfold minL at hl; omega)).2.2.2.2 ρ;have lg := (cofs_ok hk hg hv (by unfold minL at hl; omega)).2.2.2.2 ρ;have lh := (cofs_ok hk hh hv (by unfold minL at hl; omega)).2.2.2.2 ρ;rw [hr, lf, lg, lh];simp only [iteF];cases ρ v
 ·
  simpa using c1 ρ
 ·
  simpa using c2 ρ
theorem cofs_ext (x : Ext d V d' V') (h0 : nodesOf d 0 = none) (h0' : nodesOf d' 0 = none) {f : Nat} (hf : okE (nodesOf d) f) (v : Int) : cofs d' f v = cofs d f v := by
 unfold cofs;rcases hf with h | ⟨b, hb⟩
 ·
  rw [h, h0, h0']
 ·
  rw [hb, x.nodes _ _ hb]
end
open Go.RowKit
def ItePost (K : Law) (k : Nat) (o : Own) (w : World) (mb : Nat) (m : ManD) (V : Nat -> BF) (f g h : Nat) (e : Ending) (w' : World) : Prop :=
 ∃ o' m' V', Step K o w mb m V o' w' m' V' /\
  ((∃ r : Nat, e = .returned (.int .i64 r) /\ IteP m'.d V' f g h r /\ m'.waits = m.waits /\ m'.d.pool.many + 1 <= m.d.pool.many + 2 ^ k) \/
   (e = stopP 7 false ev0 /\ m'.waits = m.waits /\ m'.d.pool.many = m'.d.pool.room /\ m'.d.pool.many + 2 <= m.d.pool.many + 2 ^ k) \/
   (∃ ev, e = stopP 0 true ev /\ m.waits = ev :: m'.waits))
def IteOk (K : Law) (k : Nat) : Prop := ∀ (o : Own) (w : World) (xb mb : Nat) (m : ManD) (V : Nat -> BF) (f g h : Nat), ManAt (K m.d V) o w mb m -> OwnLt o w -> CtxAt o w xb mb -> StoreOK m.d V ->
 okE (nodesOf m.d) f -> okE (nodesOf m.d) g -> okE (nodesOf m.d) h -> m.d.vars.length <= minL m.d f g h + k ->
 Calls Tryz.prog 40 #[.pointer (some ⟨xb, 0, none⟩), .int .i64 f, .int .i64 g, .int .i64 h] w (ItePost K k o w mb m V f g h)
theorem step_below {K : Law} {o : Own} {w w' : World} {mb : Nat} {m : ManD} {V : Nat -> BF} (hm : ManAt (K m.d V) o w mb m) (hl : OwnLt o w) (hk : StoreOK m.d V) (hb : Below w.heap.size w w') : Step K o w mb m V o w' m V := by
 obtain ⟨s, h⟩ := hm;exact ⟨⟨s, h.below hl hb⟩, hl.mono hb.size, Chg.of_below hb _ _, hk, Ext.refl _ _, rfl, rfl⟩
theorem Step.below {K : Law} {o o' : Own} {w w' w'' : World} {mb : Nat} {m m' : ManD} {V V' : Nat -> BF} (h : Step K o w mb m V o' w' m' V') (hb : Below w'.heap.size w' w'') : Step K o w mb m V o' w'' m' V' := h.trans (step_below h.is h.lt h.ok hb)
theorem top3 {d : StoreD} {V : Nat -> BF} (hk : StoreOK d V) {f g h : Nat} (hf : okE (nodesOf d) f) (hn : f / 2 ≠ 0) {top least : Int} (ht : TopS d [f, g, h] top least) :
 ∃ v : Nat, top = v /\ v < d.vars.length /\ levN d v = minL d f g h /\ levN d v < d.vars.length := by
 rcases ht with ⟨_, _, h3⟩ | ⟨v, h1, _, h3, ⟨e, he, b, hb, hbv⟩, h5⟩
 ·
  exfalso;rcases hf with h0 | ⟨b, hb⟩
  ·
   exact hn h0
  ·
   rw [h3 f (by simp)] at hb; cases hb
 ·
  refine ⟨v, h1, h3, ?_, hk.dag.lt v h3⟩;have e0 : lvE d.vars.length (levN d) (nodesOf d) e = levN d v := by unfold lvE; rw [hb, <- hbv]
  have a1 := h5 f (by simp);have a2 := h5 g (by simp);have a3 := h5 h (by simp);simp only [List.mem_cons, List.not_mem_nil, or_false] at he;unfold minL;rcases he with rfl | rfl | rfl <;> omega
theorem ctxIte_step {K : Law} (hK : LawOK K) (k : Nat) (IH : ∀ k', k = k' + 1 -> IteOk K k') : IteOk K k := by
 intro o w xb mb m V f g h hm hlt hx hk hf hg hh hfuel;obtain ⟨st0, hst0⟩ : ∃ s, StoreIn o w (Classical.choose hm).sb m.d s := (Classical.choose_spec hm).store;have HLT : Hid (∀ e, okE (nodesOf m.d) e -> e < eMax) := Lib.hid fun e he => by have := hst0.edge_lt he; unfold eMax; omega
 have HK' := Lib.hid hK;have HM := Lib.hid hm;have HOL := Lib.hid hlt;have HX := Lib.hid hx;have HK := Lib.hid hk;have HF := Lib.hid hf;have HG := Lib.hid hg;have HH := Lib.hid hh;have HFU := Lib.hid hfuel;have HST : Hid (IteS m.d V f g h f g h false) := Lib.hid (IteS.start hf hg hh);clear hst0 hm hlt hx hk hf hg hh hfuel
 go_enter Tryz.func40, Tryz.ntmps40
 go_upto_block 0 with fail
 go_cut [1, 2, 3, 9] from 27 (fun s1 s2 s3 s9 wx => ∃ (f' g' h' : Nat) (nt : Bool), s1 = .int .i64 f' /\ s2 = .int .i64 g' /\ s3 = .int .i64 h' /\ s9 = .bool nt /\ IteS m.d V f g h f' g' h' nt /\ f' / 2 ≠ 0 /\ wx = w)
 case first =>
  go_wp2_with fail
  go_loopw [1, 2, 3, 9, 27] (fun s1 s2 s3 s9 i wr => ∃ (f' g' h' : Nat) (nt : Bool) (j : Nat), s1 = .int .i64 f' /\ s2 = .int .i64 g' /\ s3 = .int .i64 h' /\ s9 = .bool nt /\ i = .int .i64 j /\ j <= 3 /\ IteS m.d V f g h f' g' h' nt /\ (0 < j -> f' / 2 ≠ 0) /\ wr = w) (fun _ _ _ _ i _ => 3 - (intOf i).toNat)
  case atStart => exact ⟨f, g, h, false, 0, rfl, rfl, rfl, rfl, rfl, by omega, HST.out, by omega, rfl⟩
  case round =>
   obtain ⟨f', g', h', nt, j, rfl, rfl, rfl, rfl, rfl, hj, hS, hn, rfl⟩ := hrel;clear HST
   by_cases hlt : j < 3
   ·
    have HI := Lib.hid (fun W : World => ite_any f' g' h' W (HLT.out _ hS.okF) (HLT.out _ hS.okG) (HLT.out _ hS.okH));have hlr : (iteR f' g' h').dn = true -> (iteR f' g' h').r < eMax := fun e => HLT.out _ (((iteR_done e).1.ok HK.out hS.okF hS.okG hS.okH).1)
    have hNX := fun e => hS.next HK.out (f := f') (g := g') (h := h') e
    have hDN := fun e => hS.done HK.out HF.out HG.out HH.out e
    have hlt' : (j : Int) < 3 := by omega
    unfold iteV at HI;obtain ⟨R, hR⟩ : ∃ R, R = iteR f' g' h' := ⟨_, rfl⟩;rw [<- hR] at HI hlr hNX hDN;clear hR hS hn;obtain ⟨a, b, c, n, r, dn⟩ := R;dsimp only at HI hlr hNX hDN;cases dn with
    | true =>
      have HFL := Lib.hid (fun W : World => flip_any r nt W (hlr rfl));have HDN := Lib.hid (hDN rfl);clear hlr hNX hDN;go_wp2_with fail;refine (HI.out _).mono ?_;rintro x w' ⟨rfl, rfl⟩;go_wp2_with fail;refine (HFL.out _).mono ?_;rintro x w' ⟨rfl, rfl⟩;go_wp2_with fail;go_ret;exact ⟨o, m, V, ⟨HM.out, HOL.out, Chg.refl _ _ _, HK.out, Ext.refl _ _, rfl, rfl⟩, .inl ⟨_, rfl, HDN.out, rfl, by have := Nat.one_le_two_pow (n := k); omega⟩⟩
    | false =>
      have hbn : (nt != n) = (!nt == n) := by cases nt <;> cases n <;> rfl
      have HNX := Lib.hid (hNX rfl);rw [hbn] at HNX;clear hlr hNX hDN hbn
      by_cases hp1 : a = f'
      ·
       subst hp1
       by_cases hp2 : b = g'
       ·
        subst hp2
        by_cases hp3 : c = h'
        ·
         subst hp3;go_wp2_with fail;refine (HI.out _).mono ?_;rintro x w' ⟨rfl, rfl⟩;go_wp2_with fail;go_meet;exact ⟨_, _, _, _, rfl, rfl, rfl, rfl, HNX.out.1, HNX.out.2, by trivial⟩
        ·
         have H3 : (c == h') = false := by simp [hp3]
         go_wp2_with fail;refine (HI.out _).mono ?_;rintro x w' ⟨rfl, rfl⟩;go_wp2_with fail;go_roundw
         case rel => exact ⟨_, _, _, _, j + 1, rfl, rfl, rfl, rfl, by simp, by omega, HNX.out.1, fun _ => HNX.out.2, by trivial⟩
         case measure => simp [intOf]; omega
       ·
        have H2 : (b == g') = false := by simp [hp2]
        go_wp2_with fail;refine (HI.out _).mono ?_;rintro x w' ⟨rfl, rfl⟩;go_wp2_with fail;go_roundw
        case rel => exact ⟨_, _, _, _, j + 1, rfl, rfl, rfl, rfl, by simp, by omega, HNX.out.1, fun _ => HNX.out.2, by trivial⟩
        case measure => simp [intOf]; omega
      ·
       have H1 : (a == f') = false := by simp [hp1]
       go_wp2_with fail;refine (HI.out _).mono ?_;rintro x w' ⟨rfl, rfl⟩;go_wp2_with fail;go_roundw
       case rel => exact ⟨_, _, _, _, j + 1, rfl, rfl, rfl, rfl, by simp, by omega, HNX.out.1, fun _ => HNX.out.2, by trivial⟩
       case measure => simp [intOf]; omega
   ·
    obtain rfl : j = 3 := by omega
    have HS := Lib.hid hS;have HN := Lib.hid (hn (by omega));clear hS hn;go_wp2_with fail;go_meet;exact ⟨f', g', h', nt, rfl, rfl, rfl, rfl, HS.out, HN.out, rfl⟩
 case rest =>
  obtain ⟨f', g', h', nt, rfl, rfl, rfl, rfl, hS, hn, rfl⟩ := hcut
  rename World => w
  clear HST;obtain ⟨s, hms⟩ := HM.out;obtain ⟨c0, c1, c2, c3, c4, c5, f0⟩ := cells6 hms.blk;have cx := HX.out.cell;have HGET := Lib.hid (get_any o s.me (K m.d V) 1 f' g' h' w hms.memo HOL.out);have HMS := Lib.hid hms;have HS := Lib.hid hS;have HN := Lib.hid hn;clear hms hS hn;go_wp2_with fail;refine HGET.out.mono ?_;rintro x w1 ⟨hgs, hme, hc1, hl1⟩;have hM1 : ManIn (K m.d V) o w1 mb m s := HMS.out.setMemo HOL.out hme (hc1.mono fun r e => .inl e);have hX1 := HX.out.chg hc1;have HC1 := Lib.hid hc1.any;have HM1 := Lib.hid hM1;have HX1 := Lib.hid hX1;have HL1 := Lib.hid hl1;have hst1 : Step K o w mb m V o w1 m V := ⟨⟨s, hM1⟩, hl1, hc1.any, HK.out, Ext.refl _ _, rfl, rfl⟩;have HST1 := Lib.hid hst1;clear hme hc1 hl1 hM1 hX1 hst1;rcases hgs with rfl | ⟨r, rfl, hkr⟩
  ·
   clear c0 c1 c2 c3 c4 c5 f0 cx;go_upto_region 14 with fail;obtain ⟨w2, hw2⟩ : ∃ w2, w2 = w1.alloc (.cells #[.int .i64 f', .int .i64 g', .int .i64 h'] 52) := ⟨_, rfl⟩;have hb2 : Below w1.heap.size w1 w2 := by rw [hw2]; exact below_new1 w1 _
   have hz : w2.heap[w1.heap.size]? = some (.cells #[.int .i64 f', .int .i64 g', .int .i64 h'] 52 (0, 0)) := by rw [hw2]; exact heap_alloc_new w1 _
   have hints : IntsAt w2 (some ⟨w1.heap.size, 0, none⟩) ([f', g', h'].map Int.ofNat) := ⟨by simp, fun j hj => ⟨w1.heap.size, 0, rfl, by
    rw [cell_of_row w2 w1.heap.size (0 + j) _ _ _ hz];simp at hj
    match j, hj with
    | 0, _ => rfl
    | 1, _ => rfl
    | 2, _ => rfl⟩⟩
   have hst2 := HST1.out.below hb2;have hX2 := HX.out.chg hst2.chg;have HTOP : Hid (Calls Tryz.prog 33 #[.pointer (some ⟨xb, 0, none⟩), .slice (some ⟨w1.heap.size, 0, none⟩) 3 3] w2 fun x w' => ∃ top least, x = .returned (.int .i64 top) /\ TopS m.d [f', g', h'] top least /\ Below w2.heap.size w2 w') :=
    Lib.hid (ctxTop_any hst2.is hst2.lt hX2 HK.out [f', g', h'] (by simp; exact ⟨HS.out.okF, HS.out.okG, HS.out.okH⟩) (some ⟨w1.heap.size, 0, none⟩) 3 hints)
   have HST2 := Lib.hid hst2;have HW2 := Lib.hid hw2;clear hb2 hz hints hst2 hX2 hw2;go_wp2_with fail;rw [<- HW2.out];refine HTOP.out.mono ?_;rintro x w3 ⟨top, least, rfl, htop, hb3⟩;obtain ⟨v, rfl, hv, hlv, hvn⟩ := top3 HK.out HS.out.okF HN.out htop;have HST3 := Lib.hid (HST2.out.below hb3);have HV := Lib.hid hv;have HLV := Lib.hid hlv;obtain ⟨k', hk'⟩ : ∃ k', k = k' + 1 := ⟨k - 1, by have h1 := HFU.out; have h2 := HS.out.lev; omega⟩;have HIH := Lib.hid (IH k' hk');have cf := cofs_ok HK.out HS.out.okF hv (by rw [hlv]; unfold minL; omega);have cg := cofs_ok HK.out HS.out.okG hv (by rw [hlv]; unfold minL; omega);have ch := cofs_ok HK.out HS.out.okH hv (by rw [hlv]; unfold minL; omega);have hl1 : levN m.d v + 1 <= minL m.d (cofs m.d f' v).1 (cofs m.d g' v).1 (cofs m.d h' v).1 := le_minL cf.2.2.1 cg.2.2.1 ch.2.2.1;have hl2 : levN m.d v + 1 <= minL m.d (cofs m.d f' v).2 (cofs m.d g' v).2 (cofs m.d h' v).2 := le_minL cf.2.2.2.1 cg.2.2.2.1 ch.2.2.2.1;have hfu : m.d.vars.length <= levN m.d v + 1 + k' := by have h1 := HFU.out; have h2 := HS.out.lev; omega
   have HCF := Lib.hid cf;have HCG := Lib.hid cg;have HCH := Lib.hid ch;have HL1' := Lib.hid hl1;have HL2' := Lib.hid hl2;have HFU' := Lib.hid hfu;have HKK := Lib.hid hk';have HSP : Hid (∀ (W : World) (e : Nat), okE (nodesOf m.d) e -> Step K o w mb m V o W m V -> Calls Tryz.prog 36 #[.pointer (some ⟨xb, 0, none⟩), .int .i64 e, .int .i64 v] W fun x w' => x = .returned (.tuple #[.int .i64 (cofs m.d e v).1, .int .i64 (cofs m.d e v).2]) /\ Step K o w mb m V o w' m V) :=
    Lib.hid fun W e he st => (ctxSplit_any st.is st.lt (HX.out.chg st.chg) HK.out e he v).mono fun x w' ⟨h1, h2⟩ => ⟨h1, st.below h2⟩
   clear htop hb3 hv hlv hvn cf cg ch hl1 hl2 hfu hk' HTOP HW2 HST2;go_wp2_with fail;refine (HSP.out _ _ HS.out.okF HST3.out).mono ?_;rintro x w4 ⟨rfl, hst4⟩;have HST4 := Lib.hid hst4;clear hst4;go_wp2_with fail;refine (HSP.out _ _ HS.out.okG HST4.out).mono ?_;rintro x w5 ⟨rfl, hst5⟩;have HST5 := Lib.hid hst5;clear hst5;go_wp2_with fail;refine (HSP.out _ _ HS.out.okH HST5.out).mono ?_;rintro x w6 ⟨rfl, hst6⟩;have HST6 := Lib.hid hst6;clear hst6;go_wp2_with fail;refine (HIH.out o w6 xb mb m V _ _ _ HST6.out.is HST6.out.lt (HX.out.chg HST6.out.chg) HK.out HCF.out.1 HCG.out.1 HCH.out.1 (by have h1 := HFU'.out; have h2 := HL1'.out; omega)).mono ?_;have HPW : Hid (2 ^ k = 2 ^ k' + 2 ^ k') := by show _ = _; rw [HKK.out, Nat.pow_succ]; omega
   have HP1 : Hid (1 <= 2 ^ k') := Lib.hid Nat.one_le_two_pow;rintro x w7 ⟨o7, m7, V7, st7, (⟨lo, rfl, hlo, hwt7, hmn7⟩ | ⟨rfl, hwt7, hrm7, hmn7⟩ | ⟨ev, rfl, hwt7⟩)⟩
   ·
    have HST7 := Lib.hid (HST6.out.trans st7);have HK7 := Lib.hid st7.ok;have HX7 := Lib.hid st7.ext;have HLO := Lib.hid hlo;have HWT7 := Lib.hid hwt7;have HMN7 := Lib.hid hmn7;have hh7 : m7.d.vars.length <= minL m7.d (cofs m.d f' v).2 (cofs m.d g' v).2 (cofs m.d h' v).2 + k' := by
     rw [st7.ext.minL HK.out st7.ok HCF.out.2.1 HCG.out.2.1 HCH.out.2.1, st7.ext.vars];have h1 := HFU'.out; have h2 := HL2'.out; omega
    have HH7 := Lib.hid hh7;clear st7 hlo hwt7 hmn7 hh7;go_wp2_with fail;refine (HIH.out o7 w7 xb mb m7 V7 _ _ _ HST7.out.is HST7.out.lt (HX.out.chg HST7.out.chg) HK7.out (HX7.out.ok HCF.out.2.1) (HX7.out.ok HCG.out.2.1) (HX7.out.ok HCH.out.2.1) HH7.out).mono ?_;rintro x w8 ⟨o8, m8, V8, st8, (⟨hi, rfl, hhi, hwt8, hmn8⟩ | ⟨rfl, hwt8, hrm8, hmn8⟩ | ⟨ev, rfl, hwt8⟩)⟩
    ·
     have HST8 := Lib.hid (HST7.out.trans st8);have HK8 := Lib.hid st8.ok;have HX8 := Lib.hid st8.ext;have HHI := Lib.hid hhi;have HWT8 := Lib.hid hwt8;have HMN8 := Lib.hid hmn8;have hMk := ctxMk_any HK'.out HST8.out.is HST8.out.lt (HX.out.chg HST8.out.chg) st8.ok v lo hi (st8.ext.ok HLO.out.okR) hhi.okR;have HMK := Lib.hid hMk;clear st8 hhi hwt8 hmn8 hMk;go_wp2_with fail;refine HMK.out.mono ?_;have hlo8 : levN m8.d v < lvE m8.d.vars.length (levN m8.d) (nodesOf m8.d) lo := by
      have e1 := HX8.out.lvE (n := m8.d.vars.length) HLO.out.okR HK7.out.dag.none0 HK8.out.dag.none0;have e2 := HLO.out.lev;have e3 := HX7.out.minL HK.out HK7.out HCF.out.1 HCG.out.1 HCH.out.1;have e4 := HL1'.out;have e5 := HX7.out.lev;have e6 := HX8.out.lev;have e7 := HX8.out.vars;rw [e1, e6, e5, e7];rw [e5] at e2;omega
     have hhi8 : levN m8.d v < lvE m8.d.vars.length (levN m8.d) (nodesOf m8.d) hi := by
      have e2 := HHI.out.lev;have x78 := HX7.out.trans HX8.out;have e3 := x78.minL HK.out HK8.out HCF.out.2.1 HCG.out.2.1 HCH.out.2.1;have e4 := HL2'.out;have e5 := x78.lev;rw [e5] at e2 ⊢;omega
     have hv8 : v < m8.d.vars.length := by rw [(HX7.out.trans HX8.out).vars]; exact HV.out
     have hbad : ∀ er, MkErr m8.d v lo hi er -> er = 7 /\ m8.d.pool.many = m8.d.pool.room := by
      rintro er (⟨_, h1⟩ | ⟨_, _, _, h1⟩ | h1)
      ·
       exact absurd ⟨by omega, by omega⟩ h1
      ·
       simp only [Int.toNat_natCast] at h1; omega
      ·
       exact h1
     have HLO8 := Lib.hid hlo8;have HHI8 := Lib.hid hhi8;have HV8 := Lib.hid hv8;have HBAD := Lib.hid hbad;clear hlo8 hhi8 hv8 hbad;rintro x w9 ⟨o9, m9, V9, st9, (⟨ev, hw9, _, _, hd9, hV9, rfl⟩ | ⟨hwt9, _, _, (⟨er, her, hd9, hV9, rfl⟩ | ⟨_, _, r, rfl, hr9, hrv, hrl, hmn9⟩)⟩)⟩
     ·
      have HST9 := Lib.hid (HST8.out.trans st9);have HW9 := Lib.hid hw9;clear st9 hw9 hd9 hV9;unfold stopP;go_wp2_with fail;exact ⟨rfl, o9, m9, V9, HST9.out, .inr (.inr ⟨ev, rfl, by rw [<- HWT7.out, <- HWT8.out]; exact HW9.out⟩)⟩
     ·
      have HST9 := Lib.hid (HST8.out.trans st9);obtain ⟨rfl, hfull⟩ := HBAD.out er her;have HFULL := Lib.hid hfull;have HD9 := Lib.hid hd9;have HWT9 := Lib.hid hwt9;clear st9 her hd9 hV9 hwt9 hfull;unfold stopP;go_wp2_with fail;exact ⟨rfl, o9, m9, V9, HST9.out, .inr (.inl ⟨rfl, by rw [HWT9.out, HWT8.out, HWT7.out], by rw [HD9.out]; exact HFULL.out, by rw [HD9.out]; have a1 := HMN7.out; have a2 := HMN8.out; have a3 := HPW.out; have a4 := HP1.out; omega⟩)⟩
     ·
      have hst9 := HST8.out.trans st9;have x09 := hst9.ext;have hk9 := st9.ok;have x79 := HX8.out.trans st9.ext;have a0 := HK.out.dag.none0;have a9 := hk9.dag.none0;have hip : IteP m9.d V9 f' g' h' r := by
       refine ⟨x09.ok HS.out.okF, x09.ok HS.out.okG, x09.ok HS.out.okH, hr9, fun ρ => ?_, ?_⟩
       ·
        refine ite_join (lo := lo) (hi := hi) (v := v) hk9 (x09.ok HS.out.okF) (x09.ok HS.out.okG) (x09.ok HS.out.okH) (by rw [x09.vars]; exact HV.out) (by rw [x09.lev, x09.minL HK.out hk9 HS.out.okF HS.out.okG HS.out.okH, HLV.out]; exact Nat.le_refl _) ?_ ?_ ?_ ρ
        ·
         intro ρ;rw [cofs_ext x09 a0 a9 HS.out.okF, cofs_ext x09 a0 a9 HS.out.okG, cofs_ext x09 a0 a9 HS.out.okH];exact (HLO.out.ext x79 HK7.out hk9).val ρ
        ·
         intro ρ;rw [cofs_ext x09 a0 a9 HS.out.okF, cofs_ext x09 a0 a9 HS.out.okG, cofs_ext x09 a0 a9 HS.out.okH];exact (HHI.out.ext st9.ext HK8.out hk9).val ρ
        ·
         rw [hrv, st9.ext.ef HHI.out.okR, st9.ext.ef (HX8.out.ok HLO.out.okR)]; rfl
       ·
        rw [x09.minL HK.out hk9 HS.out.okF HS.out.okG HS.out.okH, <- HLV.out];have e1 := (HX7.out.trans HX8.out).lev;have e2 := (HX7.out.trans HX8.out).vars;rw [e1, e2] at hrl;rw [x09.vars];exact hrl
      have HAN := Lib.hid ((HS.out.ext x09 HK.out hk9 HF.out HG.out HH.out).answer (x09.ok HF.out) (x09.ok HG.out) (x09.ok HH.out) hip.okR hip.lev hip.val);obtain ⟨s9, hm9⟩ := hst9.is;have HPUT := Lib.hid (put_memo o9 s9.me (K m9.d V9) 1 f' g' h' r w9 hm9.memo hst9.lt ((HK'.out.ite _ _ _ _ _ _).2 hip));have hrlt : r < eMax := by
       obtain ⟨ss, hss⟩ := hm9.store;have := hss.edge_lt hip.okR;unfold eMax; omega
      have HFL := Lib.hid (fun W : World => flip_any r nt W hrlt);obtain ⟨c0, c1, c2, c3, c4, c5, f0⟩ := cells6 hm9.blk;have cx := (HX.out.chg hst9.chg).cell;have HM9 := Lib.hid hm9;have HST9 := Lib.hid hst9;have HWT9 := Lib.hid (hwt9.trans (HWT8.out.trans HWT7.out));have HMN9 : Hid (m9.d.pool.many + 1 <= m.d.pool.many + 2 ^ k) := Lib.hid (by have a1 := HMN7.out; have a2 := HMN8.out; have a3 := HPW.out; omega);clear st9 hst9 x09 hk9 x79 a0 a9 hip hm9 hrlt hwt9 hr9 hrv hrl hmn9;go_wp2_with fail;refine HPUT.out.mono ?_;rintro x w10 ⟨rfl, o10, hme, hc10, hl10⟩;have HSTF : Hid (Step K o w mb m V o10 w10 m9 V9) := Lib.hid ⟨⟨s9, HM9.out.setMemo HST9.out.lt hme hc10⟩, hl10, HST9.out.chg.trans hc10.any, HST9.out.ok, HST9.out.ext, HST9.out.hs, HST9.out.next⟩;clear hme hc10 hl10 c0 c1 c2 c3 c4 c5 f0 cx;go_wp2_with fail;refine (HFL.out _).mono ?_;rintro x w' ⟨rfl, rfl⟩;go_wp2_with fail;go_ret;exact ⟨o10, m9, V9, HSTF.out, .inl ⟨_, rfl, HAN.out, HWT9.out, HMN9.out⟩⟩
    ·
     have HST8 := Lib.hid (HST7.out.trans st8);have HQ : Hid (m8.waits = m.waits /\ m8.d.pool.many = m8.d.pool.room /\ m8.d.pool.many + 2 <= m.d.pool.many + 2 ^ k) := Lib.hid ⟨hwt8.trans HWT7.out, hrm8, by have a1 := HMN7.out; have a3 := HPW.out; have a4 := HP1.out; omega⟩;clear st8 hwt8 hrm8 hmn8;unfold stopP;go_wp2_with fail;exact ⟨rfl, o8, m8, V8, HST8.out, .inr (.inl ⟨rfl, HQ.out.1, HQ.out.2.1, HQ.out.2.2⟩)⟩
    ·
     have HST8 := Lib.hid (HST7.out.trans st8);have HQ := Lib.hid hwt8;clear st8 hwt8;unfold stopP;go_wp2_with fail;exact ⟨rfl, o8, m8, V8, HST8.out, .inr (.inr ⟨ev, rfl, by rw [<- HWT7.out]; exact HQ.out⟩)⟩
   ·
    have HST7 := Lib.hid (HST6.out.trans st7);have HQ : Hid (m7.waits = m.waits /\ m7.d.pool.many = m7.d.pool.room /\ m7.d.pool.many + 2 <= m.d.pool.many + 2 ^ k) := Lib.hid ⟨hwt7, hrm7, by have a3 := HPW.out; have a4 := HP1.out; omega⟩;clear st7 hwt7 hrm7 hmn7;unfold stopP;go_wp2_with fail;exact ⟨rfl, o7, m7, V7, HST7.out, .inr (.inl ⟨rfl, HQ.out.1, HQ.out.2.1, HQ.out.2.2⟩)⟩
   ·
    have HST7 := Lib.hid (HST6.out.trans st7);have HQ := Lib.hid hwt7;clear st7 hwt7;unfold stopP;go_wp2_with fail;exact ⟨rfl, o7, m7, V7, HST7.out, .inr (.inr ⟨ev, rfl, HQ.out⟩)⟩
  ·
   have hip : IteP m.d V f' g' h' r := (HK'.out.ite _ _ _ _ _ _).1 hkr;have HAN := Lib.hid (HS.out.answer HF.out HG.out HH.out hip.okR hip.lev hip.val);have HFL := Lib.hid (fun W : World => flip_any r nt W (HLT.out _ hip.okR));clear hkr hip c0 c1 c2 c3 c4 c5 f0 cx;go_wp2_with fail;refine (HFL.out _).mono ?_;rintro x w' ⟨rfl, rfl⟩;go_wp2_with fail;go_ret;exact ⟨o, m, V, HST1.out, .inl ⟨_, rfl, HAN.out, rfl, by have := Nat.one_le_two_pow (n := k); omega⟩⟩
theorem ctxIte_any {K : Law} (hK : LawOK K) : ∀ k, IteOk K k := by
 intro k
 induction k with
 | zero => exact ctxIte_step hK 0 (fun k' e => absurd e (by omega))
 | succ k ih =>
   refine ctxIte_step hK (k + 1) (fun k' e => ?_);have e2 : k' = k := by omega
   rw [e2]; exact ih
end Go.Proofs.YtchliiaknmknhaaGreat

namespace Go.Proofs.YtchliiaknmknhaaGreat
open Go.RowKit Go.Shelf
structure Wr (M : Nat -> Prop) (w w' : World) : Prop where
 os : w'.os = w.os
 tape : w'.tape = w.tape
 output : w'.output = w.output
 size : w.heap.size <= w'.heap.size
 keep : ∀ k, k < w.heap.size -> ¬ M k -> w'.heap[k]? = w.heap[k]?
theorem Wr.refl (M : Nat -> Prop) (w : World) : Wr M w w := ⟨rfl, rfl, rfl, Nat.le_refl _, fun _ _ _ => rfl⟩
theorem Wr.trans {M M' N : Nat -> Prop} {w w' w'' : World} (h : Wr M w w') (h' : Wr M' w' w'') (hM : ∀ k, k < w.heap.size -> M k -> N k) (hM' : ∀ k, k < w.heap.size -> M' k -> N k) : Wr N w w'' :=
 ⟨h'.os.trans h.os, h'.tape.trans h.tape, h'.output.trans h.output, Nat.le_trans h.size h'.size, fun k hk hn => (h'.keep k (Nat.lt_of_lt_of_le hk h.size) (fun e => hn (hM' k hk e))).trans (h.keep k hk (fun e => hn (hM k hk e)))⟩
theorem Wr.mono {M N : Nat -> Prop} {w w' : World} (h : Wr M w w') (hM : ∀ k, M k -> N k) : Wr N w w' := ⟨h.os, h.tape, h.output, h.size, fun k hk hn => h.keep k hk (fun e => hn (hM k e))⟩
theorem Wr.drew {M : Nat -> Prop} {w w' : World} (h : Wr M w w') : Wr M w w'.drew := ⟨h.os, h.tape, h.output, h.size, h.keep⟩
theorem Wr.alloc {M : Nat -> Prop} {w w' : World} (h : Wr M w w') (o : Obj) : Wr M w (w'.alloc o) :=
 ⟨h.os, h.tape, h.output, by simp; have := h.size; omega, fun k hk hn => (Below.heap_alloc w' o k (Nat.lt_of_lt_of_le hk h.size)).trans (h.keep k hk hn)⟩
theorem Wr.setCell {M : Nat -> Prop} {w w' : World} (h : Wr M w w') {p : Addr} (hp : M p.block \/ w.heap.size <= p.block) (u : Value) : Wr M w (w'.setCell p u) :=
 ⟨h.os, h.tape, h.output, by simp [World.setCell]; exact h.size, fun k hk hn => (Below.heap_setCell _ _ _ _ (by rintro rfl; rcases hp with hp | hp; exact hn hp; omega)).trans (h.keep k hk hn)⟩
theorem Wr.putObj {M : Nat -> Prop} {w w' : World} (h : Wr M w w') {l : Nat} (hl : M l \/ w.heap.size <= l) (o : Obj) : Wr M w (w'.putObj l o) :=
 ⟨h.os, h.tape, h.output, by simp; exact h.size, fun k hk hn => (World.putObj_heap_other (by rintro rfl; rcases hl with hl | hl; exact hn hl; omega)).trans (h.keep k hk hn)⟩
theorem Wr.of_below {w w' : World} (h : Below w.heap.size w w') (M : Nat -> Prop) : Wr M w w' := ⟨h.os, h.tape, h.output, h.size, fun k hk _ => h.block k hk⟩
theorem Wr.below {M : Nat -> Prop} {n₀ : Nat} {w w' : World} (h : Wr M w w') (hM : ∀ k, M k -> n₀ <= k) (hn : n₀ <= w.heap.size) : Below n₀ w w' :=
 ⟨h.os, h.tape, h.output, h.size, fun k hk => h.keep k (by omega) (fun e => by have := hM k e; omega)⟩
section
variable {F : Fence} {n : Nat} {P : Program} {α : Type}
def OwnsIn (n₀ : Nat) (J : List α -> (Nat -> Prop) -> World -> Prop) : Prop := ∀ pre M W, J pre M W -> ∀ k, M k -> n₀ <= k /\ k < W.heap.size
def Minds (n₀ : Nat) (J : List α -> (Nat -> Prop) -> World -> Prop) : Prop := ∀ pre M W W', J pre M W -> Wr (fun k => n₀ <= k /\ ¬ M k) W W' -> J pre M W'
def Gives (F : Fence) (n d : Nat) (P : Program) (g : Nat) (lb : Array Value) (encs : α -> Array Value) (n₀ : Nat) (Bx : Nat -> Prop) (xs : List α) (w : World) : Prop :=
 ∀ (l : Nat) (J : List α -> (Nat -> Prop) -> World -> Prop) (M : Nat -> Prop) (W : World), OwnsIn n₀ J -> Minds n₀ J -> Wr (fun k => n₀ <= k /\ ¬ Bx k) w W -> (∀ k, Bx k -> ¬ M k) ->
  (∀ pre x M W1, J pre M W1 -> (∃ suf, pre ++ x :: suf = xs) -> YieldAt F (n - 1 - d) P l (encs x) W1 fun e W' =>
   e = .returned (.bool true) /\ ∃ M', J (pre ++ [x]) M' W' /\ Wr M W1 W' /\ ∀ k, M' k -> M k \/ W1.heap.size <= k) ->
  J [] M W ->
  CallsIn F n P g (#[.func (.yield l) #[] #[]] ++ lb) W fun e W' => (∃ v, e = .returned v) /\ ∃ M', J xs M' W' /\ Wr (fun k => n₀ <= k) W W' /\ ∀ k, M' k -> M k \/ W.heap.size <= k
theorem wp_range {g : Operand} {ps : Array Tmp} {assign body : Code} {Q : Exit -> Act -> World -> Prop} {a : Act} {w : World} (hro : F.round = none) (h1 : 1 <= n) {gf : Nat} {lb : Array Value} (hg : a.eval g = .func (.func gf) #[] lb)
 (hFg : F.fn gf) (eg : ∀ args w, (callFunc gf args).run P w = .ok (.enter gf args) w) {encs : α -> Array Value} {n₀ : Nat} {Bx : Nat -> Prop} {xs : List α} {d : Nat} (hseq : Gives F (n - 1) d P gf lb encs n₀ Bx xs w) (hn0 : n₀ <= w.heap.size)
 (hBx : ∀ k, Bx k -> k < w.heap.size) (hps : ∀ x, (encs x).size = ps.size) (I : List α -> (Nat -> Prop) -> World -> Prop) (hOw : OwnsIn n₀ I) (hMi : Minds n₀ I) (M0 : Nat -> Prop) (hM0 : ∀ k, Bx k -> ¬ M0 k) (h0 : I [] M0 w)
 (Ax : α -> Act -> World -> World -> Prop) (hAx : ∀ x a' W W1 W2 l, l < W.heap.size -> Ax x a' W W1 -> Wr (· = l) W1 W2 -> Ax x a' W W2)
 (hassign : ∀ (l : Nat) (pre : List α) (x : α) (M : Nat -> Prop) (W : World) (K : Act -> World -> Prop), I pre M W -> (∀ a' W', Wr (fun _ => False) W W' -> Ax x a' W W' -> K a' W') ->
  assign.wpIn (F.inRound l) (n - 1 - 1 - d) P (Exit.then K (fun _ _ _ => False)) { tmps := (ps.zip (encs x)).foldl (fun t (p, v) => t.setIfInBounds p v) a.tmps, defers := [] } W)
 (hbody : ∀ (l : Nat) (pre : List α) (x : α) (a' : Act) (M : Nat -> Prop) (W0 W : World), I pre M W -> Ax x a' W0 W -> W0.heap.size <= W.heap.size -> w.heap.size <= W0.heap.size -> (∃ suf, pre ++ x :: suf = xs) -> body.wpIn (F.inRound l) (n - 1 - 1 - d) P
  (fun e _ W' => match e with | .normal => ∃ M', I (pre ++ [x]) M' W' /\ Wr (fun k => M k \/ W0.heap.size <= k) W W' /\ (∀ k, M' k -> M k \/ W0.heap.size <= k) | _ => False) a' W)
 (hdone : ∀ (D : Nat) (M : Nat -> Prop) (W : World), w.heap.size <= D -> ¬ M D -> I xs M W -> (∀ k, M k -> M0 k \/ w.heap.size <= k) -> Wr (fun k => n₀ <= k) w W -> W.heap[D]? = some (.deferred (some [])) -> Q .normal { a with defers := { target := .collected D, args := #[] } :: a.defers } W) :
 (Code.rangeFunc g ps assign body).wpIn F n P Q a w := by
 refine wpIn_rangeFunc ?_;intro fn hfn;rw [hro]
 let rec0 : LoopState -> Loop := fun st => { state := st, pending := none, fn, tmps := a.tmps, params := ps, assign, body, defers := w.heap.size }
 obtain ⟨W1, hW1⟩ : ∃ W1, W1 = (w.alloc (.deferred (some []))).alloc (.loop (rec0 .ready)) := ⟨_, rfl⟩;have hL1 : W1.heap[w.heap.size + 1]? = some (.loop (rec0 .ready)) := by
  rw [hW1];have := World.alloc_heap_new (w.alloc (.deferred (some []))) (.loop (rec0 .ready))
  rwa [World.size_alloc] at this
 have hD1 : W1.heap[w.heap.size]? = some (.deferred (some [])) := by
  rw [hW1];exact (Below.heap_alloc _ _ _ (by simp)).trans (World.alloc_heap_new w _)
 have hw1 : ∀ N : Nat -> Prop, Wr N w W1 := fun N => by rw [hW1]; exact ((Wr.refl N w).alloc _).alloc _
 have hM0lt := hOw [] M0 w h0;have hI1 : I [] M0 W1 := hMi _ _ _ _ h0 (hw1 _)
 refine ⟨w.heap.size + 1, [{ target := .collected w.heap.size, args := #[] }], W1, { target := .fn (.func gf) lb, args := #[.func (.yield (w.heap.size + 1)) #[] #[]] }, W1, gf,
  #[.func (.yield (w.heap.size + 1)) #[] #[]] ++ lb, W1, ?_, ?_, ?_, ?_, fun _ => h1, ?_⟩
 ·
  rw [hW1]; exact run_enterLoop_outer _ _ _ _ _
 ·
  simp only [resolve, hg];simp [go_sem]
 ·
  intro f' hf';simp [Target.leads] at hf';subst hf'; exact hFg
 ·
  simp [invoke, go_sem, eg]
 refine (hseq (w.heap.size + 1)
  (fun pre N W => ∃ M, I pre M W /\ (∀ k, N k ↔ (M k \/ k = w.heap.size + 1 \/ k = w.heap.size)) /\ ¬ M (w.heap.size + 1) /\ ¬ M w.heap.size /\ (∀ k, M k -> M0 k \/ w.heap.size <= k) /\
   W.heap[w.heap.size + 1]? = some (.loop (rec0 .ready)) /\ W.heap[w.heap.size]? = some (.deferred (some [])))
  (fun k => M0 k \/ k = w.heap.size + 1 \/ k = w.heap.size) W1 ?_ ?_ (hw1 _) ?_ ?_ ?_).mono ?_
 ·
  rintro pre N W ⟨M, hi, hN, _, _, _, hl, hd⟩ k hk;rcases (hN k).1 hk with hk | hk | hk
  ·
   exact hOw _ _ _ hi k hk
  ·
   subst hk; exact ⟨by omega, (Array.getElem?_eq_some_iff.1 hl).1⟩
  ·
   subst hk; exact ⟨hn0, (Array.getElem?_eq_some_iff.1 hd).1⟩
 ·
  rintro pre N W W' ⟨M, hi, hN, h2, h3, h4, hl, hd⟩ hw;refine ⟨M, hMi _ _ _ _ hi ?_, hN, h2, h3, h4, ?_, ?_⟩
  ·
   exact ⟨hw.os, hw.tape, hw.output, hw.size, fun k hk hn => hw.keep k hk (fun ⟨a, b⟩ => hn ⟨a, fun e => b ((hN k).2 (.inl e))⟩)⟩
  ·
   exact (hw.keep _ (Array.getElem?_eq_some_iff.1 hl).1 (fun ⟨_, b⟩ => b ((hN _).2 (.inr (.inl rfl))))).trans hl
  ·
   exact (hw.keep _ (Array.getElem?_eq_some_iff.1 hd).1 (fun ⟨_, b⟩ => b ((hN _).2 (.inr (.inr rfl))))).trans hd
 ·
  intro k hk hm;have := hBx k hk;rcases hm with hm | hm | hm
  ·
   exact hM0 k hk hm
  ·
   omega
  ·
   omega
 ·
  rintro pre x N W ⟨M, hi, hN, h2, h3, h4, hl, hd⟩ hsuf;have hlt : w.heap.size + 1 < W.heap.size := (Array.getElem?_eq_some_iff.1 hl).1;have hy := run_yield (P := P) (args := encs x) hl (hps x);refine ⟨fn, _, assign, body, hy, roundIn_of_wpIn hfn (hassign _ pre x M W _ hi ?_)⟩;intro a' Wa hwa hax;have hla := (hwa.keep _ hlt (fun h => h)).trans hl;have hda := (hwa.keep _ (by omega) (fun h => h)).trans hd;have hlta : w.heap.size + 1 < Wa.heap.size := by have := hwa.size; omega
  refine ⟨_, run_beginRound hla rfl, ?_⟩;have hia : I pre M Wa := hMi _ _ _ _ hi (hwa.mono (fun _ h => h.elim));have hwb : Wr (· = w.heap.size + 1) Wa (Wa.putObj (w.heap.size + 1) (.loop { rec0 .ready with state := .busy })) := (Wr.refl (· = w.heap.size + 1) Wa).putObj (l := w.heap.size + 1) (.inl rfl) _;have hib : I pre M (Wa.putObj (w.heap.size + 1) (.loop { rec0 .ready with state := .busy })) := hMi _ _ _ _ hia (hwb.mono (fun k e => by have e' : k = w.heap.size + 1 := e; subst e'; exact ⟨by omega, h2⟩));have hlb : (Wa.putObj (w.heap.size + 1) (.loop { rec0 .ready with state := .busy })).heap[w.heap.size + 1]? = some (.loop { rec0 .ready with state := .busy }) := World.putObj_heap_same hlta;have hdb : (Wa.putObj (w.heap.size + 1) (.loop { rec0 .ready with state := .busy })).heap[w.heap.size]? = some (.deferred (some [])) := (World.putObj_heap_other (by omega)).trans hda;refine wpIn_mono (hbody _ pre x a' M W _ hib (hAx _ _ _ _ _ _ hlt hax hwb) (by simp; exact hwa.size) (by omega) hsuf) ?_;intro e a3 W3 hp;cases e with
  | normal =>
    obtain ⟨M', hi3, hw3, hM'⟩ := hp;have hl3 := (hw3.keep _ (by simp; exact hlta) (fun e => by rcases e with e | e; exact h2 e; omega)).trans hlb;have hd3 := (hw3.keep _ (by simp; omega) (fun e => by rcases e with e | e; exact h3 e; omega)).trans hdb;have hlt3 := (Array.getElem?_eq_some_iff.1 hl3).1;have hm2 : ¬ M' (w.heap.size + 1) := fun e => by rcases hM' _ e with h | h; exact h2 h; omega
    have hm3 : ¬ M' w.heap.size := fun e => by rcases hM' _ e with h | h; exact h3 h; omega
    refine ⟨_, _, run_endRound (P := P) none hl3, rfl, fun k => M' k \/ k = w.heap.size + 1 \/ k = w.heap.size, ⟨M', ?_, fun k => Iff.rfl, hm2, hm3, ?_, World.putObj_heap_same hlt3, (World.putObj_heap_other (by omega)).trans hd3⟩, ?_, ?_⟩
    ·
     exact hMi _ _ _ _ hi3 ((Wr.refl _ _).putObj (.inl ⟨by omega, hm2⟩) _)
    ·
     intro k hk;rcases hM' k hk with h | h
     ·
      exact h4 k h
     ·
      right; omega
    ·
     refine ((((hwa.mono (N := N) (fun _ h => h.elim)).putObj (l := w.heap.size + 1) (.inl ((hN _).2 (.inr (.inl rfl)))) _).trans (N := N) hw3 (fun k _ h => h) (fun k hk h => ?_)).putObj (l := w.heap.size + 1) (.inl ((hN _).2 (.inr (.inl rfl)))) _);rcases h with h | h
     ·
      exact (hN k).2 (.inl h)
     ·
      omega
    ·
     rintro k (hk | hk)
     ·
      rcases hM' k hk with h | h
      ·
       exact .inl ((hN k).2 (.inl h))
      ·
       exact .inr h
     ·
      exact .inl ((hN k).2 (.inr hk))
  | ret => exact hp.elim
  | exit id => exact hp.elim
  | goto t => exact hp.elim
  | panic ch => exact hp.elim
  | outgrown => exact hp.elim
 ·
  exact ⟨M0, hI1, fun k => Iff.rfl, fun e => by have := (hM0lt _ e).2; omega, fun e => by have := (hM0lt _ e).2; omega, fun k h => .inl h, hL1, hD1⟩
 ·
  rintro e W2 ⟨⟨v, rfl⟩, N, ⟨M, hi, hN, h2, h3, h4, hl, hd⟩, hw2, _⟩;refine ⟨none, _, run_endLoop (P := P) hl (by simp [rec0]), hdone _ M _ (Nat.le_refl _) h3 ?_ h4 ?_ ((World.putObj_heap_other (by omega)).trans hd)⟩
  ·
   exact hMi _ _ _ _ hi ((Wr.refl _ _).putObj (.inl ⟨by omega, h2⟩) _)
  ·
   exact ((hw1 (fun k => n₀ <= k)).trans hw2 (fun _ _ h => h) (fun _ _ h => h)).putObj (.inl (by omega)) _
end
end Go.Proofs.YtchliiaknmknhaaGreat
