/- Several texts in one file: contracts of the program's functions and what follows from them. -/
import Derived.Test.YtchliiaknmknhaaGreatS3
import Derived.Deep.CutBlock
import Derived.RangeFuncNested
import Derived.RangeFuncBound
import Derived.RangeFuncCalls
import Derived.RangeFuncLeaves
import Derived.RangeFuncWrites
import Derived.Shelf.Abstract
import Derived.Shelf.RegionOpen
import Derived.OwnWalkIn
import Derived.TacticsInMore
import Derived.LoopNIn
import Derived.LoopIn
import Derived.Recover
import Derived.Defers
set_option linter.unusedSimpArgs false
set_option linter.unusedVariables false
set_option linter.unusedSectionVars false
set_option linter.unnecessarySimpa false
namespace Go.Proofs.YtchliiaknmknhaaGreat
open Go.RowKit
def MkPost (o : Own) (w : World) (sb : Nat) (d : StoreD) (V : Nat → BF) (v : Int) (lo hi : Nat) (e : Ending) (w' : World) : Prop :=
 (¬ (0 ≤ v ∧ v < d.vars.length) ∧ e = .returned (.tuple #[.int .i64 0, .int .i64 9]) ∧ Below w.heap.size w w') ∨
 (0 ≤ v ∧ v < d.vars.length ∧ (lvE d.vars.length (levN d) (nodesOf d) lo ≤ levN d v.toNat ∨ lvE d.vars.length (levN d) (nodesOf d) hi ≤ levN d v.toNat) ∧ e = .returned (.tuple #[.int .i64 0, .int .i64 10]) ∧ Below w.heap.size w w') ∨
 (d.pool.many = d.pool.room ∧ e = .returned (.tuple #[.int .i64 0, .int .i64 7]) ∧ Below w.heap.size w w') ∨
 (0 ≤ v ∧ v < d.vars.length ∧ ∃ r d' V' o', e = .returned (.tuple #[.int .i64 (r : Nat), .int .i64 0]) ∧ StoreAt o' w' sb d' ∧ OwnLt o' w' ∧ StoreOK d' V' ∧ Ext d V d' V' ∧ okE (nodesOf d') r ∧
  ef V' r = iteF v.toNat (ef V hi) (ef V lo) ∧ levN d v.toNat ≤ lvE d.vars.length (levN d') (nodesOf d') r ∧ d'.pool.many ≤ d.pool.many + 1 ∧ Chg RStore o o' w w')
theorem under_eq {o : Own} {w : World} {sb : Nat} {d : StoreD} {s : StoreW} {V : Nat → BF} (h : StoreIn o w sb d s) (hk : StoreOK d V) {f : Nat} (hf : okE (nodesOf d) f) {lv : Nat} (hl : lv < d.vars.length) :
 (decide (enode f = 0) || (d.pool.tk (enode f) && decide ((lv : Int) < d.levelOf (d.pool.has (enode f)).v))) = decide (lv < lvE d.vars.length (levN d) (nodesOf d) f) := by
 unfold lvE
 rcases hf with h0 | ⟨b, hb⟩
 ·
  have e : enode f = 0 := h0
  rw [h0, hk.dag.none0, e]; simp [hl]
 ·
  have hn := nodesOf_some (i := enode f) hb
  have e0 : enode f ≠ 0 := by have := (h.tk_lt (i := enode f) hb).1; omega
  rw [hb, hn.1]
  have hv : (d.pool.has (enode f)).v = b.v := by rw [← hn.2.2]; rfl
  have hbv := hk.dag.var _ _ hb
  rw [hv]
  unfold StoreD.levelOf
  rw [if_pos (by rw [h.len]; exact hbv)]
  simp [e0, levN]
theorem is_eq {d : StoreD} {f : Nat} (hf : okE (nodesOf d) f) : (decide (enode f = 0) || d.pool.tk (enode f)) = true := by
 rcases hf with h0 | ⟨b, hb⟩
 ·
  have e : enode f = 0 := h0
  simp [e]
 ·
  rw [(nodesOf_some (i := enode f) hb).1]; simp
set_option maxRecDepth 100000 in
theorem mk_var {o : Own} {w : World} {sb : Nat} {d : StoreD} {s : StoreW} {V : Nat → BF} (h : StoreIn o w sb d s) (hk : StoreOK d V) (v : Int) (lo hi : Nat) (hv : ¬ (0 ≤ v ∧ v < d.vars.length)) :
 Calls Tryz.prog 89 #[.pointer (some ⟨sb, 0, none⟩), .int .i64 v, .int .i64 lo, .int .i64 hi] w (MkPost o w sb d V v lo hi) := by
 have HLV := Lib.hid (storeLevelZ h v (by rw [h.len]; have := hk.small; omega))
 have e : levelZ d v = -1 := by unfold levelZ; rw [if_neg (by rw [h.len]; exact hv)]
 rw [e] at HLV
 have HV := Lib.hid hv
 clear h hk e hv
 go_enter Tryz.func89, Tryz.ntmps89
 go_wp2_with fail
 refine HLV.out.mono ?_
 rintro x w' ⟨rfl, rfl⟩
 go_wp2_with fail
 go_ret2
 exact .inl ⟨HV.out, rfl, Below.refl _ _⟩
set_option maxRecDepth 100000 in
set_option maxHeartbeats 1600000 in
theorem mk_lo {o : Own} {w : World} {sb : Nat} {d : StoreD} {s : StoreW} {V : Nat → BF} (h : StoreIn o w sb d s) (hlt : OwnLt o w) (hk : StoreOK d V) (v lo hi : Nat) (hv : v < d.vars.length) (hlo : okE (nodesOf d) lo) (hhi : okE (nodesOf d) hi) (hbad : lvE d.vars.length (levN d) (nodesOf d) lo ≤ levN d v) :
 Calls Tryz.prog 89 #[.pointer (some ⟨sb, 0, none⟩), .int .i64 v, .int .i64 lo, .int .i64 hi] w (MkPost o w sb d V v lo hi) := by
 have hll : levN d v < d.vars.length := hk.dag.lt v hv
 have hlol := h.edge_lt hlo
 have hhil := h.edge_lt hhi
 have hlom : lo < eMax := by unfold eMax; omega
 have hhim : hi < eMax := by unfold eMax; omega
 have hlen : d.level.length < 1000000 := by rw [h.len]; have := hk.small; omega
 have HLV : Hid (∀ W : World, Below w.heap.size w W → Calls Tryz.prog 77 #[.pointer (some ⟨sb, 0, none⟩), .int .i64 v] W fun x w' => x = .returned (.int .i64 (levN d v : Nat)) ∧ W = w') := fun W hb => by
  have h1 := storeLevel_any (h.below hlt hb) v hlen
  unfold StoreD.levelOf at h1
  rw [if_pos (by rw [h.len]; exact hv)] at h1
  exact h1
 have HISL : Hid (∀ W : World, Below w.heap.size w W → Calls Tryz.prog 87 #[.pointer (some ⟨sb, 0, none⟩), .int .i64 lo] W fun x w' => x = .returned (.bool true) ∧ Below W.heap.size W w') := fun W hb => by
  have h1 := storeIs_any (h.below hlt hb) (hlt.mono hb.size) lo hlom
  rw [is_eq hlo] at h1; exact h1
 have HISH : Hid (∀ W : World, Below w.heap.size w W → Calls Tryz.prog 87 #[.pointer (some ⟨sb, 0, none⟩), .int .i64 hi] W fun x w' => x = .returned (.bool true) ∧ Below W.heap.size W w') := fun W hb => by
  have h1 := storeIs_any (h.below hlt hb) (hlt.mono hb.size) hi hhim
  rw [is_eq hhi] at h1; exact h1
 have HUL : Hid (∀ W : World, Below w.heap.size w W → Calls Tryz.prog 126 #[.pointer (some ⟨sb, 0, none⟩), .int .i64 lo, .int .i64 (levN d v : Nat)] W fun x w' => x = .returned (.bool (decide (levN d v < lvE d.vars.length (levN d) (nodesOf d) lo))) ∧ Below W.heap.size W w') := fun W hb => by
  have h1 := storeUnder_any (h.below hlt hb) (hlt.mono hb.size) lo hlom (levN d v : Nat) hlen
  rw [under_eq h hk hlo hll] at h1; exact h1
 have HUH : Hid (∀ W : World, Below w.heap.size w W → Calls Tryz.prog 126 #[.pointer (some ⟨sb, 0, none⟩), .int .i64 hi, .int .i64 (levN d v : Nat)] W fun x w' => x = .returned (.bool (decide (levN d v < lvE d.vars.length (levN d) (nodesOf d) hi))) ∧ Below W.heap.size W w') := fun W hb => by
  have h1 := storeUnder_any (h.below hlt hb) (hlt.mono hb.size) hi hhim (levN d v : Nat) hlen
  rw [under_eq h hk hhi hll] at h1; exact h1
 have HPOST : Hid (∀ W, Below w.heap.size w W → MkPost o w sb d V v lo hi (.returned (.tuple #[.int .i64 0, .int .i64 10])) W) := fun W hb => .inr (.inl ⟨by omega, by omega, .inl hbad, rfl, hb⟩)
 rw [decide_eq_false (by omega)] at HUL
 obtain ⟨l, hl⟩ : ∃ l, l = levN d v := ⟨_, rfl⟩
 rw [← hl] at HLV HUL HUH
 have hl0 : ¬ ((l : Nat) : Int) < 0 := by omega
 clear h hlt hk hv hlo hhi hbad hll hlol hhil hlom hhim hlen hl
 go_enter Tryz.func89, Tryz.ntmps89
 go_wp2_with fail
 refine (HLV.out _ (Below.refl _ _)).mono ?_
 rintro x w' ⟨rfl, rfl⟩
 go_wp2_with fail
 refine (HISL.out _ (Below.refl _ _)).mono ?_
 rintro x w1 ⟨rfl, hb1⟩
 have HB1 := Lib.hid hb1
 clear hb1
 go_wp2_with fail
 refine (HISH.out _ HB1.out).mono ?_
 rintro x w2 ⟨rfl, hb2⟩
 have HB2 := Lib.hid (HB1.out.trans (hb2.mono HB1.out.size))
 clear hb2
 go_wp2_with fail
 refine (HLV.out _ HB2.out).mono ?_
 rintro x w' ⟨rfl, rfl⟩
 go_wp2_with fail
 refine (HUL.out _ HB2.out).mono ?_
 rintro x w3 ⟨rfl, hb3⟩
 have HB3 := Lib.hid (HB2.out.trans (hb3.mono HB2.out.size))
 clear hb3
 go_wp2_with fail
 go_ret2
 exact HPOST.out _ HB3.out
set_option maxRecDepth 100000 in
set_option maxHeartbeats 1600000 in
theorem mk_hi {o : Own} {w : World} {sb : Nat} {d : StoreD} {s : StoreW} {V : Nat → BF} (h : StoreIn o w sb d s) (hlt : OwnLt o w) (hk : StoreOK d V) (v lo hi : Nat) (hv : v < d.vars.length) (hlo : okE (nodesOf d) lo) (hhi : okE (nodesOf d) hi) (hbad : lvE d.vars.length (levN d) (nodesOf d) hi ≤ levN d v) (hgood : levN d v < lvE d.vars.length (levN d) (nodesOf d) lo) :
 Calls Tryz.prog 89 #[.pointer (some ⟨sb, 0, none⟩), .int .i64 v, .int .i64 lo, .int .i64 hi] w (MkPost o w sb d V v lo hi) := by
 have hll : levN d v < d.vars.length := hk.dag.lt v hv
 have hlol := h.edge_lt hlo
 have hhil := h.edge_lt hhi
 have hlom : lo < eMax := by unfold eMax; omega
 have hhim : hi < eMax := by unfold eMax; omega
 have hlen : d.level.length < 1000000 := by rw [h.len]; have := hk.small; omega
 have HLV : Hid (∀ W : World, Below w.heap.size w W → Calls Tryz.prog 77 #[.pointer (some ⟨sb, 0, none⟩), .int .i64 v] W fun x w' => x = .returned (.int .i64 (levN d v : Nat)) ∧ W = w') := fun W hb => by
  have h1 := storeLevel_any (h.below hlt hb) v hlen
  unfold StoreD.levelOf at h1
  rw [if_pos (by rw [h.len]; exact hv)] at h1
  exact h1
 have HISL : Hid (∀ W : World, Below w.heap.size w W → Calls Tryz.prog 87 #[.pointer (some ⟨sb, 0, none⟩), .int .i64 lo] W fun x w' => x = .returned (.bool true) ∧ Below W.heap.size W w') := fun W hb => by
  have h1 := storeIs_any (h.below hlt hb) (hlt.mono hb.size) lo hlom
  rw [is_eq hlo] at h1; exact h1
 have HISH : Hid (∀ W : World, Below w.heap.size w W → Calls Tryz.prog 87 #[.pointer (some ⟨sb, 0, none⟩), .int .i64 hi] W fun x w' => x = .returned (.bool true) ∧ Below W.heap.size W w') := fun W hb => by
  have h1 := storeIs_any (h.below hlt hb) (hlt.mono hb.size) hi hhim
  rw [is_eq hhi] at h1; exact h1
 have HUL : Hid (∀ W : World, Below w.heap.size w W → Calls Tryz.prog 126 #[.pointer (some ⟨sb, 0, none⟩), .int .i64 lo, .int .i64 (levN d v : Nat)] W fun x w' => x = .returned (.bool (decide (levN d v < lvE d.vars.length (levN d) (nodesOf d) lo))) ∧ Below W.heap.size W w') := fun W hb => by
  have h1 := storeUnder_any (h.below hlt hb) (hlt.mono hb.size) lo hlom (levN d v : Nat) hlen
  rw [under_eq h hk hlo hll] at h1; exact h1
 have HUH : Hid (∀ W : World, Below w.heap.size w W → Calls Tryz.prog 126 #[.pointer (some ⟨sb, 0, none⟩), .int .i64 hi, .int .i64 (levN d v : Nat)] W fun x w' => x = .returned (.bool (decide (levN d v < lvE d.vars.length (levN d) (nodesOf d) hi))) ∧ Below W.heap.size W w') := fun W hb => by
  have h1 := storeUnder_any (h.below hlt hb) (hlt.mono hb.size) hi hhim (levN d v : Nat) hlen
  rw [under_eq h hk hhi hll] at h1; exact h1
 have HPOST : Hid (∀ W, Below w.heap.size w W → MkPost o w sb d V v lo hi (.returned (.tuple #[.int .i64 0, .int .i64 10])) W) := fun W hb => .inr (.inl ⟨by omega, by omega, .inr hbad, rfl, hb⟩)
 rw [decide_eq_true hgood] at HUL
 rw [decide_eq_false (by omega)] at HUH
 obtain ⟨l, hl⟩ : ∃ l, l = levN d v := ⟨_, rfl⟩
 rw [← hl] at HLV HUL HUH
 have hl0 : ¬ ((l : Nat) : Int) < 0 := by omega
 clear h hlt hk hv hlo hhi hbad hll hlol hhil hlom hhim hlen hl hgood
 go_enter Tryz.func89, Tryz.ntmps89
 go_wp2_with fail
 refine (HLV.out _ (Below.refl _ _)).mono ?_
 rintro x w' ⟨rfl, rfl⟩
 go_wp2_with fail
 refine (HISL.out _ (Below.refl _ _)).mono ?_
 rintro x w1 ⟨rfl, hb1⟩
 have HB1 := Lib.hid hb1
 clear hb1
 go_wp2_with fail
 refine (HISH.out _ HB1.out).mono ?_
 rintro x w2 ⟨rfl, hb2⟩
 have HB2 := Lib.hid (HB1.out.trans (hb2.mono HB1.out.size))
 clear hb2
 go_wp2_with fail
 refine (HLV.out _ HB2.out).mono ?_
 rintro x w' ⟨rfl, rfl⟩
 go_wp2_with fail
 refine (HUL.out _ HB2.out).mono ?_
 rintro x w3 ⟨rfl, hb3⟩
 have HB3 := Lib.hid (HB2.out.trans (hb3.mono HB2.out.size))
 clear hb3
 go_wp2_with fail
 refine (HLV.out _ HB3.out).mono ?_
 rintro x w' ⟨rfl, rfl⟩
 go_wp2_with fail
 refine (HUH.out _ HB3.out).mono ?_
 rintro x w4 ⟨rfl, hb4⟩
 have HB4 := Lib.hid (HB3.out.trans (hb4.mono HB3.out.size))
 clear hb4
 go_wp2_with fail
 go_ret2
 exact HPOST.out _ HB4.out
set_option maxRecDepth 100000 in
set_option maxHeartbeats 1600000 in
theorem mk_eq {o : Own} {w : World} {sb : Nat} {d : StoreD} {s : StoreW} {V : Nat → BF} (h : StoreIn o w sb d s) (hlt : OwnLt o w) (hk : StoreOK d V) (v lo hi : Nat) (hv : v < d.vars.length) (hlo : okE (nodesOf d) lo) (hhi : okE (nodesOf d) hi) (hgl : levN d v < lvE d.vars.length (levN d) (nodesOf d) lo) (hgh : levN d v < lvE d.vars.length (levN d) (nodesOf d) hi) (he : lo = hi) :
 Calls Tryz.prog 89 #[.pointer (some ⟨sb, 0, none⟩), .int .i64 v, .int .i64 lo, .int .i64 hi] w (MkPost o w sb d V v lo hi) := by
 have hll : levN d v < d.vars.length := hk.dag.lt v hv
 have hlol := h.edge_lt hlo
 have hhil := h.edge_lt hhi
 have hlom : lo < eMax := by unfold eMax; omega
 have hhim : hi < eMax := by unfold eMax; omega
 have hlen : d.level.length < 1000000 := by rw [h.len]; have := hk.small; omega
 have HLV : Hid (∀ W : World, Below w.heap.size w W → Calls Tryz.prog 77 #[.pointer (some ⟨sb, 0, none⟩), .int .i64 v] W fun x w' => x = .returned (.int .i64 (levN d v : Nat)) ∧ W = w') := fun W hb => by
  have h1 := storeLevel_any (h.below hlt hb) v hlen
  unfold StoreD.levelOf at h1
  rw [if_pos (by rw [h.len]; exact hv)] at h1
  exact h1
 have HISL : Hid (∀ W : World, Below w.heap.size w W → Calls Tryz.prog 87 #[.pointer (some ⟨sb, 0, none⟩), .int .i64 lo] W fun x w' => x = .returned (.bool true) ∧ Below W.heap.size W w') := fun W hb => by
  have h1 := storeIs_any (h.below hlt hb) (hlt.mono hb.size) lo hlom
  rw [is_eq hlo] at h1; exact h1
 have HISH : Hid (∀ W : World, Below w.heap.size w W → Calls Tryz.prog 87 #[.pointer (some ⟨sb, 0, none⟩), .int .i64 hi] W fun x w' => x = .returned (.bool true) ∧ Below W.heap.size W w') := fun W hb => by
  have h1 := storeIs_any (h.below hlt hb) (hlt.mono hb.size) hi hhim
  rw [is_eq hhi] at h1; exact h1
 have HUL : Hid (∀ W : World, Below w.heap.size w W → Calls Tryz.prog 126 #[.pointer (some ⟨sb, 0, none⟩), .int .i64 lo, .int .i64 (levN d v : Nat)] W fun x w' => x = .returned (.bool (decide (levN d v < lvE d.vars.length (levN d) (nodesOf d) lo))) ∧ Below W.heap.size W w') := fun W hb => by
  have h1 := storeUnder_any (h.below hlt hb) (hlt.mono hb.size) lo hlom (levN d v : Nat) hlen
  rw [under_eq h hk hlo hll] at h1; exact h1
 have HUH : Hid (∀ W : World, Below w.heap.size w W → Calls Tryz.prog 126 #[.pointer (some ⟨sb, 0, none⟩), .int .i64 hi, .int .i64 (levN d v : Nat)] W fun x w' => x = .returned (.bool (decide (levN d v < lvE d.vars.length (levN d) (nodesOf d) hi))) ∧ Below W.heap.size W w') := fun W hb => by
  have h1 := storeUnder_any (h.below hlt hb) (hlt.mono hb.size) hi hhim (levN d v : Nat) hlen
  rw [under_eq h hk hhi hll] at h1; exact h1
 subst he
 have HPOST : Hid (∀ W, Below w.heap.size w W → MkPost o w sb d V v lo lo (.returned (.tuple #[.int .i64 (lo : Nat), .int .i64 0])) W) := fun W hb => .inr (.inr (.inr ⟨by omega, by omega, lo, d, V, o, rfl, ⟨s, h.below hlt hb⟩, hlt.mono hb.size, hk, Ext.refl d V, hlo, by
  funext ρ; simp [iteF], Nat.le_of_lt hgl, by omega, Chg.of_below hb _ _⟩))
 rw [decide_eq_true hgl] at HUL
 rw [decide_eq_true hgh] at HUH
 obtain ⟨l, hl⟩ : ∃ l, l = levN d v := ⟨_, rfl⟩
 rw [← hl] at HLV HUL HUH
 have hl0 : ¬ ((l : Nat) : Int) < 0 := by omega
 clear h hlt hk hv hlo hhi hll hlol hhil hlom hhim hlen hl hgl hgh
 go_enter Tryz.func89, Tryz.ntmps89
 go_wp2_with fail
 refine (HLV.out _ (Below.refl _ _)).mono ?_
 rintro x w' ⟨rfl, rfl⟩
 go_wp2_with fail
 refine (HISL.out _ (Below.refl _ _)).mono ?_
 rintro x w1 ⟨rfl, hb1⟩
 have HB1 := Lib.hid hb1
 clear hb1
 go_wp2_with fail
 refine (HISH.out _ HB1.out).mono ?_
 rintro x w2 ⟨rfl, hb2⟩
 have HB2 := Lib.hid (HB1.out.trans (hb2.mono HB1.out.size))
 clear hb2
 go_wp2_with fail
 refine (HLV.out _ HB2.out).mono ?_
 rintro x w' ⟨rfl, rfl⟩
 go_wp2_with fail
 refine (HUL.out _ HB2.out).mono ?_
 rintro x w3 ⟨rfl, hb3⟩
 have HB3 := Lib.hid (HB2.out.trans (hb3.mono HB2.out.size))
 clear hb3
 go_wp2_with fail
 refine (HLV.out _ HB3.out).mono ?_
 rintro x w' ⟨rfl, rfl⟩
 go_wp2_with fail
 refine (HUH.out _ HB3.out).mono ?_
 rintro x w4 ⟨rfl, hb4⟩
 have HB4 := Lib.hid (HB3.out.trans (hb4.mono HB3.out.size))
 clear hb4
 go_wp2_with fail
 go_ret2
 exact HPOST.out _ HB4.out
set_option maxRecDepth 100000 in
set_option maxHeartbeats 1600000 in
theorem mk_found {o : Own} {w : World} {sb : Nat} {d : StoreD} {s : StoreW} {V : Nat → BF} (h : StoreIn o w sb d s) (hlt : OwnLt o w) (hk : StoreOK d V) (v lo hi : Nat) (hv : v < d.vars.length) (hlo : okE (nodesOf d) lo) (hhi : okE (nodesOf d) hi) (hgl : levN d v < lvE d.vars.length (levN d) (nodesOf d) lo) (hgh : levN d v < lvE d.vars.length (levN d) (nodesOf d) hi) (he : lo ≠ hi) (id : Nat) (hid : d.tab v (eflip lo (eneg hi), eflip hi (eneg hi)) = some id) :
 Calls Tryz.prog 89 #[.pointer (some ⟨sb, 0, none⟩), .int .i64 v, .int .i64 lo, .int .i64 hi] w (MkPost o w sb d V v lo hi) := by
 have hll : levN d v < d.vars.length := hk.dag.lt v hv
 have hlol := h.edge_lt hlo
 have hhil := h.edge_lt hhi
 have hlom : lo < eMax := by unfold eMax; omega
 have hhim : hi < eMax := by unfold eMax; omega
 have hlen : d.level.length < 1000000 := by rw [h.len]; have := hk.small; omega
 have HLV : Hid (∀ W : World, Below w.heap.size w W → Calls Tryz.prog 77 #[.pointer (some ⟨sb, 0, none⟩), .int .i64 v] W fun x w' => x = .returned (.int .i64 (levN d v : Nat)) ∧ W = w') := fun W hb => by
  have h1 := storeLevel_any (h.below hlt hb) v hlen
  unfold StoreD.levelOf at h1
  rw [if_pos (by rw [h.len]; exact hv)] at h1
  exact h1
 have HISL : Hid (∀ W : World, Below w.heap.size w W → Calls Tryz.prog 87 #[.pointer (some ⟨sb, 0, none⟩), .int .i64 lo] W fun x w' => x = .returned (.bool true) ∧ Below W.heap.size W w') := fun W hb => by
  have h1 := storeIs_any (h.below hlt hb) (hlt.mono hb.size) lo hlom
  rw [is_eq hlo] at h1; exact h1
 have HISH : Hid (∀ W : World, Below w.heap.size w W → Calls Tryz.prog 87 #[.pointer (some ⟨sb, 0, none⟩), .int .i64 hi] W fun x w' => x = .returned (.bool true) ∧ Below W.heap.size W w') := fun W hb => by
  have h1 := storeIs_any (h.below hlt hb) (hlt.mono hb.size) hi hhim
  rw [is_eq hhi] at h1; exact h1
 have HUL : Hid (∀ W : World, Below w.heap.size w W → Calls Tryz.prog 126 #[.pointer (some ⟨sb, 0, none⟩), .int .i64 lo, .int .i64 (levN d v : Nat)] W fun x w' => x = .returned (.bool (decide (levN d v < lvE d.vars.length (levN d) (nodesOf d) lo))) ∧ Below W.heap.size W w') := fun W hb => by
  have h1 := storeUnder_any (h.below hlt hb) (hlt.mono hb.size) lo hlom (levN d v : Nat) hlen
  rw [under_eq h hk hlo hll] at h1; exact h1
 have HUH : Hid (∀ W : World, Below w.heap.size w W → Calls Tryz.prog 126 #[.pointer (some ⟨sb, 0, none⟩), .int .i64 hi, .int .i64 (levN d v : Nat)] W fun x w' => x = .returned (.bool (decide (levN d v < lvE d.vars.length (levN d) (nodesOf d) hi))) ∧ Below W.heap.size W w') := fun W hb => by
  have h1 := storeUnder_any (h.below hlt hb) (hlt.mono hb.size) hi hhim (levN d v : Nat) hlen
  rw [under_eq h hk hhi hll] at h1; exact h1
 have hnode := (hk.tab v hv _ _ id).1 hid
 have hidl := (h.tk_lt hnode).2
 have HPOST : Hid (∀ W, Below w.heap.size w W → MkPost o w sb d V v lo hi (.returned (.tuple #[.int .i64 (eflip (2 * id) (eneg hi) : Nat), .int .i64 0])) W) := fun W hb => .inr (.inr (.inr ⟨by omega, by omega, _, d, V, o, rfl, ⟨s, h.below hlt hb⟩, hlt.mono hb.size, hk, Ext.refl d V, okE_eflip (okE_two hnode),
  node_ef hk hnode, by rw [lvE_eflip]; unfold lvE; rw [show 2 * id / 2 = id from by omega, hnode]; exact Nat.le_refl _, by omega, Chg.of_below hb _ _⟩))
 have HOF := Lib.hid (fun W => of_any id (eneg hi) W (by omega))
 rw [decide_eq_true hgl] at HUL
 rw [decide_eq_true hgh] at HUH
 obtain ⟨l, hl⟩ : ∃ l, l = levN d v := ⟨_, rfl⟩
 rw [← hl] at HLV HUL HUH
 have hl0 : ¬ ((l : Nat) : Int) < 0 := by omega
 have hnei : ((lo : Int) == hi) = false := by simp; omega
 have HNORM := Lib.hid (fun W => norm_any lo hi W hlom hhim)
 have HH := Lib.hid h
 have HLT := Lib.hid hlt
 have HV := Lib.hid hv
 have HF := Lib.hid (fun W (hb : Below w.heap.size w W) => find_yes o v (s.ts.getD v 0) (d.tab v) (eflip lo (eneg hi)) (eflip hi (eneg hi)) id W ((h.below hlt hb).tab v (by rw [h.tlen]; exact hv)) hid)
 obtain ⟨lo2, hlo2⟩ : ∃ x, x = eflip lo (eneg hi) := ⟨_, rfl⟩
 obtain ⟨hi2, hhi2⟩ : ∃ x, x = eflip hi (eneg hi) := ⟨_, rfl⟩
 obtain ⟨ng, hng⟩ : ∃ x, x = eneg hi := ⟨_, rfl⟩
 rw [← hlo2, ← hhi2] at HNORM HF
 rw [← hng] at HNORM HOF HPOST
 clear h hlt hk hv hlo hhi hll hlol hhil hlom hhim hlen hl hgl hgh he hid hnode hidl hlo2 hhi2 hng
 go_enter Tryz.func89, Tryz.ntmps89
 go_wp2_with fail
 refine (HLV.out _ (Below.refl _ _)).mono ?_
 rintro x w' ⟨rfl, rfl⟩
 go_wp2_with fail
 refine (HISL.out _ (Below.refl _ _)).mono ?_
 rintro x w1 ⟨rfl, hb1⟩
 have HB1 := Lib.hid hb1
 clear hb1
 go_wp2_with fail
 refine (HISH.out _ HB1.out).mono ?_
 rintro x w2 ⟨rfl, hb2⟩
 have HB2 := Lib.hid (HB1.out.trans (hb2.mono HB1.out.size))
 clear hb2
 go_wp2_with fail
 refine (HLV.out _ HB2.out).mono ?_
 rintro x w' ⟨rfl, rfl⟩
 go_wp2_with fail
 refine (HUL.out _ HB2.out).mono ?_
 rintro x w3 ⟨rfl, hb3⟩
 have HB3 := Lib.hid (HB2.out.trans (hb3.mono HB2.out.size))
 clear hb3
 go_wp2_with fail
 refine (HLV.out _ HB3.out).mono ?_
 rintro x w' ⟨rfl, rfl⟩
 go_wp2_with fail
 refine (HUH.out _ HB3.out).mono ?_
 rintro x w4 ⟨rfl, hb4⟩
 have HB4 := Lib.hid (HB3.out.trans (hb4.mono HB3.out.size))
 clear hb4
 go_wp2_with fail
 obtain ⟨gt, ct, hvt, cellv, hvl, htl⟩ := (HH.out.below HLT.out HB4.out).tabAt HV.out
 obtain ⟨c0, c1, c2, c3, c4, f0⟩ := cells5 (HH.out.below HLT.out HB4.out).blk
 rw [hvt] at c2
 have hvl' : (v : Int) < s.ts.length := by omega
 have hti := (HH.out.below HLT.out HB4.out).tab v hvl
 clear hvt
 refine (HNORM.out _).mono ?_
 rintro x w' ⟨rfl, rfl⟩
 have hf := HF.out _ HB4.out
 clear hti
 obtain ⟨tv, htv⟩ : ∃ t, t = s.ts.getD v 0 := ⟨_, rfl⟩
 rw [← htv] at cellv hf
 have HFD := Lib.hid hf
 clear htv hf
 go_wp2_with fail
 refine HFD.out.mono ?_
 rintro x w' ⟨rfl, rfl⟩
 go_wp2_with fail
 refine (HOF.out _).mono ?_
 rintro x w' ⟨rfl, rfl⟩
 go_wp2_with fail
 go_ret2
 exact HPOST.out _ HB4.out
set_option maxRecDepth 100000 in
set_option maxHeartbeats 1600000 in
theorem mk_new {o : Own} {w : World} {sb : Nat} {d : StoreD} {s : StoreW} {V : Nat → BF} (h : StoreIn o w sb d s) (hlt : OwnLt o w) (hk : StoreOK d V) (v lo hi : Nat) (hv : v < d.vars.length) (hlo : okE (nodesOf d) lo) (hhi : okE (nodesOf d) hi) (hgl : levN d v < lvE d.vars.length (levN d) (nodesOf d) lo) (hgh : levN d v < lvE d.vars.length (levN d) (nodesOf d) hi) (he : lo ≠ hi) (hid : d.tab v (eflip lo (eneg hi), eflip hi (eneg hi)) = none) :
 Calls Tryz.prog 89 #[.pointer (some ⟨sb, 0, none⟩), .int .i64 v, .int .i64 lo, .int .i64 hi] w (MkPost o w sb d V v lo hi) := by
 have hll : levN d v < d.vars.length := hk.dag.lt v hv
 have hlol := h.edge_lt hlo
 have hhil := h.edge_lt hhi
 have hlom : lo < eMax := by unfold eMax; omega
 have hhim : hi < eMax := by unfold eMax; omega
 have hlen : d.level.length < 1000000 := by rw [h.len]; have := hk.small; omega
 have HLV : Hid (∀ W : World, Below w.heap.size w W → Calls Tryz.prog 77 #[.pointer (some ⟨sb, 0, none⟩), .int .i64 v] W fun x w' => x = .returned (.int .i64 (levN d v : Nat)) ∧ W = w') := fun W hb => by
  have h1 := storeLevel_any (h.below hlt hb) v hlen
  unfold StoreD.levelOf at h1
  rw [if_pos (by rw [h.len]; exact hv)] at h1
  exact h1
 have HISL : Hid (∀ W : World, Below w.heap.size w W → Calls Tryz.prog 87 #[.pointer (some ⟨sb, 0, none⟩), .int .i64 lo] W fun x w' => x = .returned (.bool true) ∧ Below W.heap.size W w') := fun W hb => by
  have h1 := storeIs_any (h.below hlt hb) (hlt.mono hb.size) lo hlom
  rw [is_eq hlo] at h1; exact h1
 have HISH : Hid (∀ W : World, Below w.heap.size w W → Calls Tryz.prog 87 #[.pointer (some ⟨sb, 0, none⟩), .int .i64 hi] W fun x w' => x = .returned (.bool true) ∧ Below W.heap.size W w') := fun W hb => by
  have h1 := storeIs_any (h.below hlt hb) (hlt.mono hb.size) hi hhim
  rw [is_eq hhi] at h1; exact h1
 have HUL : Hid (∀ W : World, Below w.heap.size w W → Calls Tryz.prog 126 #[.pointer (some ⟨sb, 0, none⟩), .int .i64 lo, .int .i64 (levN d v : Nat)] W fun x w' => x = .returned (.bool (decide (levN d v < lvE d.vars.length (levN d) (nodesOf d) lo))) ∧ Below W.heap.size W w') := fun W hb => by
  have h1 := storeUnder_any (h.below hlt hb) (hlt.mono hb.size) lo hlom (levN d v : Nat) hlen
  rw [under_eq h hk hlo hll] at h1; exact h1
 have HUH : Hid (∀ W : World, Below w.heap.size w W → Calls Tryz.prog 126 #[.pointer (some ⟨sb, 0, none⟩), .int .i64 hi, .int .i64 (levN d v : Nat)] W fun x w' => x = .returned (.bool (decide (levN d v < lvE d.vars.length (levN d) (nodesOf d) hi))) ∧ Below W.heap.size W w') := fun W hb => by
  have h1 := storeUnder_any (h.below hlt hb) (hlt.mono hb.size) hi hhim (levN d v : Nat) hlen
  rw [under_eq h hk hhi hll] at h1; exact h1
 have HADD := Lib.hid (fun W (hb : Below w.heap.size w W) => storeAdd_any (h.below hlt hb) (hlt.mono hb.size) hk.live (fun i b hb => ⟨hk.dag.okLo i b hb, hk.dag.okHi i b hb⟩) v (eflip lo (eneg hi)) (eflip hi (eneg hi)) hv hid hk.clen)
 have HFULL : Hid (∀ W, Below w.heap.size w W → d.pool.many = d.pool.room → MkPost o w sb d V v lo hi (.returned (.tuple #[.int .i64 0, .int .i64 7])) W) := fun W hb hm => .inr (.inr (.inl ⟨hm, rfl, hb⟩))
 have HPOST : Hid (∀ W W' id d' o', Below w.heap.size w W → StoreAt o' W' sb d' → OwnLt o' W' → AddRel d d' id v (eflip lo (eneg hi)) (eflip hi (eneg hi)) → Chg RStore o o' W W' → MkPost o w sb d V v lo hi (.returned (.tuple #[.int .i64 (eflip (2 * id) (eneg hi) : Nat), .int .i64 0])) W') := fun W W' id d' o' hb hs hl hr hc => by
  obtain ⟨h1, h2⟩ := addRel_ok hk hr hv (okE_eflip hlo) (okE_eflip hhi) (by rw [lvE_eflip]; exact hgl) (by rw [lvE_eflip]; exact hgh) (eflip_even hi) (eflip_ne he) hid
  have hnode : nodesOf d' id = some ⟨v, eflip lo (eneg hi), eflip hi (eneg hi)⟩ := by rw [hr.nodes, addN_same]
  refine .inr (.inr (.inr ⟨by omega, by omega, _, d', _, o', rfl, hs, hl, h1, h2, okE_eflip (okE_two hnode), ?_, ?_, by rw [hr.many]; omega, (Chg.of_below hb _ _).trans hc⟩))
  ·
   rw [node_ef h1 hnode, h2.ef hlo, h2.ef hhi]; rfl
  ·
   rw [lvE_eflip, h2.lev]; unfold lvE; rw [show 2 * id / 2 = id from by omega, hnode]; exact Nat.le_refl _
 have HOF := Lib.hid (fun id W (hh : id < 2305843009213693952) => of_any id (eneg hi) W hh)
 rw [decide_eq_true hgl] at HUL
 rw [decide_eq_true hgh] at HUH
 obtain ⟨l, hl⟩ : ∃ l, l = levN d v := ⟨_, rfl⟩
 rw [← hl] at HLV HUL HUH
 have hl0 : ¬ ((l : Nat) : Int) < 0 := by omega
 have hnei : ((lo : Int) == hi) = false := by simp; omega
 have HNORM := Lib.hid (fun W => norm_any lo hi W hlom hhim)
 have HH := Lib.hid h
 have HLT := Lib.hid hlt
 have HV := Lib.hid hv
 have HF := Lib.hid (fun W (hb : Below w.heap.size w W) => find_no o v (s.ts.getD v 0) (d.tab v) (eflip lo (eneg hi)) (eflip hi (eneg hi)) W ((h.below hlt hb).tab v (by rw [h.tlen]; exact hv)) hid)
 obtain ⟨lo2, hlo2⟩ : ∃ x, x = eflip lo (eneg hi) := ⟨_, rfl⟩
 obtain ⟨hi2, hhi2⟩ : ∃ x, x = eflip hi (eneg hi) := ⟨_, rfl⟩
 obtain ⟨ng, hng⟩ : ∃ x, x = eneg hi := ⟨_, rfl⟩
 rw [← hlo2, ← hhi2] at HNORM HF HADD HPOST
 rw [← hng] at HNORM HOF HPOST
 clear h hlt hk hv hlo hhi hll hlol hhil hlom hhim hlen hl hgl hgh he hid hlo2 hhi2 hng
 go_enter Tryz.func89, Tryz.ntmps89
 go_wp2_with fail
 refine (HLV.out _ (Below.refl _ _)).mono ?_
 rintro x w' ⟨rfl, rfl⟩
 go_wp2_with fail
 refine (HISL.out _ (Below.refl _ _)).mono ?_
 rintro x w1 ⟨rfl, hb1⟩
 have HB1 := Lib.hid hb1
 clear hb1
 go_wp2_with fail
 refine (HISH.out _ HB1.out).mono ?_
 rintro x w2 ⟨rfl, hb2⟩
 have HB2 := Lib.hid (HB1.out.trans (hb2.mono HB1.out.size))
 clear hb2
 go_wp2_with fail
 refine (HLV.out _ HB2.out).mono ?_
 rintro x w' ⟨rfl, rfl⟩
 go_wp2_with fail
 refine (HUL.out _ HB2.out).mono ?_
 rintro x w3 ⟨rfl, hb3⟩
 have HB3 := Lib.hid (HB2.out.trans (hb3.mono HB2.out.size))
 clear hb3
 go_wp2_with fail
 refine (HLV.out _ HB3.out).mono ?_
 rintro x w' ⟨rfl, rfl⟩
 go_wp2_with fail
 refine (HUH.out _ HB3.out).mono ?_
 rintro x w4 ⟨rfl, hb4⟩
 have HB4 := Lib.hid (HB3.out.trans (hb4.mono HB3.out.size))
 clear hb4
 go_wp2_with fail
 obtain ⟨gt, ct, hvt, cellv, hvl, htl⟩ := (HH.out.below HLT.out HB4.out).tabAt HV.out
 obtain ⟨c0, c1, c2, c3, c4, f0⟩ := cells5 (HH.out.below HLT.out HB4.out).blk
 rw [hvt] at c2
 have hvl' : (v : Int) < s.ts.length := by omega
 have hti := (HH.out.below HLT.out HB4.out).tab v hvl
 clear hvt
 refine (HNORM.out _).mono ?_
 rintro x w' ⟨rfl, rfl⟩
 have hf := HF.out _ HB4.out
 clear hti
 obtain ⟨tv, htv⟩ : ∃ t, t = s.ts.getD v 0 := ⟨_, rfl⟩
 rw [← htv] at cellv hf
 have HFD := Lib.hid hf
 clear htv hf
 go_wp2_with fail
 refine HFD.out.mono ?_
 rintro x w' ⟨rfl, rfl⟩
 go_wp2_with fail
 refine (HADD.out _ HB4.out).mono ?_
 rintro x w6 (⟨hm, rfl, hb6⟩ | ⟨id, d', o', rfl, hs, hl6, hr, hc⟩)
 ·
  have HB6 := Lib.hid (HB4.out.trans (hb6.mono HB4.out.size))
  have HM := Lib.hid hm
  clear hm hb6 c0 c1 c2 c3 c4 f0 cellv
  go_wp2_with fail
  go_ret2
  exact HFULL.out _ HB6.out HM.out
 ·
  have HS := Lib.hid hs
  have HL6 := Lib.hid hl6
  have HR := Lib.hid hr
  have HC := Lib.hid hc
  have hidl : id < 2305843009213693952 := by
   obtain ⟨s', hs'⟩ := hs
   have := hs'.tk_lt (i := id) (b := ⟨v, lo2, hi2⟩) (by rw [hr.nodes, addN_same])
   omega
  clear hs hl6 hr hc c0 c1 c2 c3 c4 f0 cellv
  go_wp2_with fail
  refine (HOF.out _ _ hidl).mono ?_
  rintro x w' ⟨rfl, rfl⟩
  go_wp2_with fail
  go_ret2
  exact HPOST.out _ _ id d' o' HB4.out HS.out HL6.out HR.out HC.out
theorem storeMk_any {o : Own} {w : World} {sb : Nat} {d : StoreD} {V : Nat → BF} (h : StoreAt o w sb d) (hlt : OwnLt o w) (hk : StoreOK d V) (v : Int) (lo hi : Nat) (hlo : okE (nodesOf d) lo) (hhi : okE (nodesOf d) hi) :
 Calls Tryz.prog 89 #[.pointer (some ⟨sb, 0, none⟩), .int .i64 v, .int .i64 lo, .int .i64 hi] w (MkPost o w sb d V v lo hi) := by
 obtain ⟨s, h⟩ := h
 by_cases hv : 0 ≤ v ∧ v < d.vars.length
 ·
  obtain ⟨n, rfl⟩ := Int.eq_ofNat_of_zero_le hv.1
  have hn : n < d.vars.length := by omega
  by_cases h1 : levN d n < lvE d.vars.length (levN d) (nodesOf d) lo
  ·
   by_cases h2 : levN d n < lvE d.vars.length (levN d) (nodesOf d) hi
   ·
    by_cases h3 : lo = hi
    ·
     exact mk_eq h hlt hk n lo hi hn hlo hhi h1 h2 h3
    ·
     cases h4 : d.tab n (eflip lo (eneg hi), eflip hi (eneg hi)) with
     | none => exact mk_new h hlt hk n lo hi hn hlo hhi h1 h2 h3 h4
     | some id => exact mk_found h hlt hk n lo hi hn hlo hhi h1 h2 h3 id h4
   ·
    exact mk_hi h hlt hk n lo hi hn hlo hhi (by omega) h1
  ·
   exact mk_lo h hlt hk n lo hi hn hlo hhi (by omega)
 ·
  exact mk_var h hk v lo hi hv
open Go.RowKit
theorem ownI_claim {o : Own} {w w' : World} {v : Value} {zs : List Int} (h : OwnI w' w.heap.size v zs) (hb : Below w.heap.size w w') (hlt : OwnLt o w) (r : Role) :
 ∃ o', RowR o' w' r 3 1 v zs.length (intsV zs) ∧ Chg (· = r) o o' w w' ∧ OwnLt o' w' := by
 obtain ⟨hl, h2⟩ := h
 rcases h2 with ⟨h1, h0⟩ | ⟨g, cap, cur, h1, h2, h3, h4, h5, h6, h7⟩
 ·
  exact ⟨o, ⟨hl, .inl ⟨h1, h0⟩⟩, Chg.of_below hb _ _, hlt.mono hb.size⟩
 ·
  have hg : g < w'.heap.size := (Array.getElem?_eq_some_iff.1 h3).1
  refine ⟨ownAt o g r, ⟨hl, .inr ⟨g, cap, cur, h1, ownAt_same _ _ _, h3, h4, h5, by omega, h7⟩⟩, ⟨hb.os, hb.tape, hb.output, hb.size, fun k hk _ => hb.block k hk, fun k q hq => ownAt_old hlt h2 hq, fun k hk => ?_⟩, fun k q hq => ?_⟩
  ·
   by_cases e : k = g
   ·
    subst e; exact ⟨h2, r, ownAt_same _ _ _, rfl⟩
   ·
    exact absurd (by simp [ownAt, e]) hk
  ·
   by_cases e : k = g
   ·
    subst e; exact hg
   ·
    simp only [ownAt, if_neg e] at hq; have := hlt k q hq; have := hb.size; omega
theorem ident_row (o : Own) (n : Nat) (hn : n ≤ 64) (r : Role) (w : World) (hlt : OwnLt o w) :
 Calls Tryz.prog 114 #[.int .i64 n] w fun e w' => ∃ v o', e = .returned v ∧ RowR o' w' r 3 1 v n ((List.range n).map nat64) ∧ Chg (· = r) o o' w w' ∧ OwnLt o' w' :=
 (permIdent_any n w).mono fun e w' ⟨v, h1, h2, h3⟩ => by
  obtain ⟨o', a, b, c⟩ := ownI_claim h2 h3 hlt r
  have e1 : identZ n = iota n := by unfold identZ; congr 1; omega
  have e2 : intsV (iota n) = (List.range n).map nat64 := by simp [intsV, iota, nat64]
  rw [e1, iota_length, e2] at a
  exact ⟨v, o', h1, a, b, c⟩
def store0 (n room : Nat) : StoreD := ⟨List.range n, List.range n, pool0 room, fun _ _ => none, [], 0⟩
structure NewS (o : Own) (w : World) (n room sb : Nat) (s : StoreW) (j : Nat) (o1 : Own) (wx : World) : Prop where
 own : o1 sb = some .store
 ownl : o1 s.lb = some .levels
 blk : wx.heap[sb]? = some (.cells #[.pointer (some ⟨s.lb, 0, none⟩), .pointer (some ⟨s.pb, 0, none⟩), s.vt, .slice none 0 0, .int .i64 0] 145 (0, 0))
 lev : wx.heap[s.lb]? = some (.cells #[s.vv, s.vl] 142 (0, 0))
 vars : RowR o1 wx .vars 3 1 s.vv n ((List.range n).map nat64)
 level : RowR o1 wx .level 3 1 s.vl n ((List.range n).map nat64)
 pool : PoolAt o1 wx s.pb (pool0 room)
 tabs : RowR o1 wx .tabs 146 1 s.vt j (s.ts.map ptrV)
 tl : s.ts.length = j
 tab : ∀ v, v < j → TabIs o1 wx v (s.ts.getD v 0) (fun _ => none)
 chg : Chg RStore o o1 w wx
 lt : OwnLt o1 wx
 ge : w.heap.size ≤ sb
theorem NewS.done {o o1 : Own} {w wx : World} {n room sb : Nat} {s : StoreW} (h : NewS o w n room sb s n o1 wx) : StoreAt o1 wx sb (store0 n room) :=
 ⟨{ s with vc := .slice none 0 0 }, h.own, h.ownl, h.blk, h.lev, by simpa [store0] using h.vars, by simpa [store0] using h.level, h.pool, by rw [h.tl]; exact h.tabs, fun v hv => h.tab v (by rw [← h.tl]; exact hv), RowR.nil _ _ _ _ _, rfl, by simp [store0, h.tl]⟩
theorem NewS.grown {o o1 o2 o3 : Own} {w wx wy wz : World} {n room sb : Nat} {s : StoreW} {j t g cap : Nat} (h : NewS o w n room sb s j o1 wx) (ht : TabIs o2 wy j t (fun _ => none)) (hc : Chg (fun r => r = .tab j ∨ r = .tmap j) o1 o2 wx wy) (hl : OwnLt o2 wy)
 (hr : RowR o3 wz .tabs 146 1 (.slice (some ⟨g, 0, none⟩) (j + 1) cap) (j + 1) (s.ts.map ptrV ++ [ptrV t])) (hc2 : Chg (· = .tabs) o2 o3 wy wz) (hl2 : OwnLt o3 wz) :
 NewS o w n room sb { s with vt := .slice (some ⟨g, 0, none⟩) (j + 1) cap, ts := s.ts ++ [t] } (j + 1) o3 (wz.setCell ⟨sb, 2, none⟩ (.slice (some ⟨g, 0, none⟩) (j + 1) cap)) := by
 have hc' : Chg (fun r => r = .tab j ∨ r = .tmap j ∨ r = .tabs) o1 o3 wx wz := (hc.mono fun r e => by rcases e with e | e; exact .inl e; exact .inr (.inl e)).trans (hc2.mono fun r e => .inr (.inr e))
 have hos := hc'.ext _ _ h.own
 have ne : ∀ {a r}, o3 a = some r → r ≠ .store → a ≠ sb := fun ha hr e => by subst e; rw [ha] at hos; cases hos; exact hr rfl
 have hol := hc'.ext _ _ h.ownl
 have row : ∀ {r e k v m xs}, RowR o1 wx r e k v m xs → r ≠ .store → ¬ (r = .tab j ∨ r = .tmap j ∨ r = .tabs) → RowR o3 (wz.setCell ⟨sb, 2, none⟩ (.slice (some ⟨g, 0, none⟩) (j + 1) cap)) r e k v m xs := fun hr h1 h2 =>
  (hr.chg hc' h.lt h2).setCell_other (p := ⟨sb, 2, none⟩) (by rw [hos]; intro e; cases e; exact h1 rfl) _
 have ctab : ∀ v t f, TabIs o3 wz v t f → TabIs o3 (wz.setCell ⟨sb, 2, none⟩ (.slice (some ⟨g, 0, none⟩) (j + 1) cap)) v t f := fun v t f hT =>
  hT.keep (fun q r hq hr' => heap_setCell_ne (ne hq (by rintro rfl; rcases hr' with e | e <;> cases e)) _) (fun _ _ h => h)
 refine ⟨hos, hol, heap_setCell_same ((hc'.same h.lt h.own (by simp)).trans h.blk) _, (heap_setCell_ne (ne hol (by simp)) _).trans ((hc'.same h.lt h.ownl (by simp)).trans h.lev), row h.vars (by simp) (by simp), row h.level (by simp) (by simp), ?_, ?_, by simp [h.tl], fun v hv => ?_, ?_, hl2.mono (by simp [World.setCell]), h.ge⟩
 ·
  have hp := h.pool.chg hc' h.lt (by simp) (by simp) (by simp) (by simp)
  exact hp.keep (fun q r hq hr' => heap_setCell_ne (ne hq (by rintro rfl; rcases hr' with e | e | e | e <;> cases e)) _) (fun _ _ h => h)
 ·
  have := hr.setCell_other (p := ⟨sb, 2, none⟩) (by rw [hos]; simp) (.slice (some ⟨g, 0, none⟩) (j + 1) cap)
  simpa using this
 ·
  dsimp only
  refine ctab _ _ _ ?_
  by_cases e : v = j
  ·
   subst e
   have e2 : (s.ts ++ [t]).getD v 0 = t := by simp [List.getD, h.tl]
   rw [e2]; exact ht.chg hc2 hl (by simp) (by simp)
  ·
   have e2 : (s.ts ++ [t]).getD v 0 = s.ts.getD v 0 := by
    have := h.tl
    simp [List.getD, List.getElem?_append_left (show v < s.ts.length by omega)]
   rw [e2]
   exact (h.tab v (by omega)).chg hc' h.lt (by simp [e]) (by simp [e])
 ·
  exact (h.chg.trans (hc'.mono fun r e => by rcases e with rfl | rfl | rfl <;> simp [RStore])).setCell (p := ⟨sb, 2, none⟩) hos (by simp [RStore]) _
theorem infoPtrTab : (Tryz.prog.info? 146).map (fun i => (i.zero, i.size, i.bytes)) = some (some (.pointer none), 1, 8) := by kernel_rfl
set_option maxRecDepth 100000 in
set_option maxHeartbeats 1600000 in
theorem new_store (o : Own) (n room : Nat) (w : World) (hlt : OwnLt o w) (hn : n ≤ 64) (h1 : 1 ≤ room) (h2 : room ≤ 1048576) :
 Calls Tryz.prog 75 #[.int .i64 n, .int .i64 room] w fun x w' => ∃ sb o', x = .returned (.tuple #[.pointer (some ⟨sb, 0, none⟩), .int .i64 0]) ∧ StoreAt o' w' sb (store0 n room) ∧ Chg RStore o o' w w' ∧ OwnLt o' w' ∧ w.heap.size ≤ sb := by
 have hn' : (n : Int) ≤ 64 := by omega
 have hn0 : (0 : Int) ≤ n := by omega
 have HP := Lib.hid (new_pool o room w hlt h1 h2)
 clear hlt h1 h2
 go_enter Tryz.func75, Tryz.ntmps75
 go_wp2_with fail
 refine HP.out.mono ?_
 rintro x w1 ⟨pb, o1, rfl, hp1, hc1, hl1, hpb⟩
 have HI1 := Lib.hid (ident_row o1 n hn .vars w1 hl1)
 have HL1 := Lib.hid hl1
 have HP1 := Lib.hid hp1
 have HC1 := Lib.hid hc1
 clear hp1 hc1 hl1
 go_wp2_with fail
 refine HI1.out.mono ?_
 rintro x w2 ⟨vv, o2, rfl, hr2, hc2, hl2⟩
 have HI2 := Lib.hid (ident_row o2 n hn .level w2 hl2)
 have HR2 := Lib.hid hr2
 have HC2 := Lib.hid hc2
 have HL2 := Lib.hid hl2
 clear hr2 hc2 hl2
 go_wp2_with fail
 refine HI2.out.mono ?_
 rintro x w3 ⟨vl, o3, rfl, hr3, hc3, hl3⟩
 obtain ⟨av, cv, rfl, _⟩ := HR2.out.slice
 obtain ⟨al, cl, rfl, _⟩ := hr3.slice
 have HR3 := Lib.hid hr3
 have HC3 := Lib.hid hc3
 have HL3 := Lib.hid hl3
 clear hr3 hc3 hl3
 go_upto_region 7 with fail
 obtain ⟨wl, hwl⟩ : ∃ wl, wl = w3.alloc (.cells #[.slice av n cv, .slice al n cl] 142) := ⟨_, rfl⟩
 obtain ⟨ws, hws⟩ : ∃ ws, ws = wl.alloc (.cells #[.pointer (some ⟨w3.heap.size, 0, none⟩), .pointer (some ⟨pb, 0, none⟩), .slice none 0 0, .slice none 0 0, .int .i64 0] 145) := ⟨_, rfl⟩
 have hz1 : wl.heap.size = w3.heap.size + 1 := by rw [hwl]; simp
 have hS0 : NewS o w n room (w3.heap.size + 1) ⟨w3.heap.size, pb, .slice av n cv, .slice al n cl, .slice none 0 0, .slice none 0 0, []⟩ 0 (ownAt (ownAt o3 w3.heap.size .levels) (w3.heap.size + 1) .store) ws := by
  have c1 := (Chg.refl RStore o3 w3).allocR (r := .levels) HL3.out (.cells #[.slice av n cv, .slice al n cl] 142) (by simp [RStore])
  have l1 := HL3.out.allocR (.cells #[.slice av n cv, .slice al n cl] 142) .levels
  rw [← hwl] at c1 l1
  have c2 := c1.allocR (r := .store) l1 (.cells #[.pointer (some ⟨w3.heap.size, 0, none⟩), .pointer (some ⟨pb, 0, none⟩), .slice none 0 0, .slice none 0 0, .int .i64 0] 145) (by simp [RStore])
  have l2 := l1.allocR (.cells #[.pointer (some ⟨w3.heap.size, 0, none⟩), .pointer (some ⟨pb, 0, none⟩), .slice none 0 0, .slice none 0 0, .int .i64 0] 145) .store
  rw [← hws, hz1] at c2 l2
  have hb : Below w3.heap.size w3 ws := by rw [hws, hwl]; exact (below_new1 w3 _).alloc (by simp) _
  have hr2 := ((HR2.out.chg HC3.out HL2.out (by simp)).below HL3.out hb).keep (o' := ownAt (ownAt o3 w3.heap.size .levels) (w3.heap.size + 1) .store) (fun _ _ => rfl) (fun g hg => c2.ext g _ hg)
  have hr3 := (HR3.out.below HL3.out hb).keep (o' := ownAt (ownAt o3 w3.heap.size .levels) (w3.heap.size + 1) .store) (fun _ _ => rfl) (fun g hg => c2.ext g _ hg)
  have hcc := (HC1.out.mono (R' := RStore) (fun r hr => by rcases hr with rfl | rfl | rfl <;> simp [RStore, RPool])).trans ((HC2.out.mono (R' := RStore) (fun r hr => by subst hr; simp [RStore])).trans ((HC3.out.mono (R' := RStore) (fun r hr => by subst hr; simp [RStore])).trans c2))
  have hp3 := (HP1.out.chg (HC2.out) HL1.out (by simp) (by simp) (by simp) (by simp)).chg HC3.out HL2.out (by simp) (by simp) (by simp) (by simp)
  have hp := (hp3.below hb HL3.out).keep (o' := ownAt (ownAt o3 w3.heap.size .levels) (w3.heap.size + 1) .store) (fun _ _ _ _ => rfl) (fun g r hg => c2.ext g r hg)
  refine ⟨ownAt_same _ _ _, ownAt_old l1 (by omega) (ownAt_same _ _ _), ?_, ?_, hr2, hr3, hp, RowR.nil _ _ _ _ _, rfl, fun v hv => absurd hv (by omega), hcc, l2, ?_⟩
  ·
   rw [hws, ← hz1]; exact heap_alloc_new wl _
  ·
   rw [hws]; exact (Go.heap_alloc_old wl _ (show w3.heap.size < wl.heap.size by omega)).trans (by rw [hwl]; exact heap_alloc_new w3 _)
  ·
   show w.heap.size ≤ w3.heap.size + 1
   exact Nat.le_succ_of_le (Nat.le_trans HC1.out.size (Nat.le_trans HC2.out.size HC3.out.size))
 rw [← hwl, ← hws]
 have HS0 := Lib.hid hS0
 clear hS0 hws hwl hz1 HR2 HR3 HC1 HC2 HC3 HL1 HL2 HL3 HP1 HI1 HI2 HP
 go_wp2_with fail
 go_loopw [31] (fun i wr => ∃ (j : Nat) (s : StoreW) (o1 : Own), j ≤ n ∧ i = .int .i64 j ∧ NewS o w n room (w3.heap.size + 1) s j o1 wr) (fun i _ => n - (intOf i).toNat)
 case atStart => exact ⟨0, _, _, by omega, rfl, HS0.out⟩
 case round =>
  obtain ⟨j, s, o1, hj, rfl, hS⟩ := hrel
  clear HS0
  by_cases hlt : j < n
  ·
   obtain ⟨c0, c1, c2, c3, c4, f0⟩ := cells5 hS.blk
   obtain ⟨av, cv, hvt, _⟩ := hS.tabs.slice
   rw [hvt] at c2
   have hlt' : (j : Int) < n := by omega
   have HJ : (j : Int) + 1 ≤ 64 := by omega
   have HS := Lib.hid hS
   have HTR : Hid (RowR o1 wr .tabs 146 1 (.slice av j cv) j (s.ts.map ptrV)) := by show RowR _ _ _ _ _ _ _ _; rw [← hvt]; exact hS.tabs
   have HNU := Lib.hid (new_uniq o1 j wr.drew hS.lt)
   have HJ64 : j ≤ 64 := by omega
   have HVT := Lib.hid hvt
   clear hvt hS
   go_upto_region 9 with fail
   refine wp_region_mix (fun W : World => W.cell? ⟨w3.heap.size + 1, 2, none⟩ = some (.slice av j cv) ∧ W.frozen? ⟨w3.heap.size + 1, 2, none⟩ = false) true 10
    [(0, false), (1, false), (2, false), (3, false), (4, false), (5, true), (6, true), (7, true), (8, false), (9, false), (10, true)] (by kernel_rfl) (by kernel_rfl) ⟨c2, f0 2⟩ ?_
   simp only [planned, plnLz]
   iterate 5
    refine mix_readE rfl ?_
    apply Exists.intro
    refine ⟨fun w' hw => ?_, ?_⟩
    ·
     obtain ⟨h1, h2⟩ := hw
     go_simp
     rfl
    simp only [putLz]
   refine mix_callR (R := fun v w' => ∃ t o2, v = .pointer (some ⟨t, 0, none⟩) ∧ TabIs o2 w' j t (fun _ => none) ∧ Chg (fun r => r = .tab j ∨ r = .tmap j) o1 o2 wr w' ∧ OwnLt o2 w') rfl (by go_simp) (HNU.out.mono (fun e w' he => ?_)) ?_
   ·
    obtain ⟨t, o2, rfl, a1, a2, a3, a4⟩ := he
    obtain ⟨_, _, q2, _, _, q0⟩ := cells5 ((a2.same (by exact HS.out.lt) HS.out.own (by simp)).trans HS.out.blk)
    exact ⟨_, rfl, ⟨by rw [← HVT.out]; exact q2, q0 2⟩, t, o2, rfl, a1, ⟨a2.os, a2.tape, a2.output, a2.size, a2.block, a2.ext, a2.new⟩, a3⟩
   rintro v wy - ⟨t, o2, rfl, ht, hcy, hly⟩
   simp only [putLz]
   have hsy := (hcy.same HS.out.lt HS.out.own (by simp)).trans HS.out.blk
   have hly2 : w3.heap.size + 1 < wy.heap.size := (Array.getElem?_eq_some_iff.1 hsy).1
   have HCY := Lib.hid hcy
   have HTY := Lib.hid ht
   have HLY := Lib.hid hly
   have HTR2 := HTR.out.chg hcy HS.out.lt (by simp)
   obtain ⟨wb, hwb⟩ : ∃ wb, wb = wy.alloc (.cells #[.pointer (some ⟨t, 0, none⟩)] 146) := ⟨_, rfl⟩
   obtain ⟨_, _, p2, _, _, p0⟩ := cells5 (show wb.heap[w3.heap.size + 1]? = _ from by rw [hwb]; exact (Go.heap_alloc_old _ _ hly2).trans hsy)
   refine mix_value (v := .slice (some ⟨wy.heap.size, 0, none⟩) 1 1) (w' := wb) rfl (by rw [hwb]; go_simp) ⟨by rw [← HVT.out]; exact p2, p0 2⟩ ?_
   simp only [putLz]
   obtain ⟨g, cap, wz, o3, happ, hrz, hcz, hlz⟩ := run_appOne 143 146 143 1 8 (.pointer none) Tryz.underlying143 infoPtrTab rfl (by decide) #[.pointer (some ⟨t, 0, none⟩)] rfl (fun u hu => by simp at hu; subst hu; rfl) HTR2 hly (by omega) (by decide)
   rw [← hwb] at happ
   obtain ⟨_, _, r2, _, _, r0⟩ := cells5 ((hcz.same hly (hcy.ext _ _ HS.out.own) (by simp)).trans hsy)
   refine mix_value (v := .slice (some ⟨g, 0, none⟩) (j + 1) cap) (w' := wz) rfl (exec_append rfl rfl rfl happ) ⟨by rw [← HVT.out]; exact r2, r0 2⟩ ?_
   simp only [putLz]
   have HG := Lib.hid (HS.out.grown ht hcy hly hrz hcz hlz)
   clear hsy hly2 hcy ht hly HTR2 hwb p2 p0 happ hrz hcz hlz
   iterate 2
    refine mix_readE rfl ?_
    apply Exists.intro
    refine ⟨fun w' hw => ?_, ?_⟩
    ·
     obtain ⟨h1, h2⟩ := hw
     go_simp
     rfl
    simp only [putLz]
   refine mix_last rfl (fun K hK => ?_)
   unfold Oper.wp
   go_simp
   refine hK _ _ (np_normal ?_)
   go_wp2_with fail
   go_roundw
   case rel => exact ⟨j + 1, _, _, by omega, by simp, HG.out⟩
   case measure => simp [intOf]; omega
  ·
   obtain rfl : j = n := by omega
   have HS := Lib.hid hS
   clear hS
   go_wp2_with fail
   go_ret2
   exact ⟨_, _, rfl, HS.out.done, HS.out.chg, HS.out.lt, HS.out.ge⟩
open Go.RowKit
structure Ev where
 after : Int
 kind : Int
 level : Int
def evL (e : Ev) : List Value := [.int .i64 e.after, .int .i64 e.kind, .int .i64 e.level]
def evA (e : Ev) : Value := .agg #[.int .i64 e.after, .int .i64 e.kind, .int .i64 e.level]
structure WaitsAt (o : Own) (w : World) (v : Value) (ws : List Ev) : Prop where
 ex : (v = .slice none 0 0 ∧ ws = []) ∨ ∃ g off cap cur, v = .slice (some ⟨g, off, none⟩) ws.length cap ∧ o g = some .waits ∧ w.heap[g]? = some (.cells cur 94 (0, 0)) ∧ ws.length ≤ cap ∧ cap ≤ maxLen ∧
  off + cap * 3 ≤ cur.size ∧ (cur.toList.drop off).take (ws.length * 3) = ws.flatMap evL
theorem WaitsAt.keep {o o' : Own} {w w' : World} {v : Value} {ws : List Ev} (h : WaitsAt o w v ws) (hk : ∀ g, o g = some .waits → w'.heap[g]? = w.heap[g]?) (ho : ∀ g, o g = some .waits → o' g = some .waits) : WaitsAt o' w' v ws := by
 refine ⟨h.ex.imp id ?_⟩
 rintro ⟨g, off, cap, cur, h1, h2, h3, rest⟩
 exact ⟨g, off, cap, cur, h1, ho g h2, (hk g h2).trans h3, rest⟩
theorem WaitsAt.chg {R : Role → Prop} {o o' : Own} {w w' : World} {v : Value} {ws : List Ev} (h : WaitsAt o w v ws) (hc : Chg R o o' w w') (hlt : OwnLt o w) (hr : ¬ R .waits) : WaitsAt o' w' v ws :=
 h.keep (fun g hg => hc.same hlt hg hr) (fun g hg => hc.ext g _ hg)
theorem WaitsAt.nil (o : Own) (w : World) : WaitsAt o w (.slice none 0 0) [] := ⟨.inl ⟨rfl, rfl⟩⟩
theorem WaitsAt.slice {o : Own} {w : World} {v : Value} {ws : List Ev} (h : WaitsAt o w v ws) : ∃ a cap, v = .slice a ws.length cap ∧ (a = none → cap = 0) := by
 rcases h.ex with ⟨h1, h0⟩ | ⟨g, off, cap, cur, h1, _⟩
 ·
  exact ⟨none, 0, by rw [h1, h0]; rfl, fun _ => rfl⟩
 ·
  exact ⟨_, cap, h1, by simp⟩
theorem evFlat_length (ws : List Ev) : (ws.flatMap evL).length = ws.length * 3 := flat_length evL 3 (fun _ => rfl) ws
theorem WaitsAt.first {o : Own} {w : World} {v : Value} {ev : Ev} {ws : List Ev} (h : WaitsAt o w v (ev :: ws)) : ∃ g off cap, v = .slice (some ⟨g, off, none⟩) (ws.length + 1) cap ∧ o g = some .waits ∧ ws.length + 1 ≤ cap ∧ cap ≤ maxLen ∧
 w.cell? ⟨g, off, none⟩ = some (.int .i64 ev.after) ∧ w.cell? ⟨g, off + 1, none⟩ = some (.int .i64 ev.kind) ∧ w.cell? ⟨g, off + 2, none⟩ = some (.int .i64 ev.level) ∧ WaitsAt o w (.slice (if cap = 1 then some ⟨g, off, none⟩ else some ⟨g, off + 3, none⟩) ws.length (cap - 1)) ws := by
 rcases h.ex with ⟨h1, h0⟩ | ⟨g, off, cap, cur, h1, h2, h3, h4, h5, h6, h7⟩
 ·
  cases h0
 ·
  simp only [List.length_cons] at h1 h4 h7
  have hc : ∀ j u, (evL ev ++ ws.flatMap evL)[j]? = some u → w.cell? ⟨g, off + j, none⟩ = some u := by
   intro j u hj
   have hl := (List.getElem?_eq_some_iff.1 hj).1
   have hl' : j < (ws.length + 1) * 3 := by
    have e1 : (evL ev ++ ws.flatMap evL).length = 3 + ws.length * 3 := by rw [List.length_append, evFlat_length]; rfl
    omega
   rw [cell_of_row w g (off + j) cur _ (0, 0) h3]
   have e2 : (evL ev ++ ws.flatMap evL)[j]? = ((cur.toList.drop off).take ((ws.length + 1) * 3))[j]? := by rw [h7]; rfl
   rw [e2, List.getElem?_take, if_pos hl', List.getElem?_drop] at hj
   simpa using hj
  refine ⟨g, off, cap, h1, h2, h4, h5, hc 0 _ rfl, hc 1 _ rfl, hc 2 _ rfl, ⟨.inr ?_⟩⟩
  by_cases e1 : cap = 1
  ·
   have e2 : ws = [] := List.eq_nil_of_length_eq_zero (by omega)
   subst e2
   exact ⟨g, off, cap - 1, cur, by rw [if_pos e1], h2, h3, by simp, by omega, by omega, by simp⟩
  ·
   refine ⟨g, off + 3, cap - 1, cur, by rw [if_neg e1], h2, h3, by omega, by omega, by omega, ?_⟩
   have e3 : (cur.toList.drop (off + 3)).take (ws.length * 3) = ((cur.toList.drop off).take ((ws.length + 1) * 3)).drop 3 := by
    rw [List.drop_take, List.drop_drop]
    congr 1
    omega
   rw [e3, h7]
   rfl
structure ManD where
 d : StoreD
 hs : List (Int × Nat)
 next : Int
 waits : List Ev
 calls : Int
structure ManW where
 sb : Nat
 me : Nat
 hb : Nat
 vw : Value
def encH (hs : List (Int × Nat)) : List (Int × Value) := hs.map fun p => (p.1, .int .i64 (p.2 : Nat))
structure ManIn (F : Phi) (o : Own) (w : World) (mb : Nat) (m : ManD) (s : ManW) : Prop where
 own : o mb = some .man
 blk : w.heap[mb]? = some (.cells #[.pointer (some ⟨s.sb, 0, none⟩), .pointer (some ⟨s.me, 0, none⟩), .map (some s.hb), .int .i64 m.next, s.vw, .int .i64 m.calls] 105 (0, 0))
 store : StoreAt o w s.sb m.d
 memo : MemoAt o w s.me F
 ownh : o s.hb = some .handles
 map : MapIs w s.hb (Value.int .i64) (encH m.hs)
 waits : WaitsAt o w s.vw m.waits
def ManAt (F : Phi) (o : Own) (w : World) (mb : Nat) (m : ManD) : Prop := ∃ s, ManIn F o w mb m s
theorem cells6 {w : World} {g : Nat} {a b c d e f : Value} {T : TypeId} (h : w.heap[g]? = some (.cells #[a, b, c, d, e, f] T (0, 0))) : w.cell? ⟨g, 0, none⟩ = some a ∧ w.cell? ⟨g, 1, none⟩ = some b ∧ w.cell? ⟨g, 2, none⟩ = some c ∧ w.cell? ⟨g, 3, none⟩ = some d ∧ w.cell? ⟨g, 4, none⟩ = some e ∧ w.cell? ⟨g, 5, none⟩ = some f ∧
 (∀ k, w.frozen? ⟨g, k, none⟩ = false) :=
 ⟨by rw [cell_of_row w g 0 _ _ _ h]; rfl, by rw [cell_of_row w g 1 _ _ _ h]; rfl, by rw [cell_of_row w g 2 _ _ _ h]; rfl, by rw [cell_of_row w g 3 _ _ _ h]; rfl, by rw [cell_of_row w g 4 _ _ _ h]; rfl, by rw [cell_of_row w g 5 _ _ _ h]; rfl, fun k => by simp [World.frozen?, h]⟩
section
variable {F : Phi} {o o' : Own} {w w' : World} {mb : Nat} {m : ManD} {s : ManW}
theorem MapIs.keepB {w w' : World} {b : Nat} {enc : Int → Value} {l : List (Int × Value)} (h : MapIs w b enc l) (hk : w'.heap[b]? = w.heap[b]?) : MapIs w' b enc l := by
 obtain ⟨es, c, hb, rest⟩ := h.ex
 exact ⟨⟨es, c, hk.trans hb, rest⟩, h.nodup⟩
theorem StoreAt.keepR {sb : Nat} {d : StoreD} (h : StoreAt o w sb d) (hk : ∀ g r, o g = some r → RStore r → w'.heap[g]? = w.heap[g]?) (ho : ∀ g r, o g = some r → o' g = some r) : StoreAt o' w' sb d := by
 obtain ⟨s, h⟩ := h
 have row : ∀ {r e k v n xs}, RStore r → RowR o w r e k v n xs → RowR o' w' r e k v n xs := fun hr h => h.keep (fun g hg => hk g _ hg hr) (fun g hg => ho g _ hg)
 refine ⟨s, ho _ _ h.own, ho _ _ h.ownl, (hk _ _ h.own (by simp [RStore])).trans h.blk, (hk _ _ h.ownl (by simp [RStore])).trans h.lev, row (by simp [RStore]) h.vars, row (by simp [RStore]) h.level,
  h.pool.keep (fun g r hg hr => hk g r hg (by rcases hr with rfl | rfl | rfl | rfl <;> simp [RStore, RPool])) ho, row (by simp [RStore]) h.tabs,
  fun v hv => (h.tab v hv).keep (fun g r hg hr => hk g r hg (by rcases hr with rfl | rfl <;> simp [RStore])) ho, row (by simp [RStore]) h.counts, h.len, h.tlen⟩
theorem MemoAt.mono {G : Phi} {me : Nat} (h : MemoAt o w me F) (hF : ∀ op a b c r, F op a b c r → G op a b c r) : MemoAt o w me G := by
 obtain ⟨ve, a, f, h1, h2⟩ := h.ex
 refine ⟨h.own, ve, a, f, h1, h2.imp id ?_⟩
 rintro ⟨ge, cap, l, e1, e2, e3, e4⟩
 exact ⟨ge, cap, l, e1, e2, e3, fun i hi => hF _ _ _ _ _ (e4 i hi)⟩
theorem ManIn.keep (h : ManIn F o w mb m s) (hk : ∀ g r, o g = some r → w'.heap[g]? = w.heap[g]?) (ho : ∀ g r, o g = some r → o' g = some r) : ManIn F o' w' mb m s :=
 ⟨ho _ _ h.own, (hk _ _ h.own).trans h.blk, h.store.keepR (fun g r hg _ => hk g r hg) ho, h.memo.keep (fun g r hg _ => hk g r hg) ho, ho _ _ h.ownh, h.map.keepB (hk _ _ h.ownh), h.waits.keep (fun g hg => hk g _ hg) (fun g hg => ho g _ hg)⟩
theorem ManIn.below (h : ManIn F o w mb m s) (hlt : OwnLt o w) (hb : Below w.heap.size w w') : ManIn F o w' mb m s := h.keep (fun g r hg => hb.block g (hlt g r hg)) (fun _ _ h => h)
theorem ManIn.setStore {d' : StoreD} (h : ManIn F o w mb m s) (hlt : OwnLt o w) (hs : StoreAt o' w' s.sb d') (hc : Chg RStore o o' w w') : ManIn F o' w' mb { m with d := d' } s :=
 ⟨hc.ext _ _ h.own, (hc.same hlt h.own (by simp [RStore, RPool])).trans h.blk, hs, h.memo.chg hc hlt (by simp [RStore, RPool]) (by simp [RStore, RPool]), hc.ext _ _ h.ownh, h.map.keepB (hc.same hlt h.ownh (by simp [RStore, RPool])), h.waits.chg hc hlt (by simp [RStore, RPool])⟩
theorem ManIn.setMemo {G : Phi} (h : ManIn F o w mb m s) (hlt : OwnLt o w) (hm : MemoAt o' w' s.me G) (hc : Chg (fun r => r = .memo ∨ r = .entries) o o' w w') : ManIn G o' w' mb m s :=
 ⟨hc.ext _ _ h.own, (hc.same hlt h.own (by simp)).trans h.blk, h.store.keepR (fun g r hg hr => hc.same hlt hg (by rintro (rfl | rfl) <;> simp [RStore, RPool] at hr)) hc.ext, hm, hc.ext _ _ h.ownh, h.map.keepB (hc.same hlt h.ownh (by simp)), h.waits.chg hc hlt (by simp)⟩
theorem ManIn.mono {G : Phi} (h : ManIn F o w mb m s) (hF : ∀ op a b c r, F op a b c r → G op a b c r) : ManIn G o w mb m s := ⟨h.own, h.blk, h.store, h.memo.mono hF, h.ownh, h.map, h.waits⟩
theorem ManIn.field (h : ManIn F o w mb m s) {k : Nat} {u : Value} {m' : ManD} {s' : ManW} (hd : m'.d = m.d) (hh : m'.hs = m.hs) (h1 : s'.sb = s.sb) (h2 : s'.me = s.me) (h3 : s'.hb = s.hb) (hw : WaitsAt o w s'.vw m'.waits)
 (hb : (#[.pointer (some ⟨s.sb, 0, none⟩), .pointer (some ⟨s.me, 0, none⟩), .map (some s.hb), .int .i64 m.next, s.vw, .int .i64 m.calls] : Array Value).setIfInBounds k u = #[.pointer (some ⟨s.sb, 0, none⟩), .pointer (some ⟨s.me, 0, none⟩), .map (some s.hb), .int .i64 m'.next, s'.vw, .int .i64 m'.calls]) :
 ManIn F o (w.setCell ⟨mb, k, none⟩ u) mb m' s' := by
 have ne : ∀ {g r}, o g = some r → r ≠ .man → g ≠ mb := fun hg hr e => by subst e; have := h.own; rw [hg] at this; cases this; exact hr rfl
 refine ⟨h.own, ?_, ?_, ?_, by rw [h3]; exact h.ownh, ?_, hw.keep (fun g hg => heap_setCell_ne (ne hg (by simp)) _) (fun _ h => h)⟩
 ·
  rw [h1, h2, h3, ← hb]; exact heap_setCell_same h.blk _
 ·
  rw [h1, hd]; exact h.store.keepR (fun g r hg hr => heap_setCell_ne (ne hg (by rintro rfl; simp [RStore, RPool] at hr)) _) (fun _ _ h => h)
 ·
  rw [h2]; exact h.memo.keep (fun g r hg hr => heap_setCell_ne (ne hg (by rintro rfl; rcases hr with e | e <;> cases e)) _) (fun _ _ h => h)
 ·
  rw [h3, hh]; exact h.map.keepB (heap_setCell_ne (ne h.ownh (by simp)) _)
end
abbrev Law := StoreD → (Nat → BF) → Phi
def minL (d : StoreD) (a b c : Nat) : Nat := min (lvE d.vars.length (levN d) (nodesOf d) a) (min (lvE d.vars.length (levN d) (nodesOf d) b) (lvE d.vars.length (levN d) (nodesOf d) c))
structure IteP (d : StoreD) (V : Nat → BF) (a b c r : Nat) : Prop where
 okA : okE (nodesOf d) a
 okB : okE (nodesOf d) b
 okC : okE (nodesOf d) c
 okR : okE (nodesOf d) r
 val : ∀ ρ, ef V r ρ = if ef V a ρ then ef V b ρ else ef V c ρ
 lev : minL d a b c ≤ lvE d.vars.length (levN d) (nodesOf d) r
structure LawOK (K : Law) : Prop where
 ite : ∀ d V a b c r, K d V 1 a b c r ↔ IteP d V a b c r
 ext : ∀ d V d' V' op a b c r, StoreOK d V → StoreOK d' V' → Ext d V d' V' → K d V op a b c r → K d' V' op a b c r
 same : ∀ d d' V op a b c r, d'.vars = d.vars → d'.level = d.level → nodesOf d' = nodesOf d → K d V op a b c r → K d' V op a b c r
def refsOf (hs : List (Int × Nat)) (i : Nat) : Nat := (hs.filter fun p => decide (1 < p.1) && p.2 / 2 == i).length
structure HandlesOK (m : ManD) : Prop where
 nodup : (m.hs.map Prod.fst).Nodup
 zero : (0, 1) ∈ m.hs
 one : (1, 0) ∈ m.hs
 lt : ∀ p ∈ m.hs, 0 ≤ p.1 ∧ p.1 < m.next
 next : 2 ≤ m.next
 ok : ∀ p ∈ m.hs, okE (nodesOf m.d) p.2
 len : (m.hs.length : Int) ≤ m.next
 refs : ∀ i b, nodesOf m.d i = some b → extOf m.d i = refsOf m.hs i
structure ManOK (m : ManD) (V : Nat → BF) : Prop where
 store : StoreOK m.d V
 handles : HandlesOK m
structure Step (K : Law) (o : Own) (w : World) (mb : Nat) (m : ManD) (V : Nat → BF) (o' : Own) (w' : World) (m' : ManD) (V' : Nat → BF) : Prop where
 is : ManAt (K m'.d V') o' w' mb m'
 lt : OwnLt o' w'
 chg : Chg (fun _ => True) o o' w w'
 ok : StoreOK m'.d V'
 ext : Ext m.d V m'.d V'
 hs : m'.hs = m.hs
 next : m'.next = m.next
theorem Step.trans {K : Law} {o o' o'' : Own} {w w' w'' : World} {mb : Nat} {m m' m'' : ManD} {V V' V'' : Nat → BF} (h : Step K o w mb m V o' w' m' V') (h' : Step K o' w' mb m' V' o'' w'' m'' V'') : Step K o w mb m V o'' w'' m'' V'' :=
 ⟨h'.is, h'.lt, h.chg.trans h'.chg, h'.ok, h.ext.trans h'.ext, h'.hs.trans h.hs, h'.next.trans h.next⟩
structure CtxAt (o : Own) (w : World) (xb mb : Nat) : Prop where
 cell : w.cell? ⟨xb, 0, none⟩ = some (.pointer (some ⟨mb, 0, none⟩))
 own : o xb = none
theorem CtxAt.chg {R : Role → Prop} {o o' : Own} {w w' : World} {xb mb : Nat} (h : CtxAt o w xb mb) (hc : Chg R o o' w w') : CtxAt o' w' xb mb := ⟨hc.cell h.cell h.own, hc.alien' (World.block_lt_of_cell? w _ h.cell) h.own⟩
open Go.RowKit
def sw1 (f g : Nat) : Nat := if g = f then 0 else if g = enot f then 1 else g
def sw2 (f h : Nat) : Nat := if h = f then 1 else if h = enot f then 0 else h
theorem sw1_lt {f g : Nat} (h : g < eMax) : sw1 f g < eMax := by unfold sw1; unfold eMax at *; split <;> (try split) <;> omega
theorem sw2_lt {f g : Nat} (h : g < eMax) : sw2 f g < eMax := by unfold sw2; unfold eMax at *; split <;> (try split) <;> omega
theorem eqE2 (w : World) (a b c d : Nat) : (Op.equalIn 10000 168 (.agg #[.int .i64 a, .int .i64 b]) (.agg #[.int .i64 c, .int .i64 d])).run Tryz.prog w = .ok (decide (a = c ∧ b = d)) w := by
 have h := eqE w (a, b) (c, d)
 unfold encE Op.equal at h
 simp only [Prod.mk.injEq] at h
 exact h
structure IteR where
 a : Nat
 b : Nat
 c : Nat
 n : Bool
 r : Nat
 dn : Bool
def iteV (x : IteR) : Value := .tuple #[.int .i64 x.a, .int .i64 x.b, .int .i64 x.c, .bool x.n, .int .i64 x.r, .bool x.dn]
def iteM (f g h : Nat) : IteR := if eneg f then ⟨enot f, eflip h (eneg h), eflip g (eneg h), eneg h, 0, false⟩ else ⟨f, eflip g (eneg g), eflip h (eneg g), eneg g, 0, false⟩
def iteK (f g h : Nat) : IteR :=
 if f = 0 ∨ g = h then ⟨0, 0, 0, false, g, true⟩ else if f = 1 then ⟨0, 0, 0, false, h, true⟩ else if g = 0 ∧ h = 1 then ⟨0, 0, 0, false, f, true⟩ else if g = 1 ∧ h = 0 then ⟨0, 0, 0, false, enot f, true⟩ else iteM f g h
def iteR (f g h : Nat) : IteR := iteK f (sw1 f g) (sw2 f h)
theorem results_tmp6 {fn : Func} {t u v x y z : Tmp} (h : fn.results = #[.tmp t, .tmp u, .tmp v, .tmp x, .tmp y, .tmp z]) (tmps : Array Value) (P : Program) (w : World) :
 (results fn tmps).run P w = .ok (.tuple #[tmps.getD t undef, tmps.getD u undef, tmps.getD v undef, tmps.getD x undef, tmps.getD y undef, tmps.getD z undef]) w := by
 simp [results, h]
set_option maxRecDepth 100000 in
set_option maxHeartbeats 1600000 in
theorem ite_any (f g h : Nat) (w : World) (hf : f < eMax) (hg : g < eMax) (hh : h < eMax) :
 Calls Tryz.prog 92 #[.int .i64 f, .int .i64 g, .int .i64 h] w fun x w' => x = .returned (iteV (iteR f g h)) ∧ w = w' := by
 have HN := Lib.hid (fun W : World => not_any f W hf)
 have HG' := Lib.hid (sw1_lt (f := f) hg)
 have HH := Lib.hid hh
 have HH' := Lib.hid (sw2_lt (f := f) hh)
 have HFF := Lib.hid hf
 clear hf hg hh
 go_enter Tryz.func92, Tryz.ntmps92
 go_upto_block 0 with fail
 go_cut [1] from 13 (fun s1 wx => s1 = .int .i64 (sw1 f g : Nat) ∧ wx = w)
 case first =>
  by_cases h1 : g = f
  ·
   have HX : Hid ((sw1 f g : Nat) = 0) := by show _ = _; simp [sw1, h1]
   subst h1
   go_wp2_with fail
   go_meet
   exact ⟨by rw [HX.out]; rfl, rfl⟩
  ·
   have H1 : (g == f) = false := by simp [h1]
   by_cases h2 : g = enot f
   ·
    have HX : Hid ((sw1 f g : Nat) = 1) := by show _ = _; unfold sw1; rw [if_neg h1, if_pos h2]
    subst h2
    clear h1
    go_wp2_with (go_at_call 102; refine (HN.out _).mono ?_; rintro x w' ⟨rfl, rfl⟩)
    go_meet
    exact ⟨by rw [HX.out]; rfl, rfl⟩
   ·
    have HX : Hid ((sw1 f g : Nat) = g) := by show _ = _; unfold sw1; rw [if_neg h1, if_neg h2]
    have H2 : (g == enot f) = false := by simp [h2]
    clear h1 h2
    go_wp2_with (go_at_call 102; refine (HN.out _).mono ?_; rintro x w' ⟨rfl, rfl⟩)
    go_meet
    exact ⟨by rw [HX.out], rfl⟩
 case rest =>
  obtain ⟨rfl, rfl⟩ := hcut
  have HX1 : Hid (iteR f g h = iteK f (sw1 f g) (sw2 f h)) := by show _ = _; rfl
  obtain ⟨g', hg'⟩ : ∃ g', g' = sw1 f g := ⟨_, rfl⟩
  rw [← hg'] at HX1
  rw [← hg'] at HG' ⊢
  clear hg'
  go_upto_block 1 with fail
  go_cut [2] from 13 (fun s2 wx => s2 = .int .i64 (sw2 f h : Nat) ∧ wx = wc)
  case first =>
   by_cases h1 : h = f
   ·
    have HX : Hid ((sw2 f h : Nat) = 1) := by show _ = _; simp [sw2, h1]
    subst h1
    go_wp2_with fail
    go_meet
    exact ⟨by rw [HX.out]; rfl, rfl⟩
   ·
    have H1 : (h == f) = false := by simp [h1]
    by_cases h2 : h = enot f
    ·
     have HX : Hid ((sw2 f h : Nat) = 0) := by show _ = _; unfold sw2; rw [if_neg h1, if_pos h2]
     subst h2
     clear h1
     go_wp2_with (go_at_call 102; refine (HN.out _).mono ?_; rintro x w' ⟨rfl, rfl⟩)
     go_meet
     exact ⟨by rw [HX.out]; rfl, rfl⟩
    ·
     have HX : Hid ((sw2 f h : Nat) = h) := by show _ = _; unfold sw2; rw [if_neg h1, if_neg h2]
     have H2 : (h == enot f) = false := by simp [h2]
     clear h1 h2
     go_wp2_with (go_at_call 102; refine (HN.out _).mono ?_; rintro x w' ⟨rfl, rfl⟩)
     go_meet
     exact ⟨by rw [HX.out], rfl⟩
  case rest =>
   obtain ⟨rfl, rfl⟩ := hcut
   obtain ⟨h', hh'⟩ : ∃ h', h' = sw2 f h := ⟨_, rfl⟩
   rw [← hh'] at HX1 HH' ⊢
   clear hh'
   rename World => w
   have hq := fun (a b c d : Nat) => eqE2 w a b c d
   by_cases f0 : f = 0
   ·
    have HR : Hid (iteR f g h = ⟨0, 0, 0, false, g', true⟩) := by show _ = _; rw [HX1.out, iteK, if_pos (.inl f0)]
    subst f0
    go_wp2_with fail
    refine bodyPost_ret (results_tmp6 rfl _ _ _) rfl ?_
    exact ⟨by rw [HR.out]; rfl, rfl⟩
   ·
    have H0 : ((f : Int) == 0) = false := by simp [f0]
    by_cases e1 : g' = h'
    ·
     have HR : Hid (iteR f g h = ⟨0, 0, 0, false, g', true⟩) := by show _ = _; rw [HX1.out, iteK, if_pos (.inr e1)]
     subst e1
     go_wp2_with fail
     refine bodyPost_ret (results_tmp6 rfl _ _ _) rfl ?_
     exact ⟨by rw [HR.out]; rfl, rfl⟩
    ·
     have H1 : (g' == h') = false := by simp [e1]
     by_cases f1 : f = 1
     ·
      have HR : Hid (iteR f g h = ⟨0, 0, 0, false, h', true⟩) := by show _ = _; rw [HX1.out, iteK, if_neg (by simp [f0, e1]), if_pos f1]
      have HR := HR
      subst f1
      clear f0 e1
      go_wp2_with fail
      refine bodyPost_ret (results_tmp6 rfl _ _ _) rfl ?_
      exact ⟨by rw [HR.out]; rfl, rfl⟩
     ·
      have H2 : ((f : Int) == 1) = false := by simp; omega
      by_cases q1 : g' = 0 ∧ h' = 1
      ·
       have HR : Hid (iteR f g h = ⟨0, 0, 0, false, f, true⟩) := by show _ = _; rw [HX1.out, iteK, if_neg (by simp [f0, e1]), if_neg f1, if_pos q1]
       have hq1 : (Op.equalIn 10000 168 (.agg #[.int .i64 g', .int .i64 h']) (.agg #[.int .i64 0, .int .i64 1])).run Tryz.prog w = .ok true w := (hq g' h' 0 1).trans (by simp [q1])
       clear f0 e1 f1 q1 hq
       go_wp2_with fail
       refine bodyPost_ret (results_tmp6 rfl _ _ _) rfl ?_
       exact ⟨by rw [HR.out]; rfl, rfl⟩
      ·
       have hq1 : (Op.equalIn 10000 168 (.agg #[.int .i64 g', .int .i64 h']) (.agg #[.int .i64 0, .int .i64 1])).run Tryz.prog w = .ok false w := (hq g' h' 0 1).trans (by simp [q1])
       by_cases q2 : g' = 1 ∧ h' = 0
       ·
        have HR : Hid (iteR f g h = ⟨0, 0, 0, false, enot f, true⟩) := by show _ = _; rw [HX1.out, iteK, if_neg (by simp [f0, e1]), if_neg f1, if_neg q1, if_pos q2]
        have hq2 : (Op.equalIn 10000 168 (.agg #[.int .i64 g', .int .i64 h']) (.agg #[.int .i64 1, .int .i64 0])).run Tryz.prog w = .ok true w := (hq g' h' 1 0).trans (by simp [q2])
        clear f0 e1 f1 q1 hq q2
        go_wp2_with (go_at_call 102; refine (HN.out _).mono ?_; rintro x w' ⟨rfl, rfl⟩)
        refine bodyPost_ret (results_tmp6 rfl _ _ _) rfl ?_
        exact ⟨by rw [HR.out]; rfl, rfl⟩
       ·
        have hq2 : (Op.equalIn 10000 168 (.agg #[.int .i64 g', .int .i64 h']) (.agg #[.int .i64 1, .int .i64 0])).run Tryz.prog w = .ok false w := (hq g' h' 1 0).trans (by simp [q2])
        have HR0 : Hid (iteR f g h = iteM f g' h') := by show _ = _; rw [HX1.out, iteK, if_neg (by simp [f0, e1]), if_neg f1, if_neg q1, if_neg q2]
        clear f0 e1 f1 q1 hq q2
        have HNE := Lib.hid (fun W : World => neg_any f W HFF.out)
        cases hb : eneg f with
        | true =>
          have HR : Hid (iteR f g h = ⟨enot f, eflip h' (eneg h'), eflip g' (eneg h'), eneg h', 0, false⟩) := by show _ = _; rw [HR0.out, iteM, if_pos hb]
          rw [hb] at HNE
          clear hb
          go_wp2_with fail
          refine (HNE.out _).mono ?_
          rintro x w' ⟨rfl, rfl⟩
          go_wp2_with fail
          refine (HN.out _).mono ?_
          rintro x w' ⟨rfl, rfl⟩
          go_wp2_with fail
          refine (neg_any h' _ HH'.out).mono ?_
          rintro x w' ⟨rfl, rfl⟩
          go_wp2_with fail
          refine (flip_any h' _ _ HH'.out).mono ?_
          rintro x w' ⟨rfl, rfl⟩
          go_wp2_with fail
          refine (flip_any g' _ _ HG'.out).mono ?_
          rintro x w' ⟨rfl, rfl⟩
          go_wp2_with fail
          refine bodyPost_ret (results_tmp6 rfl _ _ _) rfl ?_
          exact ⟨by rw [HR.out]; rfl, rfl⟩
        | false =>
          have HR : Hid (iteR f g h = ⟨f, eflip g' (eneg g'), eflip h' (eneg g'), eneg g', 0, false⟩) := by show _ = _; rw [HR0.out, iteM, if_neg (by simp [hb])]
          rw [hb] at HNE
          clear hb
          go_wp2_with fail
          refine (HNE.out _).mono ?_
          rintro x w' ⟨rfl, rfl⟩
          go_wp2_with fail
          refine (neg_any g' _ HG'.out).mono ?_
          rintro x w' ⟨rfl, rfl⟩
          go_wp2_with fail
          refine (flip_any g' _ _ HG'.out).mono ?_
          rintro x w' ⟨rfl, rfl⟩
          go_wp2_with fail
          refine (flip_any h' _ _ HH'.out).mono ?_
          rintro x w' ⟨rfl, rfl⟩
          go_wp2_with fail
          refine bodyPost_ret (results_tmp6 rfl _ _ _) rfl ?_
          exact ⟨by rw [HR.out]; rfl, rfl⟩
end Go.Proofs.YtchliiaknmknhaaGreat

namespace Go.Proofs.YtchliiaknmknhaaGreat
def HalfIn (e f g h : Nat) : Prop := e / 2 = 0 ∨ e / 2 = f / 2 ∨ e / 2 = g / 2 ∨ e / 2 = h / 2
def iteB (a b c : Bool) : Bool := if a then b else c
section
variable {V : Nat → BF} (hV : ∀ ρ, V 0 ρ = true)
theorem ef_zero (hV : ∀ ρ, V 0 ρ = true) (ρ : Nat → Bool) : ef V 0 ρ = true := by simp [ef, hV]
theorem ef_one (hV : ∀ ρ, V 0 ρ = true) (ρ : Nat → Bool) : ef V 1 ρ = false := by simp [ef, hV]
theorem sw1_ef (hV : ∀ ρ, V 0 ρ = true) (f g : Nat) (h : Bool) (ρ : Nat → Bool) : iteB (ef V f ρ) (ef V (sw1 f g) ρ) h = iteB (ef V f ρ) (ef V g ρ) h := by
 unfold sw1
 by_cases e1 : g = f
 ·
  subst e1; rw [if_pos rfl, ef_zero hV]; unfold iteB; cases ef V g ρ <;> rfl
 ·
  by_cases e2 : g = enot f
  ·
   subst e2; rw [if_neg e1, if_pos rfl, ef_enot, ef_one hV]; unfold iteB; cases ef V f ρ <;> rfl
  ·
   rw [if_neg e1, if_neg e2]
end
theorem sw2_ef {V : Nat → BF} (hV : ∀ ρ, V 0 ρ = true) (f h : Nat) (g : Bool) (ρ : Nat → Bool) : iteB (ef V f ρ) g (ef V (sw2 f h) ρ) = iteB (ef V f ρ) g (ef V h ρ) := by
 unfold sw2
 by_cases e1 : h = f
 ·
  subst e1; rw [if_pos rfl, ef_one hV]; unfold iteB; cases ef V h ρ <;> rfl
 ·
  by_cases e2 : h = enot f
  ·
   subst e2; rw [if_neg e1, if_pos rfl, ef_enot, ef_zero hV]; unfold iteB; cases ef V f ρ <;> rfl
  ·
   rw [if_neg e1, if_neg e2]
theorem sw1_half (f g : Nat) : sw1 f g / 2 = 0 ∨ sw1 f g / 2 = g / 2 := by unfold sw1; split <;> (try split) <;> simp
theorem sw2_half (f g : Nat) : sw2 f g / 2 = 0 ∨ sw2 f g / 2 = g / 2 := by unfold sw2; split <;> (try split) <;> simp
theorem iteR_done {f g h : Nat} (hd : (iteR f g h).dn = true) : HalfIn (iteR f g h).r f g h ∧ ∀ {V : Nat → BF}, (∀ ρ, V 0 ρ = true) → ∀ ρ, ef V (iteR f g h).r ρ = iteB (ef V f ρ) (ef V g ρ) (ef V h ρ) := by
 have q1 := sw1_half f g
 have q2 := sw2_half f h
 have key : ∀ {V : Nat → BF}, (∀ ρ, V 0 ρ = true) → ∀ ρ, iteB (ef V f ρ) (ef V g ρ) (ef V h ρ) = iteB (ef V f ρ) (ef V (sw1 f g) ρ) (ef V (sw2 f h) ρ) := fun hV ρ => by rw [sw1_ef hV, sw2_ef hV]
 unfold iteR at hd ⊢
 generalize sw1 f g = g' at *
 generalize sw2 f h = h' at *
 unfold iteK at hd ⊢
 by_cases e1 : f = 0 ∨ g' = h'
 ·
  simp only [if_pos e1]
  refine ⟨by unfold HalfIn; omega, fun hV ρ => ?_⟩
  rw [key hV]
  rcases e1 with e | e
  ·
   subst e; rw [ef_zero hV]; rfl
  ·
   subst e; unfold iteB; split <;> rfl
 ·
  simp only [if_neg e1] at hd ⊢
  by_cases e2 : f = 1
  ·
   simp only [if_pos e2]
   refine ⟨by unfold HalfIn; omega, fun hV ρ => ?_⟩
   rw [key hV]; subst e2; rw [ef_one hV]; rfl
  ·
   simp only [if_neg e2] at hd ⊢
   by_cases e3 : g' = 0 ∧ h' = 1
   ·
    simp only [if_pos e3]
    refine ⟨by unfold HalfIn; omega, fun hV ρ => ?_⟩
    rw [key hV, e3.1, e3.2, ef_one hV, ef_zero hV]; unfold iteB; cases ef _ f ρ <;> rfl
   ·
    simp only [if_neg e3] at hd ⊢
    by_cases e4 : g' = 1 ∧ h' = 0
    ·
     simp only [if_pos e4]
     have := enot_half f
     refine ⟨by unfold HalfIn; omega, fun hV ρ => ?_⟩
     rw [key hV, e4.1, e4.2, ef_one hV, ef_zero hV, ef_enot]; unfold iteB; cases ef _ f ρ <;> rfl
    ·
     simp only [if_neg e4] at hd
     unfold iteM at hd
     split at hd <;> cases hd
theorem iteR_more {f g h : Nat} (hd : (iteR f g h).dn = false) : HalfIn (iteR f g h).a f g h ∧ HalfIn (iteR f g h).b f g h ∧ HalfIn (iteR f g h).c f g h ∧ (iteR f g h).a / 2 ≠ 0 ∧
 ∀ {V : Nat → BF}, (∀ ρ, V 0 ρ = true) → ∀ ρ, iteB (ef V f ρ) (ef V g ρ) (ef V h ρ) = ((iteR f g h).n != iteB (ef V (iteR f g h).a ρ) (ef V (iteR f g h).b ρ) (ef V (iteR f g h).c ρ)) := by
 have q1 := sw1_half f g
 have q2 := sw2_half f h
 have key : ∀ {V : Nat → BF}, (∀ ρ, V 0 ρ = true) → ∀ ρ, iteB (ef V f ρ) (ef V g ρ) (ef V h ρ) = iteB (ef V f ρ) (ef V (sw1 f g) ρ) (ef V (sw2 f h) ρ) := fun hV ρ => by rw [sw1_ef hV, sw2_ef hV]
 unfold iteR at hd ⊢
 generalize sw1 f g = g' at *
 generalize sw2 f h = h' at *
 unfold iteK at hd ⊢
 by_cases e1 : f = 0 ∨ g' = h'
 ·
  simp [if_pos e1] at hd
 ·
  by_cases e2 : f = 1
  ·
   simp [if_neg e1, if_pos e2] at hd
  ·
   by_cases e3 : g' = 0 ∧ h' = 1
   ·
    simp [if_neg e1, if_neg e2, if_pos e3] at hd
   ·
    by_cases e4 : g' = 1 ∧ h' = 0
    ·
     simp [if_neg e1, if_neg e2, if_neg e3, if_pos e4] at hd
    ·
     simp only [if_neg e1, if_neg e2, if_neg e3, if_neg e4]
     unfold iteM
     by_cases e5 : eneg f = true
     ·
      simp only [if_pos e5]
      have a1 := enot_half f
      have a2 := eflip_half h' (eneg h')
      have a3 := eflip_half g' (eneg h')
      refine ⟨by unfold HalfIn; omega, by unfold HalfIn; omega, by unfold HalfIn; omega, by omega, fun hV ρ => ?_⟩
      rw [key hV, ef_enot, ef_eflip, ef_eflip]
      unfold iteB
      cases ef _ f ρ <;> cases eneg h' <;> simp
     ·
      simp only [if_neg e5]
      have a2 := eflip_half h' (eneg g')
      have a3 := eflip_half g' (eneg g')
      refine ⟨by unfold HalfIn; omega, by unfold HalfIn; omega, by unfold HalfIn; omega, by omega, fun hV ρ => ?_⟩
      rw [key hV, ef_eflip, ef_eflip]
      unfold iteB
      cases ef _ f ρ <;> cases eneg g' <;> simp
open Go.RowKit
def atV (d : StoreD) (f : Nat) : Value :=
 match nodesOf d (f / 2) with
 | some b => .tuple #[.int .i64 b.v, .int .i64 (eflip b.lo (eneg f) : Nat), .int .i64 (eflip b.hi (eneg f) : Nat), .bool true]
 | none => .tuple #[.int .i64 (-1), .int .i64 0, .int .i64 0, .bool false]
theorem storeAt_ok {o : Own} {w : World} {sb : Nat} {d : StoreD} {V : Nat → BF} (h : StoreAt o w sb d) (hlt : OwnLt o w) (hk : StoreOK d V) (f : Nat) (hf : okE (nodesOf d) f) :
 Calls Tryz.prog 91 #[.pointer (some ⟨sb, 0, none⟩), .int .i64 f] w fun x w' => x = .returned (atV d f) ∧ Below w.heap.size w w' := by
 obtain ⟨s, h⟩ := h
 have lt : ∀ e, okE (nodesOf d) e → e < eMax := fun e he => by have := h.edge_lt he; unfold eMax; omega
 cases hb : nodesOf d (f / 2) with
 | none =>
   have ht : d.pool.tk (enode f) = false := nodesOf_none hb
   have hz : d.pool.has (enode f) = rn0 := by unfold PoolD.has; rw [ht]; rfl
   refine (storeAt_any h hlt f (lt f hf) (by rw [hz]; decide) (by rw [hz]; decide)).mono ?_
   rintro x w' ⟨rfl, hb'⟩
   exact ⟨by simp [ht, atV, hb], hb'⟩
 | some b =>
   have hn := nodesOf_some hb
   have ht : d.pool.tk (enode f) = true := hn.1
   have hbn : bnOf (d.pool.has (enode f)) = b := hn.2.2
   have e1 : (d.pool.has (enode f)).v = b.v := by rw [← hbn]; rfl
   have e2 : (d.pool.has (enode f)).lo = b.lo := by rw [← hbn]; rfl
   have e3 : (d.pool.has (enode f)).hi = b.hi := by rw [← hbn]; rfl
   refine (storeAt_any h hlt f (lt f hf) (by rw [e2]; exact lt _ (hk.dag.okLo _ _ hb)) (by rw [e3]; exact lt _ (hk.dag.okHi _ _ hb))).mono ?_
   rintro x w' ⟨rfl, hb'⟩
   exact ⟨by simp [ht, atV, hb, e1, e2, e3], hb'⟩
theorem StoreAt.below {o : Own} {w w' : World} {sb : Nat} {d : StoreD} (h : StoreAt o w sb d) (hlt : OwnLt o w) (hb : Below w.heap.size w w') : StoreAt o w' sb d := by
 obtain ⟨s, h⟩ := h; exact ⟨s, h.below hlt hb⟩
set_option maxRecDepth 100000 in
theorem ctxLevel_any {F : Phi} {o : Own} {w : World} {xb mb : Nat} {m : ManD} {V : Nat → BF} (h : ManAt F o w mb m) (hx : CtxAt o w xb mb) (hk : StoreOK m.d V) (v : Int) :
 Calls Tryz.prog 35 #[.pointer (some ⟨xb, 0, none⟩), .int .i64 v] w fun x w' => x = .returned (.int .i64 (levelZ m.d v)) ∧ w = w' := by
 obtain ⟨s, h⟩ := h
 obtain ⟨st, hst⟩ := h.store
 obtain ⟨c0, c1, c2, c3, c4, c5, f0⟩ := cells6 h.blk
 have HL := Lib.hid (storeLevelZ hst v (by rw [hst.len]; have := hk.small; omega))
 have cx := hx.cell
 clear h hst hx hk
 go_enter Tryz.func35, Tryz.ntmps35
 go_wp2_with fail
 refine HL.out.mono ?_
 rintro x w' ⟨rfl, rfl⟩
 go_wp2_with fail
 go_ret
 exact ⟨rfl, rfl⟩
def cofs (d : StoreD) (f : Nat) (v : Int) : Nat × Nat :=
 match nodesOf d (f / 2) with
 | some b => if (b.v : Int) = v then (eflip b.lo (eneg f), eflip b.hi (eneg f)) else (f, f)
 | none => (f, f)
set_option maxRecDepth 100000 in
theorem ctxSplit_any {F : Phi} {o : Own} {w : World} {xb mb : Nat} {m : ManD} {V : Nat → BF} (h : ManAt F o w mb m) (hlt : OwnLt o w) (hx : CtxAt o w xb mb) (hk : StoreOK m.d V) (f : Nat) (hf : okE (nodesOf m.d) f) (v : Int) :
 Calls Tryz.prog 36 #[.pointer (some ⟨xb, 0, none⟩), .int .i64 f, .int .i64 v] w fun x w' => x = .returned (.tuple #[.int .i64 (cofs m.d f v).1, .int .i64 (cofs m.d f v).2]) ∧ Below w.heap.size w w' := by
 obtain ⟨s, h⟩ := h
 obtain ⟨c0, c1, c2, c3, c4, c5, f0⟩ := cells6 h.blk
 have HA := Lib.hid (storeAt_ok h.store hlt hk f hf)
 have cx := hx.cell
 clear h hx hk hlt hf
 unfold atV at HA
 unfold cofs
 cases hb : nodesOf m.d (f / 2) with
 | none =>
   rw [hb] at HA
   clear hb
   go_enter Tryz.func36, Tryz.ntmps36
   go_wp2_with fail
   refine HA.out.mono ?_
   rintro x w' ⟨rfl, hb⟩
   have HB := Lib.hid hb
   clear hb
   go_wp2_with fail
   go_ret2
   exact ⟨rfl, HB.out⟩
 | some b =>
   rw [hb] at HA
   clear hb
   by_cases e : (b.v : Int) = v
   ·
    subst e
    have HE : Hid ((if (b.v : Int) = b.v then (eflip b.lo (eneg f), eflip b.hi (eneg f)) else (f, f)) = (eflip b.lo (eneg f), eflip b.hi (eneg f))) := by show _ = _; rw [if_pos rfl]
    go_enter Tryz.func36, Tryz.ntmps36
    go_wp2_with fail
    refine HA.out.mono ?_
    rintro x w' ⟨rfl, hb⟩
    have HB := Lib.hid hb
    clear hb
    go_wp2_with fail
    go_ret2
    exact ⟨by first | rfl | (rw [HE.out]; rfl), HB.out⟩
   ·
    have HE : Hid ((if (b.v : Int) = v then (eflip b.lo (eneg f), eflip b.hi (eneg f)) else (f, f)) = (f, f)) := by show _ = _; rw [if_neg e]
    have H1 : ((b.v : Int) == v) = false := by simpa using e
    go_enter Tryz.func36, Tryz.ntmps36
    go_wp2_with fail
    refine HA.out.mono ?_
    rintro x w' ⟨rfl, hb⟩
    have HB := Lib.hid hb
    clear hb
    go_wp2_with fail
    go_ret2
    exact ⟨by first | rfl | (rw [HE.out]; rfl), HB.out⟩
def TopS (d : StoreD) (zs : List Nat) (top least : Int) : Prop :=
 (top = -1 ∧ least = 0 ∧ ∀ e ∈ zs, nodesOf d (e / 2) = none) ∨
 ∃ v : Nat, top = v ∧ least = (levN d v : Nat) ∧ v < d.vars.length ∧ (∃ e ∈ zs, ∃ b, nodesOf d (e / 2) = some b ∧ b.v = v) ∧ ∀ e ∈ zs, levN d v ≤ lvE d.vars.length (levN d) (nodesOf d) e
theorem TopS.none {d : StoreD} {zs : List Nat} {top least : Int} {e : Nat} (h : TopS d zs top least) (hl : ∀ v, v < d.vars.length → levN d v < d.vars.length) (he : nodesOf d (e / 2) = none) : TopS d (zs ++ [e]) top least := by
 rcases h with ⟨h1, h2, h3⟩ | ⟨v, h1, h2, h3, ⟨e0, he0, hb⟩, h5⟩
 ·
  refine .inl ⟨h1, h2, fun x hx => ?_⟩
  rcases List.mem_append.1 hx with hx | hx
  ·
   exact h3 x hx
  ·
   simp at hx; subst hx; exact he
 ·
  refine .inr ⟨v, h1, h2, h3, ⟨e0, by simp [he0], hb⟩, fun x hx => ?_⟩
  rcases List.mem_append.1 hx with hx | hx
  ·
   exact h5 x hx
  ·
   simp at hx; subst hx; unfold lvE; rw [he]; exact Nat.le_of_lt (hl v h3)
theorem TopS.keep {d : StoreD} {zs : List Nat} {v : Nat} {least : Int} {e : Nat} {b : BN} (h : TopS d zs v least) (he : nodesOf d (e / 2) = some b) (hle : ¬ ((levN d b.v : Nat) : Int) < least) : TopS d (zs ++ [e]) v least := by
 rcases h with ⟨h1, h2, h3⟩ | ⟨u, h1, h2, h3, ⟨e0, he0, hb⟩, h5⟩
 ·
  omega
 ·
  obtain rfl : v = u := by omega
  refine .inr ⟨v, rfl, h2, h3, ⟨e0, by simp [he0], hb⟩, fun x hx => ?_⟩
  rcases List.mem_append.1 hx with hx | hx
  ·
   exact h5 x hx
  ·
   simp at hx; subst hx; unfold lvE; rw [he]; dsimp only; omega
theorem TopS.take {d : StoreD} {zs : List Nat} {top least : Int} {e : Nat} {b : BN} (h : TopS d zs top least) (hv : b.v < d.vars.length) (hl : ∀ v, v < d.vars.length → levN d v < d.vars.length) (he : nodesOf d (e / 2) = some b) (hle : top < 0 ∨ ((levN d b.v : Nat) : Int) < least) : TopS d (zs ++ [e]) b.v (levN d b.v : Nat) := by
 refine .inr ⟨b.v, rfl, rfl, hv, ⟨e, by simp, b, he, rfl⟩, fun x hx => ?_⟩
 rcases List.mem_append.1 hx with hx | hx
 ·
  rcases h with ⟨h1, h2, h3⟩ | ⟨u, h1, h2, h3, ⟨e0, he0, hb⟩, h5⟩
  ·
   unfold lvE; rw [h3 x hx]; exact Nat.le_of_lt (hl _ hv)
  ·
   have := h5 x hx; omega
 ·
  simp at hx; subst hx; unfold lvE; rw [he]; exact Nat.le_refl _
theorem levelZ_of {d : StoreD} {v : Nat} (h : v < d.level.length) : levelZ d v = (levN d v : Nat) := by unfold levelZ; rw [if_pos ⟨by omega, by omega⟩]; rfl
set_option maxRecDepth 100000 in
set_option maxHeartbeats 800000 in
theorem ctxTop_any {F : Phi} {o : Own} {w : World} {xb mb : Nat} {m : ManD} {V : Nat → BF} (h : ManAt F o w mb m) (hlt : OwnLt o w) (hx : CtxAt o w xb mb) (hk : StoreOK m.d V) (zs : List Nat) (hz : ∀ e ∈ zs, okE (nodesOf m.d) e) (a : Option Addr) (c : Nat) (hzs : IntsAt w a (zs.map Int.ofNat)) :
 Calls Tryz.prog 33 #[.pointer (some ⟨xb, 0, none⟩), .slice a zs.length c] w fun x w' => ∃ top least, x = .returned (.int .i64 top) ∧ TopS m.d zs top least ∧ Below w.heap.size w w' := by
 obtain ⟨s, h⟩ := h
 obtain ⟨st, hst⟩ := h.store
 have hlen : m.d.level.length = m.d.vars.length := hst.len
 have HM := Lib.hid h
 have HX := Lib.hid hx
 have HLT := Lib.hid hlt
 have HK := Lib.hid hk
 have HZ := Lib.hid hz
 have HZS := Lib.hid hzs
 have hzl := hzs.len
 simp only [List.length_map] at hzl
 clear h hst hx hlt hk hz hzs
 go_enter Tryz.func33, Tryz.ntmps33
 go_wp2_with fail
 go_loopw [5, 6, 15] (fun s5 s6 i wr => ∃ (k : Nat) (top least : Int), k ≤ zs.length ∧ i = .int .i64 k ∧ s5 = .int .i64 top ∧ s6 = .int .i64 least ∧ TopS m.d (zs.take k) top least ∧ Below w.heap.size w wr) (fun _ _ i _ => zs.length - (intOf i).toNat)
 case atStart => exact ⟨0, -1, 0, by omega, rfl, rfl, rfl, .inl ⟨rfl, rfl, by simp⟩, Below.refl _ _⟩
 case round =>
  obtain ⟨k, top, least, hk, rfl, rfl, rfl, hT, hB⟩ := hrel
  by_cases hkl : k < zs.length
  ·
   obtain ⟨b0, off, ha, hcell⟩ := (HZS.out.below hB).cells k (by simpa using hkl)
   subst ha
   have he : at0 (zs.map Int.ofNat) k = (zs[k] : Int) := by rw [at0_eq (by simpa using hkl)]; simp
   rw [he] at hcell
   have hmem : zs[k] ∈ zs := List.getElem_mem hkl
   have htk : zs.take (k + 1) = zs.take k ++ [zs[k]] := by rw [List.take_add_one, List.getElem?_eq_getElem hkl]; rfl
   have hok := HZ.out _ hmem
   obtain ⟨f, hf⟩ : ∃ f, f = zs[k] := ⟨_, rfl⟩
   rw [← hf] at hcell hok htk
   obtain ⟨c0, c1, c2, c3, c4, c5, f0⟩ := cells6 ((HM.out.below HLT.out hB).blk)
   have cx : wr.cell? ⟨xb, 0, none⟩ = _ := (hB.cell (p := ⟨xb, 0, none⟩) (lt_of_cell HX.out.cell)).trans HX.out.cell
   have HA := Lib.hid (storeAt_ok ((HM.out.below HLT.out hB).store) (HLT.out.mono hB.size) HK.out f hok)
   have HTK := Lib.hid htk
   have HT := Lib.hid hT
   have HB := Lib.hid hB
   have hkl' : (k : Int) < zs.length := by omega
   clear hf hmem he hT hB hok htk
   unfold atV at HA
   have HLV : Hid (∀ v, v < m.d.vars.length → levN m.d v < m.d.vars.length) := Lib.hid HK.out.dag.lt
   have HCL := Lib.hid (fun W hb v => ctxLevel_any ⟨s, HM.out.below HLT.out hb⟩ (o := o) (w := W) (xb := xb) (mb := mb) ⟨(hb.cell (p := ⟨xb, 0, none⟩) (lt_of_cell HX.out.cell)).trans HX.out.cell, HX.out.own⟩ HK.out v)
   cases hb : nodesOf m.d (f / 2) with
   | none =>
     rw [hb] at HA
     have HN := Lib.hid hb
     clear hb
     go_wp2_with fail
     refine HA.out.mono ?_
     rintro x w' ⟨rfl, hb2⟩
     have HB2 := Lib.hid (HB.out.trans (hb2.mono HB.out.size))
     clear hb2
     go_wp2_with fail
     go_roundw
     case rel => exact ⟨k + 1, top, least, by omega, by simp, rfl, rfl, by rw [HTK.out]; exact HT.out.none HLV.out HN.out, HB2.out⟩
     case measure => simp [intOf]; omega
   | some b =>
     rw [hb] at HA
     have HN := Lib.hid hb
     have hbv := HK.out.dag.var _ _ hb
     have hlz : levelZ m.d b.v = (levN m.d b.v : Nat) := levelZ_of (by rw [hlen]; exact hbv)
     have HBV := Lib.hid hbv
     have HCL2 := Lib.hid (fun W hb => HCL.out W hb b.v)
     rw [hlz] at HCL2
     clear hb hbv hlz HCL
     by_cases ht : top < 0
     ·
      have HTT := Lib.hid ht
      go_wp2_with fail
      refine HA.out.mono ?_
      rintro x w' ⟨rfl, hb2⟩
      have HB2 := Lib.hid (HB.out.trans (hb2.mono HB.out.size))
      clear hb2
      go_wp2_with fail
      refine (HCL2.out _ HB2.out).mono ?_
      rintro x w'' ⟨rfl, rfl⟩
      go_wp2_with fail
      go_roundw
      case rel => exact ⟨k + 1, _, _, by omega, by simp, rfl, rfl, by rw [HTK.out]; exact HT.out.take HBV.out HLV.out HN.out (.inl HTT.out), HB2.out⟩
      case measure => simp [intOf]; omega
     ·
      by_cases hle : ((levN m.d b.v : Nat) : Int) < least
      ·
       have HLE := Lib.hid hle
       go_wp2_with fail
       refine HA.out.mono ?_
       rintro x w' ⟨rfl, hb2⟩
       have HB2 := Lib.hid (HB.out.trans (hb2.mono HB.out.size))
       clear hb2
       go_wp2_with fail
       refine (HCL2.out _ HB2.out).mono ?_
       rintro x w'' ⟨rfl, rfl⟩
       go_wp2_with fail
       refine (HCL2.out _ HB2.out).mono ?_
       rintro x w'' ⟨rfl, rfl⟩
       go_wp2_with fail
       go_roundw
       case rel => exact ⟨k + 1, _, _, by omega, by simp, rfl, rfl, by rw [HTK.out]; exact HT.out.take HBV.out HLV.out HN.out (.inr HLE.out), HB2.out⟩
       case measure => simp [intOf]; omega
      ·
       obtain ⟨tn, htn⟩ : ∃ tn : Nat, top = tn := ⟨top.toNat, by omega⟩
       subst htn
       have HLE := Lib.hid hle
       go_wp2_with fail
       refine HA.out.mono ?_
       rintro x w' ⟨rfl, hb2⟩
       have HB2 := Lib.hid (HB.out.trans (hb2.mono HB.out.size))
       clear hb2
       go_wp2_with fail
       refine (HCL2.out _ HB2.out).mono ?_
       rintro x w'' ⟨rfl, rfl⟩
       go_wp2_with fail
       go_roundw
       case rel => exact ⟨k + 1, _, _, by omega, by simp, rfl, rfl, by rw [HTK.out]; exact HT.out.keep HN.out (by have := HLE.out; omega), HB2.out⟩
       case measure => simp [intOf]; omega
  ·
   obtain rfl : k = zs.length := by omega
   have HT := Lib.hid hT
   have HB := Lib.hid hB
   clear hT hB
   go_wp2_with fail
   go_ret
   exact ⟨top, least, rfl, by have := HT.out; rwa [List.take_length] at this, HB.out⟩
open Go.RowKit
def stopP (er : Int) (event : Bool) (ev : Ev) : Ending := .panicked [{ v := .iface 116 (.agg #[.int .i64 er, .bool event, .int .i64 ev.after, .int .i64 ev.kind, .int .i64 ev.level]), recovered := false }]
def ev0 : Ev := ⟨0, 0, 0⟩
def callsUp (c : Int) : Int := wrap64 (c + 1)
def MkErr (d : StoreD) (v : Int) (lo hi : Nat) (er : Int) : Prop :=
 (er = 9 ∧ ¬ (0 ≤ v ∧ v < d.vars.length)) ∨
 (er = 10 ∧ 0 ≤ v ∧ v < d.vars.length ∧ (lvE d.vars.length (levN d) (nodesOf d) lo ≤ levN d v.toNat ∨ lvE d.vars.length (levN d) (nodesOf d) hi ≤ levN d v.toNat)) ∨
 (er = 7 ∧ d.pool.many = d.pool.room)
def CtxMkPost (K : Law) (o : Own) (w : World) (mb : Nat) (m : ManD) (V : Nat → BF) (v : Int) (lo hi : Nat) (e : Ending) (w' : World) : Prop :=
 ∃ o' m' V', Step K o w mb m V o' w' m' V' ∧
  ((∃ ev, m.waits = ev :: m'.waits ∧ ev.after ≤ callsUp m.calls ∧ m'.calls = 0 ∧ m'.d = m.d ∧ V' = V ∧ e = stopP 0 true ev) ∨
   (m'.waits = m.waits ∧ m'.calls = callsUp m.calls ∧ (∀ ev ws, m.waits = ev :: ws → callsUp m.calls < ev.after) ∧
    ((∃ er, MkErr m.d v lo hi er ∧ m'.d = m.d ∧ V' = V ∧ e = stopP er false ev0) ∨
     (0 ≤ v ∧ v < m.d.vars.length ∧ ∃ r : Nat, e = .returned (.int .i64 r) ∧ okE (nodesOf m'.d) r ∧ ef V' r = iteF v.toNat (ef V hi) (ef V lo) ∧
      levN m.d v.toNat ≤ lvE m.d.vars.length (levN m'.d) (nodesOf m'.d) r ∧ m'.d.pool.many ≤ m.d.pool.many + 1))))
theorem Chg.ofDrewN {R : Role → Prop} {o o' : Own} {w w' : World} {n : Nat} (h : Chg R o o' (w.drewN n) w') : Chg R o o' w w' := ⟨h.os, h.tape, h.output, h.size, h.block, h.ext, h.new⟩
theorem belowOf {w w' : World} {n : Nat} (h : Below (w.drewN n).heap.size (w.drewN n) w') : Below w.heap.size w w' := ⟨h.os, h.tape, h.output, h.size, h.block⟩
theorem Chg.any {R : Role → Prop} {o o' : Own} {w w' : World} (h : Chg R o o' w w') : Chg (fun _ => True) o o' w w' := h.mono fun _ _ => trivial
set_option maxRecDepth 100000 in
set_option maxHeartbeats 1600000 in
theorem ctxMk_go {K : Law} {o : Own} {w : World} {xb mb : Nat} {m : ManD} {V : Nat → BF} (hK : LawOK K) (h : ManAt (K m.d V) o w mb m) (hlt : OwnLt o w) (hx : CtxAt o w xb mb) (hk : StoreOK m.d V) (v : Int) (lo hi : Nat) (hlo : okE (nodesOf m.d) lo) (hhi : okE (nodesOf m.d) hi)
 (hdue : ∀ ev ws, m.waits = ev :: ws → callsUp m.calls < ev.after) :
 Calls Tryz.prog 26 #[.pointer (some ⟨xb, 0, none⟩), .int .i64 v, .int .i64 lo, .int .i64 hi] w (CtxMkPost K o w mb m V v lo hi) := by
 obtain ⟨s, h⟩ := h
 obtain ⟨c0, c1, c2, c3, c4, c5, f0⟩ := cells6 h.blk
 have cx := hx.cell
 obtain ⟨W, hW⟩ : ∃ W, W = w.setCell ⟨mb, 5, none⟩ (.int .i64 (callsUp m.calls)) := ⟨_, rfl⟩
 have hMW : ManIn (K m.d V) o W mb { m with calls := callsUp m.calls } s := by rw [hW]; exact h.field rfl rfl rfl rfl rfl h.waits rfl
 have hCW : Chg (fun _ => True) o o w W := by rw [hW]; exact (Chg.refl _ o w).setCell (p := ⟨mb, 5, none⟩) h.own trivial _
 have hLW : OwnLt o W := hlt.mono hCW.size
 have hXW := hx.chg hCW
 obtain ⟨d0, d1, d2, d3, d4, d5, g0⟩ := cells6 hMW.blk
 have dx := hXW.cell
 obtain ⟨aw, cw, hvw, hnil⟩ := hMW.waits.slice
 have hwl : (m.waits = [] ∧ True) ∨ ∃ ev ws, m.waits = ev :: ws := by cases m.waits with
  | nil => exact .inl ⟨rfl, trivial⟩
  | cons ev ws => exact .inr ⟨ev, ws, rfl⟩
 have HK := Lib.hid hK
 have HCW := Lib.hid hCW
 have HLW := Lib.hid hLW
 have HMW := Lib.hid hMW
 have HOK := Lib.hid hk
 have HMK : Hid (∀ n, Calls Tryz.prog 89 #[.pointer (some ⟨s.sb, 0, none⟩), .int .i64 v, .int .i64 lo, .int .i64 hi] (W.drewN n) (MkPost o (W.drewN n) s.sb m.d V v lo hi)) :=
  Lib.hid fun n => storeMk_any (hMW.store.below hLW (below_draw W n)) (hLW.mono (below_draw W n).size) hk v lo hi hlo hhi
 have HDUE := Lib.hid hdue
 have HW : Hid (w.setCell ⟨mb, 5, none⟩ (.int .i64 (wrap64 (m.calls + 1))) = W) := Lib.hid hW.symm
 have hneg : 5 ≠ 4 := by decide
 clear h hlt hx hk hlo hhi hMW hCW hLW hXW hW hdue
 go_enter Tryz.func26, Tryz.ntmps26
 go_upto_region 3 with fail
 rw [HW.out]
 obtain ⟨cu, hcu⟩ : ∃ cu, cu = wrap64 (m.calls + 1) := ⟨_, rfl⟩
 have d5' : W.cell? ⟨mb, 5, none⟩ = some (.int .i64 cu) := by rw [hcu]; exact d5
 have HCU : Hid (callsUp m.calls = cu) := Lib.hid hcu.symm
 rw [← hcu]
 clear c0 c1 c2 c3 c4 c5 f0 cx hneg d5 hcu
 have STE : Hid (∀ w', Below W.heap.size W w' → Step K o w mb m V o w' { m with calls := callsUp m.calls } V) :=
  Lib.hid fun w' hb => ⟨⟨s, HMW.out.below HLW.out hb⟩, HLW.out.mono hb.size, HCW.out.trans (Chg.of_below hb _ _), HOK.out, Ext.refl _ _, rfl, rfl⟩
 rcases hwl with ⟨hw0, _⟩ | ⟨ev, ws, hw1⟩
 ·
  rw [hvw] at d4
  dsimp only at d4
  rw [hw0] at d4
  have d4' : W.cell? ⟨mb, 4, none⟩ = some (.slice aw 0 cw) := d4
  clear d4 hw0 hvw hnil
  go_quiet (fail)
  go_wp2_with fail
  refine (HMK.out nq).mono ?_
  rintro x w' (⟨q1, rfl, q2⟩ | ⟨q1, q2, q3, rfl, q4⟩ | ⟨q1, rfl, q2⟩ | ⟨q1, q2, r, d', V', o', rfl, q4, q5, q6, q7, q8, q9, q10, q11, q12⟩)
  ·
   have H1 := Lib.hid (STE.out w' (belowOf q2))
   have H2 : Hid (MkErr m.d v lo hi 9) := Lib.hid (.inl ⟨rfl, q1⟩)
   clear q1 q2
   go_wp2_with fail
   refine ⟨rfl, o, _, V, H1.out, .inr ⟨rfl, rfl, HDUE.out, .inl ⟨9, H2.out, rfl, rfl, rfl⟩⟩⟩
  ·
   have H1 := Lib.hid (STE.out w' (belowOf q4))
   have H2 : Hid (MkErr m.d v lo hi 10) := Lib.hid (.inr (.inl ⟨rfl, q1, q2, q3⟩))
   clear q1 q2 q3 q4
   go_wp2_with fail
   refine ⟨rfl, o, _, V, H1.out, .inr ⟨rfl, rfl, HDUE.out, .inl ⟨10, H2.out, rfl, rfl, rfl⟩⟩⟩
  ·
   have H1 := Lib.hid (STE.out w' (belowOf q2))
   have H2 : Hid (MkErr m.d v lo hi 7) := Lib.hid (.inr (.inr ⟨rfl, q1⟩))
   clear q1 q2
   go_wp2_with fail
   refine ⟨rfl, o, _, V, H1.out, .inr ⟨rfl, rfl, HDUE.out, .inl ⟨7, H2.out, rfl, rfl, rfl⟩⟩⟩
  ·
   have H1 : Hid (Step K o w mb m V o' w' { m with calls := callsUp m.calls, d := d' } V') := Lib.hid ⟨⟨s, (HMW.out.setStore HLW.out q4 q12.ofDrewN).mono fun op a b c r h => HK.out.ext _ _ _ _ _ _ _ _ _ HOK.out q6 q7 h⟩, q5, HCW.out.trans q12.ofDrewN.any, q6, q7, rfl, rfl⟩
   have H2 : Hid (_ ∧ _ ∧ _ ∧ _ ∧ _ ∧ _) := Lib.hid ⟨q1, q2, q8, q9, q10, q11⟩
   clear q1 q2 q4 q5 q6 q7 q8 q9 q10 q11 q12
   go_wp2_with fail
   go_ret
   obtain ⟨a1, a2, a3, a4, a5, a6⟩ := H2.out
   exact ⟨o', _, V', H1.out, .inr ⟨rfl, rfl, HDUE.out, .inr ⟨a1, a2, r, rfl, a3, a4, a5, a6⟩⟩⟩
 ·
  have HWA := HMW.out.waits
  have e0 : ({ m with calls := callsUp m.calls } : ManD).waits = ev :: ws := hw1
  rw [e0] at HWA
  obtain ⟨g, off, cap, hvs, hog, hwc, hcm, k0, k1, k2, _⟩ := HWA.first
  have hlt : ¬ ev.after ≤ cu := by have := HDUE.out ev ws hw1; rw [HCU.out] at this; omega
  rw [hvs] at d4
  have hp : (0 : Int) < ((ws.length + 1 : Nat) : Int) := by omega
  clear hvw hvs hnil HWA e0 hw1 hog
  go_quiet (fail)
  go_wp2_with fail
  refine (HMK.out nq).mono ?_
  rintro x w' (⟨q1, rfl, q2⟩ | ⟨q1, q2, q3, rfl, q4⟩ | ⟨q1, rfl, q2⟩ | ⟨q1, q2, r, d', V', o', rfl, q4, q5, q6, q7, q8, q9, q10, q11, q12⟩)
  ·
   have H1 := Lib.hid (STE.out w' (belowOf q2))
   have H2 : Hid (MkErr m.d v lo hi 9) := Lib.hid (.inl ⟨rfl, q1⟩)
   clear q1 q2
   go_wp2_with fail
   refine ⟨rfl, o, _, V, H1.out, .inr ⟨rfl, rfl, HDUE.out, .inl ⟨9, H2.out, rfl, rfl, rfl⟩⟩⟩
  ·
   have H1 := Lib.hid (STE.out w' (belowOf q4))
   have H2 : Hid (MkErr m.d v lo hi 10) := Lib.hid (.inr (.inl ⟨rfl, q1, q2, q3⟩))
   clear q1 q2 q3 q4
   go_wp2_with fail
   refine ⟨rfl, o, _, V, H1.out, .inr ⟨rfl, rfl, HDUE.out, .inl ⟨10, H2.out, rfl, rfl, rfl⟩⟩⟩
  ·
   have H1 := Lib.hid (STE.out w' (belowOf q2))
   have H2 : Hid (MkErr m.d v lo hi 7) := Lib.hid (.inr (.inr ⟨rfl, q1⟩))
   clear q1 q2
   go_wp2_with fail
   refine ⟨rfl, o, _, V, H1.out, .inr ⟨rfl, rfl, HDUE.out, .inl ⟨7, H2.out, rfl, rfl, rfl⟩⟩⟩
  ·
   have H1 : Hid (Step K o w mb m V o' w' { m with calls := callsUp m.calls, d := d' } V') := Lib.hid ⟨⟨s, (HMW.out.setStore HLW.out q4 q12.ofDrewN).mono fun op a b c r h => HK.out.ext _ _ _ _ _ _ _ _ _ HOK.out q6 q7 h⟩, q5, HCW.out.trans q12.ofDrewN.any, q6, q7, rfl, rfl⟩
   have H2 : Hid (_ ∧ _ ∧ _ ∧ _ ∧ _ ∧ _) := Lib.hid ⟨q1, q2, q8, q9, q10, q11⟩
   clear q1 q2 q4 q5 q6 q7 q8 q9 q10 q11 q12
   go_wp2_with fail
   go_ret
   obtain ⟨a1, a2, a3, a4, a5, a6⟩ := H2.out
   exact ⟨o', _, V', H1.out, .inr ⟨rfl, rfl, HDUE.out, .inr ⟨a1, a2, r, rfl, a3, a4, a5, a6⟩⟩⟩
open Go.RowKit
set_option maxRecDepth 100000 in
set_option maxHeartbeats 1600000 in
theorem ctxMk_due {K : Law} {o : Own} {w : World} {xb mb : Nat} {m : ManD} {V : Nat → BF} (h : ManAt (K m.d V) o w mb m) (hlt : OwnLt o w) (hx : CtxAt o w xb mb) (hk : StoreOK m.d V) (v : Int) (lo hi : Nat) {ev : Ev} {ws : List Ev}
 (hw1 : m.waits = ev :: ws) (hdue : ev.after ≤ callsUp m.calls) :
 Calls Tryz.prog 26 #[.pointer (some ⟨xb, 0, none⟩), .int .i64 v, .int .i64 lo, .int .i64 hi] w (CtxMkPost K o w mb m V v lo hi) := by
 obtain ⟨s, h⟩ := h
 obtain ⟨c0, c1, c2, c3, c4, c5, f0⟩ := cells6 h.blk
 have cx := hx.cell
 obtain ⟨W, hW⟩ : ∃ W, W = w.setCell ⟨mb, 5, none⟩ (.int .i64 (callsUp m.calls)) := ⟨_, rfl⟩
 have hMW : ManIn (K m.d V) o W mb { m with calls := callsUp m.calls } s := by rw [hW]; exact h.field rfl rfl rfl rfl rfl h.waits rfl
 have hCW : Chg (fun _ => True) o o w W := by rw [hW]; exact (Chg.refl _ o w).setCell (p := ⟨mb, 5, none⟩) h.own trivial _
 have hLW : OwnLt o W := hlt.mono hCW.size
 obtain ⟨d0, d1, d2, d3, d4, d5, g0⟩ := cells6 hMW.blk
 have hmb : mb < W.heap.size := lt_of_cell d0
 have hWA := hMW.waits
 have e0 : ({ m with calls := callsUp m.calls } : ManD).waits = ev :: ws := hw1
 rw [e0] at hWA
 obtain ⟨g, off, cap, hvs, hog, hwc, hcm, k0, k1, k2, hrest⟩ := hWA.first
 rw [hvs] at d4
 have hp : (0 : Int) < ((ws.length + 1 : Nat) : Int) := by omega
 have HCW := Lib.hid hCW
 have HLW := Lib.hid hLW
 have HMW := Lib.hid hMW
 have HOK := Lib.hid hk
 have HRE := Lib.hid hrest
 have HW1 := Lib.hid hw1
 have HD := Lib.hid hdue
 have HW : Hid (w.setCell ⟨mb, 5, none⟩ (.int .i64 (wrap64 (m.calls + 1))) = W) := Lib.hid hW.symm
 clear h hlt hx hk hMW hCW hLW hW hrest hWA e0 hvs hog hw1
 go_enter Tryz.func26, Tryz.ntmps26
 go_upto_region 3 with fail
 rw [HW.out]
 obtain ⟨cu, hcu⟩ : ∃ cu, cu = wrap64 (m.calls + 1) := ⟨_, rfl⟩
 have d5' : W.cell? ⟨mb, 5, none⟩ = some (.int .i64 cu) := by rw [hcu]; exact d5
 have hle : ev.after ≤ cu := by rw [hcu]; exact hdue
 rw [← hcu]
 clear c0 c1 c2 c3 c4 c5 f0 cx d5 hcu hdue
 go_quiet (fail)
 obtain ⟨W2, hW2⟩ : ∃ W2, W2 = W.drewN nq := ⟨_, rfl⟩
 have hb2 : Below W.heap.size W W2 := by rw [hW2]; exact below_draw W nq
 rw [← hW2]
 have HMW2 := Lib.hid (HMW.out.below HLW.out hb2)
 have HLW2 := Lib.hid (HLW.out.mono hb2.size)
 have HCW2 := Lib.hid (HCW.out.trans (Chg.of_below hb2 _ _))
 have d4' : W2.cell? ⟨mb, 4, none⟩ = _ := (hb2.cell (p := ⟨mb, 4, none⟩) hmb).trans d4
 have hgl : g < W.heap.size := lt_of_cell k0
 have l0 : W2.cell? ⟨g, off, none⟩ = _ := (hb2.cell (p := ⟨g, off, none⟩) hgl).trans k0
 have l1 : W2.cell? ⟨g, off + 1, none⟩ = _ := (hb2.cell (p := ⟨g, off + 1, none⟩) hgl).trans k1
 have l2 : W2.cell? ⟨g, off + 2, none⟩ = _ := (hb2.cell (p := ⟨g, off + 2, none⟩) hgl).trans k2
 have HRE2 := Lib.hid (HRE.out.keep (w' := W2) (o' := o) (fun q hq => hb2.block q (HLW.out q _ hq)) (fun _ h => h))
 clear hW2 k0 k1 k2 d0 d1 d2 d3 d4 d5' g0 hb2 HMW HLW HCW HRE HW
 obtain ⟨d0, d1, d2, d3, _, d5, g0⟩ := cells6 HMW2.out.blk
 have hmb : mb < W2.heap.size := lt_of_cell d0
 have hgl : g < W2.heap.size := lt_of_cell l0
 go_upto_region 5 with fail
 obtain ⟨bx, hbx⟩ : ∃ bx, bx = W2.heap.size := ⟨_, rfl⟩
 obtain ⟨W3, hW3⟩ : ∃ W3, W3 = W2.alloc (.cells #[.int .i64 ev.after, .int .i64 ev.kind, .int .i64 ev.level] 94) := ⟨_, rfl⟩
 have hb3 : Below W2.heap.size W2 W3 := by rw [hW3]; exact below_new1 W2 _
 have hbo : o bx = none := by rw [hbx]; exact HLW2.out.none (Nat.le_refl _)
 have x3 : W3.heap[bx]? = some (.cells #[.int .i64 ev.after, .int .i64 ev.kind, .int .i64 ev.level] 94 (0, 0)) := by rw [hW3, hbx]; exact heap_alloc_new W2 _
 rw [← hW3, ← hbx]
 have HMW3 := Lib.hid (HMW2.out.below HLW2.out hb3)
 have HLW3 := Lib.hid (HLW2.out.mono hb3.size)
 have HCW3 := Lib.hid (HCW2.out.trans (Chg.of_below hb3 _ _))
 have d4 : W3.cell? ⟨mb, 4, none⟩ = _ := (hb3.cell (p := ⟨mb, 4, none⟩) hmb).trans d4'
 have HRE3 := Lib.hid (HRE2.out.keep (w' := W3) (o' := o) (fun q hq => hb3.block q (HLW2.out q _ hq)) (fun _ h => h))
 clear hW3 hbx l0 l1 l2 d0 d1 d2 d3 d4' d5 g0 hb3 HMW2 HLW2 HCW2 HRE2
 obtain ⟨d0, d1, d2, d3, _, d5, g0⟩ := cells6 HMW3.out.blk
 have hne : bx ≠ mb := by rintro rfl; rw [HMW3.out.own] at hbo; cases hbo
 obtain ⟨W4, hW4⟩ : ∃ W4, W4 = (W3.setCell ⟨mb, 4, none⟩ (.slice (if cap = 1 then some ⟨g, off, none⟩ else some ⟨g, off + 3, none⟩) ws.length (cap - 1))).setCell ⟨mb, 5, none⟩ (.int .i64 0) := ⟨_, rfl⟩
 have hM4 : ManIn (K m.d V) o W4 mb { m with calls := 0, waits := ws } { s with vw := .slice (if cap = 1 then some ⟨g, off, none⟩ else some ⟨g, off + 3, none⟩) ws.length (cap - 1) } := by
  have a1 := HMW3.out.field (k := 4) (u := .slice (if cap = 1 then some ⟨g, off, none⟩ else some ⟨g, off + 3, none⟩) ws.length (cap - 1)) (m' := { m with calls := callsUp m.calls, waits := ws }) (s' := { s with vw := .slice (if cap = 1 then some ⟨g, off, none⟩ else some ⟨g, off + 3, none⟩) ws.length (cap - 1) }) rfl rfl rfl rfl rfl HRE3.out rfl
  have a2 := a1.field (k := 5) (u := .int .i64 0) (m' := { m with calls := 0, waits := ws }) (s' := { s with vw := .slice (if cap = 1 then some ⟨g, off, none⟩ else some ⟨g, off + 3, none⟩) ws.length (cap - 1) }) rfl rfl rfl rfl rfl a1.waits rfl
  rw [hW4]; exact a2
 have hC4 : Chg (fun _ => True) o o w W4 := by rw [hW4]; exact (HCW3.out.setCell (p := ⟨mb, 4, none⟩) HMW3.out.own trivial _).setCell (p := ⟨mb, 5, none⟩) HMW3.out.own trivial _
 have hx4 : W4.heap[bx]? = some (.cells #[.int .i64 ev.after, .int .i64 ev.kind, .int .i64 ev.level] 94 (0, 0)) := by rw [hW4]; exact (heap_setCell_ne hne _).trans ((heap_setCell_ne hne _).trans x3)
 have hst : Step K o w mb m V o W4 { m with calls := 0, waits := ws } V := ⟨⟨_, hM4⟩, HLW3.out.mono (by rw [hW4]; simp [World.setCell]), hC4, HOK.out, Ext.refl _ _, rfl, rfl⟩
 have HST := Lib.hid hst
 have y0 : W4.cell? ⟨bx, 0, none⟩ = some (.int .i64 ev.after) := by rw [cell_of_row W4 bx 0 _ _ _ hx4]; rfl
 have y1 : W4.cell? ⟨bx, 1, none⟩ = some (.int .i64 ev.kind) := by rw [cell_of_row W4 bx 1 _ _ _ hx4]; rfl
 have y2 : W4.cell? ⟨bx, 2, none⟩ = some (.int .i64 ev.level) := by rw [cell_of_row W4 bx 2 _ _ _ hx4]; rfl
 have HW4 := Lib.hid hW4
 clear hM4 hC4 hx4 hst hW4
 go_upto_region 6 with fail
 rw [← HW4.out]
 clear HW4 d0 d1 d2 d3 d4 d5 g0 x3 HMW3 HLW3 HCW3 HRE3
 go_wp2_with fail
 all_goals exact ⟨rfl, o, _, V, HST.out, .inl ⟨ev, HW1.out, HD.out, rfl, rfl, rfl, rfl⟩⟩
theorem ctxMk_any {K : Law} {o : Own} {w : World} {xb mb : Nat} {m : ManD} {V : Nat → BF} (hK : LawOK K) (h : ManAt (K m.d V) o w mb m) (hlt : OwnLt o w) (hx : CtxAt o w xb mb) (hk : StoreOK m.d V) (v : Int) (lo hi : Nat) (hlo : okE (nodesOf m.d) lo) (hhi : okE (nodesOf m.d) hi) :
 Calls Tryz.prog 26 #[.pointer (some ⟨xb, 0, none⟩), .int .i64 v, .int .i64 lo, .int .i64 hi] w (CtxMkPost K o w mb m V v lo hi) := by
 by_cases hd : ∀ ev ws, m.waits = ev :: ws → callsUp m.calls < ev.after
 ·
  exact ctxMk_go hK h hlt hx hk v lo hi hlo hhi hd
 ·
  cases hw : m.waits with
  | nil => exact absurd (fun ev ws e => by rw [hw] at e; cases e) hd
  | cons ev ws => exact ctxMk_due h hlt hx hk v lo hi hw (Int.not_lt.1 fun hl => hd fun ev' ws' e => by rw [hw] at e; cases e; exact hl)
end Go.Proofs.YtchliiaknmknhaaGreat

namespace Go.Proofs.YtchliiaknmknhaaGreat
section
variable {d d' : StoreD} {V V' : Nat → BF}
theorem lvE_const (hk : StoreOK d V) {e : Nat} (h : e / 2 = 0) : lvE d.vars.length (levN d) (nodesOf d) e = d.vars.length := by unfold lvE; rw [h, hk.dag.none0]
theorem lvE_halves {e f : Nat} (h : e / 2 = f / 2) : lvE d.vars.length (levN d) (nodesOf d) e = lvE d.vars.length (levN d) (nodesOf d) f := by unfold lvE; rw [h]
theorem okE_halves {N : Nat → Option BN} {e f : Nat} (h : e / 2 = f / 2) (hf : okE N f) : okE N e := by unfold okE; rw [h]; exact hf
theorem cofs_ok (hk : StoreOK d V) {f v : Nat} (hf : okE (nodesOf d) f) (hv : v < d.vars.length) (hl : levN d v ≤ lvE d.vars.length (levN d) (nodesOf d) f) :
 okE (nodesOf d) (cofs d f v).1 ∧ okE (nodesOf d) (cofs d f v).2 ∧ levN d v < lvE d.vars.length (levN d) (nodesOf d) (cofs d f v).1 ∧ levN d v < lvE d.vars.length (levN d) (nodesOf d) (cofs d f v).2 ∧
  ∀ ρ, ef V f ρ = if ρ v then ef V (cofs d f v).2 ρ else ef V (cofs d f v).1 ρ := by
 unfold cofs
 cases hb : nodesOf d (f / 2) with
 | none =>
   have hl' : levN d v < lvE d.vars.length (levN d) (nodesOf d) f := by unfold lvE; rw [hb]; exact hk.dag.lt v hv
   exact ⟨hf, hf, hl', hl', fun ρ => by simp⟩
 | some b =>
   by_cases e : (b.v : Int) = v
   ·
    have e' : b.v = v := by omega
    simp only [if_pos e]
    refine ⟨okE_eflip (hk.dag.okLo _ _ hb), okE_eflip (hk.dag.okHi _ _ hb), ?_, ?_, fun ρ => ?_⟩
    ·
     rw [lvE_eflip, ← e']; exact hk.dag.lvLo _ _ hb
    ·
     rw [lvE_eflip, ← e']; exact hk.dag.lvHi _ _ hb
    ·
     rw [ef_eflip, ef_eflip]
     have h1 := hk.dag.eqn _ _ hb
     unfold eneg
     have h2 : ef V f ρ = ((f % 2 == 1) != V (f / 2) ρ) := rfl
     rw [h2, h1]
     simp only [iteF, e']
     split <;> rfl
   ·
    simp only [if_neg e]
    have hl' : levN d v < lvE d.vars.length (levN d) (nodesOf d) f := by
     rcases Nat.lt_or_eq_of_le hl with h | h
     ·
      exact h
     ·
      exfalso
      unfold lvE at h
      rw [hb] at h
      have := hk.dag.inj _ _ hv (hk.dag.var _ _ hb) h
      exact e (by omega)
    exact ⟨hf, hf, hl', hl', fun ρ => by simp⟩
theorem minL_le_n (hk : StoreOK d V) (f g h : Nat) : minL d f g h ≤ d.vars.length := by unfold minL; have := hk.dag.lvE_le f; omega
theorem le_minL {k f g h : Nat} (h1 : k ≤ lvE d.vars.length (levN d) (nodesOf d) f) (h2 : k ≤ lvE d.vars.length (levN d) (nodesOf d) g) (h3 : k ≤ lvE d.vars.length (levN d) (nodesOf d) h) : k ≤ minL d f g h := by unfold minL; omega
theorem HalfIn.ok (hk : StoreOK d V) {e f g h : Nat} (hi : HalfIn e f g h) (hf : okE (nodesOf d) f) (hg : okE (nodesOf d) g) (hh : okE (nodesOf d) h) :
 okE (nodesOf d) e ∧ minL d f g h ≤ lvE d.vars.length (levN d) (nodesOf d) e := by
 rcases hi with e0 | e0 | e0 | e0
 ·
  exact ⟨.inl e0, by rw [lvE_const hk e0]; exact minL_le_n hk f g h⟩
 ·
  exact ⟨okE_halves e0 hf, by rw [lvE_halves e0]; unfold minL; omega⟩
 ·
  exact ⟨okE_halves e0 hg, by rw [lvE_halves e0]; unfold minL; omega⟩
 ·
  exact ⟨okE_halves e0 hh, by rw [lvE_halves e0]; unfold minL; omega⟩
structure IteS (d : StoreD) (V : Nat → BF) (f0 g0 h0 : Nat) (f g h : Nat) (nt : Bool) : Prop where
 okF : okE (nodesOf d) f
 okG : okE (nodesOf d) g
 okH : okE (nodesOf d) h
 lev : minL d f0 g0 h0 ≤ minL d f g h
 val : ∀ ρ, iteB (ef V f0 ρ) (ef V g0 ρ) (ef V h0 ρ) = (nt != iteB (ef V f ρ) (ef V g ρ) (ef V h ρ))
theorem IteS.start {f g h : Nat} (hf : okE (nodesOf d) f) (hg : okE (nodesOf d) g) (hh : okE (nodesOf d) h) : IteS d V f g h f g h false := ⟨hf, hg, hh, Nat.le_refl _, fun ρ => by simp⟩
theorem IteS.next {f0 g0 h0 f g h : Nat} {nt : Bool} (hk : StoreOK d V) (s : IteS d V f0 g0 h0 f g h nt) (hd : (iteR f g h).dn = false) :
 IteS d V f0 g0 h0 (iteR f g h).a (iteR f g h).b (iteR f g h).c (nt != (iteR f g h).n) ∧ (iteR f g h).a / 2 ≠ 0 := by
 obtain ⟨ha, hb, hc, hn, hv⟩ := iteR_more hd
 obtain ⟨a1, a2⟩ := ha.ok hk s.okF s.okG s.okH
 obtain ⟨b1, b2⟩ := hb.ok hk s.okF s.okG s.okH
 obtain ⟨c1, c2⟩ := hc.ok hk s.okF s.okG s.okH
 refine ⟨⟨a1, b1, c1, Nat.le_trans s.lev (le_minL a2 b2 c2), fun ρ => ?_⟩, hn⟩
 rw [s.val, hv hk.dag.one]
 cases nt <;> cases (iteR f g h).n <;> simp
theorem IteS.answer {f0 g0 h0 f g h r : Nat} {nt : Bool} (s : IteS d V f0 g0 h0 f g h nt) (h1 : okE (nodesOf d) f0) (h2 : okE (nodesOf d) g0) (h3 : okE (nodesOf d) h0) (hr : okE (nodesOf d) r) (hl : minL d f g h ≤ lvE d.vars.length (levN d) (nodesOf d) r)
 (hv : ∀ ρ, ef V r ρ = iteB (ef V f ρ) (ef V g ρ) (ef V h ρ)) : IteP d V f0 g0 h0 (eflip r nt) :=
 ⟨h1, h2, h3, okE_eflip hr, fun ρ => by rw [ef_eflip, hv, ← s.val]; rfl, by rw [lvE_eflip]; exact Nat.le_trans s.lev hl⟩
theorem IteS.done {f0 g0 h0 f g h : Nat} {nt : Bool} (hk : StoreOK d V) (s : IteS d V f0 g0 h0 f g h nt) (h1 : okE (nodesOf d) f0) (h2 : okE (nodesOf d) g0) (h3 : okE (nodesOf d) h0) (hd : (iteR f g h).dn = true) : IteP d V f0 g0 h0 (eflip (iteR f g h).r nt) := by
 obtain ⟨hh, hv⟩ := iteR_done hd
 obtain ⟨q1, q2⟩ := hh.ok hk s.okF s.okG s.okH
 exact s.answer h1 h2 h3 q1 q2 (hv hk.dag.one)
theorem Ext.minL (x : Ext d V d' V') (hk : StoreOK d V) (hk' : StoreOK d' V') {f g h : Nat} (hf : okE (nodesOf d) f) (hg : okE (nodesOf d) g) (hh : okE (nodesOf d) h) : minL d' f g h = Go.Proofs.YtchliiaknmknhaaGreat.minL d f g h := by
 unfold Go.Proofs.YtchliiaknmknhaaGreat.minL
 rw [x.vars, x.lvE hf hk.dag.none0 hk'.dag.none0, x.lvE hg hk.dag.none0 hk'.dag.none0, x.lvE hh hk.dag.none0 hk'.dag.none0]
theorem IteS.ext {f0 g0 h0 f g h : Nat} {nt : Bool} (s : IteS d V f0 g0 h0 f g h nt) (x : Ext d V d' V') (hk : StoreOK d V) (hk' : StoreOK d' V') (h1 : okE (nodesOf d) f0) (h2 : okE (nodesOf d) g0) (h3 : okE (nodesOf d) h0) : IteS d' V' f0 g0 h0 f g h nt :=
 ⟨x.ok s.okF, x.ok s.okG, x.ok s.okH, by rw [x.minL hk hk' h1 h2 h3, x.minL hk hk' s.okF s.okG s.okH]; exact s.lev, fun ρ => by rw [x.ef s.okF, x.ef s.okG, x.ef s.okH, x.ef h1, x.ef h2, x.ef h3]; exact s.val ρ⟩
theorem IteP.ext {f g h r : Nat} (s : IteP d V f g h r) (x : Ext d V d' V') (hk : StoreOK d V) (hk' : StoreOK d' V') : IteP d' V' f g h r :=
 ⟨x.ok s.okA, x.ok s.okB, x.ok s.okC, x.ok s.okR, fun ρ => by rw [x.ef s.okA, x.ef s.okB, x.ef s.okC, x.ef s.okR]; exact s.val ρ,
  by rw [x.minL hk hk' s.okA s.okB s.okC, x.vars, x.lvE s.okR hk.dag.none0 hk'.dag.none0]; exact s.lev⟩
theorem ite_join (hk : StoreOK d V) {f g h v lo hi r : Nat} (hf : okE (nodesOf d) f) (hg : okE (nodesOf d) g) (hh : okE (nodesOf d) h) (hv : v < d.vars.length) (hl : levN d v ≤ minL d f g h)
 (c1 : ∀ ρ, ef V lo ρ = iteB (ef V (cofs d f v).1 ρ) (ef V (cofs d g v).1 ρ) (ef V (cofs d h v).1 ρ)) (c2 : ∀ ρ, ef V hi ρ = iteB (ef V (cofs d f v).2 ρ) (ef V (cofs d g v).2 ρ) (ef V (cofs d h v).2 ρ))
 (hr : ef V r = iteF v (ef V hi) (ef V lo)) (ρ : Nat → Bool) : ef V r ρ = iteB (ef V f ρ) (ef V g ρ) (ef V h ρ) := by
 have lf := (cofs_ok hk hf hv (by unfold minL at hl; omega)).2.2.2.2 ρ
 have lg := (cofs_ok hk hg hv (by unfold minL at hl; omega)).2.2.2.2 ρ
 have lh := (cofs_ok hk hh hv (by unfold minL at hl; omega)).2.2.2.2 ρ
 rw [hr, lf, lg, lh]
 simp only [iteF]
 cases ρ v
 ·
  simpa using c1 ρ
 ·
  simpa using c2 ρ
theorem cofs_ext (x : Ext d V d' V') (h0 : nodesOf d 0 = none) (h0' : nodesOf d' 0 = none) {f : Nat} (hf : okE (nodesOf d) f) (v : Int) : cofs d' f v = cofs d f v := by
 unfold cofs
 rcases hf with h | ⟨b, hb⟩
 ·
  rw [h, h0, h0']
 ·
  rw [hb, x.nodes _ _ hb]
end
open Go.RowKit
def ItePost (K : Law) (k : Nat) (o : Own) (w : World) (mb : Nat) (m : ManD) (V : Nat → BF) (f g h : Nat) (e : Ending) (w' : World) : Prop :=
 ∃ o' m' V', Step K o w mb m V o' w' m' V' ∧
  ((∃ r : Nat, e = .returned (.int .i64 r) ∧ IteP m'.d V' f g h r ∧ m'.waits = m.waits ∧ m'.d.pool.many + 1 ≤ m.d.pool.many + 2 ^ k) ∨
   (e = stopP 7 false ev0 ∧ m'.waits = m.waits ∧ m'.d.pool.many = m'.d.pool.room ∧ m'.d.pool.many + 2 ≤ m.d.pool.many + 2 ^ k) ∨
   (∃ ev, e = stopP 0 true ev ∧ m.waits = ev :: m'.waits))
def IteOk (K : Law) (k : Nat) : Prop := ∀ (o : Own) (w : World) (xb mb : Nat) (m : ManD) (V : Nat → BF) (f g h : Nat), ManAt (K m.d V) o w mb m → OwnLt o w → CtxAt o w xb mb → StoreOK m.d V →
 okE (nodesOf m.d) f → okE (nodesOf m.d) g → okE (nodesOf m.d) h → m.d.vars.length ≤ minL m.d f g h + k →
 Calls Tryz.prog 40 #[.pointer (some ⟨xb, 0, none⟩), .int .i64 f, .int .i64 g, .int .i64 h] w (ItePost K k o w mb m V f g h)
theorem step_below {K : Law} {o : Own} {w w' : World} {mb : Nat} {m : ManD} {V : Nat → BF} (hm : ManAt (K m.d V) o w mb m) (hl : OwnLt o w) (hk : StoreOK m.d V) (hb : Below w.heap.size w w') : Step K o w mb m V o w' m V := by
 obtain ⟨s, h⟩ := hm
 exact ⟨⟨s, h.below hl hb⟩, hl.mono hb.size, Chg.of_below hb _ _, hk, Ext.refl _ _, rfl, rfl⟩
theorem Step.below {K : Law} {o o' : Own} {w w' w'' : World} {mb : Nat} {m m' : ManD} {V V' : Nat → BF} (h : Step K o w mb m V o' w' m' V') (hb : Below w'.heap.size w' w'') : Step K o w mb m V o' w'' m' V' := h.trans (step_below h.is h.lt h.ok hb)
theorem top3 {d : StoreD} {V : Nat → BF} (hk : StoreOK d V) {f g h : Nat} (hf : okE (nodesOf d) f) (hn : f / 2 ≠ 0) {top least : Int} (ht : TopS d [f, g, h] top least) :
 ∃ v : Nat, top = v ∧ v < d.vars.length ∧ levN d v = minL d f g h ∧ levN d v < d.vars.length := by
 rcases ht with ⟨_, _, h3⟩ | ⟨v, h1, _, h3, ⟨e, he, b, hb, hbv⟩, h5⟩
 ·
  exfalso
  rcases hf with h0 | ⟨b, hb⟩
  ·
   exact hn h0
  ·
   rw [h3 f (by simp)] at hb; cases hb
 ·
  refine ⟨v, h1, h3, ?_, hk.dag.lt v h3⟩
  have e0 : lvE d.vars.length (levN d) (nodesOf d) e = levN d v := by unfold lvE; rw [hb, ← hbv]
  have a1 := h5 f (by simp)
  have a2 := h5 g (by simp)
  have a3 := h5 h (by simp)
  simp only [List.mem_cons, List.not_mem_nil, or_false] at he
  unfold minL
  rcases he with rfl | rfl | rfl <;> omega
set_option maxRecDepth 100000 in
set_option maxHeartbeats 4000000 in
theorem ctxIte_step {K : Law} (hK : LawOK K) (k : Nat) (IH : ∀ k', k = k' + 1 → IteOk K k') : IteOk K k := by
 intro o w xb mb m V f g h hm hlt hx hk hf hg hh hfuel
 obtain ⟨st0, hst0⟩ : ∃ s, StoreIn o w (Classical.choose hm).sb m.d s := (Classical.choose_spec hm).store
 have HLT : Hid (∀ e, okE (nodesOf m.d) e → e < eMax) := Lib.hid fun e he => by have := hst0.edge_lt he; unfold eMax; omega
 have HK' := Lib.hid hK
 have HM := Lib.hid hm
 have HOL := Lib.hid hlt
 have HX := Lib.hid hx
 have HK := Lib.hid hk
 have HF := Lib.hid hf
 have HG := Lib.hid hg
 have HH := Lib.hid hh
 have HFU := Lib.hid hfuel
 have HST : Hid (IteS m.d V f g h f g h false) := Lib.hid (IteS.start hf hg hh)
 clear hst0 hm hlt hx hk hf hg hh hfuel
 go_enter Tryz.func40, Tryz.ntmps40
 go_upto_block 0 with fail
 go_cut [1, 2, 3, 9] from 27 (fun s1 s2 s3 s9 wx => ∃ (f' g' h' : Nat) (nt : Bool), s1 = .int .i64 f' ∧ s2 = .int .i64 g' ∧ s3 = .int .i64 h' ∧ s9 = .bool nt ∧ IteS m.d V f g h f' g' h' nt ∧ f' / 2 ≠ 0 ∧ wx = w)
 case first =>
  go_wp2_with fail
  go_loopw [1, 2, 3, 9, 27] (fun s1 s2 s3 s9 i wr => ∃ (f' g' h' : Nat) (nt : Bool) (j : Nat), s1 = .int .i64 f' ∧ s2 = .int .i64 g' ∧ s3 = .int .i64 h' ∧ s9 = .bool nt ∧ i = .int .i64 j ∧ j ≤ 3 ∧ IteS m.d V f g h f' g' h' nt ∧ (0 < j → f' / 2 ≠ 0) ∧ wr = w) (fun _ _ _ _ i _ => 3 - (intOf i).toNat)
  case atStart => exact ⟨f, g, h, false, 0, rfl, rfl, rfl, rfl, rfl, by omega, HST.out, by omega, rfl⟩
  case round =>
   obtain ⟨f', g', h', nt, j, rfl, rfl, rfl, rfl, rfl, hj, hS, hn, rfl⟩ := hrel
   clear HST
   by_cases hlt : j < 3
   ·
    have HI := Lib.hid (fun W : World => ite_any f' g' h' W (HLT.out _ hS.okF) (HLT.out _ hS.okG) (HLT.out _ hS.okH))
    have hlr : (iteR f' g' h').dn = true → (iteR f' g' h').r < eMax := fun e => HLT.out _ (((iteR_done e).1.ok HK.out hS.okF hS.okG hS.okH).1)
    have hNX := fun e => hS.next HK.out (f := f') (g := g') (h := h') e
    have hDN := fun e => hS.done HK.out HF.out HG.out HH.out e
    have hlt' : (j : Int) < 3 := by omega
    unfold iteV at HI
    obtain ⟨R, hR⟩ : ∃ R, R = iteR f' g' h' := ⟨_, rfl⟩
    rw [← hR] at HI hlr hNX hDN
    clear hR hS hn
    obtain ⟨a, b, c, n, r, dn⟩ := R
    dsimp only at HI hlr hNX hDN
    cases dn with
    | true =>
      have HFL := Lib.hid (fun W : World => flip_any r nt W (hlr rfl))
      have HDN := Lib.hid (hDN rfl)
      clear hlr hNX hDN
      go_wp2_with fail
      refine (HI.out _).mono ?_
      rintro x w' ⟨rfl, rfl⟩
      go_wp2_with fail
      refine (HFL.out _).mono ?_
      rintro x w' ⟨rfl, rfl⟩
      go_wp2_with fail
      go_ret
      exact ⟨o, m, V, ⟨HM.out, HOL.out, Chg.refl _ _ _, HK.out, Ext.refl _ _, rfl, rfl⟩, .inl ⟨_, rfl, HDN.out, rfl, by have := Nat.one_le_two_pow (n := k); omega⟩⟩
    | false =>
      have hbn : (nt != n) = (!nt == n) := by cases nt <;> cases n <;> rfl
      have HNX := Lib.hid (hNX rfl)
      rw [hbn] at HNX
      clear hlr hNX hDN hbn
      by_cases hp1 : a = f'
      ·
       subst hp1
       by_cases hp2 : b = g'
       ·
        subst hp2
        by_cases hp3 : c = h'
        ·
         subst hp3
         go_wp2_with fail
         refine (HI.out _).mono ?_
         rintro x w' ⟨rfl, rfl⟩
         go_wp2_with fail
         go_meet
         exact ⟨_, _, _, _, rfl, rfl, rfl, rfl, HNX.out.1, HNX.out.2, by trivial⟩
        ·
         have H3 : (c == h') = false := by simp [hp3]
         go_wp2_with fail
         refine (HI.out _).mono ?_
         rintro x w' ⟨rfl, rfl⟩
         go_wp2_with fail
         go_roundw
         case rel => exact ⟨_, _, _, _, j + 1, rfl, rfl, rfl, rfl, by simp, by omega, HNX.out.1, fun _ => HNX.out.2, by trivial⟩
         case measure => simp [intOf]; omega
       ·
        have H2 : (b == g') = false := by simp [hp2]
        go_wp2_with fail
        refine (HI.out _).mono ?_
        rintro x w' ⟨rfl, rfl⟩
        go_wp2_with fail
        go_roundw
        case rel => exact ⟨_, _, _, _, j + 1, rfl, rfl, rfl, rfl, by simp, by omega, HNX.out.1, fun _ => HNX.out.2, by trivial⟩
        case measure => simp [intOf]; omega
      ·
       have H1 : (a == f') = false := by simp [hp1]
       go_wp2_with fail
       refine (HI.out _).mono ?_
       rintro x w' ⟨rfl, rfl⟩
       go_wp2_with fail
       go_roundw
       case rel => exact ⟨_, _, _, _, j + 1, rfl, rfl, rfl, rfl, by simp, by omega, HNX.out.1, fun _ => HNX.out.2, by trivial⟩
       case measure => simp [intOf]; omega
   ·
    obtain rfl : j = 3 := by omega
    have HS := Lib.hid hS
    have HN := Lib.hid (hn (by omega))
    clear hS hn
    go_wp2_with fail
    go_meet
    exact ⟨f', g', h', nt, rfl, rfl, rfl, rfl, HS.out, HN.out, rfl⟩
 case rest =>
  obtain ⟨f', g', h', nt, rfl, rfl, rfl, rfl, hS, hn, rfl⟩ := hcut
  rename World => w
  clear HST
  obtain ⟨s, hms⟩ := HM.out
  obtain ⟨c0, c1, c2, c3, c4, c5, f0⟩ := cells6 hms.blk
  have cx := HX.out.cell
  have HGET := Lib.hid (get_any o s.me (K m.d V) 1 f' g' h' w hms.memo HOL.out)
  have HMS := Lib.hid hms
  have HS := Lib.hid hS
  have HN := Lib.hid hn
  clear hms hS hn
  go_wp2_with fail
  refine HGET.out.mono ?_
  rintro x w1 ⟨hgs, hme, hc1, hl1⟩
  have hM1 : ManIn (K m.d V) o w1 mb m s := HMS.out.setMemo HOL.out hme (hc1.mono fun r e => .inl e)
  have hX1 := HX.out.chg hc1
  have HC1 := Lib.hid hc1.any
  have HM1 := Lib.hid hM1
  have HX1 := Lib.hid hX1
  have HL1 := Lib.hid hl1
  have hst1 : Step K o w mb m V o w1 m V := ⟨⟨s, hM1⟩, hl1, hc1.any, HK.out, Ext.refl _ _, rfl, rfl⟩
  have HST1 := Lib.hid hst1
  clear hme hc1 hl1 hM1 hX1 hst1
  rcases hgs with rfl | ⟨r, rfl, hkr⟩
  ·
   clear c0 c1 c2 c3 c4 c5 f0 cx
   go_upto_region 14 with fail
   obtain ⟨w2, hw2⟩ : ∃ w2, w2 = w1.alloc (.cells #[.int .i64 f', .int .i64 g', .int .i64 h'] 52) := ⟨_, rfl⟩
   have hb2 : Below w1.heap.size w1 w2 := by rw [hw2]; exact below_new1 w1 _
   have hz : w2.heap[w1.heap.size]? = some (.cells #[.int .i64 f', .int .i64 g', .int .i64 h'] 52 (0, 0)) := by rw [hw2]; exact heap_alloc_new w1 _
   have hints : IntsAt w2 (some ⟨w1.heap.size, 0, none⟩) ([f', g', h'].map Int.ofNat) := ⟨by simp, fun j hj => ⟨w1.heap.size, 0, rfl, by
    rw [cell_of_row w2 w1.heap.size (0 + j) _ _ _ hz]
    simp at hj
    match j, hj with
    | 0, _ => rfl
    | 1, _ => rfl
    | 2, _ => rfl⟩⟩
   have hst2 := HST1.out.below hb2
   have hX2 := HX.out.chg hst2.chg
   have HTOP : Hid (Calls Tryz.prog 33 #[.pointer (some ⟨xb, 0, none⟩), .slice (some ⟨w1.heap.size, 0, none⟩) 3 3] w2 fun x w' => ∃ top least, x = .returned (.int .i64 top) ∧ TopS m.d [f', g', h'] top least ∧ Below w2.heap.size w2 w') :=
    Lib.hid (ctxTop_any hst2.is hst2.lt hX2 HK.out [f', g', h'] (by simp; exact ⟨HS.out.okF, HS.out.okG, HS.out.okH⟩) (some ⟨w1.heap.size, 0, none⟩) 3 hints)
   have HST2 := Lib.hid hst2
   have HW2 := Lib.hid hw2
   clear hb2 hz hints hst2 hX2 hw2
   go_wp2_with fail
   rw [← HW2.out]
   refine HTOP.out.mono ?_
   rintro x w3 ⟨top, least, rfl, htop, hb3⟩
   obtain ⟨v, rfl, hv, hlv, hvn⟩ := top3 HK.out HS.out.okF HN.out htop
   have HST3 := Lib.hid (HST2.out.below hb3)
   have HV := Lib.hid hv
   have HLV := Lib.hid hlv
   obtain ⟨k', hk'⟩ : ∃ k', k = k' + 1 := ⟨k - 1, by have h1 := HFU.out; have h2 := HS.out.lev; omega⟩
   have HIH := Lib.hid (IH k' hk')
   have cf := cofs_ok HK.out HS.out.okF hv (by rw [hlv]; unfold minL; omega)
   have cg := cofs_ok HK.out HS.out.okG hv (by rw [hlv]; unfold minL; omega)
   have ch := cofs_ok HK.out HS.out.okH hv (by rw [hlv]; unfold minL; omega)
   have hl1 : levN m.d v + 1 ≤ minL m.d (cofs m.d f' v).1 (cofs m.d g' v).1 (cofs m.d h' v).1 := le_minL cf.2.2.1 cg.2.2.1 ch.2.2.1
   have hl2 : levN m.d v + 1 ≤ minL m.d (cofs m.d f' v).2 (cofs m.d g' v).2 (cofs m.d h' v).2 := le_minL cf.2.2.2.1 cg.2.2.2.1 ch.2.2.2.1
   have hfu : m.d.vars.length ≤ levN m.d v + 1 + k' := by have h1 := HFU.out; have h2 := HS.out.lev; omega
   have HCF := Lib.hid cf
   have HCG := Lib.hid cg
   have HCH := Lib.hid ch
   have HL1' := Lib.hid hl1
   have HL2' := Lib.hid hl2
   have HFU' := Lib.hid hfu
   have HKK := Lib.hid hk'
   have HSP : Hid (∀ (W : World) (e : Nat), okE (nodesOf m.d) e → Step K o w mb m V o W m V → Calls Tryz.prog 36 #[.pointer (some ⟨xb, 0, none⟩), .int .i64 e, .int .i64 v] W fun x w' => x = .returned (.tuple #[.int .i64 (cofs m.d e v).1, .int .i64 (cofs m.d e v).2]) ∧ Step K o w mb m V o w' m V) :=
    Lib.hid fun W e he st => (ctxSplit_any st.is st.lt (HX.out.chg st.chg) HK.out e he v).mono fun x w' ⟨h1, h2⟩ => ⟨h1, st.below h2⟩
   clear htop hb3 hv hlv hvn cf cg ch hl1 hl2 hfu hk' HTOP HW2 HST2
   go_wp2_with fail
   refine (HSP.out _ _ HS.out.okF HST3.out).mono ?_
   rintro x w4 ⟨rfl, hst4⟩
   have HST4 := Lib.hid hst4
   clear hst4
   go_wp2_with fail
   refine (HSP.out _ _ HS.out.okG HST4.out).mono ?_
   rintro x w5 ⟨rfl, hst5⟩
   have HST5 := Lib.hid hst5
   clear hst5
   go_wp2_with fail
   refine (HSP.out _ _ HS.out.okH HST5.out).mono ?_
   rintro x w6 ⟨rfl, hst6⟩
   have HST6 := Lib.hid hst6
   clear hst6
   go_wp2_with fail
   refine (HIH.out o w6 xb mb m V _ _ _ HST6.out.is HST6.out.lt (HX.out.chg HST6.out.chg) HK.out HCF.out.1 HCG.out.1 HCH.out.1 (by have h1 := HFU'.out; have h2 := HL1'.out; omega)).mono ?_
   have HPW : Hid (2 ^ k = 2 ^ k' + 2 ^ k') := by show _ = _; rw [HKK.out, Nat.pow_succ]; omega
   have HP1 : Hid (1 ≤ 2 ^ k') := Lib.hid Nat.one_le_two_pow
   rintro x w7 ⟨o7, m7, V7, st7, (⟨lo, rfl, hlo, hwt7, hmn7⟩ | ⟨rfl, hwt7, hrm7, hmn7⟩ | ⟨ev, rfl, hwt7⟩)⟩
   ·
    have HST7 := Lib.hid (HST6.out.trans st7)
    have HK7 := Lib.hid st7.ok
    have HX7 := Lib.hid st7.ext
    have HLO := Lib.hid hlo
    have HWT7 := Lib.hid hwt7
    have HMN7 := Lib.hid hmn7
    have hh7 : m7.d.vars.length ≤ minL m7.d (cofs m.d f' v).2 (cofs m.d g' v).2 (cofs m.d h' v).2 + k' := by
     rw [st7.ext.minL HK.out st7.ok HCF.out.2.1 HCG.out.2.1 HCH.out.2.1, st7.ext.vars]
     have h1 := HFU'.out; have h2 := HL2'.out; omega
    have HH7 := Lib.hid hh7
    clear st7 hlo hwt7 hmn7 hh7
    go_wp2_with fail
    refine (HIH.out o7 w7 xb mb m7 V7 _ _ _ HST7.out.is HST7.out.lt (HX.out.chg HST7.out.chg) HK7.out (HX7.out.ok HCF.out.2.1) (HX7.out.ok HCG.out.2.1) (HX7.out.ok HCH.out.2.1) HH7.out).mono ?_
    rintro x w8 ⟨o8, m8, V8, st8, (⟨hi, rfl, hhi, hwt8, hmn8⟩ | ⟨rfl, hwt8, hrm8, hmn8⟩ | ⟨ev, rfl, hwt8⟩)⟩
    ·
     have HST8 := Lib.hid (HST7.out.trans st8)
     have HK8 := Lib.hid st8.ok
     have HX8 := Lib.hid st8.ext
     have HHI := Lib.hid hhi
     have HWT8 := Lib.hid hwt8
     have HMN8 := Lib.hid hmn8
     have hMk := ctxMk_any HK'.out HST8.out.is HST8.out.lt (HX.out.chg HST8.out.chg) st8.ok v lo hi (st8.ext.ok HLO.out.okR) hhi.okR
     have HMK := Lib.hid hMk
     clear st8 hhi hwt8 hmn8 hMk
     go_wp2_with fail
     refine HMK.out.mono ?_
     have hlo8 : levN m8.d v < lvE m8.d.vars.length (levN m8.d) (nodesOf m8.d) lo := by
      have e1 := HX8.out.lvE (n := m8.d.vars.length) HLO.out.okR HK7.out.dag.none0 HK8.out.dag.none0
      have e2 := HLO.out.lev
      have e3 := HX7.out.minL HK.out HK7.out HCF.out.1 HCG.out.1 HCH.out.1
      have e4 := HL1'.out
      have e5 := HX7.out.lev
      have e6 := HX8.out.lev
      have e7 := HX8.out.vars
      rw [e1, e6, e5, e7]
      rw [e5] at e2
      omega
     have hhi8 : levN m8.d v < lvE m8.d.vars.length (levN m8.d) (nodesOf m8.d) hi := by
      have e2 := HHI.out.lev
      have x78 := HX7.out.trans HX8.out
      have e3 := x78.minL HK.out HK8.out HCF.out.2.1 HCG.out.2.1 HCH.out.2.1
      have e4 := HL2'.out
      have e5 := x78.lev
      rw [e5] at e2 ⊢
      omega
     have hv8 : v < m8.d.vars.length := by rw [(HX7.out.trans HX8.out).vars]; exact HV.out
     have hbad : ∀ er, MkErr m8.d v lo hi er → er = 7 ∧ m8.d.pool.many = m8.d.pool.room := by
      rintro er (⟨_, h1⟩ | ⟨_, _, _, h1⟩ | h1)
      ·
       exact absurd ⟨by omega, by omega⟩ h1
      ·
       simp only [Int.toNat_natCast] at h1; omega
      ·
       exact h1
     have HLO8 := Lib.hid hlo8
     have HHI8 := Lib.hid hhi8
     have HV8 := Lib.hid hv8
     have HBAD := Lib.hid hbad
     clear hlo8 hhi8 hv8 hbad
     rintro x w9 ⟨o9, m9, V9, st9, (⟨ev, hw9, _, _, hd9, hV9, rfl⟩ | ⟨hwt9, _, _, (⟨er, her, hd9, hV9, rfl⟩ | ⟨_, _, r, rfl, hr9, hrv, hrl, hmn9⟩)⟩)⟩
     ·
      have HST9 := Lib.hid (HST8.out.trans st9)
      have HW9 := Lib.hid hw9
      clear st9 hw9 hd9 hV9
      unfold stopP
      go_wp2_with fail
      exact ⟨rfl, o9, m9, V9, HST9.out, .inr (.inr ⟨ev, rfl, by rw [← HWT7.out, ← HWT8.out]; exact HW9.out⟩)⟩
     ·
      have HST9 := Lib.hid (HST8.out.trans st9)
      obtain ⟨rfl, hfull⟩ := HBAD.out er her
      have HFULL := Lib.hid hfull
      have HD9 := Lib.hid hd9
      have HWT9 := Lib.hid hwt9
      clear st9 her hd9 hV9 hwt9 hfull
      unfold stopP
      go_wp2_with fail
      exact ⟨rfl, o9, m9, V9, HST9.out, .inr (.inl ⟨rfl, by rw [HWT9.out, HWT8.out, HWT7.out], by rw [HD9.out]; exact HFULL.out, by rw [HD9.out]; have a1 := HMN7.out; have a2 := HMN8.out; have a3 := HPW.out; have a4 := HP1.out; omega⟩)⟩
     ·
      have hst9 := HST8.out.trans st9
      have x09 := hst9.ext
      have hk9 := st9.ok
      have x79 := HX8.out.trans st9.ext
      have a0 := HK.out.dag.none0
      have a9 := hk9.dag.none0
      have hip : IteP m9.d V9 f' g' h' r := by
       refine ⟨x09.ok HS.out.okF, x09.ok HS.out.okG, x09.ok HS.out.okH, hr9, fun ρ => ?_, ?_⟩
       ·
        refine ite_join (lo := lo) (hi := hi) (v := v) hk9 (x09.ok HS.out.okF) (x09.ok HS.out.okG) (x09.ok HS.out.okH) (by rw [x09.vars]; exact HV.out) (by rw [x09.lev, x09.minL HK.out hk9 HS.out.okF HS.out.okG HS.out.okH, HLV.out]; exact Nat.le_refl _) ?_ ?_ ?_ ρ
        ·
         intro ρ
         rw [cofs_ext x09 a0 a9 HS.out.okF, cofs_ext x09 a0 a9 HS.out.okG, cofs_ext x09 a0 a9 HS.out.okH]
         exact (HLO.out.ext x79 HK7.out hk9).val ρ
        ·
         intro ρ
         rw [cofs_ext x09 a0 a9 HS.out.okF, cofs_ext x09 a0 a9 HS.out.okG, cofs_ext x09 a0 a9 HS.out.okH]
         exact (HHI.out.ext st9.ext HK8.out hk9).val ρ
        ·
         rw [hrv, st9.ext.ef HHI.out.okR, st9.ext.ef (HX8.out.ok HLO.out.okR)]; rfl
       ·
        rw [x09.minL HK.out hk9 HS.out.okF HS.out.okG HS.out.okH, ← HLV.out]
        have e1 := (HX7.out.trans HX8.out).lev
        have e2 := (HX7.out.trans HX8.out).vars
        rw [e1, e2] at hrl
        rw [x09.vars]
        exact hrl
      have HAN := Lib.hid ((HS.out.ext x09 HK.out hk9 HF.out HG.out HH.out).answer (x09.ok HF.out) (x09.ok HG.out) (x09.ok HH.out) hip.okR hip.lev hip.val)
      obtain ⟨s9, hm9⟩ := hst9.is
      have HPUT := Lib.hid (put_memo o9 s9.me (K m9.d V9) 1 f' g' h' r w9 hm9.memo hst9.lt ((HK'.out.ite _ _ _ _ _ _).2 hip))
      have hrlt : r < eMax := by
       obtain ⟨ss, hss⟩ := hm9.store
       have := hss.edge_lt hip.okR
       unfold eMax; omega
      have HFL := Lib.hid (fun W : World => flip_any r nt W hrlt)
      obtain ⟨c0, c1, c2, c3, c4, c5, f0⟩ := cells6 hm9.blk
      have cx := (HX.out.chg hst9.chg).cell
      have HM9 := Lib.hid hm9
      have HST9 := Lib.hid hst9
      have HWT9 := Lib.hid (hwt9.trans (HWT8.out.trans HWT7.out))
      have HMN9 : Hid (m9.d.pool.many + 1 ≤ m.d.pool.many + 2 ^ k) := Lib.hid (by have a1 := HMN7.out; have a2 := HMN8.out; have a3 := HPW.out; omega)
      clear st9 hst9 x09 hk9 x79 a0 a9 hip hm9 hrlt hwt9 hr9 hrv hrl hmn9
      go_wp2_with fail
      refine HPUT.out.mono ?_
      rintro x w10 ⟨rfl, o10, hme, hc10, hl10⟩
      have HSTF : Hid (Step K o w mb m V o10 w10 m9 V9) := Lib.hid ⟨⟨s9, HM9.out.setMemo HST9.out.lt hme hc10⟩, hl10, HST9.out.chg.trans hc10.any, HST9.out.ok, HST9.out.ext, HST9.out.hs, HST9.out.next⟩
      clear hme hc10 hl10 c0 c1 c2 c3 c4 c5 f0 cx
      go_wp2_with fail
      refine (HFL.out _).mono ?_
      rintro x w' ⟨rfl, rfl⟩
      go_wp2_with fail
      go_ret
      exact ⟨o10, m9, V9, HSTF.out, .inl ⟨_, rfl, HAN.out, HWT9.out, HMN9.out⟩⟩
    ·
     have HST8 := Lib.hid (HST7.out.trans st8)
     have HQ : Hid (m8.waits = m.waits ∧ m8.d.pool.many = m8.d.pool.room ∧ m8.d.pool.many + 2 ≤ m.d.pool.many + 2 ^ k) := Lib.hid ⟨hwt8.trans HWT7.out, hrm8, by have a1 := HMN7.out; have a3 := HPW.out; have a4 := HP1.out; omega⟩
     clear st8 hwt8 hrm8 hmn8
     unfold stopP
     go_wp2_with fail
     exact ⟨rfl, o8, m8, V8, HST8.out, .inr (.inl ⟨rfl, HQ.out.1, HQ.out.2.1, HQ.out.2.2⟩)⟩
    ·
     have HST8 := Lib.hid (HST7.out.trans st8)
     have HQ := Lib.hid hwt8
     clear st8 hwt8
     unfold stopP
     go_wp2_with fail
     exact ⟨rfl, o8, m8, V8, HST8.out, .inr (.inr ⟨ev, rfl, by rw [← HWT7.out]; exact HQ.out⟩)⟩
   ·
    have HST7 := Lib.hid (HST6.out.trans st7)
    have HQ : Hid (m7.waits = m.waits ∧ m7.d.pool.many = m7.d.pool.room ∧ m7.d.pool.many + 2 ≤ m.d.pool.many + 2 ^ k) := Lib.hid ⟨hwt7, hrm7, by have a3 := HPW.out; have a4 := HP1.out; omega⟩
    clear st7 hwt7 hrm7 hmn7
    unfold stopP
    go_wp2_with fail
    exact ⟨rfl, o7, m7, V7, HST7.out, .inr (.inl ⟨rfl, HQ.out.1, HQ.out.2.1, HQ.out.2.2⟩)⟩
   ·
    have HST7 := Lib.hid (HST6.out.trans st7)
    have HQ := Lib.hid hwt7
    clear st7 hwt7
    unfold stopP
    go_wp2_with fail
    exact ⟨rfl, o7, m7, V7, HST7.out, .inr (.inr ⟨ev, rfl, HQ.out⟩)⟩
  ·
   have hip : IteP m.d V f' g' h' r := (HK'.out.ite _ _ _ _ _ _).1 hkr
   have HAN := Lib.hid (HS.out.answer HF.out HG.out HH.out hip.okR hip.lev hip.val)
   have HFL := Lib.hid (fun W : World => flip_any r nt W (HLT.out _ hip.okR))
   clear hkr hip c0 c1 c2 c3 c4 c5 f0 cx
   go_wp2_with fail
   refine (HFL.out _).mono ?_
   rintro x w' ⟨rfl, rfl⟩
   go_wp2_with fail
   go_ret
   exact ⟨o, m, V, HST1.out, .inl ⟨_, rfl, HAN.out, rfl, by have := Nat.one_le_two_pow (n := k); omega⟩⟩
theorem ctxIte_any {K : Law} (hK : LawOK K) : ∀ k, IteOk K k := by
 intro k
 induction k with
 | zero => exact ctxIte_step hK 0 (fun k' e => absurd e (by omega))
 | succ k ih =>
   refine ctxIte_step hK (k + 1) (fun k' e => ?_)
   have e2 : k' = k := by omega
   rw [e2]; exact ih
end Go.Proofs.YtchliiaknmknhaaGreat

namespace Go.Proofs.YtchliiaknmknhaaGreat
open Go.RowKit Go.Shelf
structure Wr (M : Nat → Prop) (w w' : World) : Prop where
 os : w'.os = w.os
 tape : w'.tape = w.tape
 output : w'.output = w.output
 size : w.heap.size ≤ w'.heap.size
 keep : ∀ k, k < w.heap.size → ¬ M k → w'.heap[k]? = w.heap[k]?
theorem Wr.refl (M : Nat → Prop) (w : World) : Wr M w w := ⟨rfl, rfl, rfl, Nat.le_refl _, fun _ _ _ => rfl⟩
theorem Wr.trans {M M' N : Nat → Prop} {w w' w'' : World} (h : Wr M w w') (h' : Wr M' w' w'') (hM : ∀ k, k < w.heap.size → M k → N k) (hM' : ∀ k, k < w.heap.size → M' k → N k) : Wr N w w'' :=
 ⟨h'.os.trans h.os, h'.tape.trans h.tape, h'.output.trans h.output, Nat.le_trans h.size h'.size, fun k hk hn => (h'.keep k (Nat.lt_of_lt_of_le hk h.size) (fun e => hn (hM' k hk e))).trans (h.keep k hk (fun e => hn (hM k hk e)))⟩
theorem Wr.mono {M N : Nat → Prop} {w w' : World} (h : Wr M w w') (hM : ∀ k, M k → N k) : Wr N w w' := ⟨h.os, h.tape, h.output, h.size, fun k hk hn => h.keep k hk (fun e => hn (hM k e))⟩
theorem Wr.drew {M : Nat → Prop} {w w' : World} (h : Wr M w w') : Wr M w w'.drew := ⟨h.os, h.tape, h.output, h.size, h.keep⟩
theorem Wr.alloc {M : Nat → Prop} {w w' : World} (h : Wr M w w') (o : Obj) : Wr M w (w'.alloc o) :=
 ⟨h.os, h.tape, h.output, by simp; have := h.size; omega, fun k hk hn => (Below.heap_alloc w' o k (Nat.lt_of_lt_of_le hk h.size)).trans (h.keep k hk hn)⟩
theorem Wr.setCell {M : Nat → Prop} {w w' : World} (h : Wr M w w') {p : Addr} (hp : M p.block ∨ w.heap.size ≤ p.block) (u : Value) : Wr M w (w'.setCell p u) :=
 ⟨h.os, h.tape, h.output, by simp [World.setCell]; exact h.size, fun k hk hn => (Below.heap_setCell _ _ _ _ (by rintro rfl; rcases hp with hp | hp; exact hn hp; omega)).trans (h.keep k hk hn)⟩
theorem Wr.putObj {M : Nat → Prop} {w w' : World} (h : Wr M w w') {l : Nat} (hl : M l ∨ w.heap.size ≤ l) (o : Obj) : Wr M w (w'.putObj l o) :=
 ⟨h.os, h.tape, h.output, by simp; exact h.size, fun k hk hn => (World.putObj_heap_other (by rintro rfl; rcases hl with hl | hl; exact hn hl; omega)).trans (h.keep k hk hn)⟩
theorem Wr.of_below {w w' : World} (h : Below w.heap.size w w') (M : Nat → Prop) : Wr M w w' := ⟨h.os, h.tape, h.output, h.size, fun k hk _ => h.block k hk⟩
theorem Wr.below {M : Nat → Prop} {n₀ : Nat} {w w' : World} (h : Wr M w w') (hM : ∀ k, M k → n₀ ≤ k) (hn : n₀ ≤ w.heap.size) : Below n₀ w w' :=
 ⟨h.os, h.tape, h.output, h.size, fun k hk => h.keep k (by omega) (fun e => by have := hM k e; omega)⟩
section
variable {F : Fence} {n : Nat} {P : Program} {α : Type}
def OwnsIn (n₀ : Nat) (J : List α → (Nat → Prop) → World → Prop) : Prop := ∀ pre M W, J pre M W → ∀ k, M k → n₀ ≤ k ∧ k < W.heap.size
def Minds (n₀ : Nat) (J : List α → (Nat → Prop) → World → Prop) : Prop := ∀ pre M W W', J pre M W → Wr (fun k => n₀ ≤ k ∧ ¬ M k) W W' → J pre M W'
def Gives (F : Fence) (n d : Nat) (P : Program) (g : Nat) (lb : Array Value) (encs : α → Array Value) (n₀ : Nat) (Bx : Nat → Prop) (xs : List α) (w : World) : Prop :=
 ∀ (l : Nat) (J : List α → (Nat → Prop) → World → Prop) (M : Nat → Prop) (W : World), OwnsIn n₀ J → Minds n₀ J → Wr (fun k => n₀ ≤ k ∧ ¬ Bx k) w W → (∀ k, Bx k → ¬ M k) →
  (∀ pre x M W1, J pre M W1 → (∃ suf, pre ++ x :: suf = xs) → YieldAt F (n - 1 - d) P l (encs x) W1 fun e W' =>
   e = .returned (.bool true) ∧ ∃ M', J (pre ++ [x]) M' W' ∧ Wr M W1 W' ∧ ∀ k, M' k → M k ∨ W1.heap.size ≤ k) →
  J [] M W →
  CallsIn F n P g (#[.func (.yield l) #[] #[]] ++ lb) W fun e W' => (∃ v, e = .returned v) ∧ ∃ M', J xs M' W' ∧ Wr (fun k => n₀ ≤ k) W W' ∧ ∀ k, M' k → M k ∨ W.heap.size ≤ k
theorem wp_range {g : Operand} {ps : Array Tmp} {assign body : Code} {Q : Exit → Act → World → Prop} {a : Act} {w : World} (hro : F.round = none) (h1 : 1 ≤ n) {gf : Nat} {lb : Array Value} (hg : a.eval g = .func (.func gf) #[] lb)
 (hFg : F.fn gf) (eg : ∀ args w, (callFunc gf args).run P w = .ok (.enter gf args) w) {encs : α → Array Value} {n₀ : Nat} {Bx : Nat → Prop} {xs : List α} {d : Nat} (hseq : Gives F (n - 1) d P gf lb encs n₀ Bx xs w) (hn0 : n₀ ≤ w.heap.size)
 (hBx : ∀ k, Bx k → k < w.heap.size) (hps : ∀ x, (encs x).size = ps.size) (I : List α → (Nat → Prop) → World → Prop) (hOw : OwnsIn n₀ I) (hMi : Minds n₀ I) (M0 : Nat → Prop) (hM0 : ∀ k, Bx k → ¬ M0 k) (h0 : I [] M0 w)
 (Ax : α → Act → World → World → Prop) (hAx : ∀ x a' W W1 W2 l, l < W.heap.size → Ax x a' W W1 → Wr (· = l) W1 W2 → Ax x a' W W2)
 (hassign : ∀ (l : Nat) (pre : List α) (x : α) (M : Nat → Prop) (W : World) (K : Act → World → Prop), I pre M W → (∀ a' W', Wr (fun _ => False) W W' → Ax x a' W W' → K a' W') →
  assign.wpIn (F.inRound l) (n - 1 - 1 - d) P (Exit.then K (fun _ _ _ => False)) { tmps := (ps.zip (encs x)).foldl (fun t (p, v) => t.setIfInBounds p v) a.tmps, defers := [] } W)
 (hbody : ∀ (l : Nat) (pre : List α) (x : α) (a' : Act) (M : Nat → Prop) (W0 W : World), I pre M W → Ax x a' W0 W → W0.heap.size ≤ W.heap.size → w.heap.size ≤ W0.heap.size → (∃ suf, pre ++ x :: suf = xs) → body.wpIn (F.inRound l) (n - 1 - 1 - d) P
  (fun e _ W' => match e with | .normal => ∃ M', I (pre ++ [x]) M' W' ∧ Wr (fun k => M k ∨ W0.heap.size ≤ k) W W' ∧ (∀ k, M' k → M k ∨ W0.heap.size ≤ k) | _ => False) a' W)
 (hdone : ∀ (D : Nat) (M : Nat → Prop) (W : World), w.heap.size ≤ D → ¬ M D → I xs M W → (∀ k, M k → M0 k ∨ w.heap.size ≤ k) → Wr (fun k => n₀ ≤ k) w W → W.heap[D]? = some (.deferred (some [])) → Q .normal { a with defers := { target := .collected D, args := #[] } :: a.defers } W) :
 (Code.rangeFunc g ps assign body).wpIn F n P Q a w := by
 refine wpIn_rangeFunc ?_
 intro fn hfn
 rw [hro]
 let rec0 : LoopState → Loop := fun st => { state := st, pending := none, fn, tmps := a.tmps, params := ps, assign, body, defers := w.heap.size }
 obtain ⟨W1, hW1⟩ : ∃ W1, W1 = (w.alloc (.deferred (some []))).alloc (.loop (rec0 .ready)) := ⟨_, rfl⟩
 have hL1 : W1.heap[w.heap.size + 1]? = some (.loop (rec0 .ready)) := by
  rw [hW1]
  have := World.alloc_heap_new (w.alloc (.deferred (some []))) (.loop (rec0 .ready))
  rwa [World.size_alloc] at this
 have hD1 : W1.heap[w.heap.size]? = some (.deferred (some [])) := by
  rw [hW1]
  exact (Below.heap_alloc _ _ _ (by simp)).trans (World.alloc_heap_new w _)
 have hw1 : ∀ N : Nat → Prop, Wr N w W1 := fun N => by rw [hW1]; exact ((Wr.refl N w).alloc _).alloc _
 have hM0lt := hOw [] M0 w h0
 have hI1 : I [] M0 W1 := hMi _ _ _ _ h0 (hw1 _)
 refine ⟨w.heap.size + 1, [{ target := .collected w.heap.size, args := #[] }], W1, { target := .fn (.func gf) lb, args := #[.func (.yield (w.heap.size + 1)) #[] #[]] }, W1, gf,
  #[.func (.yield (w.heap.size + 1)) #[] #[]] ++ lb, W1, ?_, ?_, ?_, ?_, fun _ => h1, ?_⟩
 ·
  rw [hW1]; exact run_enterLoop_outer _ _ _ _ _
 ·
  simp only [resolve, hg]
  simp [go_sem]
 ·
  intro f' hf'
  simp [Target.leads] at hf'
  subst hf'; exact hFg
 ·
  simp [invoke, go_sem, eg]
 refine (hseq (w.heap.size + 1)
  (fun pre N W => ∃ M, I pre M W ∧ (∀ k, N k ↔ (M k ∨ k = w.heap.size + 1 ∨ k = w.heap.size)) ∧ ¬ M (w.heap.size + 1) ∧ ¬ M w.heap.size ∧ (∀ k, M k → M0 k ∨ w.heap.size ≤ k) ∧
   W.heap[w.heap.size + 1]? = some (.loop (rec0 .ready)) ∧ W.heap[w.heap.size]? = some (.deferred (some [])))
  (fun k => M0 k ∨ k = w.heap.size + 1 ∨ k = w.heap.size) W1 ?_ ?_ (hw1 _) ?_ ?_ ?_).mono ?_
 ·
  rintro pre N W ⟨M, hi, hN, _, _, _, hl, hd⟩ k hk
  rcases (hN k).1 hk with hk | hk | hk
  ·
   exact hOw _ _ _ hi k hk
  ·
   subst hk; exact ⟨by omega, (Array.getElem?_eq_some_iff.1 hl).1⟩
  ·
   subst hk; exact ⟨hn0, (Array.getElem?_eq_some_iff.1 hd).1⟩
 ·
  rintro pre N W W' ⟨M, hi, hN, h2, h3, h4, hl, hd⟩ hw
  refine ⟨M, hMi _ _ _ _ hi ?_, hN, h2, h3, h4, ?_, ?_⟩
  ·
   exact ⟨hw.os, hw.tape, hw.output, hw.size, fun k hk hn => hw.keep k hk (fun ⟨a, b⟩ => hn ⟨a, fun e => b ((hN k).2 (.inl e))⟩)⟩
  ·
   exact (hw.keep _ (Array.getElem?_eq_some_iff.1 hl).1 (fun ⟨_, b⟩ => b ((hN _).2 (.inr (.inl rfl))))).trans hl
  ·
   exact (hw.keep _ (Array.getElem?_eq_some_iff.1 hd).1 (fun ⟨_, b⟩ => b ((hN _).2 (.inr (.inr rfl))))).trans hd
 ·
  intro k hk hm
  have := hBx k hk
  rcases hm with hm | hm | hm
  ·
   exact hM0 k hk hm
  ·
   omega
  ·
   omega
 ·
  rintro pre x N W ⟨M, hi, hN, h2, h3, h4, hl, hd⟩ hsuf
  have hlt : w.heap.size + 1 < W.heap.size := (Array.getElem?_eq_some_iff.1 hl).1
  have hy := run_yield (P := P) (args := encs x) hl (hps x)
  refine ⟨fn, _, assign, body, hy, roundIn_of_wpIn hfn (hassign _ pre x M W _ hi ?_)⟩
  intro a' Wa hwa hax
  have hla := (hwa.keep _ hlt (fun h => h)).trans hl
  have hda := (hwa.keep _ (by omega) (fun h => h)).trans hd
  have hlta : w.heap.size + 1 < Wa.heap.size := by have := hwa.size; omega
  refine ⟨_, run_beginRound hla rfl, ?_⟩
  have hia : I pre M Wa := hMi _ _ _ _ hi (hwa.mono (fun _ h => h.elim))
  have hwb : Wr (· = w.heap.size + 1) Wa (Wa.putObj (w.heap.size + 1) (.loop { rec0 .ready with state := .busy })) := (Wr.refl (· = w.heap.size + 1) Wa).putObj (l := w.heap.size + 1) (.inl rfl) _
  have hib : I pre M (Wa.putObj (w.heap.size + 1) (.loop { rec0 .ready with state := .busy })) := hMi _ _ _ _ hia (hwb.mono (fun k e => by have e' : k = w.heap.size + 1 := e; subst e'; exact ⟨by omega, h2⟩))
  have hlb : (Wa.putObj (w.heap.size + 1) (.loop { rec0 .ready with state := .busy })).heap[w.heap.size + 1]? = some (.loop { rec0 .ready with state := .busy }) := World.putObj_heap_same hlta
  have hdb : (Wa.putObj (w.heap.size + 1) (.loop { rec0 .ready with state := .busy })).heap[w.heap.size]? = some (.deferred (some [])) := (World.putObj_heap_other (by omega)).trans hda
  refine wpIn_mono (hbody _ pre x a' M W _ hib (hAx _ _ _ _ _ _ hlt hax hwb) (by simp; exact hwa.size) (by omega) hsuf) ?_
  intro e a3 W3 hp
  cases e with
  | normal =>
    obtain ⟨M', hi3, hw3, hM'⟩ := hp
    have hl3 := (hw3.keep _ (by simp; exact hlta) (fun e => by rcases e with e | e; exact h2 e; omega)).trans hlb
    have hd3 := (hw3.keep _ (by simp; omega) (fun e => by rcases e with e | e; exact h3 e; omega)).trans hdb
    have hlt3 := (Array.getElem?_eq_some_iff.1 hl3).1
    have hm2 : ¬ M' (w.heap.size + 1) := fun e => by rcases hM' _ e with h | h; exact h2 h; omega
    have hm3 : ¬ M' w.heap.size := fun e => by rcases hM' _ e with h | h; exact h3 h; omega
    refine ⟨_, _, run_endRound (P := P) none hl3, rfl, fun k => M' k ∨ k = w.heap.size + 1 ∨ k = w.heap.size, ⟨M', ?_, fun k => Iff.rfl, hm2, hm3, ?_, World.putObj_heap_same hlt3, (World.putObj_heap_other (by omega)).trans hd3⟩, ?_, ?_⟩
    ·
     exact hMi _ _ _ _ hi3 ((Wr.refl _ _).putObj (.inl ⟨by omega, hm2⟩) _)
    ·
     intro k hk
     rcases hM' k hk with h | h
     ·
      exact h4 k h
     ·
      right; omega
    ·
     refine ((((hwa.mono (N := N) (fun _ h => h.elim)).putObj (l := w.heap.size + 1) (.inl ((hN _).2 (.inr (.inl rfl)))) _).trans (N := N) hw3 (fun k _ h => h) (fun k hk h => ?_)).putObj (l := w.heap.size + 1) (.inl ((hN _).2 (.inr (.inl rfl)))) _)
     rcases h with h | h
     ·
      exact (hN k).2 (.inl h)
     ·
      omega
    ·
     rintro k (hk | hk)
     ·
      rcases hM' k hk with h | h
      ·
       exact .inl ((hN k).2 (.inl h))
      ·
       exact .inr h
     ·
      exact .inl ((hN k).2 (.inr hk))
  | ret => exact hp.elim
  | exit id => exact hp.elim
  | goto t => exact hp.elim
  | panic ch => exact hp.elim
  | outgrown => exact hp.elim
 ·
  exact ⟨M0, hI1, fun k => Iff.rfl, fun e => by have := (hM0lt _ e).2; omega, fun e => by have := (hM0lt _ e).2; omega, fun k h => .inl h, hL1, hD1⟩
 ·
  rintro e W2 ⟨⟨v, rfl⟩, N, ⟨M, hi, hN, h2, h3, h4, hl, hd⟩, hw2, _⟩
  refine ⟨none, _, run_endLoop (P := P) hl (by simp [rec0]), hdone _ M _ (Nat.le_refl _) h3 ?_ h4 ?_ ((World.putObj_heap_other (by omega)).trans hd)⟩
  ·
   exact hMi _ _ _ _ hi ((Wr.refl _ _).putObj (.inl ⟨by omega, h2⟩) _)
  ·
   exact ((hw1 (fun k => n₀ ≤ k)).trans hw2 (fun _ _ h => h) (fun _ _ h => h)).putObj (.inl (by omega)) _
end
open Go.RowKit
structure Caught (sb : Nat) (er : Int) (evt : Bool) (ev : Ev) (w w' : World) : Prop where
 size : w.heap.size ≤ w'.heap.size
 os : w'.os = w.os
 tape : w'.tape = w.tape
 output : w'.output = w.output
 keep : ∀ k, k < w.heap.size → k ≠ sb → w'.heap[k]? = w.heap[k]?
 blk : w'.heap[sb]? = some (.cells #[.int .i64 er, .bool evt, .int .i64 ev.after, .int .i64 ev.kind, .int .i64 ev.level] 116 (0, 0))
theorem caught_of {sb : Nat} {er : Int} {evt : Bool} {ev : Ev} {w : World} {a0 a1 a2 a3 a4 : Value} (hs : w.heap[sb]? = some (.cells #[a0, a1, a2, a3, a4] 116 (0, 0))) (ob : Obj) :
 Caught sb er evt ev w ((((((w.setCell ⟨sb, 0, none⟩ (.int .i64 er)).setCell ⟨sb, 1, none⟩ (.bool evt)).setCell ⟨sb, 2, none⟩ (.int .i64 ev.after)).setCell ⟨sb, 3, none⟩ (.int .i64 ev.kind)).setCell ⟨sb, 4, none⟩ (.int .i64 ev.level)).alloc ob) := by
 have w1 := (Wr.refl (· = sb) w).setCell (p := ⟨sb, 0, none⟩) (.inl rfl) (.int .i64 er)
 have h1 : (w.setCell ⟨sb, 0, none⟩ (.int .i64 er)).heap[sb]? = some (.cells #[.int .i64 er, a1, a2, a3, a4] 116 (0, 0)) := heap_setCell_same hs _
 generalize w.setCell ⟨sb, 0, none⟩ (.int .i64 er) = W1 at *
 have w2 := w1.setCell (p := ⟨sb, 1, none⟩) (.inl rfl) (.bool evt)
 have h2 : (W1.setCell ⟨sb, 1, none⟩ (.bool evt)).heap[sb]? = some (.cells #[.int .i64 er, .bool evt, a2, a3, a4] 116 (0, 0)) := heap_setCell_same h1 _
 generalize W1.setCell ⟨sb, 1, none⟩ (.bool evt) = W2 at *
 have w3 := w2.setCell (p := ⟨sb, 2, none⟩) (.inl rfl) (.int .i64 ev.after)
 have h3 : (W2.setCell ⟨sb, 2, none⟩ (.int .i64 ev.after)).heap[sb]? = some (.cells #[.int .i64 er, .bool evt, .int .i64 ev.after, a3, a4] 116 (0, 0)) := heap_setCell_same h2 _
 generalize W2.setCell ⟨sb, 2, none⟩ (.int .i64 ev.after) = W3 at *
 have w4 := w3.setCell (p := ⟨sb, 3, none⟩) (.inl rfl) (.int .i64 ev.kind)
 have h4 : (W3.setCell ⟨sb, 3, none⟩ (.int .i64 ev.kind)).heap[sb]? = some (.cells #[.int .i64 er, .bool evt, .int .i64 ev.after, .int .i64 ev.kind, a4] 116 (0, 0)) := heap_setCell_same h3 _
 generalize W3.setCell ⟨sb, 3, none⟩ (.int .i64 ev.kind) = W4 at *
 have w5 := w4.setCell (p := ⟨sb, 4, none⟩) (.inl rfl) (.int .i64 ev.level)
 have h5 : (W4.setCell ⟨sb, 4, none⟩ (.int .i64 ev.level)).heap[sb]? = some (.cells #[.int .i64 er, .bool evt, .int .i64 ev.after, .int .i64 ev.kind, .int .i64 ev.level] 116 (0, 0)) := heap_setCell_same h4 _
 generalize W4.setCell ⟨sb, 4, none⟩ (.int .i64 ev.level) = W5 at *
 have w6 := w5.alloc ob
 exact ⟨w6.size, w6.os, w6.tape, w6.output, fun k hk hne => w6.keep k hk hne, (Go.heap_alloc_old _ _ (Array.getElem?_eq_some_iff.1 h5).1).trans h5⟩
theorem run_assertStop (v : Value) (w : World) : (Instr.typeAssert (.iface 116 v) 20 116 true).run Tryz.prog w = .ok (.tuple #[v, .bool true]) w := by
 simp [Instr.typeAssert, run_underlying Tryz.underlying116, go_sem, Result.andThen]
theorem catch_idle (dn st : Addr) (w : World) (hd : w.cell? dn = some (.bool true)) :
 CallsD Tryz.prog 150 #[.pointer (some dn), .pointer (some st)] .returning w fun e u' w' => e = .returned (.tuple #[]) ∧ u' = .returning ∧ w' = w := by
 refine callsD_of_wpS Tryz.func150 rfl fun c₀ cs hu => ?_
 apply wpS_seq
 apply wpS_seq
 apply wpS_region
 simp [wpOpsS, go_sem, hd, Tryz.ntmps150, Exit.thenS]
 refine wpS_cond (t := true) (by simp [Act.eval, Array.replicate]) ?_
 simp only [if_true]
 refine wpS_of_wp (wp_ret ?_)
 cases c₀
 simp_all [Exit.thenS, bodyPostS, results, Tryz.results150]
set_option maxRecDepth 100000 in
set_option maxHeartbeats 1000000 in
theorem catch_panicking (dn sb : Nat) (er : Int) (evt : Bool) (ev : Ev) (older : List PanicEntry) (w : World) (a0 a1 a2 a3 a4 : Value) (hd : w.cell? ⟨dn, 0, none⟩ = some (.bool false)) (hs : w.heap[sb]? = some (.cells #[a0, a1, a2, a3, a4] 116 (0, 0))) :
 CallsD Tryz.prog 150 #[.pointer (some ⟨dn, 0, none⟩), .pointer (some ⟨sb, 0, none⟩)] (.panicking ({ v := .iface 116 (.agg #[.int .i64 er, .bool evt, .int .i64 ev.after, .int .i64 ev.kind, .int .i64 ev.level]), recovered := false } :: older)) w fun e u' w' =>
  e = .returned (.tuple #[]) ∧ u' = .panicking ({ v := .iface 116 (.agg #[.int .i64 er, .bool evt, .int .i64 ev.after, .int .i64 ev.kind, .int .i64 ev.level]), recovered := true } :: older) ∧
  Caught sb er evt ev w w' := by
 refine callsD_of_wpS Tryz.func150 rfl fun c₀ cs hu => ?_
 simp only [Tryz.ntmps150, List.size_toArray, List.length_cons, List.length_nil, Nat.reduceAdd, Nat.reduceSub, Array.replicate_succ, Array.replicate_zero, List.push_toArray, List.append_toArray, List.nil_append, List.cons_append]
 apply wpS_seq
 apply wpS_seq
 apply wpS_region
 simp [wpOpsS, go_sem, hd, Exit.thenS]
 refine wpS_cond (t := false) (by simp [Act.eval]) ?_
 simp only [Bool.false_eq_true, if_false]
 refine wpS_of_wp (wp_skip ?_)
 simp only [Exit.thenS]
 apply wpS_seq
 apply wpS_region
 simp [wpOpsS, go_sem, recoverD, hu, Exit.thenS]
 have lsb : sb < w.heap.size := (Array.getElem?_eq_some_iff.1 hs).1
 obtain ⟨c0, c1, c2, c3, c4, f0⟩ := cells5 hs
 refine wpS_of_wp (wp_mono (Q := fun e a' w' => e = .normal ∧ a'.defers = [] ∧ Caught sb er evt ev w w') ?_ ?_)
 ·
  have HS := Lib.hid hs
  have hta := fun v => run_assertStop v w
  clear hs
  go_wp2_with fail
  first | exact ⟨rfl, rfl, caught_of HS.out _⟩ | exact caught_of HS.out _
 ·
  rintro e a' w' ⟨rfl, h1, h2⟩
  refine ⟨h1, _, rfl, _, results_none rfl _ _ _, ?_⟩
  exact ⟨rfl, rfl, h2⟩
open Go.RowKit
abbrev Stop := Int × Bool × Ev
def stopA (r : Option Stop) : Value :=
 match r with
 | some (er, evt, ev) => .agg #[.int .i64 er, .bool evt, .int .i64 ev.after, .int .i64 ev.kind, .int .i64 ev.level]
 | none => .agg #[.int .i64 0, .bool false, .int .i64 0, .int .i64 0, .int .i64 0]
def tryW (mb : Nat) (w : World) : World :=
 ((w.alloc (.cells #[.int .i64 0, .bool false, .int .i64 0, .int .i64 0, .int .i64 0] 116)).alloc (.cells #[.bool false] 4)).alloc (.cells #[.pointer (some ⟨mb, 0, none⟩)] 114)
def TryPost (w : World) (R : Option Stop → World → Prop) (x : Ending) (w' : World) : Prop :=
 ∃ r W', R r W' ∧ Wr (fun k => k = w.heap.size ∨ k = w.heap.size + 1) W' w' ∧ x = .returned (.tuple #[stopA r, .bool r.isNone])
def TryOp (gf : Nat) (lb : Array Value) (mb : Nat) (w : World) (R : Option Stop → World → Prop) : Prop :=
 Calls Tryz.prog gf (#[.pointer (some ⟨w.heap.size + 2, 0, none⟩)] ++ lb) (tryW mb w) fun e W' =>
  (tryW mb w).heap.size ≤ W'.heap.size ∧ W'.heap[w.heap.size]? = (tryW mb w).heap[w.heap.size]? ∧ W'.heap[w.heap.size + 1]? = (tryW mb w).heap[w.heap.size + 1]? ∧
   ((e = .returned (.tuple #[]) ∧ R none W') ∨ ∃ er evt ev, e = stopP er evt ev ∧ R (some (er, evt, ev)) W')
theorem done_world {s : Nat} {W : World} (h0 : W.heap[s]? = some (.cells #[.int .i64 0, .bool false, .int .i64 0, .int .i64 0, .int .i64 0] 116 (0, 0))) (h1 : W.heap[s + 1]? = some (.cells #[.bool false] 4 (0, 0))) {W2 : World}
 (hW : W2 = (((((W.setCell ⟨s, 0, none⟩ (.int .i64 0)).setCell ⟨s, 1, none⟩ (.bool false)).setCell ⟨s, 2, none⟩ (.int .i64 0)).setCell ⟨s, 3, none⟩ (.int .i64 0)).setCell ⟨s, 4, none⟩ (.int .i64 0)).setCell ⟨s + 1, 0, none⟩ (.bool true)) :
 Wr (fun k => k = s ∨ k = s + 1) W W2 ∧ W2.heap[s]? = some (.cells #[.int .i64 0, .bool false, .int .i64 0, .int .i64 0, .int .i64 0] 116 (0, 0)) ∧ W2.heap[s + 1]? = some (.cells #[.bool true] 4 (0, 0)) := by
 have n1 : s + 1 ≠ s := by omega
 have w1 := (Wr.refl (fun k => k = s ∨ k = s + 1) W).setCell (p := ⟨s, 0, none⟩) (.inl (.inl rfl)) (.int .i64 0)
 have a1 : (W.setCell ⟨s, 0, none⟩ (.int .i64 0)).heap[s]? = some (.cells #[.int .i64 0, .bool false, .int .i64 0, .int .i64 0, .int .i64 0] 116 (0, 0)) := heap_setCell_same h0 _
 have b1 := (heap_setCell_ne (p := ⟨s, 0, none⟩) (w := W) n1 (.int .i64 0)).trans h1
 generalize W.setCell ⟨s, 0, none⟩ (.int .i64 0) = W1 at *
 have w2 := w1.setCell (p := ⟨s, 1, none⟩) (.inl (.inl rfl)) (.bool false)
 have a2 : (W1.setCell ⟨s, 1, none⟩ (.bool false)).heap[s]? = some (.cells #[.int .i64 0, .bool false, .int .i64 0, .int .i64 0, .int .i64 0] 116 (0, 0)) := heap_setCell_same a1 _
 have b2 := (heap_setCell_ne (p := ⟨s, 1, none⟩) (w := W1) n1 (.bool false)).trans b1
 generalize W1.setCell ⟨s, 1, none⟩ (.bool false) = W3 at *
 have w3 := w2.setCell (p := ⟨s, 2, none⟩) (.inl (.inl rfl)) (.int .i64 0)
 have a3 : (W3.setCell ⟨s, 2, none⟩ (.int .i64 0)).heap[s]? = some (.cells #[.int .i64 0, .bool false, .int .i64 0, .int .i64 0, .int .i64 0] 116 (0, 0)) := heap_setCell_same a2 _
 have b3 := (heap_setCell_ne (p := ⟨s, 2, none⟩) (w := W3) n1 (.int .i64 0)).trans b2
 generalize W3.setCell ⟨s, 2, none⟩ (.int .i64 0) = W4 at *
 have w4 := w3.setCell (p := ⟨s, 3, none⟩) (.inl (.inl rfl)) (.int .i64 0)
 have a4 : (W4.setCell ⟨s, 3, none⟩ (.int .i64 0)).heap[s]? = some (.cells #[.int .i64 0, .bool false, .int .i64 0, .int .i64 0, .int .i64 0] 116 (0, 0)) := heap_setCell_same a3 _
 have b4 := (heap_setCell_ne (p := ⟨s, 3, none⟩) (w := W4) n1 (.int .i64 0)).trans b3
 generalize W4.setCell ⟨s, 3, none⟩ (.int .i64 0) = W5 at *
 have w5 := w4.setCell (p := ⟨s, 4, none⟩) (.inl (.inl rfl)) (.int .i64 0)
 have a5 : (W5.setCell ⟨s, 4, none⟩ (.int .i64 0)).heap[s]? = some (.cells #[.int .i64 0, .bool false, .int .i64 0, .int .i64 0, .int .i64 0] 116 (0, 0)) := heap_setCell_same a4 _
 have b5 := (heap_setCell_ne (p := ⟨s, 4, none⟩) (w := W5) n1 (.int .i64 0)).trans b4
 generalize W5.setCell ⟨s, 4, none⟩ (.int .i64 0) = W6 at *
 subst hW
 exact ⟨w5.setCell (p := ⟨s + 1, 0, none⟩) (.inl (.inr rfl)) _, (heap_setCell_ne (Ne.symm n1) _).trans a5, heap_setCell_same b5 _⟩
set_option maxRecDepth 100000 in
set_option maxHeartbeats 1000000 in
theorem try_any (mb gf : Nat) (lb : Array Value) (w : World) (R : Option Stop → World → Prop) (eg : ∀ args w, (callFunc gf args).run Tryz.prog w = .ok (.enter gf args) w) (hop : TryOp gf lb mb w R) :
 Calls Tryz.prog 121 #[.pointer (some ⟨mb, 0, none⟩), .func (.func gf) #[] lb] w (TryPost w R) := by
 have hmf : ∀ (fn : Fn) (first cap : Array Value) (w : World), (Instr.makeFunc fn first cap).run Tryz.prog w = .ok (.func fn first cap) w := fun _ _ _ _ => rfl
 unfold TryOp at hop
 obtain ⟨W, hW⟩ : ∃ W, W = tryW mb w := ⟨_, rfl⟩
 have HW : Hid (_ = W) := Lib.hid hW.symm
 rw [← hW] at hop
 have HOP := Lib.hid hop
 clear hop hW
 go_enter_defers Tryz.func121, Tryz.ntmps121
 go_wp2_with fail
 change Calls _ _ _ (tryW mb w) _
 have hT0 : (tryW mb w).heap[w.heap.size]? = some (.cells #[.int .i64 0, .bool false, .int .i64 0, .int .i64 0, .int .i64 0] 116 (0, 0)) := by
  unfold tryW
  exact (Go.heap_alloc_old _ _ (by simp; omega)).trans ((Go.heap_alloc_old _ _ (by simp)).trans (heap_alloc_new w _))
 have hT1 : (tryW mb w).heap[w.heap.size + 1]? = some (.cells #[.bool false] 4 (0, 0)) := by
  unfold tryW
  refine (Go.heap_alloc_old _ _ (by simp)).trans ?_
  have := heap_alloc_new (w.alloc (.cells #[.int .i64 0, .bool false, .int .i64 0, .int .i64 0, .int .i64 0] 116)) (.cells #[.bool false] 4)
  rwa [World.size_alloc] at this
 rw [HW.out] at hT0 hT1 ⊢
 have hsz0 : W.heap.size = w.heap.size + 3 := by rw [← HW.out]; simp [tryW]
 refine HOP.out.mono ?_
 rintro e W' ⟨hsz, hk1, hk2, hcase⟩
 have hb0 := hk1.trans hT0
 have hb1 := hk2.trans hT1
 obtain ⟨c0, c1, c2, c3, c4, f0⟩ := cells5 hb0
 have c5 : W'.cell? ⟨w.heap.size + 1, 0, none⟩ = some (.bool false) := by rw [cell_of_row W' _ 0 _ _ _ hb1]; rfl
 have f1 : ∀ k, W'.frozen? ⟨w.heap.size + 1, k, none⟩ = false := fun k => by simp [World.frozen?, hb1]
 obtain ⟨s, hs⟩ : ∃ s, s = w.heap.size := ⟨_, rfl⟩
 rw [← hs] at hb0 hb1 c0 c1 c2 c3 c4 f0 c5 f1 ⊢
 have hs1 : s < W'.heap.size := by omega
 have hs2 : s + 1 < W'.heap.size := by omega
 have HB0 := Lib.hid hb0
 have HB1 := Lib.hid hb1
 have HS := Lib.hid hs
 clear hT0 hT1 hk1 hk2 hb0 hb1 hs hsz0 hsz HOP HW
 rcases hcase with ⟨rfl, hr⟩ | ⟨er, evt, ev, rfl, hr⟩
 ·
  have HR := Lib.hid hr
  clear hr
  go_wp2_with fail
  obtain ⟨W2, hW2⟩ : ∃ W2, W2 = (((((W'.setCell ⟨s, 0, none⟩ (.int .i64 0)).setCell ⟨s, 1, none⟩ (.bool false)).setCell ⟨s, 2, none⟩ (.int .i64 0)).setCell ⟨s, 3, none⟩ (.int .i64 0)).setCell ⟨s, 4, none⟩ (.int .i64 0)).setCell ⟨s + 1, 0, none⟩ (.bool true) := ⟨_, rfl⟩
  obtain ⟨q1, q2, q3⟩ := done_world HB0.out HB1.out hW2
  rw [← hW2]
  clear hW2 c0 c1 c2 c3 c4 f0 c5 f1
  obtain ⟨c0, c1, c2, c3, c4, f0⟩ := cells5 q2
  have c5 : W2.cell? ⟨s + 1, 0, none⟩ = some (.bool true) := by rw [cell_of_row W2 _ 0 _ _ _ q3]; rfl
  refine leaves_cons (f := 150) (args := #[.pointer (some ⟨s + 1, 0, none⟩), .pointer (some ⟨s, 0, none⟩)]) (by simp) (by simp [go_sem]) ?_
  refine (catch_idle ⟨s + 1, 0, none⟩ ⟨s, 0, none⟩ _ c5).mono ?_
  rintro e u' w'' ⟨rfl, rfl, rfl⟩
  simp [Leaves, settle, results, Tryz.results121, go_sem, c0, c1, c2, c3, c4, c5]
  exact ⟨none, W', HR.out, by rw [← HS.out]; exact q1, rfl⟩
 ·
  have HR := Lib.hid hr
  clear hr
  unfold stopP
  go_wp2_with fail
  refine leaves_cons (f := 150) (args := #[.pointer (some ⟨s + 1, 0, none⟩), .pointer (some ⟨s, 0, none⟩)]) (by simp) (by simp [go_sem]) ?_
  refine (catch_panicking (s + 1) s er evt ev [] _ _ _ _ _ _ c5 HB0.out).mono ?_
  rintro e u' w'' ⟨rfl, rfl, hc⟩
  have q3 := (hc.keep (s + 1) hs2 (by omega)).trans HB1.out
  clear c0 c1 c2 c3 c4 f0 c5 f1
  obtain ⟨c0, c1, c2, c3, c4, f0⟩ := cells5 hc.blk
  have c5 : w''.cell? ⟨s + 1, 0, none⟩ = some (.bool false) := by rw [cell_of_row w'' _ 0 _ _ _ q3]; rfl
  simp [Leaves, settle, results, Tryz.results121, go_sem, c0, c1, c2, c3, c4, c5]
  exact ⟨some (er, evt, ev), W', HR.out, ⟨hc.os, hc.tape, hc.output, hc.size, fun k hk hn => hc.keep k hk (fun e => hn (.inl (e.trans HS.out)))⟩, rfl⟩
open Go.RowKit
abbrev Ali (s : Nat) (W W' : World) : Prop := Wr (fun k => k = s ∨ k = s + 1) W W'
structure RunOp (gf : Nat) (lb : Array Value) (mb : Nat) (I : Nat → Bool → World → Prop) (Fin : Int → World → Prop) (n : Nat) (room : Bool) (W : World) (R : Option Stop → World → Prop) : Prop where
 op : TryOp gf lb mb W R
 fin : ∀ W1 W2, R none W1 → Ali W.heap.size W1 W2 → Fin 0 W2
 event : ∀ er ev W1 W2, R (some (er, true, ev)) W1 → Ali W.heap.size W1 W2 → Calls Tryz.prog 122 #[.pointer (some ⟨mb, 0, none⟩), evA ev] W2 fun x w' => x = .returned (.tuple #[]) ∧ ∃ n', n' < n ∧ I n' false w'
 full : ∀ ev W1 W2, R (some (7, false, ev)) W1 → Ali W.heap.size W1 W2 → room = false → Calls Tryz.prog 46 #[.pointer (some ⟨mb, 0, none⟩)] W2 fun x w' => (∃ v, x = .returned v) ∧ I n true w'
 err : ∀ er ev W1 W2, R (some (er, false, ev)) W1 → Ali W.heap.size W1 W2 → ¬ (er = 7 ∧ room = false) → Fin er W2
set_option maxRecDepth 100000 in
set_option maxHeartbeats 2000000 in
theorem run_any (mb gf : Nat) (lb : Array Value) (w : World) (eg : ∀ args w, (callFunc gf args).run Tryz.prog w = .ok (.enter gf args) w) (I : Nat → Bool → World → Prop) (Fin : Int → World → Prop)
 (hI : ∀ n room W, I n room W → ∃ R, RunOp gf lb mb I Fin n room W R) (n0 : Nat) (h0 : I n0 false w) :
 Calls Tryz.prog 85 #[.pointer (some ⟨mb, 0, none⟩), .func (.func gf) #[] lb] w fun x w' => ∃ er, x = .returned (.int .i64 er) ∧ Fin er w' := by
 have HI := Lib.hid hI
 clear hI
 go_enter Tryz.func85, Tryz.ntmps85
 go_wp2_with fail
 go_loopg [5] (2 * n0 + 1) (fun gk s5 wx => ∃ (n : Nat) (room : Bool), s5 = .bool room ∧ I n room wx ∧ gk = 2 * n + (if room then 0 else 1))
 case atStart => exact ⟨n0, false, rfl, h0, rfl⟩
 case round =>
  obtain ⟨n, room, rfl, hi, hgk⟩ := hrel
  obtain ⟨R, hR⟩ := HI.out n room wr hi
  have HTRY := Lib.hid (try_any mb gf lb wr R eg hR.op)
  have HR := Lib.hid hR
  have HGK := Lib.hid hgk
  clear hi hR hgk h0
  go_wp2_with fail
  refine HTRY.out.mono ?_
  rintro x w2 ⟨r, W1, hr, hw, rfl⟩
  obtain ⟨bx, hbx⟩ : ∃ bx, bx = w2.heap.size := ⟨_, rfl⟩
  cases r with
  | none =>
    have HF := Lib.hid fun W2 (h : Wr (fun _ => False) w2 W2) => HR.out.fin W1 W2 hr (hw.trans h (fun _ _ e => e) (fun _ _ e => e.elim))
    clear hr hw
    unfold stopA
    go_wp2_with fail
    go_ret
    exact ⟨0, rfl, HF.out _ ((Wr.refl _ w2).alloc _)⟩
  | some st =>
    obtain ⟨er, evt, ev⟩ := st
    unfold stopA
    cases evt with
    | true =>
      have HF := Lib.hid fun W2 (h : Wr (fun _ => False) w2 W2) => HR.out.event er ev W1 W2 hr (hw.trans h (fun _ _ e => e) (fun _ _ e => e.elim))
      clear hr hw
      go_wp2_with fail
      refine (HF.out _ ((Wr.refl _ w2).alloc _)).mono ?_
      rintro x w3 ⟨rfl, n', hn', hi'⟩
      have HN' := Lib.hid hn'
      have HI' := Lib.hid hi'
      clear hn' hi'
      go_wp2_with fail
      go_roundg (2 * n' + 1)
      case rel => exact ⟨n', false, rfl, HI'.out, rfl⟩
      case measure => have h1 := HN'.out; have h2 := HGK.out; omega
    | false =>
      have HW := Lib.hid fun W2 (h : Wr (fun _ => False) w2 W2) => hw.trans h (N := fun k => k = wr.heap.size ∨ k = wr.heap.size + 1) (fun _ _ e => e) (fun _ _ e => e.elim)
      have HRR := Lib.hid hr
      clear hr hw
      by_cases h7 : er = 7
      ·
       subst h7
       cases room with
       | false =>
         have HF := Lib.hid fun W2 (h : Wr (fun _ => False) w2 W2) => HR.out.full ev W1 W2 HRR.out (HW.out W2 h) rfl
         go_wp2_with fail
         refine (HF.out _ ((Wr.refl _ w2).alloc _)).mono ?_
         rintro x w3 ⟨⟨vv, rfl⟩, hi'⟩
         have HI' := Lib.hid hi'
         clear hi'
         go_wp2_with fail
         go_roundg (2 * n)
         case rel => exact ⟨n, true, rfl, HI'.out, rfl⟩
         case measure => have h2 := HGK.out; simp at h2; omega
       | true =>
         have HF := Lib.hid fun W2 (h : Wr (fun _ => False) w2 W2) => HR.out.err 7 ev W1 W2 HRR.out (HW.out W2 h) (by simp)
         go_wp2_with fail
         go_ret
         exact ⟨_, rfl, HF.out _ ((Wr.refl _ w2).alloc _)⟩
      ·
       have H7 : ((er : Int) == 7) = false := by simpa using h7
       have HF := Lib.hid fun W2 (h : Wr (fun _ => False) w2 W2) => HR.out.err er ev W1 W2 HRR.out (HW.out W2 h) (fun e => h7 e.1)
       go_wp2_with fail
       go_ret
       exact ⟨_, rfl, HF.out _ ((Wr.refl _ w2).alloc _)⟩
open Go.RowKit
theorem acy_of {d : StoreD} {V : Nat → BF} (hk : StoreOK d V) : Acy (nodesOf d) (fun i => d.vars.length - lvE d.vars.length (levN d) (nodesOf d) (2 * i)) := by
 have e2 : ∀ i : Nat, 2 * i / 2 = i := fun i => by omega
 have hl : ∀ i b, nodesOf d i = some b → lvE d.vars.length (levN d) (nodesOf d) (2 * i) = levN d b.v := fun i b h => by unfold lvE; rw [e2, h]
 have hh : ∀ e, lvE d.vars.length (levN d) (nodesOf d) (2 * (e / 2)) = lvE d.vars.length (levN d) (nodesOf d) e := fun e => lvE_halves (e2 _)
 refine ⟨hk.dag.none0, hk.dag.okLo, hk.dag.okHi, fun i b c h1 h2 => ?_, fun i b c h1 h2 => ?_⟩
 ·
  have a1 := hk.dag.lvLo _ _ h1
  have a2 := hk.dag.lt _ (hk.dag.var _ _ h1)
  have a3 := hh b.lo
  rw [hl i b h1]
  omega
 ·
  have a1 := hk.dag.lvHi _ _ h1
  have a2 := hk.dag.lt _ (hk.dag.var _ _ h1)
  have a3 := hh b.hi
  rw [hl i b h1]
  omega
theorem hold_ok {o : Own} {w : World} {sb : Nat} {d : StoreD} {V : Nat → BF} (h : StoreAt o w sb d) (hlt : OwnLt o w) (hk : StoreOK d V) (f : Nat) (hf : okE (nodesOf d) f) (htop : ∀ y b, nodesOf d y = some b → extOf d y < 1099511627776) :
 Calls Tryz.prog 125 #[.pointer (some ⟨sb, 0, none⟩), .int .i64 f] w fun x w' => x = .returned (.int .i64 0) ∧ ∃ d', StoreAt o w' sb d' ∧ OwnLt o w' ∧ HoldRel d d' f 1 ∧ Chg RStore o o w w' := by
 obtain ⟨s, h⟩ := h
 have hlt' := h.edge_lt hf
 rcases hf with h0 | ⟨b, hb⟩
 ·
  refine (storeHold_none h hlt hk.live f (by unfold eMax; omega) h0).mono ?_
  rintro e w' ⟨d', h1, h2, h3, h4, h5⟩
  exact ⟨h1, d', ⟨s, h2⟩, h3, h4, h5⟩
 ·
  refine (storeHold_node h hlt hk.live (acy_of hk) f (b := b) hb htop).mono ?_
  rintro e w' ⟨d', h1, h2, h3, h4, h5⟩
  exact ⟨h1, d', ⟨s, h2⟩, h3, h4, h5⟩
theorem HoldRel.ok {d d' : StoreD} {V : Nat → BF} {f : Nat} {sg : Int} (r : HoldRel d d' f sg) (hk : StoreOK d V) : StoreOK d' V := by
 have hl : levN d' = levN d := by funext v; unfold levN; rw [r.level]
 exact ⟨by rw [r.vars, hl, r.nodes]; exact hk.dag, r.live, by rw [r.vars, r.nodes, r.tab]; exact hk.tab, by rw [r.clen]; exact hk.clen, by rw [r.vars]; exact hk.small, by rw [r.vars, hl]; exact hk.inv, by rw [r.vars, hl]; exact hk.vlt⟩
theorem refsOf_append (hs : List (Int × Nat)) (n : Int) (f i : Nat) (hn : 1 < n) : refsOf (hs ++ [(n, f)]) i = refsOf hs i + (if f / 2 = i then 1 else 0) := by
 unfold refsOf
 rw [List.filter_append, List.length_append]
 congr 1
 by_cases e : f / 2 = i
 ·
  simp [e, hn]
 ·
  have : (f / 2 == i) = false := by simp [e]
  simp [e, this, List.filter]
theorem refsOf_le (hs : List (Int × Nat)) (i : Nat) : refsOf hs i ≤ hs.length := List.length_filter_le _ _
structure Gave (K : Law) (o : Own) (w : World) (mb : Nat) (m : ManD) (V : Nat → BF) (f : Nat) (o' : Own) (w' : World) (m' : ManD) : Prop where
 is : ManAt (K m'.d V) o' w' mb m'
 lt : OwnLt o' w'
 chg : Chg (fun _ => True) o o' w w'
 ok : ManOK m' V
 hs : m'.hs = m.hs ++ [(m.next, f)]
 next : m'.next = m.next + 1
 waits : m'.waits = m.waits
 calls : m'.calls = m.calls
 nodes : nodesOf m'.d = nodesOf m.d
 vars : m'.d.vars = m.d.vars
 level : m'.d.level = m.d.level
 room : m'.d.pool.room = m.d.pool.room
 many : m'.d.pool.many = m.d.pool.many
theorem handles_give {m : ManD} {d' : StoreD} {f : Nat} (h : HandlesOK m) (r : HoldRel m.d d' f 1) (hf : okE (nodesOf m.d) f) (h0 : nodesOf m.d 0 = none) : HandlesOK { m with d := d', hs := m.hs ++ [(m.next, f)], next := m.next + 1 } := by
 have hn := h.next
 refine ⟨?_, by simp [h.zero], by simp [h.one], ?_, by dsimp only; omega, ?_, ?_, ?_⟩
 ·
  dsimp only
  rw [List.map_append, List.nodup_append]
  refine ⟨h.nodup, by simp, fun a ha b hb => ?_⟩
  simp at hb
  subst hb
  rintro rfl
  obtain ⟨p, hp, e⟩ := List.mem_map.1 ha
  have := (h.lt p hp).2
  omega
 ·
  intro p hp
  rcases List.mem_append.1 hp with hp | hp
  ·
   have := h.lt p hp; dsimp only; omega
  ·
   simp at hp; subst hp; dsimp only; omega
 ·
  intro p hp
  dsimp only
  rw [r.nodes]
  rcases List.mem_append.1 hp with hp | hp
  ·
   exact h.ok p hp
  ·
   simp at hp; subst hp; exact hf
 ·
  have := h.len; simp; omega
 ·
  intro i b hb
  dsimp only at hb ⊢
  rw [r.nodes] at hb
  have hi : i ≠ 0 := by rintro rfl; rw [h0] at hb; cases hb
  rw [r.ext i hi, h.refs i b hb, refsOf_append _ _ _ _ (by omega)]
  unfold toE
  split <;> simp
theorem putL_new {k : Int} {v : Value} {l : List (Int × Value)} (h : ∀ p ∈ l, p.1 ≠ k) : putL k v l = l ++ [(k, v)] := by
 have h1 := getL_none.2 h
 unfold getL at h1
 unfold putL
 cases e : findL k l 0 with
 | none => rfl
 | some p => rw [e] at h1; cases h1
theorem ManIn.setMap {F : Phi} {o : Own} {w w' : World} {mb : Nat} {m : ManD} {s : ManW} (h : ManIn F o w mb m s) (hlt : OwnLt o w) {hs' : List (Int × Nat)} (hm : MapIs w' s.hb (Value.int .i64) (encH hs')) (hg : w.grownBy w' (some s.hb)) : ManIn F o w' mb { m with hs := hs' } s := by
 have k : ∀ {g r}, o g = some r → r ≠ .handles → w'.heap[g]? = w.heap[g]? := fun hq hr => hg.block _ (hlt _ _ hq) (fun e => by cases e; have := h.ownh; rw [hq] at this; cases this; exact hr rfl)
 exact ⟨h.own, (k h.own (by simp)).trans h.blk, h.store.keepR (fun g r hq hr => k hq (by rintro rfl; simp [RStore, RPool] at hr)) (fun _ _ h => h), h.memo.keep (fun g r hq hr => k hq (by rintro rfl; rcases hr with e | e <;> cases e)) (fun _ _ h => h), h.ownh, hm,
  h.waits.keep (fun g hq => k hq (by simp)) (fun _ h => h)⟩
theorem kI : KeyOk Tryz.prog 3 (Value.int .i64) := keyOk_int Tryz.underlying3
set_option maxRecDepth 100000 in
set_option maxHeartbeats 1000000 in
theorem give_any {K : Law} (hK : LawOK K) {o : Own} {w : World} {mb : Nat} {m : ManD} {V : Nat → BF} (hm : ManAt (K m.d V) o w mb m) (hlt : OwnLt o w) (hk : ManOK m V) (f : Nat) (hf : okE (nodesOf m.d) f) (hb : m.next < 1099511627776) :
 Calls Tryz.prog 88 #[.pointer (some ⟨mb, 0, none⟩), .int .i64 f] w fun x w' => x = .returned (.int .i64 m.next) ∧ ∃ o' m', Gave K o w mb m V f o' w' m' := by
 obtain ⟨s, hm⟩ := hm
 obtain ⟨c0, c1, c2, c3, c4, c5, f0⟩ := cells6 hm.blk
 have HHO := Lib.hid (hold_ok hm.store hlt hk.store f hf (fun y b hy => by
  rw [hk.handles.refs y b hy]
  have h1 := refsOf_le m.hs y
  have h2 := hk.handles.len
  omega))
 have hn2 := hk.handles.next
 have HM := Lib.hid hm
 have HL := Lib.hid hlt
 have HK := Lib.hid hk
 have HF := Lib.hid hf
 have HLAW := Lib.hid hK
 clear hm hlt hk hf hK
 go_enter Tryz.func88, Tryz.ntmps88
 go_wp2_with fail
 refine HHO.out.mono ?_
 rintro x w1 ⟨rfl, d', hst, hl1, hr, hc1⟩
 have hM1 := HM.out.setStore HL.out hst hc1
 have hfresh : ∀ p ∈ encH m.hs, p.1 ≠ m.next := by
  intro p hp e0
  obtain ⟨q, hq, rfl⟩ := List.mem_map.1 hp
  have h1 := HK.out.handles.lt q hq
  have h2 : q.1 < m.next := h1.2
  have h3 : q.1 = m.next := e0
  omega
 have HFR := Lib.hid hfresh
 have HM1 := Lib.hid hM1
 have HL1 := Lib.hid hl1
 have HR := Lib.hid hr
 have HC1 := Lib.hid hc1
 clear hst hl1 hr hc1 hfresh c0 c1 c2 c3 c4 c5 f0
 obtain ⟨c0, c1, c2, c3, c4, c5, f0⟩ := cells6 hM1.blk
 clear hM1
 go_upto_region 3 with fail
 go_wp2_with (refine wpList_updateM (l := encH m.hs) rfl _ _ _ rfl kI Tryz.underlying101 m.next (.int .i64 (f : Nat)) rfl rfl rfl HM1.out.map ?_
              intro w2 hm2 hg2
              have hl2 : OwnLt o w2 := HL1.out.mono hg2.size
              rw [putL_new HFR.out] at hm2
              have hM2 := HM1.out.setMap HL1.out (hs' := m.hs ++ [(m.next, f)]) (by simpa [encH] using hm2) hg2
              have hc2 : Chg (fun _ => True) o o w w2 := HC1.out.any.grown hg2 (fun g hg => by cases hg; exact ⟨_, HM1.out.ownh, trivial⟩)
              have HM2 := Lib.hid hM2
              have HL2 := Lib.hid hl2
              have HC2 := Lib.hid hc2
              clear c0 c1 c2 c3 c4 c5 f0 hm2 hg2 hl2 hc2
              obtain ⟨c0, c1, c2, c3, c4, c5, f0⟩ := cells6 hM2.blk
              clear hM2)
 go_ret
 have hr := HR.out
 have hM3 : ManIn (K m.d V) o (w2.setCell ⟨mb, 3, none⟩ (.int .i64 (m.next + 1))) mb { m with d := d', hs := m.hs ++ [(m.next, f)], next := m.next + 1 } s := HM2.out.field rfl rfl rfl rfl rfl HM2.out.waits rfl
 refine ⟨rfl, o, _, ⟨⟨s, hM3.mono fun op a b c r h => HLAW.out.same _ _ _ _ _ _ _ _ hr.vars hr.level hr.nodes h⟩, HL2.out.mono (by simp [World.setCell]), HC2.out.setCell (p := ⟨mb, 3, none⟩) HM2.out.own trivial _, ⟨hr.ok HK.out.store, handles_give HK.out.handles hr HF.out HK.out.store.dag.none0⟩, rfl, rfl, rfl, rfl, hr.nodes, hr.vars, hr.level, hr.room, hr.many⟩⟩
open Go.RowKit
end Go.Proofs.YtchliiaknmknhaaGreat

namespace Go.Proofs.YtchliiaknmknhaaGreat
open Go.RowKit
def doW (gop : Nat) (lop : Array Value) (w : World) : World := (w.alloc (.cells #[.func (.func gop) #[] lop] 54)).alloc (.cells #[.int .i64 0] 52)
theorem enters_do1 : ∀ args w, (callFunc 86 args).run Tryz.prog w = .ok (.enter 86 args) w := enters_of Tryz.func86 (by kernel_rfl) rfl
theorem eqNilF (w : World) (g : Fn) (fs cs : Array Value) : (binOp .eql 54 (.func g fs cs) .nilFunc).run Tryz.prog w = .ok (.bool false) w := by
 have hd : Op.maxDepth = 9999 + 1 := rfl
 have h : (Op.equal 54 (.func g fs cs) .nilFunc).run Tryz.prog w = .ok false w := by
  unfold Op.equal
  rw [hd]
  unfold Op.equalIn
  simp only [Sem.run_bind, run_underlying Tryz.underlying54, Result.andThen_ok]
  simp
 simp only [binOp]
 simp [h]
open Go.RowKit
def varF (v : Nat) : BF := fun ρ => ρ v
theorem enters_var1 : ∀ args w, (callFunc 78 args).run Tryz.prog w = .ok (.enter 78 args) w := enters_of Tryz.func78 (by kernel_rfl) rfl
open Go.RowKit
theorem zeroEdge (w : World) : (zeroValue 52).run Tryz.prog w = .ok (.int .i64 0) w := by
 have s : (Tryz.prog.info? 52).map (fun i => i.zero) = some (some (.int .i64 0)) := by kernel_rfl
 cases hi : Tryz.prog.info? 52 with
 | none => rw [hi] at s; cases s
 | some i =>
   rw [hi] at s
   simp only [Option.map_some, Option.some.injEq] at s
   simp [zeroValue, typeInfo, hi, s]
theorem encH_nodup {hs : List (Int × Nat)} (h : (hs.map Prod.fst).Nodup) : ((encH hs).map Prod.fst).Nodup := by
 have : (encH hs).map Prod.fst = hs.map Prod.fst := by simp [encH]
 rw [this]; exact h
section
variable {F : Phi} {o : Own} {w : World} {mb : Nat} {m : ManD} {s : ManW}
theorem look_yes (h : ManIn F o w mb m s) (hn : (m.hs.map Prod.fst).Nodup) {k : Int} {f : Nat} (hk : (k, f) ∈ m.hs) :
 (Instr.lookup 101 (.map (some s.hb)) (.int .i64 k) true).run Tryz.prog w = .ok (.tuple #[.int .i64 f, .bool true]) w := by
 have h1 := h.map.lookup kI Tryz.underlying101 zeroEdge k true
 have h2 : getL (encH m.hs) k = some (.int .i64 (f : Nat)) := getL_of_mem (encH_nodup hn) (List.mem_map.2 ⟨(k, f), hk, rfl⟩)
 rw [h1, h2]; rfl
theorem look_no (h : ManIn F o w mb m s) {k : Int} (hk : ∀ f, (k, f) ∉ m.hs) :
 (Instr.lookup 101 (.map (some s.hb)) (.int .i64 k) true).run Tryz.prog w = .ok (.tuple #[.int .i64 0, .bool false]) w := by
 have h1 := h.map.lookup kI Tryz.underlying101 zeroEdge k true
 have h2 : getL (encH m.hs) k = none := getL_none.2 (by
  rintro p hp rfl
  obtain ⟨q, hq, rfl⟩ := List.mem_map.1 hp
  exact hk q.2 hq)
 rw [h1, h2]; rfl
end
set_option maxRecDepth 100000 in
theorem ctxEdge_yes {F : Phi} {o : Own} {w : World} {xb mb : Nat} {m : ManD} (h : ManAt F o w mb m) (hx : CtxAt o w xb mb) (hn : (m.hs.map Prod.fst).Nodup) {k : Int} {f : Nat} (hk : (k, f) ∈ m.hs) :
 Calls Tryz.prog 34 #[.pointer (some ⟨xb, 0, none⟩), .int .i64 k] w fun x w' => x = .returned (.int .i64 f) ∧ w = w' := by
 obtain ⟨s, h⟩ := h
 obtain ⟨c0, c1, c2, c3, c4, c5, f0⟩ := cells6 h.blk
 have cx := hx.cell
 have hl := look_yes h hn hk
 clear h hx hn hk
 go_enter Tryz.func34, Tryz.ntmps34
 go_wp2_with fail
 go_ret
 exact ⟨rfl, rfl⟩
set_option maxRecDepth 100000 in
theorem ctxEdge_no {F : Phi} {o : Own} {w : World} {xb mb : Nat} {m : ManD} (h : ManAt F o w mb m) (hx : CtxAt o w xb mb) {k : Int} (hk : ∀ f, (k, f) ∉ m.hs) :
 Calls Tryz.prog 34 #[.pointer (some ⟨xb, 0, none⟩), .int .i64 k] w fun x w' => x = stopP 8 false ev0 ∧ w = w' := by
 obtain ⟨s, h⟩ := h
 obtain ⟨c0, c1, c2, c3, c4, c5, f0⟩ := cells6 h.blk
 have cx := hx.cell
 have hl := look_no h hk
 clear h hx hk
 go_enter Tryz.func34, Tryz.ntmps34
 go_wp2_with fail
 exact ⟨rfl, rfl, rfl⟩
set_option maxRecDepth 100000 in
theorem same_yes {F : Phi} {o : Own} {w : World} {mb : Nat} {m : ManD} (h : ManAt F o w mb m) (hn : (m.hs.map Prod.fst).Nodup) {k l : Int} {f g : Nat} (hk : (k, f) ∈ m.hs) (hl : (l, g) ∈ m.hs) :
 Calls Tryz.prog 56 #[.pointer (some ⟨mb, 0, none⟩), .int .i64 k, .int .i64 l] w fun x w' => x = .returned (.tuple #[.bool (f == g), .int .i64 0]) ∧ w = w' := by
 obtain ⟨s, h⟩ := h
 obtain ⟨c0, c1, c2, c3, c4, c5, f0⟩ := cells6 h.blk
 have h1 := look_yes h hn hk
 have h2 := look_yes h hn hl
 have HE : Hid (((f : Int) == (g : Int)) = (f == g)) := by
  show ((f : Int) == (g : Int)) = (f == g)
  by_cases e : f = g
  ·
   subst e; rw [beq_self_eq_true, beq_self_eq_true]
  ·
   rw [beq_eq_false_iff_ne.2 (show (f : Int) ≠ g by omega), beq_eq_false_iff_ne.2 e]
 clear h hn hk hl
 go_enter Tryz.func56, Tryz.ntmps56
 go_wp2_with fail
 go_ret2
 exact ⟨by rw [← HE.out]; rfl, rfl⟩
set_option maxRecDepth 100000 in
theorem handles_any {F : Phi} {o : Own} {w : World} {mb : Nat} {m : ManD} (h : ManAt F o w mb m) :
 Calls Tryz.prog 70 #[.pointer (some ⟨mb, 0, none⟩)] w fun x w' => x = .returned (.int .i64 m.hs.length) ∧ w = w' := by
 obtain ⟨s, h⟩ := h
 obtain ⟨c0, c1, c2, c3, c4, c5, f0⟩ := cells6 h.blk
 have hl := h.map.size (P := Tryz.prog) Tryz.underlying101 3
 have e : (encH m.hs).length = m.hs.length := by simp [encH]
 rw [e] at hl
 clear h e
 go_enter Tryz.func70, Tryz.ntmps70
 go_wp2_with fail
 go_ret
 exact ⟨rfl, rfl⟩
open Go.RowKit
end Go.Proofs.YtchliiaknmknhaaGreat

namespace Go.Proofs.YtchliiaknmknhaaGreat
open Go.RowKit
theorem enters_ite1 : ∀ args w, (callFunc 80 args).run Tryz.prog w = .ok (.enter 80 args) w := enters_of Tryz.func80 (by kernel_rfl) rfl
def box3 (a b c : Int) (w : World) : World := ((w.alloc (.cells #[.int .i64 a] 3)).alloc (.cells #[.int .i64 b] 3)).alloc (.cells #[.int .i64 c] 3)
theorem box3_ok (a b c : Int) (w : World) : Below w.heap.size w (box3 a b c w) ∧ (box3 a b c w).cell? ⟨w.heap.size, 0, none⟩ = some (.int .i64 a) ∧ (box3 a b c w).cell? ⟨w.heap.size + 1, 0, none⟩ = some (.int .i64 b) ∧ (box3 a b c w).cell? ⟨w.heap.size + 2, 0, none⟩ = some (.int .i64 c) := by
 have h0 := heap_alloc_new w (.cells #[.int .i64 a] 3)
 have h1 := heap_alloc_new (w.alloc (.cells #[.int .i64 a] 3)) (.cells #[.int .i64 b] 3)
 have h2 := heap_alloc_new ((w.alloc (.cells #[.int .i64 a] 3)).alloc (.cells #[.int .i64 b] 3)) (.cells #[.int .i64 c] 3)
 rw [World.size_alloc] at h1
 rw [World.size_alloc, World.size_alloc] at h2
 have a0 : (box3 a b c w).heap[w.heap.size]? = some (.cells #[.int .i64 a] 3 (0, 0)) := (Go.heap_alloc_old _ _ (by simp; omega)).trans ((Go.heap_alloc_old _ _ (by simp)).trans h0)
 have a1 : (box3 a b c w).heap[w.heap.size + 1]? = some (.cells #[.int .i64 b] 3 (0, 0)) := (Go.heap_alloc_old _ _ (by simp)).trans h1
 have a2 : (box3 a b c w).heap[w.heap.size + 2]? = some (.cells #[.int .i64 c] 3 (0, 0)) := h2
 exact ⟨((below_new1 w _).alloc (by simp) _).alloc (by simp; omega) _, by rw [cell_of_row _ _ 0 _ _ _ a0]; rfl, by rw [cell_of_row _ _ 0 _ _ _ a1]; rfl, by rw [cell_of_row _ _ 0 _ _ _ a2]; rfl⟩
open Go.RowKit
def man0 (n room : Nat) : ManD := ⟨store0 n room, [(0, 1), (1, 0)], 2, [], 0⟩
theorem nodes0 (n room : Nat) : nodesOf (store0 n room) = fun _ => none := by
 funext i
 have ht : (pool0 room).tk i = false := by
  unfold PoolD.tk pool0
  cases i with
  | zero => rfl
  | succ i => rfl
 unfold nodesOf store0 PoolD.get
 simp [ht]
theorem range_getD (n v : Nat) (h : v < n) : (List.range n).getD v 0 = v := by simp [List.getD, h]
theorem store0_ok (n room : Nat) (hn : n ≤ 64) : StoreOK (store0 n room) (fun _ _ => true) := by
 have hl : ∀ v, v < n → levN (store0 n room) v = v := fun v hv => range_getD n v hv
 have hlen : (store0 n room).vars.length = n := by simp [store0]
 have hno : ∀ i b, nodesOf (store0 n room) i = some b → False := fun i b h => by rw [nodes0] at h; cases h
 refine ⟨⟨fun _ => rfl, by rw [nodes0], fun i b h => (hno i b h).elim, fun u v hu hv e => ?_, fun v hv => ?_, fun i b h => (hno i b h).elim, fun i b h => (hno i b h).elim, fun i b h => (hno i b h).elim, fun i b h => (hno i b h).elim, fun i b h => (hno i b h).elim, fun i b h => (hno i b h).elim, fun i j b h => (hno i b h).elim, fun i b h => (hno i b h).elim⟩,
  ?_, fun v hv lo hi id => ⟨fun h => absurd (show (none : Option Nat) = some id from h) (by simp), fun h => (hno _ _ h).elim⟩, by simp [store0], by rw [hlen]; exact hn, fun v hv => ?_, fun i hi => ?_⟩
 ·
  rw [hlen] at hu hv; rw [hl u hu, hl v hv] at e; exact e
 ·
  rw [hlen] at hv ⊢; rw [hl v hv]; exact hv
 ·
  refine ⟨⟨fun i b h => (hno i b h).elim, fun i b h => (hno i b h).elim⟩, ?_, fun i b h => (hno i b h).elim⟩
  have h1 : deadN (store0 n room).pool.at_.length (nodesOf (store0 n room)) (cntOf (store0 n room)) = sumTo (store0 n room).pool.at_.length (dead1 (nodesOf (store0 n room)) (cntOf (store0 n room))) := rfl
  rw [h1, nodes0]
  have h2 : dead1 (fun _ => none) (cntOf (store0 n room)) 0 = 0 := rfl
  show (0 : Int) = sumTo 1 _
  simp [sumTo, h2]
 ·
  rw [hlen] at hv; rw [hl v hv]; exact range_getD n v hv
 ·
  rw [hlen] at hi ⊢
  have e : (store0 n room).vars.getD i 0 = i := range_getD n i hi
  rw [e]; exact ⟨hi, hl i hi⟩
theorem man0_ok (n room : Nat) (hn : n ≤ 64) : ManOK (man0 n room) (fun _ _ => true) :=
 ⟨store0_ok n room hn, ⟨by simp [man0], by simp [man0], by simp [man0], by simp [man0], by simp [man0], fun p hp => by simp [man0] at hp; rcases hp with rfl | rfl <;> exact .inl rfl, by simp [man0], fun i b h => by rw [show (man0 n room).d = store0 n room from rfl, nodes0] at h; cases h⟩⟩
def iteLaw : Law := fun d V op a b c r => op = 1 → IteP d V a b c r
theorem iteLaw_ok : LawOK iteLaw := ⟨fun d V a b c r => ⟨fun h => h rfl, fun h _ => h⟩, fun d V d' V' op a b c r hk hk' x h e => (h e).ext x hk hk', fun d d' V op a b c r h1 h2 h3 h e => by
 have q := h e
 have hl : levN d' = levN d := by funext v; unfold levN; rw [h2]
 have hm : minL d' a b c = minL d a b c := by unfold minL; rw [h1, hl, h3]
 exact ⟨by rw [h3]; exact q.okA, by rw [h3]; exact q.okB, by rw [h3]; exact q.okC, by rw [h3]; exact q.okR, q.val, by rw [hm, h1, hl, h3]; exact q.lev⟩⟩
set_option maxRecDepth 100000 in
set_option maxHeartbeats 1000000 in
theorem new_man {F : Phi} (o : Own) (n room : Nat) (w : World) (hlt : OwnLt o w) (hn : n ≤ 64) (h1 : 1 ≤ room) (h2 : room ≤ 1048576) :
 Calls Tryz.prog 14 #[.int .i64 n, .int .i64 room] w fun x w' => ∃ mb o', x = .returned (.tuple #[.pointer (some ⟨mb, 0, none⟩), .int .i64 0]) ∧ ManAt F o' w' mb (man0 n room) ∧ Chg (fun _ => True) o o' w w' ∧ OwnLt o' w' ∧ w.heap.size ≤ mb := by
 have HS := Lib.hid (new_store o n room w hlt hn h1 h2)
 clear hlt hn h1 h2
 go_enter Tryz.func14, Tryz.ntmps14
 go_wp2_with fail
 refine HS.out.mono ?_
 rintro x w1 ⟨sb, o1, rfl, hst, hc1, hl1, hsb⟩
 have HST := Lib.hid hst
 have HC1 := Lib.hid hc1
 have HL1 := Lib.hid hl1
 clear hst hc1 hl1
 have hmk := makeMap_run (P := Tryz.prog) w1 101
 obtain ⟨wA, hrA, hmA, hgA⟩ := (mapIs_new w1 (Value.int .i64)).update (P := Tryz.prog) kI Tryz.underlying101 0 (.int .i64 1)
 obtain ⟨wB, hrB, hmB, hgB⟩ := hmA.update (P := Tryz.prog) kI Tryz.underlying101 1 (.int .i64 0)
 have hl0 := HL1.out.allocR (.map #[] 0) .handles
 have hcB : Chg (fun _ => True) o (ownAt o1 w1.heap.size .handles) w wB :=
  ((HC1.out.any.allocR (r := .handles) HL1.out (.map #[] 0) trivial).grown hgA (fun g hg => by cases hg; exact ⟨_, ownAt_same _ _ _, trivial⟩)).grown hgB (fun g hg => by cases hg; exact ⟨_, ownAt_same _ _ _, trivial⟩)
 have hlB : OwnLt (ownAt o1 w1.heap.size .handles) wB := hl0.mono (Nat.le_trans hgA.size hgB.size)
 have hne : ∀ g r, o1 g = some r → g ≠ w1.heap.size := fun g r hg e => by have := HL1.out g r hg; omega
 have hkeep : ∀ g r, o1 g = some r → wB.heap[g]? = w1.heap[g]? := fun g r hg => by
  have a0 := HL1.out g r hg
  have a1 : g < (w1.alloc (.map #[] 0)).heap.size := by simp; omega
  rw [hgB.block g (Nat.lt_of_lt_of_le a1 hgA.size) (by intro e; cases e; exact hne _ _ hg rfl), hgA.block g a1 (by intro e; cases e; exact hne _ _ hg rfl)]
  exact Go.heap_alloc_old _ _ a0
 have HSB := Lib.hid (HST.out.keepR (o' := ownAt o1 w1.heap.size .handles) (fun g r hg _ => hkeep g r hg) (fun g r hg => ownAt_old HL1.out (Nat.le_refl _) hg))
 have HMB : Hid (MapIs wB w1.heap.size (Value.int .i64) [(0, .int .i64 1), (1, .int .i64 0)]) := Lib.hid hmB
 have HCB := Lib.hid hcB
 have HLB := Lib.hid hlB
 have HME := Lib.hid (new_memo (ownAt o1 w1.heap.size .handles) F wB hlB)
 have hgs : w1.heap.size < wB.heap.size := hmB.lt
 clear hmA hgA hmB hgB hl0 hcB hlB hne hkeep
 go_wp2_with fail
 refine HME.out.mono ?_
 rintro x w2 ⟨me, o2, rfl, hme, hc2, hl2, hge⟩
 have hst2 := HSB.out.keepR (o' := o2) (w' := w2) (fun g r hg hr => hc2.same HLB.out hg (by rintro rfl; simp [RStore, RPool] at hr)) hc2.ext
 have hmap2 := HMB.out.keepB (hc2.same HLB.out (ownAt_same o1 w1.heap.size .handles) (by simp))
 have hoh := hc2.ext _ _ (ownAt_same o1 w1.heap.size .handles)
 have HF : Hid (∀ w3, w3 = w2.alloc (.cells #[.pointer (some ⟨sb, 0, none⟩), .pointer (some ⟨me, 0, none⟩), .map (some w1.heap.size), .int .i64 2, .slice none 0 0, .int .i64 0] 105) → ManAt F (ownAt o2 w2.heap.size .man) w3 w2.heap.size (man0 n room) ∧ Chg (fun _ => True) o (ownAt o2 w2.heap.size .man) w w3 ∧ OwnLt (ownAt o2 w2.heap.size .man) w3 ∧ w.heap.size ≤ w2.heap.size) := by
  refine Lib.hid ?_
  rintro w3 rfl
  have hk3 : ∀ g r, o2 g = some r → (w2.alloc (.cells #[.pointer (some ⟨sb, 0, none⟩), .pointer (some ⟨me, 0, none⟩), .map (some w1.heap.size), .int .i64 2, .slice none 0 0, .int .i64 0] 105)).heap[g]? = w2.heap[g]? := fun g r hg => Go.heap_alloc_old _ _ (hl2 g r hg)
  have ho3 : ∀ g r, o2 g = some r → ownAt o2 w2.heap.size .man g = some r := fun g r hg => ownAt_old hl2 (Nat.le_refl _) hg
  exact ⟨⟨⟨sb, me, w1.heap.size, .slice none 0 0⟩, ownAt_same _ _ _, heap_alloc_new w2 _, hst2.keepR (fun g r hg _ => hk3 g r hg) ho3, hme.keep (fun g r hg _ => hk3 g r hg) ho3, ho3 _ _ hoh, hmap2.keepB (hk3 _ _ hoh), WaitsAt.nil _ _⟩,
   (HCB.out.trans hc2.any).allocR hl2 _ trivial, hl2.allocR _ _, (HCB.out.trans hc2.any).size⟩
 clear hst2 hmap2 hoh hme hc2 hl2
 go_wp2_with fail
 go_ret2
 obtain ⟨a1, a2, a3, a4⟩ := HF.out _ rfl
 exact ⟨_, _, rfl, a1, a2, a3, a4⟩
open Go.RowKit
section
variable {F : Phi} {o : Own} {w : World} {sb mb : Nat} {d : StoreD} {m : ManD}
set_option maxRecDepth 100000 in
theorem storeVars_any (h : StoreAt o w sb d) : Calls Tryz.prog 104 #[.pointer (some ⟨sb, 0, none⟩)] w fun x w' => x = .returned (.int .i64 d.vars.length) ∧ w = w' := by
 obtain ⟨s, h⟩ := h
 obtain ⟨c0, c1, c2, c3, c4, f0⟩ := cells5 h.blk
 obtain ⟨d0, d1, _⟩ := cells2 h.lev
 obtain ⟨a, cap, hv, _⟩ := h.vars.slice
 rw [hv] at d0
 clear h hv
 go_enter Tryz.func104, Tryz.ntmps104
 go_wp2_with fail
 go_ret
 exact ⟨rfl, rfl⟩
set_option maxRecDepth 100000 in
theorem storeRoom_any (h : StoreAt o w sb d) : Calls Tryz.prog 105 #[.pointer (some ⟨sb, 0, none⟩)] w fun x w' => x = .returned (.int .i64 d.pool.room) ∧ w = w' := by
 obtain ⟨s, h⟩ := h
 obtain ⟨c0, c1, c2, c3, c4, f0⟩ := cells5 h.blk
 have HP := Lib.hid (poolRoom_any o s.pb d.pool w h.pool)
 clear h
 go_enter Tryz.func105, Tryz.ntmps105
 go_wp2_with fail
 refine HP.out.mono ?_
 rintro x w' ⟨rfl, rfl⟩
 go_wp2_with fail
 go_ret
 exact ⟨rfl, rfl⟩
set_option maxRecDepth 100000 in
theorem storeLen_any (h : StoreAt o w sb d) : Calls Tryz.prog 81 #[.pointer (some ⟨sb, 0, none⟩)] w fun x w' => x = .returned (.int .i64 d.pool.many) ∧ w = w' := by
 obtain ⟨s, h⟩ := h
 obtain ⟨c0, c1, c2, c3, c4, f0⟩ := cells5 h.blk
 have HP := Lib.hid (poolLen_any o s.pb d.pool w h.pool)
 clear h
 go_enter Tryz.func81, Tryz.ntmps81
 go_wp2_with fail
 refine HP.out.mono ?_
 rintro x w' ⟨rfl, rfl⟩
 go_wp2_with fail
 go_ret
 exact ⟨rfl, rfl⟩
set_option maxRecDepth 100000 in
theorem manVars_any (h : ManAt F o w mb m) : Calls Tryz.prog 51 #[.pointer (some ⟨mb, 0, none⟩)] w fun x w' => x = .returned (.int .i64 m.d.vars.length) ∧ w = w' := by
 obtain ⟨s, h⟩ := h
 obtain ⟨c0, c1, c2, c3, c4, c5, f0⟩ := cells6 h.blk
 have HP := Lib.hid (storeVars_any h.store)
 clear h
 go_enter Tryz.func51, Tryz.ntmps51
 go_wp2_with fail
 refine HP.out.mono ?_
 rintro x w' ⟨rfl, rfl⟩
 go_wp2_with fail
 go_ret
 exact ⟨rfl, rfl⟩
set_option maxRecDepth 100000 in
theorem manRoom_any (h : ManAt F o w mb m) : Calls Tryz.prog 52 #[.pointer (some ⟨mb, 0, none⟩)] w fun x w' => x = .returned (.int .i64 m.d.pool.room) ∧ w = w' := by
 obtain ⟨s, h⟩ := h
 obtain ⟨c0, c1, c2, c3, c4, c5, f0⟩ := cells6 h.blk
 have HP := Lib.hid (storeRoom_any h.store)
 clear h
 go_enter Tryz.func52, Tryz.ntmps52
 go_wp2_with fail
 refine HP.out.mono ?_
 rintro x w' ⟨rfl, rfl⟩
 go_wp2_with fail
 go_ret
 exact ⟨rfl, rfl⟩
set_option maxRecDepth 100000 in
theorem manLen_any (h : ManAt F o w mb m) : Calls Tryz.prog 22 #[.pointer (some ⟨mb, 0, none⟩)] w fun x w' => x = .returned (.int .i64 m.d.pool.many) ∧ w = w' := by
 obtain ⟨s, h⟩ := h
 obtain ⟨c0, c1, c2, c3, c4, c5, f0⟩ := cells6 h.blk
 have HP := Lib.hid (storeLen_any h.store)
 clear h
 go_enter Tryz.func22, Tryz.ntmps22
 go_wp2_with fail
 refine HP.out.mono ?_
 rintro x w' ⟨rfl, rfl⟩
 go_wp2_with fail
 go_ret
 exact ⟨rfl, rfl⟩
end
open Go.RowKit
structure BoolsAt (w : World) (a : Option Addr) (bs : List Bool) : Prop where
 len : bs.length ≤ 1000000
 cells : ∀ k, k < bs.length → ∃ b off, a = some ⟨b, off, none⟩ ∧ w.cell? ⟨b, off + k, none⟩ = some (.bool (bs.getD k false))
theorem BoolsAt.below {w w' : World} {a : Option Addr} {bs : List Bool} (h : BoolsAt w a bs) (hb : Below w.heap.size w w') : BoolsAt w' a bs :=
 ⟨h.len, fun k hk => by
  obtain ⟨b, off, rfl, hc⟩ := h.cells k hk
  exact ⟨b, off, rfl, (hb.cell (p := ⟨b, off + k, none⟩) (lt_of_cell hc)).trans hc⟩⟩
def envOf (bs : List Bool) : Nat → Bool := fun v => bs.getD v false
set_option maxRecDepth 100000 in
set_option maxHeartbeats 2000000 in
theorem eval_yes {F : Phi} {o : Own} {w : World} {mb : Nat} {m : ManD} {V : Nat → BF} (h : ManAt F o w mb m) (hlt : OwnLt o w) (hk : ManOK m V) {k : Int} {f : Nat} (hkf : (k, f) ∈ m.hs) (a : Option Addr) (c : Nat) (bs : List Bool) (hbs : BoolsAt w a bs) :
 Calls Tryz.prog 58 #[.pointer (some ⟨mb, 0, none⟩), .int .i64 k, .slice a bs.length c] w fun x w' => x = .returned (.tuple #[.bool (ef V f (envOf bs)), .int .i64 0]) ∧ Below w.heap.size w w' := by
 obtain ⟨s, h⟩ := h
 obtain ⟨c0, c1, c2, c3, c4, c5, f0⟩ := cells6 h.blk
 have hlk := look_yes h hk.handles.nodup hkf
 have HM := Lib.hid h
 have HLT := Lib.hid hlt
 have HK := Lib.hid hk.store
 have HOKF := Lib.hid (hk.handles.ok _ hkf)
 have HBS := Lib.hid hbs
 have hbl := hbs.len
 clear h hlt hk hkf hbs
 go_enter Tryz.func58, Tryz.ntmps58
 go_wp2_with fail
 go_loopg [8] (m.d.vars.length - lvE m.d.vars.length (levN m.d) (nodesOf m.d) f) (fun gk s8 wx => ∃ e : Nat, s8 = .int .i64 e ∧ okE (nodesOf m.d) e ∧ ef V e (envOf bs) = ef V f (envOf bs) ∧ Below w.heap.size w wx ∧ gk = m.d.vars.length - lvE m.d.vars.length (levN m.d) (nodesOf m.d) e)
 case atStart => exact ⟨f, rfl, HOKF.out, rfl, Below.refl _ _, rfl⟩
 case round =>
  obtain ⟨e, rfl, hok, hev, hB, hgk⟩ := hrel
  clear c0 c1 c2 c3 c4 c5 f0 hlk
  have hm := HM.out.below HLT.out hB
  obtain ⟨c0, c1, c2, c3, c4, c5, f0⟩ := cells6 hm.blk
  have hel : e < eMax := by
   obtain ⟨ss, hss⟩ := hm.store
   have := hss.edge_lt hok; unfold eMax; omega
  have HC := Lib.hid (fun W => const_any e W hel)
  have HA := Lib.hid (storeAt_ok hm.store (HLT.out.mono hB.size) HK.out e hok)
  have HEV := Lib.hid hev
  have HB := Lib.hid hB
  have HGK := Lib.hid hgk
  clear hm hel hev hB hgk
  cases hb : nodesOf m.d (e / 2) with
  | none =>
    have h0 : e / 2 = 0 := by
     rcases hok with h | ⟨b, hb'⟩
     ·
      exact h
     ·
      rw [hb] at hb'; cases hb'
    have he : decide (enode e = 0) = true := by simp [enode, h0]
    rw [he] at HC
    have HR : Hid (ef V f (envOf bs) = ((e : Int) == 0)) := by
     show _ = _
     rw [← HEV.out]
     have h1 := HK.out.dag.one (envOf bs)
     have h2 : e = 0 ∨ e = 1 := by omega
     rcases h2 with rfl | rfl <;> simp [ef, h1]
    clear hok hb h0 he
    go_wp2_with fail
    refine (HC.out _).mono ?_
    rintro x w' ⟨rfl, rfl⟩
    go_wp2_with fail
    go_ret2
    exact ⟨by rw [HR.out]; rfl, HB.out⟩
  | some b =>
    have hbv := HK.out.dag.var _ _ hb
    have hlv : lvE m.d.vars.length (levN m.d) (nodesOf m.d) e = levN m.d b.v := by unfold lvE; rw [hb]
    have hco := cofs_ok HK.out hok hbv (by rw [hlv]; exact Nat.le_refl _)
    have hcf : cofs m.d e b.v = (eflip b.lo (eneg e), eflip b.hi (eneg e)) := by unfold cofs; rw [hb]; simp
    rw [hcf] at hco
    obtain ⟨k1, k2, k3, k4, k5⟩ := hco
    have k5 := k5 (envOf bs)
    dsimp only at k1 k2 k3 k4 k5
    have hlt2 := HK.out.dag.lt _ hbv
    have hne : decide (enode e = 0) = false := by
     have : enode e ≠ 0 := by rintro h0; have h1 : e / 2 = 0 := h0; rw [h1, HK.out.dag.none0] at hb; cases hb
     simp [this]
    rw [hne] at HC
    unfold atV at HA
    rw [hb] at HA
    obtain ⟨L, hL⟩ : ∃ L, L = eflip b.lo (eneg e) := ⟨_, rfl⟩
    obtain ⟨H, hH⟩ : ∃ H, H = eflip b.hi (eneg e) := ⟨_, rfl⟩
    rw [← hL, ← hH] at k5
    rw [← hL] at k1 k3
    rw [← hH] at k2 k4
    dsimp only at HA
    rw [← hL, ← hH] at HA
    rw [hlv] at HGK
    have HK1 := Lib.hid k1
    have HK2 := Lib.hid k2
    have HK3 := Lib.hid k3
    have HK4 := Lib.hid k4
    have HK5 := Lib.hid k5
    have HL2 := Lib.hid hlt2
    clear hok hb hbv hlv hcf k1 k2 k3 k4 k5 hlt2 hne hL hH
    go_wp2_with fail
    refine (HC.out _).mono ?_
    rintro x w' ⟨rfl, rfl⟩
    go_wp2_with fail
    refine HA.out.mono ?_
    rintro x w2 ⟨rfl, hb2⟩
    have HB2 := Lib.hid (HB.out.trans (hb2.mono HB.out.size))
    clear hb2 c0 c1 c2 c3 c4 c5 f0
    by_cases hv : b.v < bs.length
    ·
     obtain ⟨b0, off, ha, hcell⟩ := (HBS.out.below HB2.out).cells b.v hv
     subst ha
     have hv' : (b.v : Int) < bs.length := by omega
     have hx : envOf bs b.v = bs.getD b.v false := rfl
     rw [← hx] at hcell
     cases hxx : envOf bs b.v with
     | true =>
       rw [hxx] at hcell HK5
       clear hxx hx
       go_wp2_with fail
       go_roundg (m.d.vars.length - lvE m.d.vars.length (levN m.d) (nodesOf m.d) H)
       case rel => exact ⟨H, rfl, HK2.out, by rw [← HEV.out, HK5.out]; rfl, HB2.out, rfl⟩
       case measure => have h1 := HGK.out; have h2 := HK4.out; have h3 := HL2.out; omega
     | false =>
       rw [hxx] at hcell HK5
       clear hxx hx
       go_wp2_with fail
       go_roundg (m.d.vars.length - lvE m.d.vars.length (levN m.d) (nodesOf m.d) L)
       case rel => exact ⟨L, rfl, HK1.out, by rw [← HEV.out, HK5.out]; rfl, HB2.out, rfl⟩
       case measure => have h1 := HGK.out; have h2 := HK3.out; have h3 := HL2.out; omega
    ·
     have hv' : ¬ (b.v : Int) < bs.length := by omega
     have hx : envOf bs b.v = false := by unfold envOf; simp [List.getD, List.getElem?_eq_none (Nat.le_of_not_lt hv)]
     rw [hx] at HK5
     clear hx
     go_wp2_with fail
     go_roundg (m.d.vars.length - lvE m.d.vars.length (levN m.d) (nodesOf m.d) L)
     case rel => exact ⟨L, rfl, HK1.out, by rw [← HEV.out, HK5.out]; rfl, HB2.out, rfl⟩
     case measure => have h1 := HGK.out; have h2 := HK3.out; have h3 := HL2.out; omega
end Go.Proofs.YtchliiaknmknhaaGreat
