/- Several texts in one file: contracts of the program's functions and what follows from them. -/
import Derived.Test.YtchliiaknmknhaaGreatS7
import Derived.Maps.RangeRun
set_option linter.unusedSimpArgs false
set_option linter.unusedVariables false
set_option linter.unusedSectionVars false
set_option linter.unnecessarySimpa false
namespace Go.Proofs.YtchliiaknmknhaaGreat
open Go.RowKit
theorem sumN_two {f : Nat → Nat} {i : Nat} : ∀ {n : Nat}, i < n → sumN i f + f i ≤ sumN n f
 | 0, h => by omega
 | k + 1, h => by
   rcases Nat.lt_or_ge i k with h' | h'
   ·
    have := sumN_two (f := f) h'
    show _ ≤ sumN k f + f k
    omega
   ·
    obtain rfl : i = k := by omega
    exact Nat.le_refl _
def kidsR (op : Int) : Int × Int :=
 if op = 1 ∨ op = 2 ∨ op = 3 then (0, 0) else if op = 4 then (1, 1) else if op = 5 ∨ op = 6 ∨ op = 7 then (0, 64) else if op = 8 ∨ op = 9 then (2, 2) else if op = 10 then (3, 3) else (-1, -1)
def okT : ExT → Nat → Prop
 | .nil, _ => False
 | .mk op v n kid, deep => deep ≤ 64 ∧ 0 ≤ (kidsR op).1 ∧ (op = 3 → 0 ≤ v ∧ v < 64) ∧ (op ≠ 3 → v = 0) ∧ (kidsR op).1 ≤ n ∧ (n : Int) ≤ (kidsR op).2 ∧ ∀ i, i < n → okT (kid i) (deep + 1)
def validT : ExT → Prop
 | .nil => False
 | .mk op v n kid => 0 ≤ (kidsR op).1 ∧ (op = 3 → 0 ≤ v ∧ v < 64) ∧ (op ≠ 3 → v = 0) ∧ (kidsR op).1 ≤ n ∧ (n : Int) ≤ (kidsR op).2 ∧ ∀ i, i < n → validT (kid i)
theorem okT.valid : ∀ {e : ExT} {deep : Nat}, okT e deep → validT e
 | .nil, _, h => h.elim
 | .mk op v n kid, deep, h => by
   obtain ⟨_, h1, h2, h3, h4, h5, h6⟩ := h
   exact ⟨h1, h2, h3, h4, h5, fun i hi => (h6 i hi).valid⟩
set_option maxRecDepth 100000 in
set_option maxHeartbeats 2000000 in
theorem kids06_any (op : Int) (w : World) : Calls Tryz.prog 147 #[.int .i64 op] w fun y w' => y = .returned (.tuple #[.int .i64 (kidsR op).1, .int .i64 (kidsR op).2]) ∧ w = w' := by
 obtain ⟨p, hp⟩ : ∃ p, p = kidsR op := ⟨_, rfl⟩
 rw [← hp]
 unfold kidsR at hp
 rcases (by omega : op = 1 ∨ op = 2 ∨ op = 3 ∨ op = 4 ∨ op = 5 ∨ op = 6 ∨ op = 7 ∨ op = 8 ∨ op = 9 ∨ op = 10 ∨ (op < 1 ∨ 10 < op)) with rfl | rfl | rfl | rfl | rfl | rfl | rfl | rfl | rfl | rfl | h
 all_goals
  first
  | (simp at hp
     subst hp
     go_enter Tryz.func147, Tryz.ntmps147
     go_wp2_with fail
     go_ret2
     exact ⟨rfl, rfl⟩)
  | (have h1 : (op == 1) = false := by simp; omega
     have h2 : (op == 2) = false := by simp; omega
     have h3 : (op == 3) = false := by simp; omega
     have h4 : (op == 4) = false := by simp; omega
     have h5 : (op == 5) = false := by simp; omega
     have h6 : (op == 6) = false := by simp; omega
     have h7 : (op == 7) = false := by simp; omega
     have h8 : (op == 8) = false := by simp; omega
     have h9 : (op == 9) = false := by simp; omega
     have h10 : (op == 10) = false := by simp; omega
     rw [if_neg (by omega), if_neg (by omega), if_neg (by omega), if_neg (by omega), if_neg (by omega)] at hp
     subst hp
     clear h
     go_enter Tryz.func147, Tryz.ntmps147
     go_wp2_with fail
     go_ret2
     exact ⟨rfl, rfl⟩)
def CheckPost (e : ExT) (deep parts : Nat) (w : World) (y : Ending) (w' : World) : Prop := ∃ err m : Int, y = .returned (.tuple #[.int .i64 err, .int .i64 m]) ∧ okI m ∧ (err = 0 ↔ okT e deep) ∧ (err = 0 → m = (parts + e.size : Nat)) ∧ Below w.heap.size w w'
set_option maxRecDepth 100000 in
set_option maxHeartbeats 4000000 in
theorem check_any : ∀ (e : ExT) (x : Value) (deep parts : Nat) (w : World), deep ≤ 65 → parts + e.size ≤ 4096 → ExprAt w e x →
 Calls Tryz.prog 110 #[x, .int .i64 deep, .int .i64 parts] w (CheckPost e deep parts w)
 | .nil, x, deep, parts, w, hd, hp, h => by unfold ExprAt at h; exact h.elim
 | .mk op v n kid, x, deep, parts, w, hd, hp, h => by
   unfold ExprAt at h
   obtain ⟨a, c, rfl, h2, h3, h4, h5⟩ := h
   have H5 := Lib.hid h5
   have HSZ : Hid ((ExT.mk op v n kid).size = 1 + sumN n fun i => (kid i).size) := Lib.hid rfl
   have HKS : Hid (∀ i, i < n → (kid i).size < (ExT.mk op v n kid).size) := Lib.hid fun i hi => ExT.kid_size hi
   have HV : Hid (∀ l hh : Int, l = (kidsR op).1 → hh = (kidsR op).2 → (okT (ExT.mk op v n kid) deep ↔ deep ≤ 64 ∧ 0 ≤ l ∧ (op = 3 → 0 ≤ v ∧ v < 64) ∧ (op ≠ 3 → v = 0) ∧ l ≤ n ∧ (n : Int) ≤ hh ∧ ∀ i, i < n → okT (kid i) (deep + 1))) := by
    refine Lib.hid ?_
    rintro l hh rfl rfl
    exact Iff.rfl
   have IH : Hid (∀ (i : Nat) (x : Value) (z1 z2 : Int) (deep parts : Nat) (W : World), z1 = (deep : Int) → z2 = (parts : Int) → deep ≤ 65 → parts + (kid i).size ≤ 4096 → ExprAt W (kid i) x → Calls Tryz.prog 110 #[x, .int .i64 z1, .int .i64 z2] W (CheckPost (kid i) deep parts W)) :=
    Lib.hid fun i x z1 z2 deep parts W e1 e2 h1 h2 h3 => by subst e1; subst e2; exact check_any (kid i) x deep parts W h1 h2 h3
   have HK := Lib.hid (fun W => kids06_any op W)
   obtain ⟨E, hE⟩ : ∃ E, E = ExT.mk op v n kid := ⟨_, rfl⟩
   have hpos : 1 ≤ E.size := E.size_pos
   rw [← hE] at HSZ hp HV HKS ⊢
   obtain ⟨l, hl⟩ : ∃ l, l = (kidsR op).1 := ⟨_, rfl⟩
   obtain ⟨hi, hhi⟩ : ∃ hi, hi = (kidsR op).2 := ⟨_, rfl⟩
   rw [← hl, ← hhi] at HK
   have HVV := Lib.hid (HV.out l hi hl hhi)
   obtain ⟨w1, hw1⟩ : ∃ w1, w1 = w.alloc (.cells #[.int .i64 op, .int .i64 v, .slice a n c] 39) := ⟨_, rfl⟩
   have HW1 : Hid (_ = w1) := Lib.hid hw1.symm
   have HB1 : Hid (Below w.heap.size w w1) := by rw [hw1]; exact Lib.hid (below_new1 _ _)
   have hblk : w1.heap[w.heap.size]? = some (.cells #[.int .i64 op, .int .i64 v, .slice a n c] 39 (0, 0)) := by rw [hw1]; exact heap_alloc_new _ _
   have hs1 : w1.heap.size = w.heap.size + 1 := by rw [hw1]; simp
   have d0 : w1.cell? ⟨w.heap.size, 0, none⟩ = some (.int .i64 op) := by rw [cell_of_row _ _ 0 _ _ _ hblk]; rfl
   have d1 : w1.cell? ⟨w.heap.size, 1, none⟩ = some (.int .i64 v) := by rw [cell_of_row _ _ 1 _ _ _ hblk]; rfl
   have d2 : w1.cell? ⟨w.heap.size, 2, none⟩ = some (.slice a n c) := by rw [cell_of_row _ _ 2 _ _ _ hblk]; rfl
   have HERR : Hid (∀ (k m : Int) (W : World), k ≠ 0 → ¬ okT E deep → okI m → Below w1.heap.size w1 W → CheckPost E deep parts w (.returned (.tuple #[.int .i64 k, .int .i64 m])) W) :=
    Lib.hid fun k m W hk hno hm hb => ⟨k, m, rfl, hm, ⟨fun e => (hk e).elim, fun e => (hno e).elim⟩, fun e => (hk e).elim, HB1.out.trans (hb.mono HB1.out.size)⟩
   unfold okI at h2 h3
   clear h5 hE hw1 hblk HV hl hhi
   go_enter Tryz.func110, Tryz.ntmps110
   go_upto_region 1 with fail
   rw [HW1.out]
   by_cases hdp : (deep : Int) > 64
   ·
    go_wp2_with fail
    go_ret2
    exact HERR.out 17 _ _ (by decide) (fun h => by have := (HVV.out.1 h).1; omega) (by unfold okI; omega) (Below.refl _ _)
   go_wp2_with fail
   refine (HK.out _).mono ?_
   rintro y w' ⟨rfl, rfl⟩
   by_cases hl0 : l < 0
   ·
    go_wp2_with fail
    go_ret2
    exact HERR.out 11 _ _ (by decide) (fun h => by have := (HVV.out.1 h).2.1; omega) (by unfold okI; omega) (Below.refl _ _)
   have hgood : ((op == 3) = true ∧ op = 3) ∨ ((op == 3) = false ∧ (op != 3) = true ∧ op ≠ 3) := by
    by_cases e : op = 3
    ·
     exact .inl ⟨by simp [e], e⟩
    ·
     exact .inr ⟨by simpa using e, by simpa using e, e⟩
   rcases hgood with ⟨g1, g2⟩ | ⟨g1, g2, g3⟩
   ·
    subst g2
    by_cases hv0 : v < 0
    ·
     go_wp2_with fail
     go_ret2
     exact HERR.out 9 _ _ (by decide) (fun h => by have := (HVV.out.1 h).2.2.1 (by trivial); omega) (by unfold okI; omega) (Below.refl _ _)
    by_cases hv1 : v ≥ 64
    ·
     go_wp2_with fail
     go_ret2
     exact HERR.out 9 _ _ (by decide) (fun h => by have := (HVV.out.1 h).2.2.1 (by trivial); omega) (by unfold okI; omega) (Below.refl _ _)
    have HG : Hid ((3 : Int) = 3 → 0 ≤ v ∧ v < 64) := Lib.hid fun _ => ⟨by omega, by omega⟩
    have HG2 : Hid ((3 : Int) ≠ 3 → v = 0) := Lib.hid fun e => (e rfl).elim
    go_upto_region 9 with fail
    by_cases hnl : (n : Int) < l
    ·
     go_wp2_with fail
     go_ret2
     exact HERR.out 3 _ _ (by decide) (fun h => by have := (HVV.out.1 h).2.2.2.2.1; omega) (by unfold okI; omega) (Below.refl _ _)
    by_cases hnh : (n : Int) > hi
    ·
     go_wp2_with fail
     go_ret2
     exact HERR.out 3 _ _ (by decide) (fun h => by have := (HVV.out.1 h).2.2.2.2.2.1; omega) (by unfold okI; omega) (Below.refl _ _)
    go_wp2_with fail
    go_loopw [2, 10, 11, 12] (fun s2 s10 s11 s12 wr => ∃ i p : Nat, i ≤ n ∧ p ≤ 4096 ∧ s2 = .int .i64 p ∧ s10 = .int .i64 i ∧ Below w1.heap.size w1 wr ∧ Hid (p = parts + (1 + sumN i fun i => (kid i).size)) ∧ Hid (∀ j, j < i → okT (kid j) (deep + 1))) (fun _ s10 _ _ _ => n - (intOf s10).toNat)
    case atStart => exact ⟨0, parts + 1, by omega, by omega, by go_num, rfl, Below.refl _ _, Lib.hid rfl, Lib.hid fun j hj => by omega⟩
    case round =>
     obtain ⟨i, p, hin, hp4, rfl, rfl, hbel, HP, HVAL⟩ := hrel
     have d2' := (hbel.cell (p := ⟨w.heap.size, 2, none⟩) (lt_of_cell d2)).trans d2
     have HBEL := Lib.hid hbel
     clear hbel
     by_cases hlt : i < n
     ·
      obtain ⟨b, off, x0, x1, x2, rfl, c0, c1, c2, hx⟩ := H5.out i hlt
      have hb0 := HB1.out.trans (HBEL.out.mono HB1.out.size)
      have e0 := (hb0.cell (p := ⟨b, off + i * 3, none⟩) (lt_of_cell c0)).trans c0
      have e1 := (hb0.cell (p := ⟨b, off + i * 3 + 1, none⟩) (lt_of_cell c1)).trans c1
      have e2 := (hb0.cell (p := ⟨b, off + i * 3 + 2, none⟩) (lt_of_cell c2)).trans c2
      have HX := Lib.hid (hx.below hb0)
      have hsum : p + (kid i).size ≤ 4096 := by
       have s1 : (kid i).size + sumN i (fun i => (kid i).size) ≤ sumN n fun i => (kid i).size := by
        have := sumN_two (f := fun i => (kid i).size) hlt
        omega
       have s2 := HP.out
       have s3 := HSZ.out
       omega
      have HSUM : Hid (p + (kid i).size = parts + (1 + sumN (i + 1) fun i => (kid i).size)) := Lib.hid (by
       have s2 := HP.out
       show _ = parts + (1 + (sumN i (fun i => (kid i).size) + (kid i).size))
       omega)
      have hiz : (i : Int) < n := by omega
      clear c0 c1 c2 hx hb0
      go_wp2_with fail
      refine (IH.out i _ _ _ (deep + 1) p _ (by go_num) rfl (by omega) hsum HX.out).mono ?_
      rintro y w3 ⟨err, m, rfl, hm, hiff, hvv, hb3⟩
      have HB3 := Lib.hid (HBEL.out.trans (hb3.mono HBEL.out.size))
      have HVN := Lib.hid hvv
      have HIF := Lib.hid hiff
      clear hb3 hvv hiff e0 e1 e2
      unfold okI at hm
      by_cases he0 : err = 0
      ·
       subst he0
       have q1 := HIF.out.1 rfl
       have q2 := HVN.out rfl
       obtain ⟨p2, hp2⟩ : ∃ p2, p2 = p + (kid i).size := ⟨_, rfl⟩
       have HVAL2 : Hid (∀ j, j < i + 1 → okT (kid j) (deep + 1)) := Lib.hid fun j hj => by
        rcases Nat.lt_or_ge j i with h | h
        ·
         exact HVAL.out j h
        ·
         obtain rfl : j = i := by omega
         exact q1
       rw [← hp2] at q2 hsum HSUM
       subst q2
       clear hp2 q1 HVN HIF
       go_wp2_with fail
       go_roundw
       case rel => exact ⟨i + 1, p2, by omega, by omega, rfl, by go_num, HB3.out, HSUM, HVAL2⟩
       case measure => simp [intOf]; omega
      ·
       have hne : (err != 0) = true := by simpa using he0
       have HF := Lib.hid (HERR.out err m w3 he0 (fun h => he0 (HIF.out.2 ((HVV.out.1 h).2.2.2.2.2.2 i hlt))) hm HB3.out)
       clear he0 HVN HIF
       go_wp2_with fail
       go_ret2
       exact HF.out
     ·
      have he : i = n := by omega
      have hiz : ¬ (i : Int) < n := by omega
      have HF : Hid (CheckPost E deep parts w (.returned (.tuple #[.int .i64 0, .int .i64 (p : Nat)])) wr) := Lib.hid ⟨0, p, rfl, by unfold okI; omega, ⟨fun _ => HVV.out.2 ⟨by omega, by omega, HG.out, HG2.out, by omega, by omega, fun j hj => HVAL.out j (by omega)⟩, fun _ => rfl⟩, fun _ => by rw [HP.out, HSZ.out, he], HB1.out.trans (HBEL.out.mono HB1.out.size)⟩
      go_wp2_with fail
      go_ret2
      exact HF.out
   ·
    by_cases hv0 : v = 0
    ·
     have hv1 : (v != 0) = false := by simp [hv0]
     have HG : Hid (op = 3 → 0 ≤ v ∧ v < 64) := Lib.hid fun e => (g3 e).elim
     have HG2 : Hid (op ≠ 3 → v = 0) := Lib.hid fun _ => hv0
     clear hv0 g3
     go_upto_region 9 with fail
     by_cases hnl : (n : Int) < l
     ·
      go_wp2_with fail
      go_ret2
      exact HERR.out 3 _ _ (by decide) (fun h => by have := (HVV.out.1 h).2.2.2.2.1; omega) (by unfold okI; omega) (Below.refl _ _)
     by_cases hnh : (n : Int) > hi
     ·
      go_wp2_with fail
      go_ret2
      exact HERR.out 3 _ _ (by decide) (fun h => by have := (HVV.out.1 h).2.2.2.2.2.1; omega) (by unfold okI; omega) (Below.refl _ _)
     go_wp2_with fail
     go_loopw [2, 10, 11, 12] (fun s2 s10 s11 s12 wr => ∃ i p : Nat, i ≤ n ∧ p ≤ 4096 ∧ s2 = .int .i64 p ∧ s10 = .int .i64 i ∧ Below w1.heap.size w1 wr ∧ Hid (p = parts + (1 + sumN i fun i => (kid i).size)) ∧ Hid (∀ j, j < i → okT (kid j) (deep + 1))) (fun _ s10 _ _ _ => n - (intOf s10).toNat)
     case atStart => exact ⟨0, parts + 1, by omega, by omega, by go_num, rfl, Below.refl _ _, Lib.hid rfl, Lib.hid fun j hj => by omega⟩
     case round =>
      obtain ⟨i, p, hin, hp4, rfl, rfl, hbel, HP, HVAL⟩ := hrel
      have d2' := (hbel.cell (p := ⟨w.heap.size, 2, none⟩) (lt_of_cell d2)).trans d2
      have HBEL := Lib.hid hbel
      clear hbel
      by_cases hlt : i < n
      ·
       obtain ⟨b, off, x0, x1, x2, rfl, c0, c1, c2, hx⟩ := H5.out i hlt
       have hb0 := HB1.out.trans (HBEL.out.mono HB1.out.size)
       have e0 := (hb0.cell (p := ⟨b, off + i * 3, none⟩) (lt_of_cell c0)).trans c0
       have e1 := (hb0.cell (p := ⟨b, off + i * 3 + 1, none⟩) (lt_of_cell c1)).trans c1
       have e2 := (hb0.cell (p := ⟨b, off + i * 3 + 2, none⟩) (lt_of_cell c2)).trans c2
       have HX := Lib.hid (hx.below hb0)
       have hsum : p + (kid i).size ≤ 4096 := by
        have s1 : (kid i).size + sumN i (fun i => (kid i).size) ≤ sumN n fun i => (kid i).size := by
         have := sumN_two (f := fun i => (kid i).size) hlt
         omega
        have s2 := HP.out
        have s3 := HSZ.out
        omega
       have HSUM : Hid (p + (kid i).size = parts + (1 + sumN (i + 1) fun i => (kid i).size)) := Lib.hid (by
        have s2 := HP.out
        show _ = parts + (1 + (sumN i (fun i => (kid i).size) + (kid i).size))
        omega)
       have hiz : (i : Int) < n := by omega
       clear c0 c1 c2 hx hb0
       go_wp2_with fail
       refine (IH.out i _ _ _ (deep + 1) p _ (by go_num) rfl (by omega) hsum HX.out).mono ?_
       rintro y w3 ⟨err, m, rfl, hm, hiff, hvv, hb3⟩
       have HB3 := Lib.hid (HBEL.out.trans (hb3.mono HBEL.out.size))
       have HVN := Lib.hid hvv
       have HIF := Lib.hid hiff
       clear hb3 hvv hiff e0 e1 e2
       unfold okI at hm
       by_cases he0 : err = 0
       ·
        subst he0
        have q1 := HIF.out.1 rfl
        have q2 := HVN.out rfl
        obtain ⟨p2, hp2⟩ : ∃ p2, p2 = p + (kid i).size := ⟨_, rfl⟩
        have HVAL2 : Hid (∀ j, j < i + 1 → okT (kid j) (deep + 1)) := Lib.hid fun j hj => by
         rcases Nat.lt_or_ge j i with h | h
         ·
          exact HVAL.out j h
         ·
          obtain rfl : j = i := by omega
          exact q1
        rw [← hp2] at q2 hsum HSUM
        subst q2
        clear hp2 q1 HVN HIF
        go_wp2_with fail
        go_roundw
        case rel => exact ⟨i + 1, p2, by omega, by omega, rfl, by go_num, HB3.out, HSUM, HVAL2⟩
        case measure => simp [intOf]; omega
       ·
        have hne : (err != 0) = true := by simpa using he0
        have HF := Lib.hid (HERR.out err m w3 he0 (fun h => he0 (HIF.out.2 ((HVV.out.1 h).2.2.2.2.2.2 i hlt))) hm HB3.out)
        clear he0 HVN HIF
        go_wp2_with fail
        go_ret2
        exact HF.out
      ·
       have he : i = n := by omega
       have hiz : ¬ (i : Int) < n := by omega
       have HF : Hid (CheckPost E deep parts w (.returned (.tuple #[.int .i64 0, .int .i64 (p : Nat)])) wr) := Lib.hid ⟨0, p, rfl, by unfold okI; omega, ⟨fun _ => HVV.out.2 ⟨by omega, by omega, HG.out, HG2.out, by omega, by omega, fun j hj => HVAL.out j (by omega)⟩, fun _ => rfl⟩, fun _ => by rw [HP.out, HSZ.out, he], HB1.out.trans (HBEL.out.mono HB1.out.size)⟩
       go_wp2_with fail
       go_ret2
       exact HF.out
    ·
     have hv1 : (v != 0) = true := by simpa using hv0
     have HNO : Hid (¬ okT E deep) := Lib.hid fun h => hv0 ((HVV.out.1 h).2.2.2.1 g3)
     clear hv0 g3
     go_wp2_with fail
     go_ret2
     exact HERR.out 9 _ _ (by decide) HNO.out (by unfold okI; omega) (Below.refl _ _)
open Go.RowKit
set_option maxRecDepth 100000 in
theorem check06_any (e : ExT) (x : Value) (w : World) (hs : e.size ≤ 4096) (h : ExprAt w e x) :
 Calls Tryz.prog 73 #[x] w fun y w' => ∃ err : Int, y = .returned (.int .i64 err) ∧ (err = 0 ↔ okT e 1) ∧ Below w.heap.size w w' := by
 have HC : Hid (∀ W, Below w.heap.size w W → ∀ u, u = x → Calls Tryz.prog 110 #[u, .int .i64 1, .int .i64 0] W (CheckPost e 1 0 W)) := Lib.hid fun W hb u hu => by subst hu; exact check_any e _ 1 0 W (by omega) (by omega) (h.below hb)
 obtain ⟨x0, x1, x2, hx⟩ : ∃ x0 x1 x2, x = .agg #[x0, x1, x2] := by
  cases e with
  | nil => unfold ExprAt at h; exact h.elim
  | mk op v n kid =>
    unfold ExprAt at h
    obtain ⟨a, c, rfl, _⟩ := h
    exact ⟨_, _, _, rfl⟩
 subst hx
 obtain ⟨w1, hw1⟩ : ∃ w1, w1 = w.alloc (.cells #[x0, x1, x2] 39) := ⟨_, rfl⟩
 have HW1 : Hid (_ = w1) := Lib.hid hw1.symm
 have HB1 : Hid (Below w.heap.size w w1) := by rw [hw1]; exact Lib.hid (below_new1 _ _)
 have hblk : w1.heap[w.heap.size]? = some (.cells #[x0, x1, x2] 39 (0, 0)) := by rw [hw1]; exact heap_alloc_new _ _
 have d0 : w1.cell? ⟨w.heap.size, 0, none⟩ = some x0 := by rw [cell_of_row _ _ 0 _ _ _ hblk]; rfl
 have d1 : w1.cell? ⟨w.heap.size, 1, none⟩ = some x1 := by rw [cell_of_row _ _ 1 _ _ _ hblk]; rfl
 have d2 : w1.cell? ⟨w.heap.size, 2, none⟩ = some x2 := by rw [cell_of_row _ _ 2 _ _ _ hblk]; rfl
 have hone : x0.cells = #[x0] ∧ x1.cells = #[x1] ∧ x2.cells = #[x2] := by
  cases e with
  | nil => unfold ExprAt at h; exact h.elim
  | mk op v n kid =>
    unfold ExprAt at h
    obtain ⟨a, c, h1, _⟩ := h
    cases h1
    exact ⟨rfl, rfl, rfl⟩
 obtain ⟨o0, o1, o2⟩ := hone
 clear h hw1 hblk
 go_enter Tryz.func73, Tryz.ntmps73
 go_upto_region 1 with fail
 rw [HW1.out]
 go_wp2_with fail
 refine (HC.out _ HB1.out _ rfl).mono ?_
 rintro y w2 ⟨err, m, rfl, hm, hv, _, hb⟩
 have HF : Hid (∃ err' : Int, Ending.returned (.int .i64 err) = .returned (.int .i64 err') ∧ (err' = 0 ↔ okT e 1) ∧ Below w.heap.size w w2) := Lib.hid ⟨err, rfl, hv, HB1.out.trans (hb.mono HB1.out.size)⟩
 clear hv hb
 go_wp2_with fail
 go_ret
 exact HF.out
def flatN : Nat → (Nat → List Int) → List Int
 | 0, _ => []
 | k + 1, f => flatN k f ++ f k
def varsT : ExT → List Int
 | .nil => []
 | .mk op v n kid => (if op = 3 then [v] else []) ++ flatN n fun i => varsT (kid i)
theorem flatN_len {f : Nat → List Int} {g : Nat → Nat} : ∀ (n : Nat), (∀ i, i < n → (f i).length ≤ g i) → (flatN n f).length ≤ sumN n g
 | 0, _ => Nat.le_refl _
 | k + 1, h => by
   show (flatN k f ++ f k).length ≤ sumN k g + g k
   rw [List.length_append]
   have := flatN_len (f := f) (g := g) k (fun i hi => h i (by omega))
   have := h k (by omega)
   omega
theorem varsT_len : ∀ e : ExT, (varsT e).length ≤ e.size
 | .nil => by simp [varsT]
 | .mk op v n kid => by
   show ((if op = 3 then [v] else []) ++ flatN n fun i => varsT (kid i)).length ≤ 1 + sumN n fun i => (kid i).size
   rw [List.length_append]
   have h1 := flatN_len (f := fun i => varsT (kid i)) (g := fun i => (kid i).size) n (fun i _ => varsT_len (kid i))
   have h2 : (if op = 3 then [v] else [] : List Int).length ≤ 1 := by split <;> simp
   omega
theorem OwnI.lower {w : World} {base b : Nat} {v : Value} {zs : List Int} (h : OwnI w base v zs) (hb : b ≤ base) : OwnI w b v zs := by
 refine ⟨h.1, ?_⟩
 rcases h.2 with hn | ⟨g, cap, cur, rfl, hb', rest⟩
 ·
  exact .inl hn
 ·
  exact .inr ⟨g, cap, cur, rfl, by omega, rest⟩
set_option maxRecDepth 100000 in
set_option maxHeartbeats 2000000 in
theorem vars06_any : ∀ (e : ExT) (x : Value) (w : World), e.size ≤ 4096 → ExprAt w e x →
 Calls Tryz.prog 112 #[x] w fun y w' => ∃ u, y = .returned u ∧ OwnI w' w.heap.size u (varsT e) ∧ Below w.heap.size w w'
 | .nil, x, w, hp, h => by unfold ExprAt at h; exact h.elim
 | .mk op v n kid, x, w, hp, h => by
   unfold ExprAt at h
   obtain ⟨a, c, rfl, h2, h3, h4, h5⟩ := h
   have H5 := Lib.hid h5
   have HSZ : Hid ((ExT.mk op v n kid).size = 1 + sumN n fun i => (kid i).size) := Lib.hid rfl
   have HKS : Hid (∀ i, i < n → (kid i).size < (ExT.mk op v n kid).size) := Lib.hid fun i hi => ExT.kid_size hi
   have HVT : Hid (varsT (ExT.mk op v n kid) = (if op = 3 then [v] else []) ++ flatN n fun i => varsT (kid i)) := Lib.hid rfl
   have IH : Hid (∀ (i : Nat) (x : Value) (W : World), (kid i).size ≤ 4096 → ExprAt W (kid i) x → Calls Tryz.prog 112 #[x] W fun y w' => ∃ u, y = .returned u ∧ OwnI w' W.heap.size u (varsT (kid i)) ∧ Below W.heap.size W w') :=
    Lib.hid fun i x W h1 h2 => vars06_any (kid i) x W h1 h2
   obtain ⟨E, hE⟩ : ∃ E, E = ExT.mk op v n kid := ⟨_, rfl⟩
   rw [← hE] at HSZ hp HVT HKS ⊢
   obtain ⟨w1, hw1⟩ : ∃ w1, w1 = w.alloc (.cells #[.int .i64 op, .int .i64 v, .slice a n c] 39) := ⟨_, rfl⟩
   have HW1 : Hid (_ = w1) := Lib.hid hw1.symm
   have HB1 : Hid (Below w.heap.size w w1) := by rw [hw1]; exact Lib.hid (below_new1 _ _)
   have hblk : w1.heap[w.heap.size]? = some (.cells #[.int .i64 op, .int .i64 v, .slice a n c] 39 (0, 0)) := by rw [hw1]; exact heap_alloc_new _ _
   have hs1 : w1.heap.size = w.heap.size + 1 := by rw [hw1]; simp
   have d0 : w1.cell? ⟨w.heap.size, 0, none⟩ = some (.int .i64 op) := by rw [cell_of_row _ _ 0 _ _ _ hblk]; rfl
   have d1 : w1.cell? ⟨w.heap.size, 1, none⟩ = some (.int .i64 v) := by rw [cell_of_row _ _ 1 _ _ _ hblk]; rfl
   have d2 : w1.cell? ⟨w.heap.size, 2, none⟩ = some (.slice a n c) := by rw [cell_of_row _ _ 2 _ _ _ hblk]; rfl
   unfold okI at h2 h3
   obtain ⟨w2, hw2⟩ : ∃ w2, w2 = w1.alloc (.cells #[] 3) := ⟨_, rfl⟩
   have HW2 : Hid (_ = w2) := Lib.hid hw2.symm
   have HB2 : Hid (Below w1.heap.size w1 w2) := by rw [hw2]; exact Lib.hid (below_new1 _ _)
   have HOWN : Hid (OwnI w2 w1.heap.size (.slice (some ⟨w.heap.size + 1, 0, none⟩) 0 0) []) := by rw [hw2, ← hs1]; exact Lib.hid (ownI_new _ _ (Nat.le_refl _))
   clear h5 hE hw1 hw2 hblk
   go_enter Tryz.func112, Tryz.ntmps112
   go_upto_region 1 with fail
   rw [HW1.out]
   go_upto_region 2 with fail
   obtain ⟨Z, hZ⟩ : ∃ Z : List Int, Z = if op = 3 then [v] else [] := ⟨_, rfl⟩
   have HZ := Lib.hid hZ
   have HZ1 : Hid (Z.length ≤ 1) := Lib.hid (by rw [hZ]; split <;> simp)
   rw [HW2.out]
   have hs2 : w1.heap.size ≤ w2.heap.size := HB2.out.size
   have d0' := (HB2.out.cell (p := ⟨w.heap.size, 0, none⟩) (lt_of_cell d0)).trans d0
   have d1' := (HB2.out.cell (p := ⟨w.heap.size, 1, none⟩) (lt_of_cell d1)).trans d1
   by_cases h3 : op = 3
   ·
    rw [if_pos h3] at hZ
    subst h3
    clear h2
    go_wp2_with (at_builtin; refine wpList_app1 _ rfl _ _ rfl w1.heap.size w1 _ [] _ rfl rfl rfl rfl (by exact HOWN.out) (by simp) hs2 HB2.out ?_; intro v3 w3 hown3 hb3 hs3 _)
    go_loopw [3, 4] (fun s3 s4 wr => ∃ i : Nat, i ≤ n ∧ s4 = .int .i64 i ∧ Below w1.heap.size w1 wr ∧ OwnI wr w1.heap.size s3 (Z ++ flatN i fun i => varsT (kid i)) ∧ w1.heap.size ≤ wr.heap.size) (fun _ s4 _ => n - (intOf s4).toNat)
    case atStart => exact ⟨0, Nat.zero_le _, rfl, hb3, by rw [hZ]; simpa [flatN] using hown3, hs3⟩
    case round =>
     obtain ⟨i, hin, rfl, hbel, hown, hsz⟩ := hrel
     have d2' := (hbel.cell (p := ⟨w.heap.size, 2, none⟩) (lt_of_cell d2)).trans d2
     have HBEL := Lib.hid hbel
     have HOW := Lib.hid hown
     clear hbel hown
     by_cases hlt : i < n
     ·
      obtain ⟨b, off, x0, x1, x2, rfl, c0, c1, c2, hx⟩ := H5.out i hlt
      have hb0 := HB1.out.trans (HBEL.out.mono HB1.out.size)
      have e0 := (hb0.cell (p := ⟨b, off + i * 3, none⟩) (lt_of_cell c0)).trans c0
      have e1 := (hb0.cell (p := ⟨b, off + i * 3 + 1, none⟩) (lt_of_cell c1)).trans c1
      have e2 := (hb0.cell (p := ⟨b, off + i * 3 + 2, none⟩) (lt_of_cell c2)).trans c2
      have HX := Lib.hid (hx.below hb0)
      have hiz : (i : Int) < n := by omega
      have hk1 := HKS.out i hlt
      have HLN : Hid ((Z ++ flatN i fun i => varsT (kid i)).length + (varsT (kid i)).length ≤ 4096) := Lib.hid (by
       have s1 := sumN_two (f := fun i => (kid i).size) hlt
       have s2 := HSZ.out
       have s3 := flatN_len (f := fun i => varsT (kid i)) (g := fun i => (kid i).size) i (fun i _ => varsT_len (kid i))
       have s4 := varsT_len (kid i)
       have s5 := HZ1.out
       rw [List.length_append]
       omega)
      clear c0 c1 c2 hx hb0
      go_upto_region 7 with fail
      go_wp2_with (first
       | (go_at_call 112; refine (IH.out i _ _ (by omega) HX.out).mono ?_; rintro y w3 ⟨u, rfl, hu, hb3⟩; obtain ⟨au, cu, rfl, hua, hun⟩ := hu.sliceIs (by have := HLN.out; omega); have HU := Lib.hid hua; have HB3 := Lib.hid hb3; clear hu hua hb3)
       | (at_builtin; refine wpList_appAll rfl _ _ rfl w1.heap.size w1 _ (Z ++ flatN i fun i => varsT (kid i)) (varsT (kid i)) au cu rfl rfl (by exact HOW.out.below HB3.out) (by exact HU.out) (by have := HLN.out; omega) (by have := HB3.out.size; omega) (by exact HBEL.out.trans (HB3.out.mono HBEL.out.size)) hun ?_; intro v4 w4 hown4 hb4 hs4 _))
      go_roundw
      case rel => exact ⟨i + 1, by omega, by go_num, hb4, by rw [List.append_assoc] at hown4; exact hown4, hs4⟩
      case measure => simp [intOf]; omega
     ·
      have he : i = n := by omega
      have hiz : ¬ (i : Int) < n := by omega
      have HF : Hid (∃ u, Ending.returned u3 = .returned u ∧ OwnI wr w.heap.size u (varsT E) ∧ Below w.heap.size w wr) := Lib.hid ⟨u3, rfl, by rw [HVT.out, ← HZ.out, ← he]; exact HOW.out.lower (by omega), HB1.out.trans (HBEL.out.mono HB1.out.size)⟩
      go_wp2_with fail
      go_ret
      exact HF.out
   ·
    rw [if_neg h3] at hZ
    have g3 : (op == 3) = false := by simpa using h3
    clear h3
    go_wp2_with fail
    go_loopw [3, 4] (fun s3 s4 wr => ∃ i : Nat, i ≤ n ∧ s4 = .int .i64 i ∧ Below w1.heap.size w1 wr ∧ OwnI wr w1.heap.size s3 (Z ++ flatN i fun i => varsT (kid i)) ∧ w1.heap.size ≤ wr.heap.size) (fun _ s4 _ => n - (intOf s4).toNat)
    case atStart => exact ⟨0, Nat.zero_le _, rfl, HB2.out, by rw [hZ]; simpa [flatN] using HOWN.out, hs2⟩
    case round =>
     obtain ⟨i, hin, rfl, hbel, hown, hsz⟩ := hrel
     have d2' := (hbel.cell (p := ⟨w.heap.size, 2, none⟩) (lt_of_cell d2)).trans d2
     have HBEL := Lib.hid hbel
     have HOW := Lib.hid hown
     clear hbel hown
     by_cases hlt : i < n
     ·
      obtain ⟨b, off, x0, x1, x2, rfl, c0, c1, c2, hx⟩ := H5.out i hlt
      have hb0 := HB1.out.trans (HBEL.out.mono HB1.out.size)
      have e0 := (hb0.cell (p := ⟨b, off + i * 3, none⟩) (lt_of_cell c0)).trans c0
      have e1 := (hb0.cell (p := ⟨b, off + i * 3 + 1, none⟩) (lt_of_cell c1)).trans c1
      have e2 := (hb0.cell (p := ⟨b, off + i * 3 + 2, none⟩) (lt_of_cell c2)).trans c2
      have HX := Lib.hid (hx.below hb0)
      have hiz : (i : Int) < n := by omega
      have hk1 := HKS.out i hlt
      have HLN : Hid ((Z ++ flatN i fun i => varsT (kid i)).length + (varsT (kid i)).length ≤ 4096) := Lib.hid (by
       have s1 := sumN_two (f := fun i => (kid i).size) hlt
       have s2 := HSZ.out
       have s3 := flatN_len (f := fun i => varsT (kid i)) (g := fun i => (kid i).size) i (fun i _ => varsT_len (kid i))
       have s4 := varsT_len (kid i)
       have s5 := HZ1.out
       rw [List.length_append]
       omega)
      clear c0 c1 c2 hx hb0
      go_upto_region 7 with fail
      go_wp2_with (first
       | (go_at_call 112; refine (IH.out i _ _ (by omega) HX.out).mono ?_; rintro y w3 ⟨u, rfl, hu, hb3⟩; obtain ⟨au, cu, rfl, hua, hun⟩ := hu.sliceIs (by have := HLN.out; omega); have HU := Lib.hid hua; have HB3 := Lib.hid hb3; clear hu hua hb3)
       | (at_builtin; refine wpList_appAll rfl _ _ rfl w1.heap.size w1 _ (Z ++ flatN i fun i => varsT (kid i)) (varsT (kid i)) au cu rfl rfl (by exact HOW.out.below HB3.out) (by exact HU.out) (by have := HLN.out; omega) (by have := HB3.out.size; omega) (by exact HBEL.out.trans (HB3.out.mono HBEL.out.size)) hun ?_; intro v4 w4 hown4 hb4 hs4 _))
      go_roundw
      case rel => exact ⟨i + 1, by omega, by go_num, hb4, by rw [List.append_assoc] at hown4; exact hown4, hs4⟩
      case measure => simp [intOf]; omega
     ·
      have he : i = n := by omega
      have hiz : ¬ (i : Int) < n := by omega
      have HF : Hid (∃ u, Ending.returned u3 = .returned u ∧ OwnI wr w.heap.size u (varsT E) ∧ Below w.heap.size w wr) := Lib.hid ⟨u3, rfl, by rw [HVT.out, ← HZ.out, ← he]; exact HOW.out.lower (by omega), HB1.out.trans (HBEL.out.mono HB1.out.size)⟩
      go_wp2_with fail
      go_ret
      exact HF.out
open Go.RowKit
set_option maxRecDepth 100000 in
theorem has03_any (a : Option Addr) (c : Nat) (zs : List Int) (v : Int) (w : World) (hl : zs.length ≤ 1000000) (h : IntsAt w a zs) :
 Calls Tryz.prog 148 #[.slice a zs.length c, .int .i64 v] w fun y w' => y = .returned (.bool (decide (v ∈ zs))) ∧ w = w' := by
 have HI := Lib.hid h
 clear h
 have HNO : Hid ((∀ j, j < zs.length → at0 zs j ≠ v) → decide (v ∈ zs) = false) := Lib.hid fun hh => decide_eq_false fun hm => by
  obtain ⟨j, hj, e⟩ := List.getElem_of_mem hm
  exact hh j hj (by rw [at0_eq hj]; exact e)
 have HYES : Hid (∀ j, j < zs.length → at0 zs j = v → decide (v ∈ zs) = true) := Lib.hid fun j hj e => decide_eq_true (by rw [at0_eq hj] at e; rw [← e]; exact List.getElem_mem hj)
 go_enter Tryz.func148, Tryz.ntmps148
 go_wp2_with fail
 go_loopw [5] (fun s5 wr => ∃ i : Nat, i ≤ zs.length ∧ s5 = .int .i64 i ∧ w = wr ∧ Hid (∀ j, j < i → at0 zs j ≠ v)) (fun s5 _ => zs.length - (intOf s5).toNat)
 case atStart => exact ⟨0, Nat.zero_le _, rfl, rfl, Lib.hid fun j hj => by omega⟩
 case round =>
  obtain ⟨i, hi, rfl, rfl, HN⟩ := hrel
  by_cases hlt : i < zs.length
  ·
   obtain ⟨b, off, rfl, hc⟩ := HI.out.cells i hlt
   have hiz : (i : Int) < zs.length := by omega
   obtain ⟨z, hz⟩ : ∃ z, z = at0 zs i := ⟨_, rfl⟩
   rw [← hz] at hc
   by_cases he : z = v
   ·
    have HY := Lib.hid (HYES.out i hlt (by rw [← hz, he]))
    subst he
    clear hz
    go_wp2_with fail
    go_ret
    exact ⟨by rw [HY.out]; rfl, rfl⟩
   ·
    have hne : (z == v) = false := by simpa using he
    have HN2 : Hid (∀ j, j < i + 1 → at0 zs j ≠ v) := Lib.hid fun j hj => by
     rcases Nat.lt_or_ge j i with h | h
     ·
      exact HN.out j h
     ·
      obtain rfl : j = i := by omega
      rw [← hz]; exact he
    clear hz he
    go_wp2_with fail
    go_roundw
    case rel => exact ⟨i + 1, by omega, by go_num, by simp, HN2⟩
    case measure => simp [intOf]; omega
  ·
   have HN2 := Lib.hid (HNO.out fun j hj => HN.out j (by omega))
   have hiz : ¬ (i : Int) < zs.length := by omega
   go_wp2_with fail
   go_ret
   exact ⟨by rw [HN2.out]; rfl, rfl⟩
structure PutS (zs : List Int) (v : Int) (i : Nat) (d : Bool) (os : List Int) : Prop where
 mem : ∀ x, x ∈ os ↔ x ∈ zs.take i ∨ (d = true ∧ x = v)
 len : os.length = i + if d then 1 else 0
theorem PutS.here {zs : List Int} {v : Int} {i : Nat} {os : List Int} (h : PutS zs v i false os) : PutS zs v i true (os ++ [v]) := by
 refine ⟨fun x => ?_, by simp [h.len]⟩
 have := h.mem x
 simp only [Bool.false_eq_true, false_and, or_false] at this
 simp [this]
theorem PutS.next {zs : List Int} {v : Int} {i : Nat} {d : Bool} {os : List Int} (h : PutS zs v i d os) (hi : i < zs.length) : PutS zs v (i + 1) d (os ++ [at0 zs i]) := by
 refine ⟨fun x => ?_, by have := h.len; simp [this]; omega⟩
 rw [List.take_succ_eq_append_getElem hi, List.mem_append, List.mem_append, h.mem x, at0_eq hi]
 simp only [List.mem_singleton]
 constructor
 ·
  rintro ((h1 | h1) | h1)
  ·
   exact .inl (.inl h1)
  ·
   exact .inr h1
  ·
   exact .inl (.inr h1)
 ·
  rintro ((h1 | h1) | h1)
  ·
   exact .inl (.inl h1)
  ·
   exact .inr h1
  ·
   exact .inl (.inr h1)
set_option maxRecDepth 100000 in
set_option maxHeartbeats 2000000 in
theorem put03_any (a : Option Addr) (c : Nat) (zs : List Int) (v : Int) (w : World) (hl : zs.length ≤ 1000000) (h : IntsAt w a zs) :
 Calls Tryz.prog 149 #[.slice a zs.length c, .int .i64 v] w fun y w' => ∃ u os, y = .returned u ∧ OwnI w' w.heap.size u os ∧ (∀ x, x ∈ os ↔ x ∈ zs ∨ x = v) ∧ os.length = zs.length + 1 ∧ Below w.heap.size w w' := by
 have HI := Lib.hid h
 clear h
 have HFIN : Hid (∀ os, PutS zs v zs.length true os → (∀ x, x ∈ os ↔ x ∈ zs ∨ x = v) ∧ os.length = zs.length + 1) := Lib.hid fun os h => ⟨fun x => by have := h.mem x; rw [List.take_length] at this; simpa using this, by simpa using h.len⟩
 go_enter Tryz.func149, Tryz.ntmps149
 go_wp2_with fail
 go_loopw [5, 6, 7] (fun s5 s6 s7 wr => ∃ (i : Nat) (d : Bool) (os : List Int), i ≤ zs.length ∧ s6 = .bool d ∧ s7 = .int .i64 i ∧ OwnI wr w.heap.size s5 os ∧ w.heap.size ≤ wr.heap.size ∧ Below w.heap.size w wr ∧ Hid (PutS zs v i d os)) (fun _ _ s7 _ => zs.length - (intOf s7).toNat)
 case atStart => exact ⟨0, false, [], Nat.zero_le _, rfl, rfl, ownI_new w _ (Nat.le_refl _), by simp, below_new1 w _, Lib.hid ⟨fun x => by simp, by simp⟩⟩
 case round =>
  obtain ⟨i, d, os, hi, rfl, rfl, hown, hsz, hbel, HP⟩ := hrel
  have hol : os.length ≤ i + 1 := by rw [HP.out.len]; split <;> omega
  by_cases hlt : i < zs.length
  ·
   obtain ⟨b, off, rfl, hc⟩ := (HI.out.below hbel).cells i hlt
   have HOW := Lib.hid hown
   have HBEL := Lib.hid hbel
   have hiz : (i : Int) < zs.length := by omega
   obtain ⟨z, hz⟩ : ∃ z, z = at0 zs i := ⟨_, rfl⟩
   rw [← hz] at hc
   have HZ := Lib.hid hz
   clear hown hbel hz
   have done : ∀ d, PutS zs v i d os → True := fun _ _ => trivial
   clear done
   cases d with
   | true =>
     go_wp2_with (at_builtin; refine wpList_app1 _ rfl _ _ rfl w.heap.size w _ os _ rfl rfl rfl rfl (by exact HOW.out) (by omega) hsz HBEL.out ?_; intro v1 w1 hown1 hbel1 hsz1 _)
     go_roundw
     case rel => exact ⟨i + 1, true, _, by omega, rfl, by go_num, hown1, hsz1, hbel1, Lib.hid (by rw [HZ.out]; exact HP.out.next hlt)⟩
     case measure => simp [intOf]; omega
   | false =>
     by_cases hgt : z > v
     ·
      have cne : ∀ W : World, Below wr.heap.size wr W → W.cell? ⟨b, off + i, none⟩ = some (.int .i64 z) := fun W hb => (hb.cell (p := ⟨b, off + i, none⟩) (lt_of_cell hc)).trans hc
      have hblt : b < w.heap.size := by
       obtain ⟨b', o', e, c'⟩ := HI.out.cells i hlt
       cases e; exact lt_of_cell c'
      go_upto_region 8 with (at_builtin; refine wpList_app1 _ rfl _ _ rfl w.heap.size w _ os _ rfl rfl rfl rfl (by exact HOW.out) (by omega) hsz HBEL.out ?_; intro v1 w1 hown1 hbel1 hsz1 _)
      have hc1 : w1.cell? ⟨b, off + i, none⟩ = some (.int .i64 z) := by
       obtain ⟨b', o', e, c'⟩ := HI.out.cells i hlt
       cases e
       rw [(hbel1.cell (p := ⟨b, off + i, none⟩) hblt), HZ.out]; exact c'
      have HO1 := Lib.hid hown1
      have HB1 := Lib.hid hbel1
      clear hown1 hbel1 hc cne
      go_wp2_with (at_builtin; refine wpList_app1 _ rfl _ _ rfl w.heap.size w _ (os ++ [v]) _ rfl rfl rfl rfl (by exact HO1.out) (by simp; omega) hsz1 HB1.out ?_; intro v2 w2 hown2 hbel2 hsz2 _)
      go_roundw
      case rel => exact ⟨i + 1, true, _, by omega, rfl, by go_num, hown2, hsz2, hbel2, Lib.hid (by rw [HZ.out]; exact HP.out.here.next hlt)⟩
      case measure => simp [intOf]; omega
     ·
      go_wp2_with (at_builtin; refine wpList_app1 _ rfl _ _ rfl w.heap.size w _ os _ rfl rfl rfl rfl (by exact HOW.out) (by omega) hsz HBEL.out ?_; intro v1 w1 hown1 hbel1 hsz1 _)
      go_roundw
      case rel => exact ⟨i + 1, false, _, by omega, rfl, by go_num, hown1, hsz1, hbel1, Lib.hid (by rw [HZ.out]; exact HP.out.next hlt)⟩
      case measure => simp [intOf]; omega
  ·
   have he : i = zs.length := by omega
   have hiz : ¬ (i : Int) < zs.length := by omega
   have HOW := Lib.hid hown
   have HBEL := Lib.hid hbel
   have HE := Lib.hid he
   clear hown hbel he
   cases d with
   | true =>
     have HF := HFIN.out os (by rw [← HE.out]; exact HP.out)
     go_wp2_with fail
     go_ret
     exact ⟨_, rfl, os, HOW.out, HF.1, HF.2, HBEL.out⟩
   | false =>
     have HF := Lib.hid (HFIN.out (os ++ [v]) (by rw [← HE.out]; exact HP.out.here))
     go_wp2_with (at_builtin; refine wpList_app1 _ rfl _ _ rfl w.heap.size w _ os _ rfl rfl rfl rfl (by exact HOW.out) (by omega) hsz HBEL.out ?_; intro v1 w1 hown1 hbel1 hsz1 _)
     go_ret
     exact ⟨_, rfl, _, hown1, HF.out.1, HF.out.2, hbel1⟩
theorem mem_take_succ {zs : List Int} {i : Nat} (hi : i < zs.length) (x : Int) : x ∈ zs.take (i + 1) ↔ x ∈ zs.take i ∨ x = at0 zs i := by
 rw [List.take_succ_eq_append_getElem hi, List.mem_append, at0_eq hi, List.mem_singleton]
set_option maxRecDepth 100000 in
set_option maxHeartbeats 2000000 in
theorem of03_any (a : Option Addr) (c : Nat) (zs : List Int) (w : World) (hl : zs.length ≤ 900000) (h : IntsAt w a zs) :
 Calls Tryz.prog 111 #[.slice a zs.length c] w fun y w' => ∃ u os, y = .returned u ∧ OwnI w' w.heap.size u os ∧ (∀ x, x ∈ os ↔ x ∈ zs) ∧ os.length ≤ zs.length ∧ Below w.heap.size w w' := by
 have HI := Lib.hid h
 clear h
 go_enter Tryz.func111, Tryz.ntmps111
 go_wp2_with fail
 go_loopw [3, 4] (fun s3 s4 wr => ∃ (i : Nat) (os : List Int), i ≤ zs.length ∧ s4 = .int .i64 i ∧ OwnI wr w.heap.size s3 os ∧ w.heap.size ≤ wr.heap.size ∧ Below w.heap.size w wr ∧ os.length ≤ i ∧ Hid (∀ x, x ∈ os ↔ x ∈ zs.take i)) (fun _ s4 _ => zs.length - (intOf s4).toNat)
 case atStart => exact ⟨0, [], Nat.zero_le _, rfl, ownI_new w _ (Nat.le_refl _), by simp, below_new1 w _, by simp, Lib.hid fun x => by simp⟩
 case round =>
  obtain ⟨i, os, hi, rfl, hown, hsz, hbel, hol, HP⟩ := hrel
  by_cases hlt : i < zs.length
  ·
   obtain ⟨b, off, rfl, hc⟩ := (HI.out.below hbel).cells i hlt
   have hiz : (i : Int) < zs.length := by omega
   obtain ⟨z, hz⟩ : ∃ z, z = at0 zs i := ⟨_, rfl⟩
   rw [← hz] at hc
   obtain ⟨ao, co, rfl, hoi, hon⟩ := hown.sliceIs (by omega)
   have HHAS := Lib.hid (has03_any ao co os z wr (by omega) hoi)
   have HPUT := Lib.hid (put03_any ao co os z wr (by omega) hoi)
   have HOW := Lib.hid hown
   have HBEL := Lib.hid hbel
   have HT := Lib.hid (mem_take_succ hlt)
   have HZ := Lib.hid hz
   clear hown hbel hz hoi
   by_cases hm : z ∈ os
   ·
    have hb : decide (z ∈ os) = true := by simp [hm]
    rw [hb] at HHAS
    have HM2 : Hid (∀ x, x ∈ os ↔ x ∈ zs.take (i + 1)) := Lib.hid fun x => by
     rw [HT.out x, ← HZ.out]
     constructor
     ·
      intro h; exact .inl ((HP.out x).1 h)
     ·
      rintro (h | rfl)
      ·
       exact (HP.out x).2 h
      ·
       exact hm
    clear hm hb HPUT
    go_wp2_with fail
    refine HHAS.out.mono ?_
    rintro y w' ⟨rfl, rfl⟩
    go_wp2_with fail
    go_roundw
    case rel => exact ⟨i + 1, os, by omega, by go_num, HOW.out, hsz, HBEL.out, by omega, HM2⟩
    case measure => simp [intOf]; omega
   ·
    have hb : decide (z ∈ os) = false := by simp [hm]
    rw [hb] at HHAS
    clear hm hb
    go_wp2_with fail
    refine HHAS.out.mono ?_
    rintro y w' ⟨rfl, rfl⟩
    go_wp2_with fail
    refine HPUT.out.mono ?_
    rintro y w2 ⟨u, os2, rfl, hown2, hmem2, hlen2, hb2⟩
    have HM2 : Hid (∀ x, x ∈ os2 ↔ x ∈ zs.take (i + 1)) := Lib.hid fun x => by
     rw [hmem2 x, HT.out x, ← HZ.out, HP.out x]
    have HO2 : Hid (OwnI w2 w.heap.size u os2) := Lib.hid (hown2.lower hsz)
    have HB2 := Lib.hid (HBEL.out.trans (hb2.mono hsz))
    have hs2 : w.heap.size ≤ w2.heap.size := Nat.le_trans hsz hb2.size
    clear hown2 hmem2 hb2
    go_wp2_with fail
    go_roundw
    case rel => exact ⟨i + 1, os2, by omega, by go_num, HO2.out, hs2, HB2.out, by omega, HM2⟩
    case measure => simp [intOf]; omega
  ·
   have he : i = zs.length := by omega
   have hiz : ¬ (i : Int) < zs.length := by omega
   have HOW := Lib.hid hown
   have HBEL := Lib.hid hbel
   have HM : Hid (∀ x, x ∈ os ↔ x ∈ zs) := Lib.hid fun x => by have := HP.out x; rw [he, List.take_length] at this; exact this
   have hol2 : os.length ≤ zs.length := by omega
   clear hown hbel he
   go_wp2_with fail
   go_ret
   exact ⟨_, rfl, os, HOW.out, HM.out, hol2, HBEL.out⟩
theorem ExprAt.agg {w : World} {e : ExT} {x : Value} (h : ExprAt w e x) : ∃ x0 x1 x2, x = .agg #[x0, x1, x2] ∧ x0.cells = #[x0] ∧ x1.cells = #[x1] ∧ x2.cells = #[x2] := by
 cases e with
 | nil => unfold ExprAt at h; exact h.elim
 | mk op v n kid =>
   unfold ExprAt at h
   obtain ⟨a, c, rfl, _⟩ := h
   exact ⟨_, _, _, rfl, rfl, rfl, rfl⟩
set_option maxRecDepth 100000 in
set_option maxHeartbeats 2000000 in
theorem vars06Top_any (e : ExT) (x : Value) (w : World) (hs : e.size ≤ 4096) (h : ExprAt w e x) :
 Calls Tryz.prog 74 #[x] w fun y w' => ∃ u os, y = .returned u ∧ SliceIs w' u os ∧ os.length ≤ 4096 ∧ (okT e 1 → ∀ v ∈ varsT e, v ∈ os) ∧ Below w.heap.size w w' := by
 have HC : Hid (∀ W, Below w.heap.size w W → ∀ u, u = x → Calls Tryz.prog 73 #[u] W fun y w' => ∃ err : Int, y = .returned (.int .i64 err) ∧ (err = 0 ↔ okT e 1) ∧ Below W.heap.size W w') := Lib.hid fun W hb u hu => by subst hu; exact check06_any e _ W hs (h.below hb)
 have HV : Hid (∀ W, Below w.heap.size w W → ∀ u, u = x → Calls Tryz.prog 112 #[u] W fun y w' => ∃ u, y = .returned u ∧ OwnI w' W.heap.size u (varsT e) ∧ Below W.heap.size W w') := Lib.hid fun W hb u hu => by subst hu; exact vars06_any e _ W hs (h.below hb)
 have hvl := varsT_len e
 obtain ⟨x0, x1, x2, hx, o0, o1, o2⟩ := h.agg
 subst hx
 obtain ⟨w1, hw1⟩ : ∃ w1, w1 = w.alloc (.cells #[x0, x1, x2] 39) := ⟨_, rfl⟩
 have HW1 : Hid (_ = w1) := Lib.hid hw1.symm
 have HB1 : Hid (Below w.heap.size w w1) := by rw [hw1]; exact Lib.hid (below_new1 _ _)
 have hblk : w1.heap[w.heap.size]? = some (.cells #[x0, x1, x2] 39 (0, 0)) := by rw [hw1]; exact heap_alloc_new _ _
 have d0 : w1.cell? ⟨w.heap.size, 0, none⟩ = some x0 := by rw [cell_of_row _ _ 0 _ _ _ hblk]; rfl
 have d1 : w1.cell? ⟨w.heap.size, 1, none⟩ = some x1 := by rw [cell_of_row _ _ 1 _ _ _ hblk]; rfl
 have d2 : w1.cell? ⟨w.heap.size, 2, none⟩ = some x2 := by rw [cell_of_row _ _ 2 _ _ _ hblk]; rfl
 clear h hw1 hblk
 go_enter Tryz.func74, Tryz.ntmps74
 go_upto_region 1 with fail
 rw [HW1.out]
 go_wp2_with fail
 refine (HC.out _ HB1.out _ rfl).mono ?_
 rintro y w2 ⟨err, rfl, hiff, hb2⟩
 have HB2 := Lib.hid (HB1.out.trans (hb2.mono HB1.out.size))
 have HIF := Lib.hid hiff
 have e0 := (hb2.cell (p := ⟨w.heap.size, 0, none⟩) (lt_of_cell d0)).trans d0
 have e1 := (hb2.cell (p := ⟨w.heap.size, 1, none⟩) (lt_of_cell d1)).trans d1
 have e2 := (hb2.cell (p := ⟨w.heap.size, 2, none⟩) (lt_of_cell d2)).trans d2
 clear hb2 hiff d0 d1 d2
 by_cases he : err = 0
 ·
  subst he
  go_wp2_with fail
  refine (HV.out _ HB2.out _ rfl).mono ?_
  rintro y w3 ⟨u, rfl, hu, hb3⟩
  obtain ⟨au, cu, rfl, hua, hun⟩ := hu.sliceIs (by omega)
  have HO := Lib.hid (of03_any au cu (varsT e) w3 (by omega) hua)
  have HB3 := Lib.hid (HB2.out.trans (hb3.mono HB2.out.size))
  clear hu hua hb3 e0 e1 e2
  go_wp2_with fail
  refine HO.out.mono ?_
  rintro y w4 ⟨u4, os, rfl, hown, hmem, hlen, hb4⟩
  have HF : Hid (∃ u os, Ending.returned u4 = .returned u ∧ SliceIs w4 u os ∧ os.length ≤ 4096 ∧ (okT e 1 → ∀ v ∈ varsT e, v ∈ os) ∧ Below w.heap.size w w4) := Lib.hid ⟨u4, os, rfl, hown.sliceIs (by omega), by omega, fun _ v hv => (hmem v).2 hv, HB3.out.trans (hb4.mono HB3.out.size)⟩
  clear hown hmem hlen hb4
  go_wp2_with fail
  go_ret
  exact HF.out
 ·
  have hne : (err != 0) = true := by simpa using he
  have HF : Hid (∃ u os, Ending.returned (.slice none 0 0) = .returned u ∧ SliceIs w2 u os ∧ os.length ≤ 4096 ∧ (okT e 1 → ∀ v ∈ varsT e, v ∈ os) ∧ Below w.heap.size w w2) := Lib.hid ⟨_, [], rfl, sliceIs_nil w2, by simp, fun h => (he (HIF.out.2 h)).elim, HB2.out⟩
  clear he e0 e1 e2
  go_wp2_with fail
  go_ret
  exact HF.out
open Go.RowKit
structure EvsAt (w : World) (a : Option Addr) (l : List Ev) : Prop where
 len : l.length ≤ 9223372036854775807
 cells : ∀ k, ∀ hk : k < l.length, ∃ b off, a = some ⟨b, off, none⟩ ∧ w.cell? ⟨b, off + k * 3, none⟩ = some (.int .i64 l[k].after) ∧ w.cell? ⟨b, off + k * 3 + 1, none⟩ = some (.int .i64 l[k].kind) ∧ w.cell? ⟨b, off + k * 3 + 2, none⟩ = some (.int .i64 l[k].level)
theorem EvsAt.below {w w' : World} {a : Option Addr} {l : List Ev} (h : EvsAt w a l) (hb : Below w.heap.size w w') : EvsAt w' a l :=
 ⟨h.len, fun k hk => by
  obtain ⟨b, off, e, c0, c1, c2⟩ := h.cells k hk
  exact ⟨b, off, e, (hb.cell (p := ⟨b, off + k * 3, none⟩) (lt_of_cell c0)).trans c0, (hb.cell (p := ⟨b, off + k * 3 + 1, none⟩) (lt_of_cell c1)).trans c1, (hb.cell (p := ⟨b, off + k * 3 + 2, none⟩) (lt_of_cell c2)).trans c2⟩⟩
def evCode (vars : Int) (e : Ev) : Int := if e.kind < 1 ∨ e.kind > 3 then 11 else if e.after < 1 ∨ (e.kind = 2 ∧ (e.level < 0 ∨ e.level > vars - 2)) then 2 else 0
def planL (vars : Int) : List Ev → Int
 | [] => 0
 | e :: r => if evCode vars e = 0 then planL vars r else evCode vars e
def planR (vars waits : Int) (l : List Ev) : Int := if (l.length : Int) > 256 - waits then 18 else planL vars l
theorem planL_drop {vars : Int} {l : List Ev} {i : Nat} (hi : i < l.length) : planL vars (l.drop i) = if evCode vars l[i] = 0 then planL vars (l.drop (i + 1)) else evCode vars l[i] := by
 rw [List.drop_eq_getElem_cons hi]; rfl
set_option maxRecDepth 100000 in
set_option maxHeartbeats 4000000 in
theorem plan13_any (vars waits : Int) (hv : 0 ≤ vars ∧ vars ≤ 1000) (hw : 0 ≤ waits ∧ waits ≤ 1000) (a : Option Addr) (c : Nat) (l : List Ev) (w : World) (h : EvsAt w a l) :
 Calls Tryz.prog 59 #[.int .i64 vars, .int .i64 waits, .slice a l.length c] w fun y w' => y = .returned (.int .i64 (planR vars waits l)) ∧ w = w' := by
 have HI := Lib.hid h
 have hl := h.len
 clear h
 by_cases hmany : (l.length : Int) > 256 - waits
 ·
  have HR : Hid (planR vars waits l = 18) := Lib.hid (by unfold planR; rw [if_pos hmany])
  go_enter Tryz.func59, Tryz.ntmps59
  go_wp2_with fail
  go_ret
  exact ⟨by rw [HR.out]; rfl, rfl⟩
 have HR : Hid (planR vars waits l = planL vars (l.drop 0)) := Lib.hid (by unfold planR; rw [if_neg hmany]; rfl)
 obtain ⟨P, hP⟩ : ∃ P, P = planR vars waits l := ⟨_, rfl⟩
 rw [← hP] at HR ⊢
 clear hP
 go_enter Tryz.func59, Tryz.ntmps59
 go_wp2_with fail
 go_loopw [7] (fun s7 wr => ∃ i : Nat, i ≤ l.length ∧ s7 = .int .i64 i ∧ w = wr ∧ Hid (P = planL vars (l.drop i))) (fun s7 _ => l.length - (intOf s7).toNat)
 case atStart => exact ⟨0, Nat.zero_le _, rfl, rfl, HR⟩
 case round =>
  clear HR
  obtain ⟨i, hi, rfl, rfl, HP⟩ := hrel
  by_cases hlt : i < l.length
  ·
   obtain ⟨b, off, rfl, c0, c1, c2⟩ := HI.out.cells i hlt
   have hiz : (i : Int) < l.length := by omega
   have HC : Hid (∀ z : Int, evCode vars l[i] = z → z ≠ 0 → P = z) := Lib.hid fun z hz h0 => by rw [HP.out, planL_drop hlt, hz, if_neg h0]
   have HN : Hid (evCode vars l[i] = 0 → P = planL vars (l.drop (i + 1))) := Lib.hid fun hz => by rw [HP.out, planL_drop hlt, hz, if_pos rfl]
   have HE : Hid (evCode vars l[i] = if l[i].kind < 1 ∨ l[i].kind > 3 then 11 else if l[i].after < 1 ∨ (l[i].kind = 2 ∧ (l[i].level < 0 ∨ l[i].level > vars - 2)) then 2 else 0) := Lib.hid rfl
   obtain ⟨ev, hev⟩ : ∃ ev, ev = l[i] := ⟨_, rfl⟩
   rw [← hev] at c0 c1 c2 HC HN HE
   obtain ⟨af, ki, le⟩ := ev
   dsimp only at c0 c1 c2 HE
   clear hev HP
   have hki : ki < 1 ∨ ki > 3 ∨ (ki = 2) ∨ (ki = 1 ∨ ki = 3) := by omega
   rcases hki with hk | hk | hk | hk
   ·
    have HPP := Lib.hid (HC.out 11 (by rw [HE.out, if_pos (.inl hk)]) (by decide))
    go_wp2_with fail
    go_ret
    exact ⟨by rw [HPP.out]; rfl, rfl⟩
   ·
    have HPP := Lib.hid (HC.out 11 (by rw [HE.out, if_pos (.inr hk)]) (by decide))
    have hk1 : ¬ ki < 1 := by omega
    go_wp2_with fail
    go_ret
    exact ⟨by rw [HPP.out]; rfl, rfl⟩
   ·
    by_cases ha : af < 1
    ·
     have HPP := Lib.hid (HC.out 2 (by rw [HE.out, if_neg (by omega), if_pos (.inl ha)]) (by decide))
     subst hk
     go_wp2_with fail
     go_ret
     exact ⟨by rw [HPP.out]; rfl, rfl⟩
    ·
     by_cases hl0 : le < 0
     ·
      have HPP := Lib.hid (HC.out 2 (by rw [HE.out, if_neg (by omega), if_pos (.inr ⟨hk, .inl hl0⟩)]) (by decide))
      subst hk
      go_wp2_with fail
      go_ret
      exact ⟨by rw [HPP.out]; rfl, rfl⟩
     ·
      by_cases hl1 : le > vars - 2
      ·
       have HPP := Lib.hid (HC.out 2 (by rw [HE.out, if_neg (by omega), if_pos (.inr ⟨hk, .inr hl1⟩)]) (by decide))
       subst hk
       go_wp2_with fail
       go_ret
       exact ⟨by rw [HPP.out]; rfl, rfl⟩
      ·
       have HPP := Lib.hid (HN.out (by rw [HE.out, if_neg (by omega), if_neg (by omega)]))
       subst hk
       go_wp2_with fail
       go_roundw
       case rel => exact ⟨i + 1, by omega, by go_num, by simp, HPP⟩
       case measure => simp [intOf]; omega
   ·
    have hk1 : ¬ ki < 1 := by omega
    have hk2 : ¬ ki > 3 := by omega
    have hk3 : (ki == 2) = false := by simp; omega
    by_cases ha : af < 1
    ·
     have HPP := Lib.hid (HC.out 2 (by rw [HE.out, if_neg (by omega), if_pos (.inl ha)]) (by decide))
     clear hk
     go_wp2_with fail
     go_ret
     exact ⟨by rw [HPP.out]; rfl, rfl⟩
    ·
     have HPP := Lib.hid (HN.out (by rw [HE.out, if_neg (by omega), if_neg (by omega)]))
     clear hk
     go_wp2_with fail
     go_roundw
     case rel => exact ⟨i + 1, by omega, by go_num, by simp, HPP⟩
     case measure => simp [intOf]; omega
  ·
   have he : i = l.length := by omega
   have hiz : ¬ (i : Int) < l.length := by omega
   have HPP : Hid (P = 0) := Lib.hid (by rw [HP.out, he, List.drop_length]; rfl)
   clear he
   go_wp2_with fail
   go_ret
   exact ⟨by rw [HPP.out]; rfl, rfl⟩
open Go.RowKit
def cntP (zs : List Int) (v : Int) (i : Nat) : Nat := ((zs.take i).filter (fun z => decide (z = v))).length
theorem cntP_yes {zs : List Int} {v : Int} {i : Nat} (hi : i < zs.length) (h : at0 zs i = v) : cntP zs v (i + 1) = cntP zs v i + 1 := by
 rw [at0_eq hi] at h
 unfold cntP
 rw [List.take_succ_eq_append_getElem hi, List.filter_append]
 simp [h]
theorem cntP_no {zs : List Int} {v : Int} {i : Nat} (hi : i < zs.length) (h : at0 zs i ≠ v) : cntP zs v (i + 1) = cntP zs v i := by
 rw [at0_eq hi] at h
 unfold cntP
 rw [List.take_succ_eq_append_getElem hi, List.filter_append]
 simp [h]
theorem cntP_le (zs : List Int) (v : Int) (i : Nat) : cntP zs v i ≤ i := by
 unfold cntP
 refine Nat.le_trans (List.length_filter_le _ _) ?_
 rw [List.length_take]; omega
def permB (zs : List Int) (n : Int) : Bool := decide ((zs.length : Int) = n ∧ ∀ v, v < zs.length → cntP zs (v : Nat) zs.length = 1)
set_option maxRecDepth 100000 in
set_option maxHeartbeats 1000000 in
theorem right_any (a : Option Addr) (c : Nat) (zs : List Int) (n : Int) (w : World) (hz : IntsAt w a zs) (hl : zs.length ≤ 1000000) :
 Calls Tryz.prog 55 #[.slice a zs.length c, .int .i64 n] w fun x w' => x = .returned (.bool (permB zs n)) ∧ w = w' := by
 have HZ := Lib.hid hz
 clear hz
 by_cases hn : (zs.length : Int) = n
 ·
  subst hn
  have HR : Hid (∀ b : Bool, (b = true ↔ ∀ v, v < zs.length → cntP zs (v : Nat) zs.length = 1) → permB zs zs.length = b) := by
   refine Lib.hid fun b hb => ?_
   unfold permB
   rw [Bool.eq_iff_iff, hb]
   simp
  go_enter Tryz.func55, Tryz.ntmps55
  go_wp2_with fail
  go_loopw [5] (fun s5 wr => ∃ k : Nat, k ≤ zs.length ∧ s5 = .int .i64 k ∧ w = wr ∧ ∀ v, v < k → cntP zs (v : Nat) zs.length = 1) (fun s5 _ => zs.length - (intOf s5).toNat)
  case atStart => exact ⟨0, Nat.zero_le _, rfl, rfl, fun v hv => by omega⟩
  case round =>
   obtain ⟨k, hk, rfl, rfl, hall⟩ := hrel
   have HA := Lib.hid hall
   clear hall
   by_cases hlt : k < zs.length
   ·
    have hk1 : (k : Int) < zs.length := by omega
    go_wp2_with fail
    go_loopw [6, 7] (fun s6 s7 wx => ∃ i : Nat, i ≤ zs.length ∧ s7 = .int .i64 i ∧ s6 = .int .i64 (cntP zs (k : Nat) i : Nat) ∧ w = wx) (fun _ s7 _ => zs.length - (intOf s7).toNat)
    case atStart => exact ⟨0, Nat.zero_le _, rfl, rfl, rfl⟩
    case round =>
     obtain ⟨i, hi, rfl, rfl, rfl⟩ := hrel
     have hcl := cntP_le zs (k : Nat) i
     by_cases hit : i < zs.length
     ·
      obtain ⟨b, off, ha, hc⟩ := HZ.out.cells i hit
      subst ha
      have hi1 : (i : Int) < zs.length := by omega
      by_cases he : at0 zs i = (k : Nat)
      ·
       rw [he] at hc
       have HY := Lib.hid (cntP_yes hit he)
       go_wp2_with fail
       go_roundw
       case rel => exact ⟨i + 1, by omega, by go_num, by rw [HY.out]; go_num, trivial⟩
       case measure => simp [intOf]; omega
      ·
       have hne : ((at0 zs i : Int) == (k : Nat)) = false := by simpa using he
       have HY := Lib.hid (cntP_no hit he)
       generalize at0 zs i = z at hc hne
       clear he
       go_wp2_with fail
       go_roundw
       case rel => exact ⟨i + 1, by omega, by go_num, by rw [HY.out], trivial⟩
       case measure => simp [intOf]; omega
     ·
      obtain rfl : i = zs.length := by omega
      generalize hq : cntP zs (k : Nat) zs.length = q at *
      by_cases h1 : q = 1
      ·
       subst h1
       have HQ := Lib.hid hq
       clear hq
       go_wp2_with fail
       go_roundw
       case rel =>
        refine ⟨k + 1, by omega, by go_num, trivial, fun v hv => ?_⟩
        by_cases e : v = k
        ·
         subst e; exact HQ.out
        ·
         exact HA.out v (by omega)
       case measure => simp [intOf]; omega
      ·
       have hne : ((q : Int) == 1) = false := by simp; omega
       have HQ := Lib.hid hq
       clear hq
       go_wp2_with fail
       go_ret
       refine ⟨?_, rfl⟩
       rw [HR.out false (by
        simp only [Bool.false_eq_true, false_iff]
        intro hh
        exact h1 ((HQ.out).symm.trans (hh k hlt)))]
       rfl
   ·
    obtain rfl : k = zs.length := by omega
    go_wp2_with fail
    go_ret
    refine ⟨?_, rfl⟩
    rw [HR.out true (by simp only [true_iff]; exact HA.out)]
    rfl
 ·
  have hne : (((zs.length : Nat) : Int) == n) = false := by simpa using hn
  have HR : Hid (permB zs n = false) := by
   refine Lib.hid ?_
   show permB zs n = false
   unfold permB
   simp [hn]
  go_enter Tryz.func55, Tryz.ntmps55
  go_wp2_with fail
  go_ret
  exact ⟨by rw [HR.out]; rfl, rfl⟩
theorem permB_range (n : Nat) : permB ((List.range n).map Int.ofNat) n = true := by
 unfold permB
 simp only [decide_eq_true_eq, List.length_map, List.length_range, true_and]
 intro v hv
 have hm : ∀ m, cntP ((List.range n).map Int.ofNat) (v : Nat) m = if v < m ∧ v < n then 1 else 0 := by
  intro m
  unfold cntP
  rw [← List.map_take, List.take_range, List.filter_map, List.length_map]
  have e : ∀ k, ((List.range k).filter ((fun z : Int => decide (z = (v : Nat))) ∘ Int.ofNat)).length = if v < k then 1 else 0 := by
   intro k
   induction k with
   | zero => simp
   | succ k ih =>
     rw [List.range_succ, List.filter_append, List.length_append, ih]
     by_cases h1 : v = k
     ·
      subst h1; simp
     ·
      have h2 : ¬ (k : Int) = v := by omega
      by_cases h3 : v < k
      ·
       simp [h3, h2, show v < k + 1 by omega]
      ·
       simp [h3, h2, show ¬ v < k + 1 by omega]
  rw [e]
  by_cases h1 : v < m <;> simp [h1, hv, Nat.lt_min]
 rw [hm]; simp [hv]
open Go.RowKit
set_option maxRecDepth 100000 in
theorem right_no (a : Option Addr) (c : Nat) (zs : List Int) (n : Int) (w : World) (hz : IntsAt w a zs) (hn : (zs.length : Int) ≠ n) :
 Calls Tryz.prog 55 #[.slice a zs.length c, .int .i64 n] w fun x w' => x = .returned (.bool false) ∧ w = w' := by
 have hl := hz.len
 have hne : (((zs.length : Nat) : Int) == n) = false := by simpa using hn
 clear hz
 go_enter Tryz.func55, Tryz.ntmps55
 go_wp2_with fail
 go_ret
 exact ⟨rfl, rfl⟩
theorem right_all (a : Option Addr) (c : Nat) (zs : List Int) (n : Int) (w : World) (hz : IntsAt w a zs) (hn : n ≤ 1000) :
 Calls Tryz.prog 55 #[.slice a zs.length c, .int .i64 n] w fun x w' => x = .returned (.bool (permB zs n)) ∧ w = w' := by
 by_cases h : (zs.length : Int) = n
 ·
  exact right_any a c zs n w hz (by omega)
 ·
  have : permB zs n = false := by unfold permB; simp [h]
  rw [this]
  exact right_no a c zs n w hz h
theorem ExprAt.parts {w : World} {e : ExT} {x0 x1 x2 : Value} (h : ExprAt w e (.agg #[x0, x1, x2])) : ∃ op v a n c, x0 = .int .i64 op ∧ x1 = .int .i64 v ∧ x2 = .slice a n c := by
 cases e with
 | nil => unfold ExprAt at h; exact h.elim
 | mk op v n kid =>
   unfold ExprAt at h
   obtain ⟨a, c, hx, _⟩ := h
   cases hx
   exact ⟨_, _, _, _, _, rfl, rfl, rfl⟩
structure ExprsAt (w : World) (a : Option Addr) (l : List ExT) : Prop where
 len : l.length ≤ 9223372036854775807
 cells : ∀ k, ∀ hk : k < l.length, ∃ b off x0 x1 x2, a = some ⟨b, off, none⟩ ∧ w.cell? ⟨b, off + k * 3, none⟩ = some x0 ∧ w.cell? ⟨b, off + k * 3 + 1, none⟩ = some x1 ∧ w.cell? ⟨b, off + k * 3 + 2, none⟩ = some x2 ∧ ExprAt w l[k] (.agg #[x0, x1, x2])
theorem ExprsAt.below {w w' : World} {a : Option Addr} {l : List ExT} (h : ExprsAt w a l) (hb : Below w.heap.size w w') : ExprsAt w' a l :=
 ⟨h.len, fun k hk => by
  obtain ⟨b, off, x0, x1, x2, e, c0, c1, c2, hx⟩ := h.cells k hk
  exact ⟨b, off, x0, x1, x2, e, (hb.cell (p := ⟨b, off + k * 3, none⟩) (lt_of_cell c0)).trans c0, (hb.cell (p := ⟨b, off + k * 3 + 1, none⟩) (lt_of_cell c1)).trans c1, (hb.cell (p := ⟨b, off + k * 3 + 2, none⟩) (lt_of_cell c2)).trans c2, hx.below hb⟩⟩
structure AskD where
 vars : Int
 order : List Int
 es : List ExT
 plan : List Ev
structure AskAt (w : World) (q : AskD) (ao ae ap : Option Addr) : Prop where
 vars : okI q.vars
 order : IntsAt w ao q.order
 es : ExprsAt w ae q.es
 plan : EvsAt w ap q.plan
theorem AskAt.below {w w' : World} {q : AskD} {ao ae ap : Option Addr} (h : AskAt w q ao ae ap) (hb : Below w.heap.size w w') : AskAt w' q ao ae ap := ⟨h.vars, h.order.below hb, h.es.below hb, h.plan.below hb⟩
structure SmallP (q : AskD) : Prop where
 lo : 1 ≤ q.vars
 hi : q.vars ≤ 6
 es : q.es.length ≤ 5
 plan : q.plan.length ≤ 6
 order : q.order.length > 0 → permB q.order q.vars = true
 planOk : planR q.vars 0 q.plan = 0
 after : ∀ ev ∈ q.plan, ev.after ≤ 300
 expr : ∀ e ∈ q.es, e.size ≤ 40 ∧ okT e 1 ∧ ∀ v ∈ varsT e, v < q.vars
def askV (q : AskD) (ao ae ap : Option Addr) (co ce cp : Nat) : Value := .agg #[.int .i64 q.vars, .slice ao q.order.length co, .slice ae q.es.length ce, .slice ap q.plan.length cp]
set_option maxRecDepth 100000 in
set_option maxHeartbeats 4000000 in
theorem small_any (q : AskD) (ao ae ap : Option Addr) (co ce cp : Nat) (w : World) (h : AskAt w q ao ae ap) :
 Calls Tryz.prog 12 #[askV q ao ae ap co ce cp] w fun y w' => ∃ b, y = .returned (.bool b) ∧ (b = true → SmallP q) ∧ Below w.heap.size w w' := by
 obtain ⟨vars, order, es, plan⟩ := q
 obtain ⟨hv, ho, he, hp⟩ := h
 dsimp only [askV] at hv ho he hp ⊢
 unfold okI at hv
 have hol := ho.len
 have hel := he.len
 have hpl := hp.len
 have HO := Lib.hid ho
 have HE := Lib.hid he
 have HP := Lib.hid hp
 obtain ⟨w1, hw1⟩ : ∃ w1, w1 = w.alloc (.cells #[.int .i64 vars, .slice ao order.length co, .slice ae es.length ce, .slice ap plan.length cp] 26) := ⟨_, rfl⟩
 have HW1 : Hid (_ = w1) := Lib.hid hw1.symm
 have HB1 : Hid (Below w.heap.size w w1) := by rw [hw1]; exact Lib.hid (below_new1 _ _)
 have hblk : w1.heap[w.heap.size]? = some (.cells #[.int .i64 vars, .slice ao order.length co, .slice ae es.length ce, .slice ap plan.length cp] 26 (0, 0)) := by rw [hw1]; exact heap_alloc_new _ _
 have d0 : w1.cell? ⟨w.heap.size, 0, none⟩ = some (.int .i64 vars) := by rw [cell_of_row _ _ 0 _ _ _ hblk]; rfl
 have d1 : w1.cell? ⟨w.heap.size, 1, none⟩ = some (.slice ao order.length co) := by rw [cell_of_row _ _ 1 _ _ _ hblk]; rfl
 have d2 : w1.cell? ⟨w.heap.size, 2, none⟩ = some (.slice ae es.length ce) := by rw [cell_of_row _ _ 2 _ _ _ hblk]; rfl
 have d3 : w1.cell? ⟨w.heap.size, 3, none⟩ = some (.slice ap plan.length cp) := by rw [cell_of_row _ _ 3 _ _ _ hblk]; rfl
 have hs1 : w1.heap.size = w.heap.size + 1 := by rw [hw1]; simp
 have HRT : Hid (vars ≤ 6 → Calls Tryz.prog 55 #[.slice ao order.length co, .int .i64 vars] w1 fun x w' => x = .returned (.bool (permB order vars)) ∧ w1 = w') := Lib.hid fun hh => right_all ao co order vars w1 (HO.out.below HB1.out) (by omega)
 have HPL : Hid (0 ≤ vars → vars ≤ 6 → Calls Tryz.prog 59 #[.int .i64 vars, .int .i64 0, .slice ap plan.length cp] w1 fun x w' => x = .returned (.int .i64 (planR vars 0 plan)) ∧ w1 = w') := Lib.hid fun h1 h2 => plan13_any vars 0 ⟨h1, by omega⟩ ⟨by omega, by omega⟩ ap cp plan w1 (HP.out.below HB1.out)
 obtain ⟨P, hP⟩ : ∃ P : Ending → World → Prop, P = fun y w' => ∃ b, y = .returned (.bool b) ∧ (b = true → SmallP ⟨vars, order, es, plan⟩) ∧ Below w.heap.size w w' := ⟨_, rfl⟩
 have HNO : Hid (∀ W, Below w1.heap.size w1 W → P (.returned (.bool false)) W) := by rw [hP]; exact Lib.hid fun W hb => ⟨false, rfl, by simp, HB1.out.trans (hb.mono HB1.out.size)⟩
 have HYES : Hid (SmallP ⟨vars, order, es, plan⟩ → ∀ W, Below w1.heap.size w1 W → P (.returned (.bool true)) W) := by rw [hP]; exact Lib.hid fun hq W hb => ⟨true, rfl, fun _ => hq, HB1.out.trans (hb.mono HB1.out.size)⟩
 rw [← hP]
 clear ho he hp hw1 hblk hP
 go_enter Tryz.func12, Tryz.ntmps12
 go_upto_region 1 with fail
 rw [HW1.out]
 go_cut [50] (fun s50 wx => ∃ bad : Bool, s50 = .bool bad ∧ wx = w1 ∧ Hid (bad = false → 1 ≤ vars ∧ vars ≤ 6 ∧ es.length ≤ 5 ∧ plan.length ≤ 6 ∧ (order.length > 0 → permB order vars = true) ∧ planR vars 0 plan = 0))
 case first =>
  by_cases h1 : vars < 1
  ·
   go_wp2_with fail
   go_meet
   case rel => exact ⟨true, rfl, rfl, Lib.hid (by simp)⟩
  by_cases h2 : vars > 6
  ·
   go_wp2_with fail
   go_meet
   case rel => exact ⟨true, rfl, rfl, Lib.hid (by simp)⟩
  by_cases h3 : (es.length : Int) > 5
  ·
   go_wp2_with fail
   go_meet
   case rel => exact ⟨true, rfl, rfl, Lib.hid (by simp)⟩
  by_cases h4 : (plan.length : Int) > 6
  ·
   go_wp2_with fail
   go_meet
   case rel => exact ⟨true, rfl, rfl, Lib.hid (by simp)⟩
  have HPL := Lib.hid (HPL.out (by omega) (by omega))
  have HRT := Lib.hid (HRT.out (by omega))
  obtain ⟨pr, hpr⟩ : ∃ pr, pr = planR vars 0 plan := ⟨_, rfl⟩
  rw [← hpr] at HPL
  have HPR := Lib.hid hpr
  clear hpr
  by_cases h5 : (order.length : Int) > 0
  ·
   obtain ⟨rb, hrb⟩ : ∃ rb, rb = permB order vars := ⟨_, rfl⟩
   rw [← hrb] at HRT
   have HRB := Lib.hid hrb
   clear hrb
   cases rb with
   | false =>
     go_wp2_with fail
     refine HRT.out.mono ?_
     rintro y w' ⟨rfl, rfl⟩
     go_wp2_with fail
     go_meet
     case rel => exact ⟨true, rfl, rfl, Lib.hid (by simp)⟩
   | true =>
     go_wp2_with fail
     refine HRT.out.mono ?_
     rintro y w' ⟨rfl, rfl⟩
     go_wp2_with fail
     refine HPL.out.mono ?_
     rintro y w' ⟨rfl, rfl⟩
     by_cases h6 : pr = 0
     ·
      have HOK : Hid (1 ≤ vars ∧ vars ≤ 6 ∧ es.length ≤ 5 ∧ plan.length ≤ 6 ∧ (order.length > 0 → permB order vars = true) ∧ planR vars 0 plan = 0) := Lib.hid ⟨by omega, by omega, by omega, by omega, fun _ => HRB.out.symm, by rw [← HPR.out, h6]⟩
      subst h6
      go_wp2_with fail
      go_meet
      case rel => exact ⟨false, rfl, rfl, Lib.hid fun _ => HOK.out⟩
     ·
      have h6' : (pr != 0) = true := by simpa using h6
      clear h6
      go_wp2_with fail
      go_meet
      case rel => exact ⟨true, rfl, rfl, Lib.hid (by simp)⟩
  ·
   go_wp2_with fail
   refine HPL.out.mono ?_
   rintro y w' ⟨rfl, rfl⟩
   by_cases h6 : pr = 0
   ·
    have HOK : Hid (1 ≤ vars ∧ vars ≤ 6 ∧ es.length ≤ 5 ∧ plan.length ≤ 6 ∧ (order.length > 0 → permB order vars = true) ∧ planR vars 0 plan = 0) := Lib.hid ⟨by omega, by omega, by omega, by omega, fun _ => by omega, by rw [← HPR.out, h6]⟩
    subst h6
    go_wp2_with fail
    go_meet
    case rel => exact ⟨false, rfl, rfl, Lib.hid fun _ => HOK.out⟩
   ·
    have h6' : (pr != 0) = true := by simpa using h6
    clear h6
    go_wp2_with fail
    go_meet
    case rel => exact ⟨true, rfl, rfl, Lib.hid (by simp)⟩
 case rest =>
  obtain ⟨bad, rfl, rfl, HBAD⟩ := hcut
  clear HRT HPL
  cases bad with
  | true =>
    go_wp2_with fail
    exact HNO.out _ (Below.refl _ _)
  | false =>
    obtain ⟨g1, g2, g3, g4, g5, g6⟩ := HBAD.out rfl
    have HG5 := Lib.hid g5
    have HG6 := Lib.hid g6
    clear g5 g6 HBAD
    go_upto_region 3 with fail
    go_wp2_with fail
    go_loopw [4, 54] (fun s4 s54 wr => ∃ k : Nat, k ≤ plan.length ∧ s54 = .int .i64 k ∧ Below wc.heap.size wc wr ∧ Hid (∀ ev ∈ plan.take k, ev.after ≤ 300)) (fun _ s54 _ => plan.length - (intOf s54).toNat)
    case atStart => exact ⟨0, Nat.zero_le _, rfl, Below.refl _ _, Lib.hid fun ev he => by simp at he⟩
    case round =>
     obtain ⟨k, hk, rfl, hbel, HA⟩ := hrel
     by_cases hlt : k < plan.length
     ·
      obtain ⟨b, off, rfl, c0, c1, c2⟩ := ((HP.out.below HB1.out).below hbel).cells k hlt
      have hkz : (k : Int) < plan.length := by omega
      have HBEL := Lib.hid hbel
      have HTK : Hid (∀ ev ∈ plan.take (k + 1), ev ∈ plan.take k ∨ ev = plan[k]) := Lib.hid fun ev he => by
       rw [List.take_succ_eq_append_getElem hlt, List.mem_append, List.mem_singleton] at he
       exact he
      obtain ⟨ev, hev⟩ : ∃ ev, ev = plan[k] := ⟨_, rfl⟩
      rw [← hev] at c0 c1 c2 HTK
      obtain ⟨af, ki, le⟩ := ev
      dsimp only at c0 c1 c2
      clear hev hbel
      by_cases haf : af > 300
      ·
       have HF := Lib.hid (HNO.out _ (HBEL.out.trans ((below_new1 wr (.cells #[.int .i64 af, .int .i64 ki, .int .i64 le] 94)).mono HBEL.out.size)))
       go_wp2_with fail
       exact HF.out
      ·
       have HF := Lib.hid (HBEL.out.trans ((below_new1 wr (.cells #[.int .i64 af, .int .i64 ki, .int .i64 le] 94)).mono HBEL.out.size))
       have HA2 : Hid (∀ ev ∈ plan.take (k + 1), ev.after ≤ 300) := Lib.hid fun ev he => by
        rcases HTK.out ev he with h | rfl
        ·
         exact HA.out ev h
        ·
         dsimp only; omega
       go_wp2_with fail
       go_roundw
       case rel => exact ⟨k + 1, by omega, by go_num, HF.out, HA2⟩
       case measure => simp [intOf]; omega
     ·
      have HAF : Hid (∀ ev ∈ plan, ev.after ≤ 300) := Lib.hid fun ev hev => HA.out ev (by rw [List.take_of_length_le (by omega)]; exact hev)
      have hkz : ¬ (k : Int) < plan.length := by omega
      have d0' := (hbel.cell (p := ⟨w.heap.size, 0, none⟩) (lt_of_cell d0)).trans d0
      have d2' := (hbel.cell (p := ⟨w.heap.size, 2, none⟩) (lt_of_cell d2)).trans d2
      have HBEL := Lib.hid hbel
      obtain ⟨wA, hwA⟩ : ∃ wA, wA = wr := ⟨_, rfl⟩
      clear hbel
      go_wp2_with fail
      go_loopw [6, 8, 65] (fun s6 s8 s65 wx => ∃ k : Nat, k ≤ es.length ∧ s65 = .int .i64 k ∧ Below wc.heap.size wc wx ∧ Hid (∀ e ∈ es.take k, e.size ≤ 40 ∧ okT e 1 ∧ ∀ v ∈ varsT e, v < vars)) (fun _ _ s65 _ => es.length - (intOf s65).toNat)
      case atStart => exact ⟨0, Nat.zero_le _, rfl, HBEL.out, Lib.hid fun ev he => by simp at he⟩
      case round =>
       rename World => wy
       obtain ⟨j, hj, rfl, hbx, HB⟩ := hrel
       by_cases hlt : j < es.length
       ·
        obtain ⟨b, off, x0, x1, x2, rfl, c0, c1, c2, hx⟩ := ((HE.out.below HB1.out).below hbx).cells j hlt
        have hjz : (j : Int) < es.length := by omega
        have HBX := Lib.hid hbx
        have HTK : Hid (∀ e ∈ es.take (j + 1), e ∈ es.take j ∨ e = es[j]) := Lib.hid fun e he => by
         rw [List.take_succ_eq_append_getElem hlt, List.mem_append, List.mem_singleton] at he
         exact he
        have hd0 := (hbx.cell (p := ⟨w.heap.size, 0, none⟩) (lt_of_cell d0)).trans d0
        obtain ⟨e, hev⟩ : ∃ e, e = es[j] := ⟨_, rfl⟩
        rw [← hev] at hx HTK
        have HX := Lib.hid hx
        obtain ⟨zo, zv, za, zn, zc, rfl, rfl, rfl⟩ := hx.parts
        clear hev hbx hx
        go_upto_region 12 with fail
        obtain ⟨wz, hwz⟩ : ∃ wz, wz = wy.alloc (.cells #[.int .i64 zo, .int .i64 zv, .slice za zn zc] 39) := ⟨_, rfl⟩
        have hbz : Below wy.heap.size wy wz := by rw [hwz]; exact below_new1 _ _
        have hblk : wz.heap[wy.heap.size]? = some (.cells #[.int .i64 zo, .int .i64 zv, .slice za zn zc] 39 (0, 0)) := by rw [hwz]; exact heap_alloc_new _ _
        have k0 : wz.cell? ⟨wy.heap.size, 0, none⟩ = some (.int .i64 zo) := by rw [cell_of_row _ _ 0 _ _ _ hblk]; rfl
        have k1 : wz.cell? ⟨wy.heap.size, 1, none⟩ = some (.int .i64 zv) := by rw [cell_of_row _ _ 1 _ _ _ hblk]; rfl
        have k2 : wz.cell? ⟨wy.heap.size, 2, none⟩ = some (.slice za zn zc) := by rw [cell_of_row _ _ 2 _ _ _ hblk]; rfl
        have kd := (hbz.cell (p := ⟨w.heap.size, 0, none⟩) (lt_of_cell hd0)).trans hd0
        have HXZ := Lib.hid (HX.out.below hbz)
        have HBZ := Lib.hid (HBX.out.trans (hbz.mono HBX.out.size))
        rw [← hwz]
        clear hwz hbz hblk c0 c1 c2 hd0
        go_wp2_with fail
        refine (parts_any e _ 40 _ (by omega) HXZ.out).mono ?_
        rintro y wp ⟨⟨r, rfl, _, _, hr3⟩, hbp⟩
        have HBP := Lib.hid (HBZ.out.trans (hbp.mono HBZ.out.size))
        have HXP := Lib.hid (HXZ.out.below hbp)
        have m0 := (hbp.cell (p := ⟨wy.heap.size, 0, none⟩) (lt_of_cell k0)).trans k0
        have m1 := (hbp.cell (p := ⟨wy.heap.size, 1, none⟩) (lt_of_cell k1)).trans k1
        have m2 := (hbp.cell (p := ⟨wy.heap.size, 2, none⟩) (lt_of_cell k2)).trans k2
        have md := (hbp.cell (p := ⟨w.heap.size, 0, none⟩) (lt_of_cell kd)).trans kd
        clear hbp k0 k1 k2 kd
        by_cases hr : (r : Int) > 40
        ·
         have HF := Lib.hid (HNO.out _ HBP.out)
         go_wp2_with fail
         exact HF.out
        have hsz40 : e.size ≤ 40 := by have := hr3 (by omega); omega
        clear hr3
        go_wp2_with fail
        refine (check06_any e _ _ (by omega) HXP.out).mono ?_
        rintro y wq ⟨err, rfl, hiff, hbq⟩
        have HBQ := Lib.hid (HBP.out.trans (hbq.mono HBP.out.size))
        have HXQ := Lib.hid (HXP.out.below hbq)
        have n0 := (hbq.cell (p := ⟨wy.heap.size, 0, none⟩) (lt_of_cell m0)).trans m0
        have n1 := (hbq.cell (p := ⟨wy.heap.size, 1, none⟩) (lt_of_cell m1)).trans m1
        have n2 := (hbq.cell (p := ⟨wy.heap.size, 2, none⟩) (lt_of_cell m2)).trans m2
        have nd := (hbq.cell (p := ⟨w.heap.size, 0, none⟩) (lt_of_cell md)).trans md
        have HIF := Lib.hid hiff
        clear hbq m0 m1 m2 md hiff
        by_cases her : err = 0
        ·
         have HOK := Lib.hid (HIF.out.1 her)
         subst her
         go_wp2_with fail
         refine (vars06Top_any e _ _ (by omega) HXQ.out).mono ?_
         rintro y ws ⟨u, os, rfl, hsl, hosl, hmem, hbs⟩
         obtain ⟨au, cu, rfl, hiu, hnu⟩ := hsl
         have HBS := Lib.hid (HBQ.out.trans (hbs.mono HBQ.out.size))
         have pd := (hbs.cell (p := ⟨w.heap.size, 0, none⟩) (lt_of_cell nd)).trans nd
         have HIU := Lib.hid hiu
         have HMEM := Lib.hid (hmem HOK.out)
         clear hbs n0 n1 n2 nd hiu hmem HX HXZ HXP HXQ
         go_wp2_with fail
         go_loopw [8, 80] (fun s8 s80 wt => ∃ i : Nat, i ≤ os.length ∧ s80 = .int .i64 i ∧ wt = ws ∧ Hid (∀ v ∈ os.take i, v < vars)) (fun _ s80 _ => os.length - (intOf s80).toNat)
         case atStart => exact ⟨0, Nat.zero_le _, rfl, rfl, Lib.hid fun v hv => by simp at hv⟩
         case round =>
          obtain ⟨i, hi, rfl, rfl, HVS⟩ := hrel
          by_cases hlt2 : i < os.length
          ·
           obtain ⟨b2, of2, rfl, cc⟩ := HIU.out.cells i hlt2
           have hiz : (i : Int) < os.length := by omega
           have HT2 := Lib.hid (mem_take_succ hlt2)
           obtain ⟨z, hz⟩ : ∃ z, z = at0 os i := ⟨_, rfl⟩
           rw [← hz] at cc HT2
           clear hz
           by_cases hzv : z ≥ vars
           ·
            have HF := Lib.hid (HNO.out _ HBS.out)
            go_wp2_with fail
            exact HF.out
           ·
            have HV2 : Hid (∀ v ∈ os.take (i + 1), v < vars) := Lib.hid fun v hv => by
             rcases (HT2.out v).1 hv with h | rfl
             ·
              exact HVS.out v h
             ·
              omega
            go_wp2_with fail
            go_roundw
            case rel => exact ⟨i + 1, by omega, by go_num, by simp, HV2⟩
            case measure => simp [intOf]; omega
          ·
           have hiz : ¬ (i : Int) < os.length := by omega
           have HB2 : Hid (∀ e ∈ es.take (j + 1), e.size ≤ 40 ∧ okT e 1 ∧ ∀ v ∈ varsT e, v < vars) := Lib.hid fun e' he' => by
            rcases HTK.out e' he' with h | rfl
            ·
             exact HB.out e' h
            ·
             exact ⟨hsz40, HOK.out, fun v hv => HVS.out v (by rw [List.take_of_length_le (by omega)]; exact HMEM.out v hv)⟩
           go_wp2_with fail
           go_roundw
           case rel => exact ⟨j + 1, by omega, by go_num, HBS.out, HB2⟩
           case measure => simp [intOf]; omega
        ·
         have hne : (err != 0) = true := by simpa using her
         have HF := Lib.hid (HNO.out _ HBQ.out)
         clear her
         go_wp2_with fail
         exact HF.out
       ·
        have hjz : ¬ (j : Int) < es.length := by omega
        have HF := Lib.hid (HYES.out ⟨g1, g2, g3, g4, HG5.out, HG6.out, HAF.out, fun e he => HB.out e (by rw [List.take_of_length_le (by omega)]; exact he)⟩ _ hbx)
        go_wp2_with fail
        exact HF.out
end Go.Proofs.YtchliiaknmknhaaGreat

namespace Go.Proofs.YtchliiaknmknhaaGreat
open Go.RowKit Go.Shelf
section
variable {F : Fence} {n : Nat} {P : Program} {α : Type}
def GivesE (F : Fence) (n d : Nat) (P : Program) (g : Nat) (lb : Array Value) (encs : α → Array Value) (n₀ : Nat) (Bx : Nat → Prop) (Good : List α → Prop) (w : World) : Prop :=
 ∀ (l : Nat) (J : List α → (Nat → Prop) → World → Prop) (M : Nat → Prop) (W : World), OwnsIn n₀ J → Minds n₀ J → Wr (fun k => n₀ ≤ k ∧ ¬ Bx k) w W → (∀ k, Bx k → ¬ M k) →
  (∀ pre x M W1, J pre M W1 → (∃ suf, Good (pre ++ x :: suf)) → YieldAt F (n - 1 - d) P l (encs x) W1 fun e W' =>
   e = .returned (.bool true) ∧ ∃ M', J (pre ++ [x]) M' W' ∧ Wr M W1 W' ∧ ∀ k, M' k → M k ∨ W1.heap.size ≤ k) →
  J [] M W →
  CallsIn F n P g (#[.func (.yield l) #[] #[]] ++ lb) W fun e W' => (∃ v, e = .returned v) ∧ ∃ xs M', Good xs ∧ J xs M' W' ∧ Wr (fun k => n₀ ≤ k) W W' ∧ ∀ k, M' k → M k ∨ W.heap.size ≤ k
theorem wp_rangeE {g : Operand} {ps : Array Tmp} {assign body : Code} {Q : Exit → Act → World → Prop} {a : Act} {w : World} (hro : F.round = none) (h1 : 1 ≤ n) {gf : Nat} {lb : Array Value} (hg : a.eval g = .func (.func gf) #[] lb)
 (hFg : F.fn gf) (eg : ∀ args w, (callFunc gf args).run P w = .ok (.enter gf args) w) {encs : α → Array Value} {n₀ : Nat} {Bx : Nat → Prop} {Good : List α → Prop} {d : Nat} (hseq : GivesE F (n - 1) d P gf lb encs n₀ Bx Good w) (hn0 : n₀ ≤ w.heap.size)
 (hBx : ∀ k, Bx k → k < w.heap.size) (hps : ∀ x, (encs x).size = ps.size) (I : List α → (Nat → Prop) → World → Prop) (hOw : OwnsIn n₀ I) (hMi : Minds n₀ I) (M0 : Nat → Prop) (hM0 : ∀ k, Bx k → ¬ M0 k) (h0 : I [] M0 w)
 (Ax : α → Act → World → World → Prop) (hAx : ∀ x a' W W1 W2 l, l < W.heap.size → Ax x a' W W1 → Wr (· = l) W1 W2 → Ax x a' W W2)
 (hassign : ∀ (l : Nat) (pre : List α) (x : α) (M : Nat → Prop) (W : World) (K : Act → World → Prop), I pre M W → (∀ a' W', Wr (fun _ => False) W W' → Ax x a' W W' → K a' W') →
  assign.wpIn (F.inRound l) (n - 1 - 1 - d) P (Exit.then K (fun _ _ _ => False)) { tmps := (ps.zip (encs x)).foldl (fun t (p, v) => t.setIfInBounds p v) a.tmps, defers := [] } W)
 (hbody : ∀ (l : Nat) (pre : List α) (x : α) (a' : Act) (M : Nat → Prop) (W0 W : World), I pre M W → Ax x a' W0 W → W0.heap.size ≤ W.heap.size → w.heap.size ≤ W0.heap.size → (∃ suf, Good (pre ++ x :: suf)) → body.wpIn (F.inRound l) (n - 1 - 1 - d) P
  (fun e _ W' => match e with | .normal => ∃ M', I (pre ++ [x]) M' W' ∧ Wr (fun k => M k ∨ W0.heap.size ≤ k) W W' ∧ (∀ k, M' k → M k ∨ W0.heap.size ≤ k) | _ => False) a' W)
 (hdone : ∀ (xs : List α) (D : Nat) (M : Nat → Prop) (W : World), Good xs → w.heap.size ≤ D → ¬ M D → I xs M W → (∀ k, M k → M0 k ∨ w.heap.size ≤ k) → Wr (fun k => n₀ ≤ k) w W → W.heap[D]? = some (.deferred (some [])) → Q .normal { a with defers := { target := .collected D, args := #[] } :: a.defers } W) :
 (Code.rangeFunc g ps assign body).wpIn F n P Q a w := by
 refine wpIn_rangeFunc ?_
 intro fn hfn
 rw [hro]
 let rec0 : LoopState → Loop := fun st => { state := st, pending := none, fn, tmps := a.tmps, params := ps, assign, body, defers := w.heap.size }
 obtain ⟨W1, hW1⟩ : ∃ W1, W1 = (w.alloc (.deferred (some []))).alloc (.loop (rec0 .ready)) := ⟨_, rfl⟩
 have hL1 : W1.heap[w.heap.size + 1]? = some (.loop (rec0 .ready)) := by
  rw [hW1]
  have := World.alloc_heap_new (w.alloc (.deferred (some []))) (.loop (rec0 .ready))
  rwa [World.size_alloc] at this
 have hD1 : W1.heap[w.heap.size]? = some (.deferred (some [])) := by
  rw [hW1]
  exact (Below.heap_alloc _ _ _ (by simp)).trans (World.alloc_heap_new w _)
 have hw1 : ∀ N : Nat → Prop, Wr N w W1 := fun N => by rw [hW1]; exact ((Wr.refl N w).alloc _).alloc _
 have hM0lt := hOw [] M0 w h0
 have hI1 : I [] M0 W1 := hMi _ _ _ _ h0 (hw1 _)
 refine ⟨w.heap.size + 1, [{ target := .collected w.heap.size, args := #[] }], W1, { target := .fn (.func gf) lb, args := #[.func (.yield (w.heap.size + 1)) #[] #[]] }, W1, gf,
  #[.func (.yield (w.heap.size + 1)) #[] #[]] ++ lb, W1, ?_, ?_, ?_, ?_, fun _ => h1, ?_⟩
 ·
  rw [hW1]; exact run_enterLoop_outer _ _ _ _ _
 ·
  simp only [resolve, hg]
  simp [go_sem]
 ·
  intro f' hf'
  simp [Target.leads] at hf'
  subst hf'; exact hFg
 ·
  simp [invoke, go_sem, eg]
 refine (hseq (w.heap.size + 1)
  (fun pre N W => ∃ M, I pre M W ∧ (∀ k, N k ↔ (M k ∨ k = w.heap.size + 1 ∨ k = w.heap.size)) ∧ ¬ M (w.heap.size + 1) ∧ ¬ M w.heap.size ∧ (∀ k, M k → M0 k ∨ w.heap.size ≤ k) ∧
   W.heap[w.heap.size + 1]? = some (.loop (rec0 .ready)) ∧ W.heap[w.heap.size]? = some (.deferred (some [])))
  (fun k => M0 k ∨ k = w.heap.size + 1 ∨ k = w.heap.size) W1 ?_ ?_ (hw1 _) ?_ ?_ ?_).mono ?_
 ·
  rintro pre N W ⟨M, hi, hN, _, _, _, hl, hd⟩ k hk
  rcases (hN k).1 hk with hk | hk | hk
  ·
   exact hOw _ _ _ hi k hk
  ·
   subst hk; exact ⟨by omega, (Array.getElem?_eq_some_iff.1 hl).1⟩
  ·
   subst hk; exact ⟨hn0, (Array.getElem?_eq_some_iff.1 hd).1⟩
 ·
  rintro pre N W W' ⟨M, hi, hN, h2, h3, h4, hl, hd⟩ hw
  refine ⟨M, hMi _ _ _ _ hi ?_, hN, h2, h3, h4, ?_, ?_⟩
  ·
   exact ⟨hw.os, hw.tape, hw.output, hw.size, fun k hk hn => hw.keep k hk (fun ⟨a, b⟩ => hn ⟨a, fun e => b ((hN k).2 (.inl e))⟩)⟩
  ·
   exact (hw.keep _ (Array.getElem?_eq_some_iff.1 hl).1 (fun ⟨_, b⟩ => b ((hN _).2 (.inr (.inl rfl))))).trans hl
  ·
   exact (hw.keep _ (Array.getElem?_eq_some_iff.1 hd).1 (fun ⟨_, b⟩ => b ((hN _).2 (.inr (.inr rfl))))).trans hd
 ·
  intro k hk hm
  have := hBx k hk
  rcases hm with hm | hm | hm
  ·
   exact hM0 k hk hm
  ·
   omega
  ·
   omega
 ·
  rintro pre x N W ⟨M, hi, hN, h2, h3, h4, hl, hd⟩ hsuf
  have hlt : w.heap.size + 1 < W.heap.size := (Array.getElem?_eq_some_iff.1 hl).1
  have hy := run_yield (P := P) (args := encs x) hl (hps x)
  refine ⟨fn, _, assign, body, hy, roundIn_of_wpIn hfn (hassign _ pre x M W _ hi ?_)⟩
  intro a' Wa hwa hax
  have hla := (hwa.keep _ hlt (fun h => h)).trans hl
  have hda := (hwa.keep _ (by omega) (fun h => h)).trans hd
  have hlta : w.heap.size + 1 < Wa.heap.size := by have := hwa.size; omega
  refine ⟨_, run_beginRound hla rfl, ?_⟩
  have hia : I pre M Wa := hMi _ _ _ _ hi (hwa.mono (fun _ h => h.elim))
  have hwb : Wr (· = w.heap.size + 1) Wa (Wa.putObj (w.heap.size + 1) (.loop { rec0 .ready with state := .busy })) := (Wr.refl (· = w.heap.size + 1) Wa).putObj (l := w.heap.size + 1) (.inl rfl) _
  have hib : I pre M (Wa.putObj (w.heap.size + 1) (.loop { rec0 .ready with state := .busy })) := hMi _ _ _ _ hia (hwb.mono (fun k e => by have e' : k = w.heap.size + 1 := e; subst e'; exact ⟨by omega, h2⟩))
  have hlb : (Wa.putObj (w.heap.size + 1) (.loop { rec0 .ready with state := .busy })).heap[w.heap.size + 1]? = some (.loop { rec0 .ready with state := .busy }) := World.putObj_heap_same hlta
  have hdb : (Wa.putObj (w.heap.size + 1) (.loop { rec0 .ready with state := .busy })).heap[w.heap.size]? = some (.deferred (some [])) := (World.putObj_heap_other (by omega)).trans hda
  refine wpIn_mono (hbody _ pre x a' M W _ hib (hAx _ _ _ _ _ _ hlt hax hwb) (by simp; exact hwa.size) (by omega) hsuf) ?_
  intro e a3 W3 hp
  cases e with
  | normal =>
    obtain ⟨M', hi3, hw3, hM'⟩ := hp
    have hl3 := (hw3.keep _ (by simp; exact hlta) (fun e => by rcases e with e | e; exact h2 e; omega)).trans hlb
    have hd3 := (hw3.keep _ (by simp; omega) (fun e => by rcases e with e | e; exact h3 e; omega)).trans hdb
    have hlt3 := (Array.getElem?_eq_some_iff.1 hl3).1
    have hm2 : ¬ M' (w.heap.size + 1) := fun e => by rcases hM' _ e with h | h; exact h2 h; omega
    have hm3 : ¬ M' w.heap.size := fun e => by rcases hM' _ e with h | h; exact h3 h; omega
    refine ⟨_, _, run_endRound (P := P) none hl3, rfl, fun k => M' k ∨ k = w.heap.size + 1 ∨ k = w.heap.size, ⟨M', ?_, fun k => Iff.rfl, hm2, hm3, ?_, World.putObj_heap_same hlt3, (World.putObj_heap_other (by omega)).trans hd3⟩, ?_, ?_⟩
    ·
     exact hMi _ _ _ _ hi3 ((Wr.refl _ _).putObj (.inl ⟨by omega, hm2⟩) _)
    ·
     intro k hk
     rcases hM' k hk with h | h
     ·
      exact h4 k h
     ·
      right; omega
    ·
     refine ((((hwa.mono (N := N) (fun _ h => h.elim)).putObj (l := w.heap.size + 1) (.inl ((hN _).2 (.inr (.inl rfl)))) _).trans (N := N) hw3 (fun k _ h => h) (fun k hk h => ?_)).putObj (l := w.heap.size + 1) (.inl ((hN _).2 (.inr (.inl rfl)))) _)
     rcases h with h | h
     ·
      exact (hN k).2 (.inl h)
     ·
      omega
    ·
     rintro k (hk | hk)
     ·
      rcases hM' k hk with h | h
      ·
       exact .inl ((hN k).2 (.inl h))
      ·
       exact .inr h
     ·
      exact .inl ((hN k).2 (.inr hk))
  | ret => exact hp.elim
  | exit id => exact hp.elim
  | goto t => exact hp.elim
  | panic ch => exact hp.elim
  | outgrown => exact hp.elim
 ·
  exact ⟨M0, hI1, fun k => Iff.rfl, fun e => by have := (hM0lt _ e).2; omega, fun e => by have := (hM0lt _ e).2; omega, fun k h => .inl h, hL1, hD1⟩
 ·
  rintro e W2 ⟨⟨v, rfl⟩, xs, N, hgood, ⟨M, hi, hN, h2, h3, h4, hl, hd⟩, hw2, _⟩
  refine ⟨none, _, run_endLoop (P := P) hl (by simp [rec0]), hdone xs _ M _ hgood (Nat.le_refl _) h3 ?_ h4 ?_ ((World.putObj_heap_other (by omega)).trans hd)⟩
  ·
   exact hMi _ _ _ _ hi ((Wr.refl _ _).putObj (.inl ⟨by omega, h2⟩) _)
  ·
   exact ((hw1 (fun k => n₀ ≤ k)).trans hw2 (fun _ _ h => h) (fun _ _ h => h)).putObj (.inl (by omega)) _
end
end Go.Proofs.YtchliiaknmknhaaGreat

namespace Go.Proofs.YtchliiaknmknhaaGreat
open Go.RowKit Go.Shelf
open Go.ChangeMaps (setBlock)
def keyCs (q : Nat × Nat) : List Value := [.int .i64 q.1, .int .i64 q.2]
theorem nodup_of_map {α β : Type} {f : α → β} {l : List α} (h : (l.map f).Nodup) : l.Nodup := (List.pairwise_map.1 h).imp fun hne e => hne (congrArg f e)
def unInt : Value → Nat
 | .int _ n => n.toNat
 | _ => 0
def unE : Value → Nat × Nat
 | .agg cs => (unInt (cs.getD 0 undef), unInt (cs.getD 1 undef))
 | _ => (0, 0)
theorem unE_enc (q : Nat × Nat) : unE (encE q) = q := by simp [unE, encE, unInt]
structure SeenS (es : Array MapEntry) (clock : Nat) (seen : Array Nat) (ks : List (Nat × Nat)) (sl : List MapEntry) : Prop where
 sub : ∀ e ∈ sl, e ∈ es.toList
 born : sl.map (·.born) = seen.toList
 nodup : (sl.map (·.born)).Nodup
 keys : sl.map (·.key) = ks.map encE
theorem SeenS.start (es : Array MapEntry) (clock : Nat) : SeenS es clock #[] [] [] := ⟨fun _ h => (by cases h), rfl, List.nodup_nil, rfl⟩
theorem SeenS.next {es : Array MapEntry} {clock : Nat} {seen : Array Nat} {ks : List (Nat × Nat)} {sl : List MapEntry} (h : SeenS es clock seen ks sl) {e : MapEntry} (he : e ∈ (leftOf es seen).toList) {q : Nat × Nat} (hq : e.key = encE q) : SeenS es clock (seen.push e.born) (ks ++ [q]) (sl ++ [e]) := by
 obtain ⟨h1, h2⟩ := mem_left he
 refine ⟨fun x hx => ?_, by simp [h.born], ?_, by simp [h.keys, hq]⟩
 ·
  rcases List.mem_append.1 hx with hx | hx
  ·
   exact h.sub x hx
  ·
   simp at hx; subst hx; exact h1
 ·
  rw [List.map_append, List.nodup_append]
  refine ⟨h.nodup, by simp, fun a ha b hb => ?_⟩
  simp at hb
  subst hb
  rintro rfl
  rw [h.born] at ha
  have : seen.contains e.born = true := by simpa using ha
  rw [this] at h2; cases h2
theorem SeenS.all {es : Array MapEntry} {clock : Nat} {seen : Array Nat} {ks : List (Nat × Nat)} {sl : List MapEntry} (h : SeenS es clock seen ks sl) (hn : (es.toList.map (·.born)).Nodup) (h0 : (leftOf es seen).size = 0) : sl.Perm es.toList := by
 have hall := all_seen es seen h0
 refine (List.perm_ext_iff_of_nodup (nodup_of_map h.nodup) (nodup_of_map hn)).2 fun e => ⟨h.sub e, fun he => ?_⟩
 have h1 := hall e he
 have h2 : e.born ∈ sl.map (·.born) := by rw [h.born]; simpa using h1
 obtain ⟨x, hx, e1⟩ := List.mem_map.1 h2
 have : x = e := born_inj hn (h.sub x hx) he e1
 rw [← this]; exact hx
theorem SeenS.keysOf {w : World} {b : Nat} {l : List ((Nat × Nat) × Value)} {es : Array MapEntry} {clock : Nat} {seen : Array Nat} {ks : List (Nat × Nat)} {sl : List MapEntry} (h : SeenS es clock seen ks sl) (hn : (es.toList.map (·.born)).Nodup) (h0 : (leftOf es seen).size = 0)
 (hl : es.toList.map (fun e => (e.key, e.val)) = l.map (fun p => (encE p.1, p.2))) : ks.Perm (l.map Prod.fst) := by
 have h1 : (ks.map encE).Perm ((l.map Prod.fst).map encE) := by
  rw [← h.keys]
  have h2 := (h.all hn h0).map (fun e : MapEntry => e.key)
  refine h2.trans ?_
  have h3 := congrArg (List.map Prod.fst) hl
  simp only [List.map_map] at h3
  have e1 : (es.toList.map fun e : MapEntry => e.key) = (l.map Prod.fst).map encE := by
   rw [List.map_map]; exact h3
  rw [e1]
 have h2 := h1.map unE
 simpa [List.map_map, Function.comp_def, unE_enc] using h2
theorem infoKey : (Tryz.prog.info? 168).map (fun i => (i.zero, i.size, i.bytes)) = some (some (.agg #[.int .i64 0, .int .i64 0]), 2, 16) := by kernel_rfl
structure KeyS (W0 : World) (mb r clock : Nat) (es : Array MapEntry) (seen : Array Nat) (ks : List (Nat × Nat)) (sl : List MapEntry) (v : Value) (oG : Own) (wr : World) : Prop where
 low : Below W0.heap.size W0 wr
 it : wr.heap[r]? = some (.mapIter (some mb) clock seen clock)
 came : SeenS es clock seen ks sl
 row : RowR oG wr .slots 168 2 v ks.length (ks.flatMap keyCs)
 lt : OwnLt oG wr
 ge : ∀ k q, oG k = some q → q = .slots ∧ W0.heap.size ≤ k
 no : oG r = none
 cnt : ks.length + (leftOf es seen).size ≤ es.size
theorem KeyS.next {W0 : World} {mb r clock : Nat} {es : Array MapEntry} {seen : Array Nat} {ks : List (Nat × Nat)} {sl : List MapEntry} {v v' : Value} {oG o1 : Own} {wr w1 w2 w3 w4 : World} (h : KeyS W0 mb r clock es seen ks sl v oG wr) (hr0 : W0.heap.size ≤ r) {e : MapEntry} (he : e ∈ (leftOf es seen).toList) {q : Nat × Nat} (hq : e.key = encE q)
 (hw1 : w1 = wr ∨ w1 = wr.drew) (hw2 : w2 = setBlock w1 r (.mapIter (some mb) clock (seen.push e.born) clock)) (hb3 : Below w2.heap.size w2 w3)
 (hr : RowR o1 w4 .slots 168 2 v' (ks.length + 1) (ks.flatMap keyCs ++ keyCs q)) (hc : Chg (· = .slots) oG o1 w3 w4) (hl : OwnLt o1 w4) :
 KeyS W0 mb r clock es (seen.push e.born) (ks ++ [q]) (sl ++ [e]) v' o1 w4 := by
 have hrl : r < wr.heap.size := (Array.getElem?_eq_some_iff.1 h.it).1
 have z2 : w2.heap.size = wr.heap.size := by rw [hw2]; rcases hw1 with rfl | rfl <;> simp [setBlock]
 have i2 : w2.heap[r]? = some (.mapIter (some mb) clock (seen.push e.born) clock) := by rw [hw2]; rcases hw1 with rfl | rfl <;> simp [setBlock, hrl]
 have k2 : ∀ g, g ≠ r → w2.heap[g]? = wr.heap[g]? := fun g hg => by
  rw [hw2]; rcases hw1 with rfl | rfl <;> simp [setBlock, Array.getElem?_setIfInBounds, Ne.symm hg] <;> rfl
 have b2 : Below W0.heap.size W0 w2 := h.low.trans ⟨by rw [hw2]; rcases hw1 with rfl | rfl <;> rfl, by rw [hw2]; rcases hw1 with rfl | rfl <;> rfl, by rw [hw2]; rcases hw1 with rfl | rfl <;> rfl, by omega, fun g hg => k2 g (by omega)⟩
 have nn : ∀ g, g < W0.heap.size → oG g = none := fun g hg => by
  cases eo : oG g with
  | none => rfl
  | some r => have := (h.ge g r eo).2; omega
 have s0 := h.low.size
 have b3 := b2.trans (hb3.mono (by omega))
 refine ⟨b3.trans ⟨hc.os, hc.tape, hc.output, hc.size, fun g hg => hc.alien (by have := b3.size; omega) (nn g hg)⟩, ?_, h.came.next he hq, by simpa using hr, hl, fun g q hg => ?_, hc.alien' (by have := hb3.size; omega) h.no, by have h1 := left_shrinks es seen e he; have h2 := h.cnt; simp; omega⟩
 ·
  rw [hc.alien (by have := hb3.size; omega) h.no, hb3.block r (by omega)]; exact i2
 ·
  by_cases eo : o1 g = oG g
  ·
   rw [eo] at hg; exact h.ge g q hg
  ·
   obtain ⟨a1, p, a2, a3⟩ := hc.new g eo
   rw [hg] at a2; cases a2
   have := hb3.size
   exact ⟨a3, by omega⟩
theorem KeyS.row3 {W0 : World} {mb r clock : Nat} {es : Array MapEntry} {seen : Array Nat} {ks : List (Nat × Nat)} {sl : List MapEntry} {v : Value} {oG : Own} {wr w1 w2 w3 : World} (h : KeyS W0 mb r clock es seen ks sl v oG wr) {x : Obj} (hw1 : w1 = wr ∨ w1 = wr.drew) (hw2 : w2 = setBlock w1 r x) (hb3 : Below w2.heap.size w2 w3) :
 RowR oG w3 .slots 168 2 v ks.length (ks.flatMap keyCs) ∧ OwnLt oG w3 := by
 have z2 : w2.heap.size = wr.heap.size := by rw [hw2]; rcases hw1 with rfl | rfl <;> simp [setBlock]
 have k2 : ∀ g, g ≠ r → w2.heap[g]? = wr.heap[g]? := fun g hg => by
  rw [hw2]; rcases hw1 with rfl | rfl <;> simp [setBlock, Array.getElem?_setIfInBounds, Ne.symm hg] <;> rfl
 refine ⟨h.row.keep (fun g hg => ?_) (fun _ h => h), h.lt.mono (by have := hb3.size; omega)⟩
 have h1 := h.lt g _ hg
 rw [hb3.block g (by omega)]
 exact k2 g (by rintro rfl; rw [h.no] at hg; cases hg)
end Go.Proofs.YtchliiaknmknhaaGreat
