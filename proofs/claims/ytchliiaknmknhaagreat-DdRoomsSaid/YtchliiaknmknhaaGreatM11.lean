/- Several texts in one file. Expressions in memory: trees; parts of law 13, Kids, check and Check of the reference 06. Kids, check and Check of the reference 06. Check, vars and Vars of the reference 06; Has, put and Of of the reference 03. Has, put and Of of the reference 03; Vars of the reference 06. Plan of the reference 13. Small of law 13. A test case that came in, as the row hands it over. -/
import Derived.Test.YtchliiaknmknhaaGreatM10
import Derived.Deep.Slices
import Derived.ChangeArms
import Derived.WideShapes
set_option linter.unusedSimpArgs false
set_option linter.unusedVariables false
set_option linter.unusedSectionVars false
set_option linter.unnecessarySimpa false

-- Expr
namespace Go.Proofs.YtchliiaknmknhaaGreat
open Go.RowKit

def okI (z : Int) : Prop := -9223372036854775808 ≤ z ∧ z ≤ 9223372036854775807
/-- An expression's tree. -/
inductive ExT where
  | nil
  | mk (op v : Int) (n : Nat) (kid : Nat → ExT)
def sumN : Nat → (Nat → Nat) → Nat
  | 0, _ => 0
  | k + 1, f => sumN k f + f k
theorem sumN_ge {f : Nat → Nat} {j : Nat} : ∀ (k : Nat), j < k → f j ≤ sumN k f
  | 0, h => by omega
  | k + 1, h => by
    unfold sumN
    by_cases e : j = k
    · subst e; omega
    · have := sumN_ge (f := f) k (show j < k by omega); omega
def ExT.size : ExT → Nat
  | .nil => 1
  | .mk _ _ n kid => 1 + sumN n fun i => (kid i).size
theorem ExT.size_pos (e : ExT) : 1 ≤ e.size := by cases e <;> unfold ExT.size <;> omega
instance : Inhabited ExT := ⟨.nil⟩
theorem ExT.kid_size {op v : Int} {n : Nat} {kid : Nat → ExT} {i : Nat} (h : i < n) : (kid i).size < (ExT.mk op v n kid).size := by
  have h1 : (kid i).size ≤ sumN n fun i => (kid i).size := sumN_ge (f := fun i => (kid i).size) n h
  show (kid i).size < 1 + sumN n fun i => (kid i).size
  omega
/-- A value is an expression of that tree. -/
def ExprAt (w : World) : ExT → Value → Prop
  | .nil, _ => False
  | .mk op v n kid, x => ∃ a c, x = .agg #[.int .i64 op, .int .i64 v, .slice a n c] ∧ okI op ∧ okI v ∧ n ≤ 9223372036854775807 ∧
      ∀ k, k < n → ∃ b off x0 x1 x2, a = some ⟨b, off, none⟩ ∧ w.cell? ⟨b, off + k * 3, none⟩ = some x0 ∧ w.cell? ⟨b, off + k * 3 + 1, none⟩ = some x1 ∧ w.cell? ⟨b, off + k * 3 + 2, none⟩ = some x2 ∧ ExprAt w (kid k) (.agg #[x0, x1, x2])
theorem ExprAt.below {w w' : World} (hb : Below w.heap.size w w') : ∀ (e : ExT) {x : Value}, ExprAt w e x → ExprAt w' e x
  | .nil, _, h => by unfold ExprAt at h; exact h.elim
  | .mk op v n kid, x, h => by
    unfold ExprAt at h ⊢
    obtain ⟨a, c, h1, h2, h3, h4, h5⟩ := h
    refine ⟨a, c, h1, h2, h3, h4, fun k hk => ?_⟩
    obtain ⟨b, off, x0, x1, x2, rfl, c0, c1, c2, hx⟩ := h5 k hk
    exact ⟨b, off, x0, x1, x2, rfl, (hb.cell (p := ⟨b, off + k * 3, none⟩) (lt_of_cell c0)).trans c0, (hb.cell (p := ⟨b, off + k * 3 + 1, none⟩) (lt_of_cell c1)).trans c1, (hb.cell (p := ⟨b, off + k * 3 + 2, none⟩) (lt_of_cell c2)).trans c2, ExprAt.below hb (kid k) hx⟩
set_option maxRecDepth 100000 in
set_option maxHeartbeats 2000000 in
theorem parts_any : ∀ (e : ExT) (x : Value) (q : Nat) (w : World), q ≤ 1000 → ExprAt w e x →
    Calls Tryz.prog 72 #[x, .int .i64 q] w fun y w' => (∃ r : Nat, y = .returned (.int .i64 r) ∧ 1 ≤ r ∧ r ≤ q + 1 ∧ (r ≤ q → r = e.size)) ∧ Below w.heap.size w w'
  | .nil, x, q, w, hq, h => by unfold ExprAt at h; exact h.elim
  | .mk op v n kid, x, q, w, hq, h => by
    unfold ExprAt at h
    obtain ⟨a, c, rfl, h2, h3, h4, h5⟩ := h
    have H5 := Lib.hid h5
    have HSZ : Hid ((ExT.mk op v n kid).size = 1 + sumN n fun i => (kid i).size) := Lib.hid rfl
    have IH : Hid (∀ (i : Nat) (x : Value) (z : Int) (q : Nat) (W : World), z = (q : Int) → q ≤ 1000 → ExprAt W (kid i) x → Calls Tryz.prog 72 #[x, .int .i64 z] W fun y w' => (∃ r : Nat, y = .returned (.int .i64 r) ∧ 1 ≤ r ∧ r ≤ q + 1 ∧ (r ≤ q → r = (kid i).size)) ∧ Below W.heap.size W w') :=
      Lib.hid fun i x z q W hz h1 h2 => by subst hz; exact parts_any (kid i) x q W h1 h2
    obtain ⟨E, hE⟩ : ∃ E, E = ExT.mk op v n kid := ⟨_, rfl⟩
    rw [← hE] at HSZ ⊢
    obtain ⟨w1, hw1⟩ : ∃ w1, w1 = w.alloc (.cells #[.int .i64 op, .int .i64 v, .slice a n c] 39) := ⟨_, rfl⟩
    have HW1 : Hid (_ = w1) := Lib.hid hw1.symm
    have HB1 : Hid (Below w.heap.size w w1) := by rw [hw1]; exact Lib.hid (below_new1 _ _)
    have hblk : w1.heap[w.heap.size]? = some (.cells #[.int .i64 op, .int .i64 v, .slice a n c] 39 (0, 0)) := by rw [hw1]; exact heap_alloc_new _ _
    have hs1 : w1.heap.size = w.heap.size + 1 := by rw [hw1]; simp
    have d2 : w1.cell? ⟨w.heap.size, 2, none⟩ = some (.slice a n c) := by rw [cell_of_row _ _ 2 _ _ _ hblk]; rfl
    clear h5 hE hw1 hblk h2 h3
    go_enter Tryz.func72, Tryz.ntmps72
    go_upto_region 1 with fail
    rw [HW1.out]
    go_wp2_with fail
    go_loopw [5, 6] (fun s5 s6 wr => ∃ i r : Nat, i ≤ n ∧ 1 ≤ r ∧ i < r ∧ r ≤ q + 1 ∧ s5 = .int .i64 r ∧ s6 = .int .i64 i ∧ Below w1.heap.size w1 wr ∧ Hid (r ≤ q → r = 1 + sumN i fun i => (kid i).size)) (fun _ s6 _ => n - (intOf s6).toNat)
    case atStart => exact ⟨0, 1, by omega, by omega, by omega, by omega, rfl, rfl, Below.refl _ _, Lib.hid fun _ => rfl⟩
    case round =>
      obtain ⟨i, r, hi, hr1, hir, hr2, rfl, rfl, hbel, HR⟩ := hrel
      have d2' := (hbel.cell (p := ⟨w.heap.size, 2, none⟩) (lt_of_cell d2)).trans d2
      have HBEL := Lib.hid hbel
      clear hbel
      by_cases hlt : i < n
      · by_cases hle : r ≤ q
        · obtain ⟨b, off, x0, x1, x2, rfl, c0, c1, c2, hx⟩ := H5.out i hlt
          have hb0 := HB1.out.trans (HBEL.out.mono HB1.out.size)
          have e0 := (hb0.cell (p := ⟨b, off + i * 3, none⟩) (lt_of_cell c0)).trans c0
          have e1 := (hb0.cell (p := ⟨b, off + i * 3 + 1, none⟩) (lt_of_cell c1)).trans c1
          have e2 := (hb0.cell (p := ⟨b, off + i * 3 + 2, none⟩) (lt_of_cell c2)).trans c2
          have HX := Lib.hid (hx.below hb0)
          clear c0 c1 c2 hx hb0
          have hin : (i : Int) < n := by omega
          go_wp2_with fail
          refine (IH.out i _ _ (q - r) _ (by omega) (by omega) HX.out).mono ?_
          rintro y w3 ⟨⟨r2, rfl, g1, g2, g3⟩, hb3⟩
          have HB3 := Lib.hid (HBEL.out.trans (hb3.mono HBEL.out.size))
          have HR2 : Hid (r + r2 ≤ q → r + r2 = 1 + sumN (i + 1) fun i => (kid i).size) := Lib.hid fun hh => by
            have e1 := HR.out (by omega)
            have e2 := g3 (by omega)
            show _ = 1 + (sumN i (fun i => (kid i).size) + (kid i).size)
            omega
          clear hb3 g3 e0 e1 e2
          go_wp2_with fail
          go_roundw
          case rel => exact ⟨i + 1, r + r2, by omega, by omega, by omega, by omega, by go_num, by go_num, HB3.out, HR2⟩
          case measure => simp [intOf]; omega
        · have hin : (i : Int) < n := by omega
          have HF : Hid ((∃ r' : Nat, Ending.returned (.int .i64 (r : Nat)) = .returned (.int .i64 r') ∧ 1 ≤ r' ∧ r' ≤ q + 1 ∧ (r' ≤ q → r' = E.size)) ∧ Below w.heap.size w wr) :=
            Lib.hid ⟨⟨r, rfl, hr1, hr2, fun hh => by omega⟩, HB1.out.trans (HBEL.out.mono HB1.out.size)⟩
          go_wp2_with fail
          go_ret
          exact HF.out
      · have he : i = n := by omega
        have HF : Hid ((∃ r' : Nat, Ending.returned (.int .i64 (r : Nat)) = .returned (.int .i64 r') ∧ 1 ≤ r' ∧ r' ≤ q + 1 ∧ (r' ≤ q → r' = E.size)) ∧ Below w.heap.size w wr) :=
          Lib.hid ⟨⟨r, rfl, hr1, hr2, fun hh => by rw [HSZ.out, HR.out hh, he]⟩, HB1.out.trans (HBEL.out.mono HB1.out.size)⟩
        have hin : ¬ (i : Int) < n := by omega
        go_wp2_with fail
        go_ret
        exact HF.out
end Go.Proofs.YtchliiaknmknhaaGreat

-- ExprC
namespace Go.Proofs.YtchliiaknmknhaaGreat
open Go.RowKit

theorem sumN_two {f : Nat → Nat} {i : Nat} : ∀ {n : Nat}, i < n → sumN i f + f i ≤ sumN n f
  | 0, h => by omega
  | k + 1, h => by
    rcases Nat.lt_or_ge i k with h' | h'
    · have := sumN_two (f := f) h'
      show _ ≤ sumN k f + f k
      omega
    · obtain rfl : i = k := by omega
      exact Nat.le_refl _
def kidsR (op : Int) : Int × Int :=
  if op = 1 ∨ op = 2 ∨ op = 3 then (0, 0) else if op = 4 then (1, 1) else if op = 5 ∨ op = 6 ∨ op = 7 then (0, 64) else if op = 8 ∨ op = 9 then (2, 2) else if op = 10 then (3, 3) else (-1, -1)
/-- A valid expression at that depth: known operators, the number of operands, variables. -/
def okT : ExT → Nat → Prop
  | .nil, _ => False
  | .mk op v n kid, deep => deep ≤ 64 ∧ 0 ≤ (kidsR op).1 ∧ (op = 3 → 0 ≤ v ∧ v < 64) ∧ (op ≠ 3 → v = 0) ∧ (kidsR op).1 ≤ n ∧ (n : Int) ≤ (kidsR op).2 ∧ ∀ i, i < n → okT (kid i) (deep + 1)
/-- A valid expression. -/
def validT : ExT → Prop
  | .nil => False
  | .mk op v n kid => 0 ≤ (kidsR op).1 ∧ (op = 3 → 0 ≤ v ∧ v < 64) ∧ (op ≠ 3 → v = 0) ∧ (kidsR op).1 ≤ n ∧ (n : Int) ≤ (kidsR op).2 ∧ ∀ i, i < n → validT (kid i)
theorem okT.valid : ∀ {e : ExT} {deep : Nat}, okT e deep → validT e
  | .nil, _, h => h.elim
  | .mk op v n kid, deep, h => by
    obtain ⟨_, h1, h2, h3, h4, h5, h6⟩ := h
    exact ⟨h1, h2, h3, h4, h5, fun i hi => (h6 i hi).valid⟩
set_option maxRecDepth 100000 in
set_option maxHeartbeats 2000000 in
theorem kids06_any (op : Int) (w : World) : Calls Tryz.prog 147 #[.int .i64 op] w fun y w' => y = .returned (.tuple #[.int .i64 (kidsR op).1, .int .i64 (kidsR op).2]) ∧ w = w' := by
  obtain ⟨p, hp⟩ : ∃ p, p = kidsR op := ⟨_, rfl⟩
  rw [← hp]
  unfold kidsR at hp
  rcases (by omega : op = 1 ∨ op = 2 ∨ op = 3 ∨ op = 4 ∨ op = 5 ∨ op = 6 ∨ op = 7 ∨ op = 8 ∨ op = 9 ∨ op = 10 ∨ (op < 1 ∨ 10 < op)) with rfl | rfl | rfl | rfl | rfl | rfl | rfl | rfl | rfl | rfl | h
  all_goals
    first
    | (simp at hp
       subst hp
       go_enter Tryz.func147, Tryz.ntmps147
       go_wp2_with fail
       go_ret2
       exact ⟨rfl, rfl⟩)
    | (have h1 : (op == 1) = false := by simp; omega
       have h2 : (op == 2) = false := by simp; omega
       have h3 : (op == 3) = false := by simp; omega
       have h4 : (op == 4) = false := by simp; omega
       have h5 : (op == 5) = false := by simp; omega
       have h6 : (op == 6) = false := by simp; omega
       have h7 : (op == 7) = false := by simp; omega
       have h8 : (op == 8) = false := by simp; omega
       have h9 : (op == 9) = false := by simp; omega
       have h10 : (op == 10) = false := by simp; omega
       rw [if_neg (by omega), if_neg (by omega), if_neg (by omega), if_neg (by omega), if_neg (by omega)] at hp
       subst hp
       clear h
       go_enter Tryz.func147, Tryz.ntmps147
       go_wp2_with fail
       go_ret2
       exact ⟨rfl, rfl⟩)
def CheckPost (e : ExT) (deep parts : Nat) (w : World) (y : Ending) (w' : World) : Prop := ∃ err m : Int, y = .returned (.tuple #[.int .i64 err, .int .i64 m]) ∧ okI m ∧ (err = 0 ↔ okT e deep) ∧ (err = 0 → m = (parts + e.size : Nat)) ∧ Below w.heap.size w w'
set_option maxRecDepth 100000 in
set_option maxHeartbeats 4000000 in
theorem check_any : ∀ (e : ExT) (x : Value) (deep parts : Nat) (w : World), deep ≤ 65 → parts + e.size ≤ 4096 → ExprAt w e x →
    Calls Tryz.prog 110 #[x, .int .i64 deep, .int .i64 parts] w (CheckPost e deep parts w)
  | .nil, x, deep, parts, w, hd, hp, h => by unfold ExprAt at h; exact h.elim
  | .mk op v n kid, x, deep, parts, w, hd, hp, h => by
    unfold ExprAt at h
    obtain ⟨a, c, rfl, h2, h3, h4, h5⟩ := h
    have H5 := Lib.hid h5
    have HSZ : Hid ((ExT.mk op v n kid).size = 1 + sumN n fun i => (kid i).size) := Lib.hid rfl
    have HKS : Hid (∀ i, i < n → (kid i).size < (ExT.mk op v n kid).size) := Lib.hid fun i hi => ExT.kid_size hi
    have HV : Hid (∀ l hh : Int, l = (kidsR op).1 → hh = (kidsR op).2 → (okT (ExT.mk op v n kid) deep ↔ deep ≤ 64 ∧ 0 ≤ l ∧ (op = 3 → 0 ≤ v ∧ v < 64) ∧ (op ≠ 3 → v = 0) ∧ l ≤ n ∧ (n : Int) ≤ hh ∧ ∀ i, i < n → okT (kid i) (deep + 1))) := by
      refine Lib.hid ?_
      rintro l hh rfl rfl
      exact Iff.rfl
    have IH : Hid (∀ (i : Nat) (x : Value) (z1 z2 : Int) (deep parts : Nat) (W : World), z1 = (deep : Int) → z2 = (parts : Int) → deep ≤ 65 → parts + (kid i).size ≤ 4096 → ExprAt W (kid i) x → Calls Tryz.prog 110 #[x, .int .i64 z1, .int .i64 z2] W (CheckPost (kid i) deep parts W)) :=
      Lib.hid fun i x z1 z2 deep parts W e1 e2 h1 h2 h3 => by subst e1; subst e2; exact check_any (kid i) x deep parts W h1 h2 h3
    have HK := Lib.hid (fun W => kids06_any op W)
    obtain ⟨E, hE⟩ : ∃ E, E = ExT.mk op v n kid := ⟨_, rfl⟩
    have hpos : 1 ≤ E.size := E.size_pos
    rw [← hE] at HSZ hp HV HKS ⊢
    obtain ⟨l, hl⟩ : ∃ l, l = (kidsR op).1 := ⟨_, rfl⟩
    obtain ⟨hi, hhi⟩ : ∃ hi, hi = (kidsR op).2 := ⟨_, rfl⟩
    rw [← hl, ← hhi] at HK
    have HVV := Lib.hid (HV.out l hi hl hhi)
    obtain ⟨w1, hw1⟩ : ∃ w1, w1 = w.alloc (.cells #[.int .i64 op, .int .i64 v, .slice a n c] 39) := ⟨_, rfl⟩
    have HW1 : Hid (_ = w1) := Lib.hid hw1.symm
    have HB1 : Hid (Below w.heap.size w w1) := by rw [hw1]; exact Lib.hid (below_new1 _ _)
    have hblk : w1.heap[w.heap.size]? = some (.cells #[.int .i64 op, .int .i64 v, .slice a n c] 39 (0, 0)) := by rw [hw1]; exact heap_alloc_new _ _
    have hs1 : w1.heap.size = w.heap.size + 1 := by rw [hw1]; simp
    have d0 : w1.cell? ⟨w.heap.size, 0, none⟩ = some (.int .i64 op) := by rw [cell_of_row _ _ 0 _ _ _ hblk]; rfl
    have d1 : w1.cell? ⟨w.heap.size, 1, none⟩ = some (.int .i64 v) := by rw [cell_of_row _ _ 1 _ _ _ hblk]; rfl
    have d2 : w1.cell? ⟨w.heap.size, 2, none⟩ = some (.slice a n c) := by rw [cell_of_row _ _ 2 _ _ _ hblk]; rfl
    have HERR : Hid (∀ (k m : Int) (W : World), k ≠ 0 → ¬ okT E deep → okI m → Below w1.heap.size w1 W → CheckPost E deep parts w (.returned (.tuple #[.int .i64 k, .int .i64 m])) W) :=
      Lib.hid fun k m W hk hno hm hb => ⟨k, m, rfl, hm, ⟨fun e => (hk e).elim, fun e => (hno e).elim⟩, fun e => (hk e).elim, HB1.out.trans (hb.mono HB1.out.size)⟩
    unfold okI at h2 h3
    clear h5 hE hw1 hblk HV hl hhi
    go_enter Tryz.func110, Tryz.ntmps110
    go_upto_region 1 with fail
    rw [HW1.out]
    by_cases hdp : (deep : Int) > 64
    · go_wp2_with fail
      go_ret2
      exact HERR.out 17 _ _ (by decide) (fun h => by have := (HVV.out.1 h).1; omega) (by unfold okI; omega) (Below.refl _ _)
    go_wp2_with fail
    refine (HK.out _).mono ?_
    rintro y w' ⟨rfl, rfl⟩
    by_cases hl0 : l < 0
    · go_wp2_with fail
      go_ret2
      exact HERR.out 11 _ _ (by decide) (fun h => by have := (HVV.out.1 h).2.1; omega) (by unfold okI; omega) (Below.refl _ _)
    have hgood : ((op == 3) = true ∧ op = 3) ∨ ((op == 3) = false ∧ (op != 3) = true ∧ op ≠ 3) := by
      by_cases e : op = 3
      · exact .inl ⟨by simp [e], e⟩
      · exact .inr ⟨by simpa using e, by simpa using e, e⟩
    rcases hgood with ⟨g1, g2⟩ | ⟨g1, g2, g3⟩
    · subst g2
      by_cases hv0 : v < 0
      · go_wp2_with fail
        go_ret2
        exact HERR.out 9 _ _ (by decide) (fun h => by have := (HVV.out.1 h).2.2.1 (by trivial); omega) (by unfold okI; omega) (Below.refl _ _)
      by_cases hv1 : v ≥ 64
      · go_wp2_with fail
        go_ret2
        exact HERR.out 9 _ _ (by decide) (fun h => by have := (HVV.out.1 h).2.2.1 (by trivial); omega) (by unfold okI; omega) (Below.refl _ _)
      have HG : Hid ((3 : Int) = 3 → 0 ≤ v ∧ v < 64) := Lib.hid fun _ => ⟨by omega, by omega⟩
      have HG2 : Hid ((3 : Int) ≠ 3 → v = 0) := Lib.hid fun e => (e rfl).elim
      go_upto_region 9 with fail
      by_cases hnl : (n : Int) < l
      · go_wp2_with fail
        go_ret2
        exact HERR.out 3 _ _ (by decide) (fun h => by have := (HVV.out.1 h).2.2.2.2.1; omega) (by unfold okI; omega) (Below.refl _ _)
      by_cases hnh : (n : Int) > hi
      · go_wp2_with fail
        go_ret2
        exact HERR.out 3 _ _ (by decide) (fun h => by have := (HVV.out.1 h).2.2.2.2.2.1; omega) (by unfold okI; omega) (Below.refl _ _)
      go_wp2_with fail
      go_loopw [2, 10, 11, 12] (fun s2 s10 s11 s12 wr => ∃ i p : Nat, i ≤ n ∧ p ≤ 4096 ∧ s2 = .int .i64 p ∧ s10 = .int .i64 i ∧ Below w1.heap.size w1 wr ∧ Hid (p = parts + (1 + sumN i fun i => (kid i).size)) ∧ Hid (∀ j, j < i → okT (kid j) (deep + 1))) (fun _ s10 _ _ _ => n - (intOf s10).toNat)
      case atStart => exact ⟨0, parts + 1, by omega, by omega, by go_num, rfl, Below.refl _ _, Lib.hid rfl, Lib.hid fun j hj => by omega⟩
      case round =>
        obtain ⟨i, p, hin, hp4, rfl, rfl, hbel, HP, HVAL⟩ := hrel
        have d2' := (hbel.cell (p := ⟨w.heap.size, 2, none⟩) (lt_of_cell d2)).trans d2
        have HBEL := Lib.hid hbel
        clear hbel
        by_cases hlt : i < n
        · obtain ⟨b, off, x0, x1, x2, rfl, c0, c1, c2, hx⟩ := H5.out i hlt
          have hb0 := HB1.out.trans (HBEL.out.mono HB1.out.size)
          have e0 := (hb0.cell (p := ⟨b, off + i * 3, none⟩) (lt_of_cell c0)).trans c0
          have e1 := (hb0.cell (p := ⟨b, off + i * 3 + 1, none⟩) (lt_of_cell c1)).trans c1
          have e2 := (hb0.cell (p := ⟨b, off + i * 3 + 2, none⟩) (lt_of_cell c2)).trans c2
          have HX := Lib.hid (hx.below hb0)
          have hsum : p + (kid i).size ≤ 4096 := by
            have s1 : (kid i).size + sumN i (fun i => (kid i).size) ≤ sumN n fun i => (kid i).size := by
              have := sumN_two (f := fun i => (kid i).size) hlt
              omega
            have s2 := HP.out
            have s3 := HSZ.out
            omega
          have HSUM : Hid (p + (kid i).size = parts + (1 + sumN (i + 1) fun i => (kid i).size)) := Lib.hid (by
            have s2 := HP.out
            show _ = parts + (1 + (sumN i (fun i => (kid i).size) + (kid i).size))
            omega)
          have hiz : (i : Int) < n := by omega
          clear c0 c1 c2 hx hb0
          go_wp2_with fail
          refine (IH.out i _ _ _ (deep + 1) p _ (by go_num) rfl (by omega) hsum HX.out).mono ?_
          rintro y w3 ⟨err, m, rfl, hm, hiff, hvv, hb3⟩
          have HB3 := Lib.hid (HBEL.out.trans (hb3.mono HBEL.out.size))
          have HVN := Lib.hid hvv
          have HIF := Lib.hid hiff
          clear hb3 hvv hiff e0 e1 e2
          unfold okI at hm
          by_cases he0 : err = 0
          · subst he0
            have q1 := HIF.out.1 rfl
            have q2 := HVN.out rfl
            obtain ⟨p2, hp2⟩ : ∃ p2, p2 = p + (kid i).size := ⟨_, rfl⟩
            have HVAL2 : Hid (∀ j, j < i + 1 → okT (kid j) (deep + 1)) := Lib.hid fun j hj => by
              rcases Nat.lt_or_ge j i with h | h
              · exact HVAL.out j h
              · obtain rfl : j = i := by omega
                exact q1
            rw [← hp2] at q2 hsum HSUM
            subst q2
            clear hp2 q1 HVN HIF
            go_wp2_with fail
            go_roundw
            case rel => exact ⟨i + 1, p2, by omega, by omega, rfl, by go_num, HB3.out, HSUM, HVAL2⟩
            case measure => simp [intOf]; omega
          · have hne : (err != 0) = true := by simpa using he0
            have HF := Lib.hid (HERR.out err m w3 he0 (fun h => he0 (HIF.out.2 ((HVV.out.1 h).2.2.2.2.2.2 i hlt))) hm HB3.out)
            clear he0 HVN HIF
            go_wp2_with fail
            go_ret2
            exact HF.out
        · have he : i = n := by omega
          have hiz : ¬ (i : Int) < n := by omega
          have HF : Hid (CheckPost E deep parts w (.returned (.tuple #[.int .i64 0, .int .i64 (p : Nat)])) wr) := Lib.hid ⟨0, p, rfl, by unfold okI; omega, ⟨fun _ => HVV.out.2 ⟨by omega, by omega, HG.out, HG2.out, by omega, by omega, fun j hj => HVAL.out j (by omega)⟩, fun _ => rfl⟩, fun _ => by rw [HP.out, HSZ.out, he], HB1.out.trans (HBEL.out.mono HB1.out.size)⟩
          go_wp2_with fail
          go_ret2
          exact HF.out
    · by_cases hv0 : v = 0
      · have hv1 : (v != 0) = false := by simp [hv0]
        have HG : Hid (op = 3 → 0 ≤ v ∧ v < 64) := Lib.hid fun e => (g3 e).elim
        have HG2 : Hid (op ≠ 3 → v = 0) := Lib.hid fun _ => hv0
        clear hv0 g3
        go_upto_region 9 with fail
        by_cases hnl : (n : Int) < l
        · go_wp2_with fail
          go_ret2
          exact HERR.out 3 _ _ (by decide) (fun h => by have := (HVV.out.1 h).2.2.2.2.1; omega) (by unfold okI; omega) (Below.refl _ _)
        by_cases hnh : (n : Int) > hi
        · go_wp2_with fail
          go_ret2
          exact HERR.out 3 _ _ (by decide) (fun h => by have := (HVV.out.1 h).2.2.2.2.2.1; omega) (by unfold okI; omega) (Below.refl _ _)
        go_wp2_with fail
        go_loopw [2, 10, 11, 12] (fun s2 s10 s11 s12 wr => ∃ i p : Nat, i ≤ n ∧ p ≤ 4096 ∧ s2 = .int .i64 p ∧ s10 = .int .i64 i ∧ Below w1.heap.size w1 wr ∧ Hid (p = parts + (1 + sumN i fun i => (kid i).size)) ∧ Hid (∀ j, j < i → okT (kid j) (deep + 1))) (fun _ s10 _ _ _ => n - (intOf s10).toNat)
        case atStart => exact ⟨0, parts + 1, by omega, by omega, by go_num, rfl, Below.refl _ _, Lib.hid rfl, Lib.hid fun j hj => by omega⟩
        case round =>
          obtain ⟨i, p, hin, hp4, rfl, rfl, hbel, HP, HVAL⟩ := hrel
          have d2' := (hbel.cell (p := ⟨w.heap.size, 2, none⟩) (lt_of_cell d2)).trans d2
          have HBEL := Lib.hid hbel
          clear hbel
          by_cases hlt : i < n
          · obtain ⟨b, off, x0, x1, x2, rfl, c0, c1, c2, hx⟩ := H5.out i hlt
            have hb0 := HB1.out.trans (HBEL.out.mono HB1.out.size)
            have e0 := (hb0.cell (p := ⟨b, off + i * 3, none⟩) (lt_of_cell c0)).trans c0
            have e1 := (hb0.cell (p := ⟨b, off + i * 3 + 1, none⟩) (lt_of_cell c1)).trans c1
            have e2 := (hb0.cell (p := ⟨b, off + i * 3 + 2, none⟩) (lt_of_cell c2)).trans c2
            have HX := Lib.hid (hx.below hb0)
            have hsum : p + (kid i).size ≤ 4096 := by
              have s1 : (kid i).size + sumN i (fun i => (kid i).size) ≤ sumN n fun i => (kid i).size := by
                have := sumN_two (f := fun i => (kid i).size) hlt
                omega
              have s2 := HP.out
              have s3 := HSZ.out
              omega
            have HSUM : Hid (p + (kid i).size = parts + (1 + sumN (i + 1) fun i => (kid i).size)) := Lib.hid (by
              have s2 := HP.out
              show _ = parts + (1 + (sumN i (fun i => (kid i).size) + (kid i).size))
              omega)
            have hiz : (i : Int) < n := by omega
            clear c0 c1 c2 hx hb0
            go_wp2_with fail
            refine (IH.out i _ _ _ (deep + 1) p _ (by go_num) rfl (by omega) hsum HX.out).mono ?_
            rintro y w3 ⟨err, m, rfl, hm, hiff, hvv, hb3⟩
            have HB3 := Lib.hid (HBEL.out.trans (hb3.mono HBEL.out.size))
            have HVN := Lib.hid hvv
            have HIF := Lib.hid hiff
            clear hb3 hvv hiff e0 e1 e2
            unfold okI at hm
            by_cases he0 : err = 0
            · subst he0
              have q1 := HIF.out.1 rfl
              have q2 := HVN.out rfl
              obtain ⟨p2, hp2⟩ : ∃ p2, p2 = p + (kid i).size := ⟨_, rfl⟩
              have HVAL2 : Hid (∀ j, j < i + 1 → okT (kid j) (deep + 1)) := Lib.hid fun j hj => by
                rcases Nat.lt_or_ge j i with h | h
                · exact HVAL.out j h
                · obtain rfl : j = i := by omega
                  exact q1
              rw [← hp2] at q2 hsum HSUM
              subst q2
              clear hp2 q1 HVN HIF
              go_wp2_with fail
              go_roundw
              case rel => exact ⟨i + 1, p2, by omega, by omega, rfl, by go_num, HB3.out, HSUM, HVAL2⟩
              case measure => simp [intOf]; omega
            · have hne : (err != 0) = true := by simpa using he0
              have HF := Lib.hid (HERR.out err m w3 he0 (fun h => he0 (HIF.out.2 ((HVV.out.1 h).2.2.2.2.2.2 i hlt))) hm HB3.out)
              clear he0 HVN HIF
              go_wp2_with fail
              go_ret2
              exact HF.out
          · have he : i = n := by omega
            have hiz : ¬ (i : Int) < n := by omega
            have HF : Hid (CheckPost E deep parts w (.returned (.tuple #[.int .i64 0, .int .i64 (p : Nat)])) wr) := Lib.hid ⟨0, p, rfl, by unfold okI; omega, ⟨fun _ => HVV.out.2 ⟨by omega, by omega, HG.out, HG2.out, by omega, by omega, fun j hj => HVAL.out j (by omega)⟩, fun _ => rfl⟩, fun _ => by rw [HP.out, HSZ.out, he], HB1.out.trans (HBEL.out.mono HB1.out.size)⟩
            go_wp2_with fail
            go_ret2
            exact HF.out
      · have hv1 : (v != 0) = true := by simpa using hv0
        have HNO : Hid (¬ okT E deep) := Lib.hid fun h => hv0 ((HVV.out.1 h).2.2.2.1 g3)
        clear hv0 g3
        go_wp2_with fail
        go_ret2
        exact HERR.out 9 _ _ (by decide) HNO.out (by unfold okI; omega) (Below.refl _ _)
end Go.Proofs.YtchliiaknmknhaaGreat

-- ExprV
namespace Go.Proofs.YtchliiaknmknhaaGreat
open Go.RowKit

set_option maxRecDepth 100000 in
theorem check06_any (e : ExT) (x : Value) (w : World) (hs : e.size ≤ 4096) (h : ExprAt w e x) :
    Calls Tryz.prog 73 #[x] w fun y w' => ∃ err : Int, y = .returned (.int .i64 err) ∧ (err = 0 ↔ okT e 1) ∧ Below w.heap.size w w' := by
  have HC : Hid (∀ W, Below w.heap.size w W → ∀ u, u = x → Calls Tryz.prog 110 #[u, .int .i64 1, .int .i64 0] W (CheckPost e 1 0 W)) := Lib.hid fun W hb u hu => by subst hu; exact check_any e _ 1 0 W (by omega) (by omega) (h.below hb)
  obtain ⟨x0, x1, x2, hx⟩ : ∃ x0 x1 x2, x = .agg #[x0, x1, x2] := by
    cases e with
    | nil => unfold ExprAt at h; exact h.elim
    | mk op v n kid =>
      unfold ExprAt at h
      obtain ⟨a, c, rfl, _⟩ := h
      exact ⟨_, _, _, rfl⟩
  subst hx
  obtain ⟨w1, hw1⟩ : ∃ w1, w1 = w.alloc (.cells #[x0, x1, x2] 39) := ⟨_, rfl⟩
  have HW1 : Hid (_ = w1) := Lib.hid hw1.symm
  have HB1 : Hid (Below w.heap.size w w1) := by rw [hw1]; exact Lib.hid (below_new1 _ _)
  have hblk : w1.heap[w.heap.size]? = some (.cells #[x0, x1, x2] 39 (0, 0)) := by rw [hw1]; exact heap_alloc_new _ _
  have d0 : w1.cell? ⟨w.heap.size, 0, none⟩ = some x0 := by rw [cell_of_row _ _ 0 _ _ _ hblk]; rfl
  have d1 : w1.cell? ⟨w.heap.size, 1, none⟩ = some x1 := by rw [cell_of_row _ _ 1 _ _ _ hblk]; rfl
  have d2 : w1.cell? ⟨w.heap.size, 2, none⟩ = some x2 := by rw [cell_of_row _ _ 2 _ _ _ hblk]; rfl
  have hone : x0.cells = #[x0] ∧ x1.cells = #[x1] ∧ x2.cells = #[x2] := by
    cases e with
    | nil => unfold ExprAt at h; exact h.elim
    | mk op v n kid =>
      unfold ExprAt at h
      obtain ⟨a, c, h1, _⟩ := h
      cases h1
      exact ⟨rfl, rfl, rfl⟩
  obtain ⟨o0, o1, o2⟩ := hone
  clear h hw1 hblk
  go_enter Tryz.func73, Tryz.ntmps73
  go_upto_region 1 with fail
  rw [HW1.out]
  go_wp2_with fail
  refine (HC.out _ HB1.out _ rfl).mono ?_
  rintro y w2 ⟨err, m, rfl, hm, hv, _, hb⟩
  have HF : Hid (∃ err' : Int, Ending.returned (.int .i64 err) = .returned (.int .i64 err') ∧ (err' = 0 ↔ okT e 1) ∧ Below w.heap.size w w2) := Lib.hid ⟨err, rfl, hv, HB1.out.trans (hb.mono HB1.out.size)⟩
  clear hv hb
  go_wp2_with fail
  go_ret
  exact HF.out
def flatN : Nat → (Nat → List Int) → List Int
  | 0, _ => []
  | k + 1, f => flatN k f ++ f k
/-- The variables, in preorder. -/
def varsT : ExT → List Int
  | .nil => []
  | .mk op v n kid => (if op = 3 then [v] else []) ++ flatN n fun i => varsT (kid i)
theorem flatN_len {f : Nat → List Int} {g : Nat → Nat} : ∀ (n : Nat), (∀ i, i < n → (f i).length ≤ g i) → (flatN n f).length ≤ sumN n g
  | 0, _ => Nat.le_refl _
  | k + 1, h => by
    show (flatN k f ++ f k).length ≤ sumN k g + g k
    rw [List.length_append]
    have := flatN_len (f := f) (g := g) k (fun i hi => h i (by omega))
    have := h k (by omega)
    omega
theorem varsT_len : ∀ e : ExT, (varsT e).length ≤ e.size
  | .nil => by simp [varsT]
  | .mk op v n kid => by
    show ((if op = 3 then [v] else []) ++ flatN n fun i => varsT (kid i)).length ≤ 1 + sumN n fun i => (kid i).size
    rw [List.length_append]
    have h1 := flatN_len (f := fun i => varsT (kid i)) (g := fun i => (kid i).size) n (fun i _ => varsT_len (kid i))
    have h2 : (if op = 3 then [v] else [] : List Int).length ≤ 1 := by split <;> simp
    omega
theorem OwnI.lower {w : World} {base b : Nat} {v : Value} {zs : List Int} (h : OwnI w base v zs) (hb : b ≤ base) : OwnI w b v zs := by
  refine ⟨h.1, ?_⟩
  rcases h.2 with hn | ⟨g, cap, cur, rfl, hb', rest⟩
  · exact .inl hn
  · exact .inr ⟨g, cap, cur, rfl, by omega, rest⟩
set_option maxRecDepth 100000 in
set_option maxHeartbeats 2000000 in
theorem vars06_any : ∀ (e : ExT) (x : Value) (w : World), e.size ≤ 4096 → ExprAt w e x →
    Calls Tryz.prog 112 #[x] w fun y w' => ∃ u, y = .returned u ∧ OwnI w' w.heap.size u (varsT e) ∧ Below w.heap.size w w'
  | .nil, x, w, hp, h => by unfold ExprAt at h; exact h.elim
  | .mk op v n kid, x, w, hp, h => by
    unfold ExprAt at h
    obtain ⟨a, c, rfl, h2, h3, h4, h5⟩ := h
    have H5 := Lib.hid h5
    have HSZ : Hid ((ExT.mk op v n kid).size = 1 + sumN n fun i => (kid i).size) := Lib.hid rfl
    have HKS : Hid (∀ i, i < n → (kid i).size < (ExT.mk op v n kid).size) := Lib.hid fun i hi => ExT.kid_size hi
    have HVT : Hid (varsT (ExT.mk op v n kid) = (if op = 3 then [v] else []) ++ flatN n fun i => varsT (kid i)) := Lib.hid rfl
    have IH : Hid (∀ (i : Nat) (x : Value) (W : World), (kid i).size ≤ 4096 → ExprAt W (kid i) x → Calls Tryz.prog 112 #[x] W fun y w' => ∃ u, y = .returned u ∧ OwnI w' W.heap.size u (varsT (kid i)) ∧ Below W.heap.size W w') :=
      Lib.hid fun i x W h1 h2 => vars06_any (kid i) x W h1 h2
    obtain ⟨E, hE⟩ : ∃ E, E = ExT.mk op v n kid := ⟨_, rfl⟩
    rw [← hE] at HSZ hp HVT HKS ⊢
    obtain ⟨w1, hw1⟩ : ∃ w1, w1 = w.alloc (.cells #[.int .i64 op, .int .i64 v, .slice a n c] 39) := ⟨_, rfl⟩
    have HW1 : Hid (_ = w1) := Lib.hid hw1.symm
    have HB1 : Hid (Below w.heap.size w w1) := by rw [hw1]; exact Lib.hid (below_new1 _ _)
    have hblk : w1.heap[w.heap.size]? = some (.cells #[.int .i64 op, .int .i64 v, .slice a n c] 39 (0, 0)) := by rw [hw1]; exact heap_alloc_new _ _
    have hs1 : w1.heap.size = w.heap.size + 1 := by rw [hw1]; simp
    have d0 : w1.cell? ⟨w.heap.size, 0, none⟩ = some (.int .i64 op) := by rw [cell_of_row _ _ 0 _ _ _ hblk]; rfl
    have d1 : w1.cell? ⟨w.heap.size, 1, none⟩ = some (.int .i64 v) := by rw [cell_of_row _ _ 1 _ _ _ hblk]; rfl
    have d2 : w1.cell? ⟨w.heap.size, 2, none⟩ = some (.slice a n c) := by rw [cell_of_row _ _ 2 _ _ _ hblk]; rfl
    unfold okI at h2 h3
    obtain ⟨w2, hw2⟩ : ∃ w2, w2 = w1.alloc (.cells #[] 3) := ⟨_, rfl⟩
    have HW2 : Hid (_ = w2) := Lib.hid hw2.symm
    have HB2 : Hid (Below w1.heap.size w1 w2) := by rw [hw2]; exact Lib.hid (below_new1 _ _)
    have HOWN : Hid (OwnI w2 w1.heap.size (.slice (some ⟨w.heap.size + 1, 0, none⟩) 0 0) []) := by rw [hw2, ← hs1]; exact Lib.hid (ownI_new _ _ (Nat.le_refl _))
    clear h5 hE hw1 hw2 hblk
    go_enter Tryz.func112, Tryz.ntmps112
    go_upto_region 1 with fail
    rw [HW1.out]
    go_upto_region 2 with fail
    obtain ⟨Z, hZ⟩ : ∃ Z : List Int, Z = if op = 3 then [v] else [] := ⟨_, rfl⟩
    have HZ := Lib.hid hZ
    have HZ1 : Hid (Z.length ≤ 1) := Lib.hid (by rw [hZ]; split <;> simp)
    rw [HW2.out]
    have hs2 : w1.heap.size ≤ w2.heap.size := HB2.out.size
    have d0' := (HB2.out.cell (p := ⟨w.heap.size, 0, none⟩) (lt_of_cell d0)).trans d0
    have d1' := (HB2.out.cell (p := ⟨w.heap.size, 1, none⟩) (lt_of_cell d1)).trans d1
    by_cases h3 : op = 3
    · rw [if_pos h3] at hZ
      subst h3
      clear h2
      go_wp2_with (at_builtin; refine wpList_app1 _ rfl _ _ rfl w1.heap.size w1 _ [] _ rfl rfl rfl rfl (by exact HOWN.out) (by simp) hs2 HB2.out ?_; intro v3 w3 hown3 hb3 hs3 _)
      go_loopw [3, 4] (fun s3 s4 wr => ∃ i : Nat, i ≤ n ∧ s4 = .int .i64 i ∧ Below w1.heap.size w1 wr ∧ OwnI wr w1.heap.size s3 (Z ++ flatN i fun i => varsT (kid i)) ∧ w1.heap.size ≤ wr.heap.size) (fun _ s4 _ => n - (intOf s4).toNat)
      case atStart => exact ⟨0, Nat.zero_le _, rfl, hb3, by rw [hZ]; simpa [flatN] using hown3, hs3⟩
      case round =>
        obtain ⟨i, hin, rfl, hbel, hown, hsz⟩ := hrel
        have d2' := (hbel.cell (p := ⟨w.heap.size, 2, none⟩) (lt_of_cell d2)).trans d2
        have HBEL := Lib.hid hbel
        have HOW := Lib.hid hown
        clear hbel hown
        by_cases hlt : i < n
        · obtain ⟨b, off, x0, x1, x2, rfl, c0, c1, c2, hx⟩ := H5.out i hlt
          have hb0 := HB1.out.trans (HBEL.out.mono HB1.out.size)
          have e0 := (hb0.cell (p := ⟨b, off + i * 3, none⟩) (lt_of_cell c0)).trans c0
          have e1 := (hb0.cell (p := ⟨b, off + i * 3 + 1, none⟩) (lt_of_cell c1)).trans c1
          have e2 := (hb0.cell (p := ⟨b, off + i * 3 + 2, none⟩) (lt_of_cell c2)).trans c2
          have HX := Lib.hid (hx.below hb0)
          have hiz : (i : Int) < n := by omega
          have hk1 := HKS.out i hlt
          have HLN : Hid ((Z ++ flatN i fun i => varsT (kid i)).length + (varsT (kid i)).length ≤ 4096) := Lib.hid (by
            have s1 := sumN_two (f := fun i => (kid i).size) hlt
            have s2 := HSZ.out
            have s3 := flatN_len (f := fun i => varsT (kid i)) (g := fun i => (kid i).size) i (fun i _ => varsT_len (kid i))
            have s4 := varsT_len (kid i)
            have s5 := HZ1.out
            rw [List.length_append]
            omega)
          clear c0 c1 c2 hx hb0
          go_upto_region 7 with fail
          go_wp2_with (first
            | (go_at_call 112; refine (IH.out i _ _ (by omega) HX.out).mono ?_; rintro y w3 ⟨u, rfl, hu, hb3⟩; obtain ⟨au, cu, rfl, hua, hun⟩ := hu.sliceIs (by have := HLN.out; omega); have HU := Lib.hid hua; have HB3 := Lib.hid hb3; clear hu hua hb3)
            | (at_builtin; refine wpList_appAll rfl _ _ rfl w1.heap.size w1 _ (Z ++ flatN i fun i => varsT (kid i)) (varsT (kid i)) au cu rfl rfl (by exact HOW.out.below HB3.out) (by exact HU.out) (by have := HLN.out; omega) (by have := HB3.out.size; omega) (by exact HBEL.out.trans (HB3.out.mono HBEL.out.size)) hun ?_; intro v4 w4 hown4 hb4 hs4 _))
          go_roundw
          case rel => exact ⟨i + 1, by omega, by go_num, hb4, by rw [List.append_assoc] at hown4; exact hown4, hs4⟩
          case measure => simp [intOf]; omega
        · have he : i = n := by omega
          have hiz : ¬ (i : Int) < n := by omega
          have HF : Hid (∃ u, Ending.returned u3 = .returned u ∧ OwnI wr w.heap.size u (varsT E) ∧ Below w.heap.size w wr) := Lib.hid ⟨u3, rfl, by rw [HVT.out, ← HZ.out, ← he]; exact HOW.out.lower (by omega), HB1.out.trans (HBEL.out.mono HB1.out.size)⟩
          go_wp2_with fail
          go_ret
          exact HF.out
    · rw [if_neg h3] at hZ
      have g3 : (op == 3) = false := by simpa using h3
      clear h3
      go_wp2_with fail
      go_loopw [3, 4] (fun s3 s4 wr => ∃ i : Nat, i ≤ n ∧ s4 = .int .i64 i ∧ Below w1.heap.size w1 wr ∧ OwnI wr w1.heap.size s3 (Z ++ flatN i fun i => varsT (kid i)) ∧ w1.heap.size ≤ wr.heap.size) (fun _ s4 _ => n - (intOf s4).toNat)
      case atStart => exact ⟨0, Nat.zero_le _, rfl, HB2.out, by rw [hZ]; simpa [flatN] using HOWN.out, hs2⟩
      case round =>
        obtain ⟨i, hin, rfl, hbel, hown, hsz⟩ := hrel
        have d2' := (hbel.cell (p := ⟨w.heap.size, 2, none⟩) (lt_of_cell d2)).trans d2
        have HBEL := Lib.hid hbel
        have HOW := Lib.hid hown
        clear hbel hown
        by_cases hlt : i < n
        · obtain ⟨b, off, x0, x1, x2, rfl, c0, c1, c2, hx⟩ := H5.out i hlt
          have hb0 := HB1.out.trans (HBEL.out.mono HB1.out.size)
          have e0 := (hb0.cell (p := ⟨b, off + i * 3, none⟩) (lt_of_cell c0)).trans c0
          have e1 := (hb0.cell (p := ⟨b, off + i * 3 + 1, none⟩) (lt_of_cell c1)).trans c1
          have e2 := (hb0.cell (p := ⟨b, off + i * 3 + 2, none⟩) (lt_of_cell c2)).trans c2
          have HX := Lib.hid (hx.below hb0)
          have hiz : (i : Int) < n := by omega
          have hk1 := HKS.out i hlt
          have HLN : Hid ((Z ++ flatN i fun i => varsT (kid i)).length + (varsT (kid i)).length ≤ 4096) := Lib.hid (by
            have s1 := sumN_two (f := fun i => (kid i).size) hlt
            have s2 := HSZ.out
            have s3 := flatN_len (f := fun i => varsT (kid i)) (g := fun i => (kid i).size) i (fun i _ => varsT_len (kid i))
            have s4 := varsT_len (kid i)
            have s5 := HZ1.out
            rw [List.length_append]
            omega)
          clear c0 c1 c2 hx hb0
          go_upto_region 7 with fail
          go_wp2_with (first
            | (go_at_call 112; refine (IH.out i _ _ (by omega) HX.out).mono ?_; rintro y w3 ⟨u, rfl, hu, hb3⟩; obtain ⟨au, cu, rfl, hua, hun⟩ := hu.sliceIs (by have := HLN.out; omega); have HU := Lib.hid hua; have HB3 := Lib.hid hb3; clear hu hua hb3)
            | (at_builtin; refine wpList_appAll rfl _ _ rfl w1.heap.size w1 _ (Z ++ flatN i fun i => varsT (kid i)) (varsT (kid i)) au cu rfl rfl (by exact HOW.out.below HB3.out) (by exact HU.out) (by have := HLN.out; omega) (by have := HB3.out.size; omega) (by exact HBEL.out.trans (HB3.out.mono HBEL.out.size)) hun ?_; intro v4 w4 hown4 hb4 hs4 _))
          go_roundw
          case rel => exact ⟨i + 1, by omega, by go_num, hb4, by rw [List.append_assoc] at hown4; exact hown4, hs4⟩
          case measure => simp [intOf]; omega
        · have he : i = n := by omega
          have hiz : ¬ (i : Int) < n := by omega
          have HF : Hid (∃ u, Ending.returned u3 = .returned u ∧ OwnI wr w.heap.size u (varsT E) ∧ Below w.heap.size w wr) := Lib.hid ⟨u3, rfl, by rw [HVT.out, ← HZ.out, ← he]; exact HOW.out.lower (by omega), HB1.out.trans (HBEL.out.mono HB1.out.size)⟩
          go_wp2_with fail
          go_ret
          exact HF.out
end Go.Proofs.YtchliiaknmknhaaGreat

-- Ref03
namespace Go.Proofs.YtchliiaknmknhaaGreat
open Go.RowKit

set_option maxRecDepth 100000 in
theorem has03_any (a : Option Addr) (c : Nat) (zs : List Int) (v : Int) (w : World) (hl : zs.length ≤ 1000000) (h : IntsAt w a zs) :
    Calls Tryz.prog 148 #[.slice a zs.length c, .int .i64 v] w fun y w' => y = .returned (.bool (decide (v ∈ zs))) ∧ w = w' := by
  have HI := Lib.hid h
  clear h
  have HNO : Hid ((∀ j, j < zs.length → at0 zs j ≠ v) → decide (v ∈ zs) = false) := Lib.hid fun hh => decide_eq_false fun hm => by
    obtain ⟨j, hj, e⟩ := List.getElem_of_mem hm
    exact hh j hj (by rw [at0_eq hj]; exact e)
  have HYES : Hid (∀ j, j < zs.length → at0 zs j = v → decide (v ∈ zs) = true) := Lib.hid fun j hj e => decide_eq_true (by rw [at0_eq hj] at e; rw [← e]; exact List.getElem_mem hj)
  go_enter Tryz.func148, Tryz.ntmps148
  go_wp2_with fail
  go_loopw [5] (fun s5 wr => ∃ i : Nat, i ≤ zs.length ∧ s5 = .int .i64 i ∧ w = wr ∧ Hid (∀ j, j < i → at0 zs j ≠ v)) (fun s5 _ => zs.length - (intOf s5).toNat)
  case atStart => exact ⟨0, Nat.zero_le _, rfl, rfl, Lib.hid fun j hj => by omega⟩
  case round =>
    obtain ⟨i, hi, rfl, rfl, HN⟩ := hrel
    by_cases hlt : i < zs.length
    · obtain ⟨b, off, rfl, hc⟩ := HI.out.cells i hlt
      have hiz : (i : Int) < zs.length := by omega
      obtain ⟨z, hz⟩ : ∃ z, z = at0 zs i := ⟨_, rfl⟩
      rw [← hz] at hc
      by_cases he : z = v
      · have HY := Lib.hid (HYES.out i hlt (by rw [← hz, he]))
        subst he
        clear hz
        go_wp2_with fail
        go_ret
        exact ⟨by rw [HY.out]; rfl, rfl⟩
      · have hne : (z == v) = false := by simpa using he
        have HN2 : Hid (∀ j, j < i + 1 → at0 zs j ≠ v) := Lib.hid fun j hj => by
          rcases Nat.lt_or_ge j i with h | h
          · exact HN.out j h
          · obtain rfl : j = i := by omega
            rw [← hz]; exact he
        clear hz he
        go_wp2_with fail
        go_roundw
        case rel => exact ⟨i + 1, by omega, by go_num, by simp, HN2⟩
        case measure => simp [intOf]; omega
    · have HN2 := Lib.hid (HNO.out fun j hj => HN.out j (by omega))
      have hiz : ¬ (i : Int) < zs.length := by omega
      go_wp2_with fail
      go_ret
      exact ⟨by rw [HN2.out]; rfl, rfl⟩
/-- What put has so far: the first i, and v if done. -/
structure PutS (zs : List Int) (v : Int) (i : Nat) (d : Bool) (os : List Int) : Prop where
  mem : ∀ x, x ∈ os ↔ x ∈ zs.take i ∨ (d = true ∧ x = v)
  len : os.length = i + if d then 1 else 0
theorem PutS.here {zs : List Int} {v : Int} {i : Nat} {os : List Int} (h : PutS zs v i false os) : PutS zs v i true (os ++ [v]) := by
  refine ⟨fun x => ?_, by simp [h.len]⟩
  have := h.mem x
  simp only [Bool.false_eq_true, false_and, or_false] at this
  simp [this]
theorem PutS.next {zs : List Int} {v : Int} {i : Nat} {d : Bool} {os : List Int} (h : PutS zs v i d os) (hi : i < zs.length) : PutS zs v (i + 1) d (os ++ [at0 zs i]) := by
  refine ⟨fun x => ?_, by have := h.len; simp [this]; omega⟩
  rw [List.take_succ_eq_append_getElem hi, List.mem_append, List.mem_append, h.mem x, at0_eq hi]
  simp only [List.mem_singleton]
  constructor
  · rintro ((h1 | h1) | h1)
    · exact .inl (.inl h1)
    · exact .inr h1
    · exact .inl (.inr h1)
  · rintro ((h1 | h1) | h1)
    · exact .inl (.inl h1)
    · exact .inr h1
    · exact .inl (.inr h1)
set_option maxRecDepth 100000 in
set_option maxHeartbeats 2000000 in
theorem put03_any (a : Option Addr) (c : Nat) (zs : List Int) (v : Int) (w : World) (hl : zs.length ≤ 1000000) (h : IntsAt w a zs) :
    Calls Tryz.prog 149 #[.slice a zs.length c, .int .i64 v] w fun y w' => ∃ u os, y = .returned u ∧ OwnI w' w.heap.size u os ∧ (∀ x, x ∈ os ↔ x ∈ zs ∨ x = v) ∧ os.length = zs.length + 1 ∧ Below w.heap.size w w' := by
  have HI := Lib.hid h
  clear h
  have HFIN : Hid (∀ os, PutS zs v zs.length true os → (∀ x, x ∈ os ↔ x ∈ zs ∨ x = v) ∧ os.length = zs.length + 1) := Lib.hid fun os h => ⟨fun x => by have := h.mem x; rw [List.take_length] at this; simpa using this, by simpa using h.len⟩
  go_enter Tryz.func149, Tryz.ntmps149
  go_wp2_with fail
  go_loopw [5, 6, 7] (fun s5 s6 s7 wr => ∃ (i : Nat) (d : Bool) (os : List Int), i ≤ zs.length ∧ s6 = .bool d ∧ s7 = .int .i64 i ∧ OwnI wr w.heap.size s5 os ∧ w.heap.size ≤ wr.heap.size ∧ Below w.heap.size w wr ∧ Hid (PutS zs v i d os)) (fun _ _ s7 _ => zs.length - (intOf s7).toNat)
  case atStart => exact ⟨0, false, [], Nat.zero_le _, rfl, rfl, ownI_new w _ (Nat.le_refl _), by simp, below_new1 w _, Lib.hid ⟨fun x => by simp, by simp⟩⟩
  case round =>
    obtain ⟨i, d, os, hi, rfl, rfl, hown, hsz, hbel, HP⟩ := hrel
    have hol : os.length ≤ i + 1 := by rw [HP.out.len]; split <;> omega
    by_cases hlt : i < zs.length
    · obtain ⟨b, off, rfl, hc⟩ := (HI.out.below hbel).cells i hlt
      have HOW := Lib.hid hown
      have HBEL := Lib.hid hbel
      have hiz : (i : Int) < zs.length := by omega
      obtain ⟨z, hz⟩ : ∃ z, z = at0 zs i := ⟨_, rfl⟩
      rw [← hz] at hc
      have HZ := Lib.hid hz
      clear hown hbel hz
      have done : ∀ d, PutS zs v i d os → True := fun _ _ => trivial
      clear done
      cases d with
      | true =>
        go_wp2_with (at_builtin; refine wpList_app1 _ rfl _ _ rfl w.heap.size w _ os _ rfl rfl rfl rfl (by exact HOW.out) (by omega) hsz HBEL.out ?_; intro v1 w1 hown1 hbel1 hsz1 _)
        go_roundw
        case rel => exact ⟨i + 1, true, _, by omega, rfl, by go_num, hown1, hsz1, hbel1, Lib.hid (by rw [HZ.out]; exact HP.out.next hlt)⟩
        case measure => simp [intOf]; omega
      | false =>
        by_cases hgt : z > v
        · have cne : ∀ W : World, Below wr.heap.size wr W → W.cell? ⟨b, off + i, none⟩ = some (.int .i64 z) := fun W hb => (hb.cell (p := ⟨b, off + i, none⟩) (lt_of_cell hc)).trans hc
          have hblt : b < w.heap.size := by
            obtain ⟨b', o', e, c'⟩ := HI.out.cells i hlt
            cases e; exact lt_of_cell c'
          go_upto_region 8 with (at_builtin; refine wpList_app1 _ rfl _ _ rfl w.heap.size w _ os _ rfl rfl rfl rfl (by exact HOW.out) (by omega) hsz HBEL.out ?_; intro v1 w1 hown1 hbel1 hsz1 _)
          have hc1 : w1.cell? ⟨b, off + i, none⟩ = some (.int .i64 z) := by
            obtain ⟨b', o', e, c'⟩ := HI.out.cells i hlt
            cases e
            rw [(hbel1.cell (p := ⟨b, off + i, none⟩) hblt), HZ.out]; exact c'
          have HO1 := Lib.hid hown1
          have HB1 := Lib.hid hbel1
          clear hown1 hbel1 hc cne
          go_wp2_with (at_builtin; refine wpList_app1 _ rfl _ _ rfl w.heap.size w _ (os ++ [v]) _ rfl rfl rfl rfl (by exact HO1.out) (by simp; omega) hsz1 HB1.out ?_; intro v2 w2 hown2 hbel2 hsz2 _)
          go_roundw
          case rel => exact ⟨i + 1, true, _, by omega, rfl, by go_num, hown2, hsz2, hbel2, Lib.hid (by rw [HZ.out]; exact HP.out.here.next hlt)⟩
          case measure => simp [intOf]; omega
        · go_wp2_with (at_builtin; refine wpList_app1 _ rfl _ _ rfl w.heap.size w _ os _ rfl rfl rfl rfl (by exact HOW.out) (by omega) hsz HBEL.out ?_; intro v1 w1 hown1 hbel1 hsz1 _)
          go_roundw
          case rel => exact ⟨i + 1, false, _, by omega, rfl, by go_num, hown1, hsz1, hbel1, Lib.hid (by rw [HZ.out]; exact HP.out.next hlt)⟩
          case measure => simp [intOf]; omega
    · have he : i = zs.length := by omega
      have hiz : ¬ (i : Int) < zs.length := by omega
      have HOW := Lib.hid hown
      have HBEL := Lib.hid hbel
      have HE := Lib.hid he
      clear hown hbel he
      cases d with
      | true =>
        have HF := HFIN.out os (by rw [← HE.out]; exact HP.out)
        go_wp2_with fail
        go_ret
        exact ⟨_, rfl, os, HOW.out, HF.1, HF.2, HBEL.out⟩
      | false =>
        have HF := Lib.hid (HFIN.out (os ++ [v]) (by rw [← HE.out]; exact HP.out.here))
        go_wp2_with (at_builtin; refine wpList_app1 _ rfl _ _ rfl w.heap.size w _ os _ rfl rfl rfl rfl (by exact HOW.out) (by omega) hsz HBEL.out ?_; intro v1 w1 hown1 hbel1 hsz1 _)
        go_ret
        exact ⟨_, rfl, _, hown1, HF.out.1, HF.out.2, hbel1⟩
theorem mem_take_succ {zs : List Int} {i : Nat} (hi : i < zs.length) (x : Int) : x ∈ zs.take (i + 1) ↔ x ∈ zs.take i ∨ x = at0 zs i := by
  rw [List.take_succ_eq_append_getElem hi, List.mem_append, at0_eq hi, List.mem_singleton]
set_option maxRecDepth 100000 in
set_option maxHeartbeats 2000000 in
theorem of03_any (a : Option Addr) (c : Nat) (zs : List Int) (w : World) (hl : zs.length ≤ 900000) (h : IntsAt w a zs) :
    Calls Tryz.prog 111 #[.slice a zs.length c] w fun y w' => ∃ u os, y = .returned u ∧ OwnI w' w.heap.size u os ∧ (∀ x, x ∈ os ↔ x ∈ zs) ∧ os.length ≤ zs.length ∧ Below w.heap.size w w' := by
  have HI := Lib.hid h
  clear h
  go_enter Tryz.func111, Tryz.ntmps111
  go_wp2_with fail
  go_loopw [3, 4] (fun s3 s4 wr => ∃ (i : Nat) (os : List Int), i ≤ zs.length ∧ s4 = .int .i64 i ∧ OwnI wr w.heap.size s3 os ∧ w.heap.size ≤ wr.heap.size ∧ Below w.heap.size w wr ∧ os.length ≤ i ∧ Hid (∀ x, x ∈ os ↔ x ∈ zs.take i)) (fun _ s4 _ => zs.length - (intOf s4).toNat)
  case atStart => exact ⟨0, [], Nat.zero_le _, rfl, ownI_new w _ (Nat.le_refl _), by simp, below_new1 w _, by simp, Lib.hid fun x => by simp⟩
  case round =>
    obtain ⟨i, os, hi, rfl, hown, hsz, hbel, hol, HP⟩ := hrel
    by_cases hlt : i < zs.length
    · obtain ⟨b, off, rfl, hc⟩ := (HI.out.below hbel).cells i hlt
      have hiz : (i : Int) < zs.length := by omega
      obtain ⟨z, hz⟩ : ∃ z, z = at0 zs i := ⟨_, rfl⟩
      rw [← hz] at hc
      obtain ⟨ao, co, rfl, hoi, hon⟩ := hown.sliceIs (by omega)
      have HHAS := Lib.hid (has03_any ao co os z wr (by omega) hoi)
      have HPUT := Lib.hid (put03_any ao co os z wr (by omega) hoi)
      have HOW := Lib.hid hown
      have HBEL := Lib.hid hbel
      have HT := Lib.hid (mem_take_succ hlt)
      have HZ := Lib.hid hz
      clear hown hbel hz hoi
      by_cases hm : z ∈ os
      · have hb : decide (z ∈ os) = true := by simp [hm]
        rw [hb] at HHAS
        have HM2 : Hid (∀ x, x ∈ os ↔ x ∈ zs.take (i + 1)) := Lib.hid fun x => by
          rw [HT.out x, ← HZ.out]
          constructor
          · intro h; exact .inl ((HP.out x).1 h)
          · rintro (h | rfl)
            · exact (HP.out x).2 h
            · exact hm
        clear hm hb HPUT
        go_wp2_with fail
        refine HHAS.out.mono ?_
        rintro y w' ⟨rfl, rfl⟩
        go_wp2_with fail
        go_roundw
        case rel => exact ⟨i + 1, os, by omega, by go_num, HOW.out, hsz, HBEL.out, by omega, HM2⟩
        case measure => simp [intOf]; omega
      · have hb : decide (z ∈ os) = false := by simp [hm]
        rw [hb] at HHAS
        clear hm hb
        go_wp2_with fail
        refine HHAS.out.mono ?_
        rintro y w' ⟨rfl, rfl⟩
        go_wp2_with fail
        refine HPUT.out.mono ?_
        rintro y w2 ⟨u, os2, rfl, hown2, hmem2, hlen2, hb2⟩
        have HM2 : Hid (∀ x, x ∈ os2 ↔ x ∈ zs.take (i + 1)) := Lib.hid fun x => by
          rw [hmem2 x, HT.out x, ← HZ.out, HP.out x]
        have HO2 : Hid (OwnI w2 w.heap.size u os2) := Lib.hid (hown2.lower hsz)
        have HB2 := Lib.hid (HBEL.out.trans (hb2.mono hsz))
        have hs2 : w.heap.size ≤ w2.heap.size := Nat.le_trans hsz hb2.size
        clear hown2 hmem2 hb2
        go_wp2_with fail
        go_roundw
        case rel => exact ⟨i + 1, os2, by omega, by go_num, HO2.out, hs2, HB2.out, by omega, HM2⟩
        case measure => simp [intOf]; omega
    · have he : i = zs.length := by omega
      have hiz : ¬ (i : Int) < zs.length := by omega
      have HOW := Lib.hid hown
      have HBEL := Lib.hid hbel
      have HM : Hid (∀ x, x ∈ os ↔ x ∈ zs) := Lib.hid fun x => by have := HP.out x; rw [he, List.take_length] at this; exact this
      have hol2 : os.length ≤ zs.length := by omega
      clear hown hbel he
      go_wp2_with fail
      go_ret
      exact ⟨_, rfl, os, HOW.out, HM.out, hol2, HBEL.out⟩
/-- An expression's value has three one-cell parts. -/
theorem ExprAt.agg {w : World} {e : ExT} {x : Value} (h : ExprAt w e x) : ∃ x0 x1 x2, x = .agg #[x0, x1, x2] ∧ x0.cells = #[x0] ∧ x1.cells = #[x1] ∧ x2.cells = #[x2] := by
  cases e with
  | nil => unfold ExprAt at h; exact h.elim
  | mk op v n kid =>
    unfold ExprAt at h
    obtain ⟨a, c, rfl, _⟩ := h
    exact ⟨_, _, _, rfl, rfl, rfl, rfl⟩
set_option maxRecDepth 100000 in
set_option maxHeartbeats 2000000 in
/-- Vars of an expression. -/
theorem vars06Top_any (e : ExT) (x : Value) (w : World) (hs : e.size ≤ 4096) (h : ExprAt w e x) :
    Calls Tryz.prog 74 #[x] w fun y w' => ∃ u os, y = .returned u ∧ SliceIs w' u os ∧ os.length ≤ 4096 ∧ (okT e 1 → ∀ v ∈ varsT e, v ∈ os) ∧ Below w.heap.size w w' := by
  have HC : Hid (∀ W, Below w.heap.size w W → ∀ u, u = x → Calls Tryz.prog 73 #[u] W fun y w' => ∃ err : Int, y = .returned (.int .i64 err) ∧ (err = 0 ↔ okT e 1) ∧ Below W.heap.size W w') := Lib.hid fun W hb u hu => by subst hu; exact check06_any e _ W hs (h.below hb)
  have HV : Hid (∀ W, Below w.heap.size w W → ∀ u, u = x → Calls Tryz.prog 112 #[u] W fun y w' => ∃ u, y = .returned u ∧ OwnI w' W.heap.size u (varsT e) ∧ Below W.heap.size W w') := Lib.hid fun W hb u hu => by subst hu; exact vars06_any e _ W hs (h.below hb)
  have hvl := varsT_len e
  obtain ⟨x0, x1, x2, hx, o0, o1, o2⟩ := h.agg
  subst hx
  obtain ⟨w1, hw1⟩ : ∃ w1, w1 = w.alloc (.cells #[x0, x1, x2] 39) := ⟨_, rfl⟩
  have HW1 : Hid (_ = w1) := Lib.hid hw1.symm
  have HB1 : Hid (Below w.heap.size w w1) := by rw [hw1]; exact Lib.hid (below_new1 _ _)
  have hblk : w1.heap[w.heap.size]? = some (.cells #[x0, x1, x2] 39 (0, 0)) := by rw [hw1]; exact heap_alloc_new _ _
  have d0 : w1.cell? ⟨w.heap.size, 0, none⟩ = some x0 := by rw [cell_of_row _ _ 0 _ _ _ hblk]; rfl
  have d1 : w1.cell? ⟨w.heap.size, 1, none⟩ = some x1 := by rw [cell_of_row _ _ 1 _ _ _ hblk]; rfl
  have d2 : w1.cell? ⟨w.heap.size, 2, none⟩ = some x2 := by rw [cell_of_row _ _ 2 _ _ _ hblk]; rfl
  clear h hw1 hblk
  go_enter Tryz.func74, Tryz.ntmps74
  go_upto_region 1 with fail
  rw [HW1.out]
  go_wp2_with fail
  refine (HC.out _ HB1.out _ rfl).mono ?_
  rintro y w2 ⟨err, rfl, hiff, hb2⟩
  have HB2 := Lib.hid (HB1.out.trans (hb2.mono HB1.out.size))
  have HIF := Lib.hid hiff
  have e0 := (hb2.cell (p := ⟨w.heap.size, 0, none⟩) (lt_of_cell d0)).trans d0
  have e1 := (hb2.cell (p := ⟨w.heap.size, 1, none⟩) (lt_of_cell d1)).trans d1
  have e2 := (hb2.cell (p := ⟨w.heap.size, 2, none⟩) (lt_of_cell d2)).trans d2
  clear hb2 hiff d0 d1 d2
  by_cases he : err = 0
  · subst he
    go_wp2_with fail
    refine (HV.out _ HB2.out _ rfl).mono ?_
    rintro y w3 ⟨u, rfl, hu, hb3⟩
    obtain ⟨au, cu, rfl, hua, hun⟩ := hu.sliceIs (by omega)
    have HO := Lib.hid (of03_any au cu (varsT e) w3 (by omega) hua)
    have HB3 := Lib.hid (HB2.out.trans (hb3.mono HB2.out.size))
    clear hu hua hb3 e0 e1 e2
    go_wp2_with fail
    refine HO.out.mono ?_
    rintro y w4 ⟨u4, os, rfl, hown, hmem, hlen, hb4⟩
    have HF : Hid (∃ u os, Ending.returned u4 = .returned u ∧ SliceIs w4 u os ∧ os.length ≤ 4096 ∧ (okT e 1 → ∀ v ∈ varsT e, v ∈ os) ∧ Below w.heap.size w w4) := Lib.hid ⟨u4, os, rfl, hown.sliceIs (by omega), by omega, fun _ v hv => (hmem v).2 hv, HB3.out.trans (hb4.mono HB3.out.size)⟩
    clear hown hmem hlen hb4
    go_wp2_with fail
    go_ret
    exact HF.out
  · have hne : (err != 0) = true := by simpa using he
    have HF : Hid (∃ u os, Ending.returned (.slice none 0 0) = .returned u ∧ SliceIs w2 u os ∧ os.length ≤ 4096 ∧ (okT e 1 → ∀ v ∈ varsT e, v ∈ os) ∧ Below w.heap.size w w2) := Lib.hid ⟨_, [], rfl, sliceIs_nil w2, by simp, fun h => (he (HIF.out.2 h)).elim, HB2.out⟩
    clear he e0 e1 e2
    go_wp2_with fail
    go_ret
    exact HF.out
end Go.Proofs.YtchliiaknmknhaaGreat

-- Plan13
namespace Go.Proofs.YtchliiaknmknhaaGreat
open Go.RowKit

/-- A row of events that came in. -/
structure EvsAt (w : World) (a : Option Addr) (l : List Ev) : Prop where
  len : l.length ≤ 9223372036854775807
  cells : ∀ k, ∀ hk : k < l.length, ∃ b off, a = some ⟨b, off, none⟩ ∧ w.cell? ⟨b, off + k * 3, none⟩ = some (.int .i64 l[k].after) ∧ w.cell? ⟨b, off + k * 3 + 1, none⟩ = some (.int .i64 l[k].kind) ∧ w.cell? ⟨b, off + k * 3 + 2, none⟩ = some (.int .i64 l[k].level)
theorem EvsAt.below {w w' : World} {a : Option Addr} {l : List Ev} (h : EvsAt w a l) (hb : Below w.heap.size w w') : EvsAt w' a l :=
  ⟨h.len, fun k hk => by
    obtain ⟨b, off, e, c0, c1, c2⟩ := h.cells k hk
    exact ⟨b, off, e, (hb.cell (p := ⟨b, off + k * 3, none⟩) (lt_of_cell c0)).trans c0, (hb.cell (p := ⟨b, off + k * 3 + 1, none⟩) (lt_of_cell c1)).trans c1, (hb.cell (p := ⟨b, off + k * 3 + 2, none⟩) (lt_of_cell c2)).trans c2⟩⟩
def evCode (vars : Int) (e : Ev) : Int := if e.kind < 1 ∨ e.kind > 3 then 11 else if e.after < 1 ∨ (e.kind = 2 ∧ (e.level < 0 ∨ e.level > vars - 2)) then 2 else 0
def planL (vars : Int) : List Ev → Int
  | [] => 0
  | e :: r => if evCode vars e = 0 then planL vars r else evCode vars e
def planR (vars waits : Int) (l : List Ev) : Int := if (l.length : Int) > 256 - waits then 18 else planL vars l
theorem planL_drop {vars : Int} {l : List Ev} {i : Nat} (hi : i < l.length) : planL vars (l.drop i) = if evCode vars l[i] = 0 then planL vars (l.drop (i + 1)) else evCode vars l[i] := by
  rw [List.drop_eq_getElem_cons hi]; rfl
set_option maxRecDepth 100000 in
set_option maxHeartbeats 4000000 in
theorem plan13_any (vars waits : Int) (hv : 0 ≤ vars ∧ vars ≤ 1000) (hw : 0 ≤ waits ∧ waits ≤ 1000) (a : Option Addr) (c : Nat) (l : List Ev) (w : World) (h : EvsAt w a l) :
    Calls Tryz.prog 59 #[.int .i64 vars, .int .i64 waits, .slice a l.length c] w fun y w' => y = .returned (.int .i64 (planR vars waits l)) ∧ w = w' := by
  have HI := Lib.hid h
  have hl := h.len
  clear h
  by_cases hmany : (l.length : Int) > 256 - waits
  · have HR : Hid (planR vars waits l = 18) := Lib.hid (by unfold planR; rw [if_pos hmany])
    go_enter Tryz.func59, Tryz.ntmps59
    go_wp2_with fail
    go_ret
    exact ⟨by rw [HR.out]; rfl, rfl⟩
  have HR : Hid (planR vars waits l = planL vars (l.drop 0)) := Lib.hid (by unfold planR; rw [if_neg hmany]; rfl)
  obtain ⟨P, hP⟩ : ∃ P, P = planR vars waits l := ⟨_, rfl⟩
  rw [← hP] at HR ⊢
  clear hP
  go_enter Tryz.func59, Tryz.ntmps59
  go_wp2_with fail
  go_loopw [7] (fun s7 wr => ∃ i : Nat, i ≤ l.length ∧ s7 = .int .i64 i ∧ w = wr ∧ Hid (P = planL vars (l.drop i))) (fun s7 _ => l.length - (intOf s7).toNat)
  case atStart => exact ⟨0, Nat.zero_le _, rfl, rfl, HR⟩
  case round =>
    clear HR
    obtain ⟨i, hi, rfl, rfl, HP⟩ := hrel
    by_cases hlt : i < l.length
    · obtain ⟨b, off, rfl, c0, c1, c2⟩ := HI.out.cells i hlt
      have hiz : (i : Int) < l.length := by omega
      have HC : Hid (∀ z : Int, evCode vars l[i] = z → z ≠ 0 → P = z) := Lib.hid fun z hz h0 => by rw [HP.out, planL_drop hlt, hz, if_neg h0]
      have HN : Hid (evCode vars l[i] = 0 → P = planL vars (l.drop (i + 1))) := Lib.hid fun hz => by rw [HP.out, planL_drop hlt, hz, if_pos rfl]
      have HE : Hid (evCode vars l[i] = if l[i].kind < 1 ∨ l[i].kind > 3 then 11 else if l[i].after < 1 ∨ (l[i].kind = 2 ∧ (l[i].level < 0 ∨ l[i].level > vars - 2)) then 2 else 0) := Lib.hid rfl
      obtain ⟨ev, hev⟩ : ∃ ev, ev = l[i] := ⟨_, rfl⟩
      rw [← hev] at c0 c1 c2 HC HN HE
      obtain ⟨af, ki, le⟩ := ev
      dsimp only at c0 c1 c2 HE
      clear hev HP
      have hki : ki < 1 ∨ ki > 3 ∨ (ki = 2) ∨ (ki = 1 ∨ ki = 3) := by omega
      rcases hki with hk | hk | hk | hk
      · have HPP := Lib.hid (HC.out 11 (by rw [HE.out, if_pos (.inl hk)]) (by decide))
        go_wp2_with fail
        go_ret
        exact ⟨by rw [HPP.out]; rfl, rfl⟩
      · have HPP := Lib.hid (HC.out 11 (by rw [HE.out, if_pos (.inr hk)]) (by decide))
        have hk1 : ¬ ki < 1 := by omega
        go_wp2_with fail
        go_ret
        exact ⟨by rw [HPP.out]; rfl, rfl⟩
      · by_cases ha : af < 1
        · have HPP := Lib.hid (HC.out 2 (by rw [HE.out, if_neg (by omega), if_pos (.inl ha)]) (by decide))
          subst hk
          go_wp2_with fail
          go_ret
          exact ⟨by rw [HPP.out]; rfl, rfl⟩
        · by_cases hl0 : le < 0
          · have HPP := Lib.hid (HC.out 2 (by rw [HE.out, if_neg (by omega), if_pos (.inr ⟨hk, .inl hl0⟩)]) (by decide))
            subst hk
            go_wp2_with fail
            go_ret
            exact ⟨by rw [HPP.out]; rfl, rfl⟩
          · by_cases hl1 : le > vars - 2
            · have HPP := Lib.hid (HC.out 2 (by rw [HE.out, if_neg (by omega), if_pos (.inr ⟨hk, .inr hl1⟩)]) (by decide))
              subst hk
              go_wp2_with fail
              go_ret
              exact ⟨by rw [HPP.out]; rfl, rfl⟩
            · have HPP := Lib.hid (HN.out (by rw [HE.out, if_neg (by omega), if_neg (by omega)]))
              subst hk
              go_wp2_with fail
              go_roundw
              case rel => exact ⟨i + 1, by omega, by go_num, by simp, HPP⟩
              case measure => simp [intOf]; omega
      · have hk1 : ¬ ki < 1 := by omega
        have hk2 : ¬ ki > 3 := by omega
        have hk3 : (ki == 2) = false := by simp; omega
        by_cases ha : af < 1
        · have HPP := Lib.hid (HC.out 2 (by rw [HE.out, if_neg (by omega), if_pos (.inl ha)]) (by decide))
          clear hk
          go_wp2_with fail
          go_ret
          exact ⟨by rw [HPP.out]; rfl, rfl⟩
        · have HPP := Lib.hid (HN.out (by rw [HE.out, if_neg (by omega), if_neg (by omega)]))
          clear hk
          go_wp2_with fail
          go_roundw
          case rel => exact ⟨i + 1, by omega, by go_num, by simp, HPP⟩
          case measure => simp [intOf]; omega
    · have he : i = l.length := by omega
      have hiz : ¬ (i : Int) < l.length := by omega
      have HPP : Hid (P = 0) := Lib.hid (by rw [HP.out, he, List.drop_length]; rfl)
      clear he
      go_wp2_with fail
      go_ret
      exact ⟨by rw [HPP.out]; rfl, rfl⟩
end Go.Proofs.YtchliiaknmknhaaGreat

-- Small
namespace Go.Proofs.YtchliiaknmknhaaGreat
open Go.RowKit

set_option maxRecDepth 100000 in
theorem right_no (a : Option Addr) (c : Nat) (zs : List Int) (n : Int) (w : World) (hz : IntsAt w a zs) (hn : (zs.length : Int) ≠ n) :
    Calls Tryz.prog 55 #[.slice a zs.length c, .int .i64 n] w fun x w' => x = .returned (.bool false) ∧ w = w' := by
  have hl := hz.len
  have hne : (((zs.length : Nat) : Int) == n) = false := by simpa using hn
  clear hz
  go_enter Tryz.func55, Tryz.ntmps55
  go_wp2_with fail
  go_ret
  exact ⟨rfl, rfl⟩
theorem right_all (a : Option Addr) (c : Nat) (zs : List Int) (n : Int) (w : World) (hz : IntsAt w a zs) (hn : n ≤ 1000) :
    Calls Tryz.prog 55 #[.slice a zs.length c, .int .i64 n] w fun x w' => x = .returned (.bool (permB zs n)) ∧ w = w' := by
  by_cases h : (zs.length : Int) = n
  · exact right_any a c zs n w hz (by omega)
  · have : permB zs n = false := by unfold permB; simp [h]
    rw [this]
    exact right_no a c zs n w hz h
theorem ExprAt.parts {w : World} {e : ExT} {x0 x1 x2 : Value} (h : ExprAt w e (.agg #[x0, x1, x2])) : ∃ op v a n c, x0 = .int .i64 op ∧ x1 = .int .i64 v ∧ x2 = .slice a n c := by
  cases e with
  | nil => unfold ExprAt at h; exact h.elim
  | mk op v n kid =>
    unfold ExprAt at h
    obtain ⟨a, c, hx, _⟩ := h
    cases hx
    exact ⟨_, _, _, _, _, rfl, rfl, rfl⟩
/-- A row of expressions. -/
structure ExprsAt (w : World) (a : Option Addr) (l : List ExT) : Prop where
  len : l.length ≤ 9223372036854775807
  cells : ∀ k, ∀ hk : k < l.length, ∃ b off x0 x1 x2, a = some ⟨b, off, none⟩ ∧ w.cell? ⟨b, off + k * 3, none⟩ = some x0 ∧ w.cell? ⟨b, off + k * 3 + 1, none⟩ = some x1 ∧ w.cell? ⟨b, off + k * 3 + 2, none⟩ = some x2 ∧ ExprAt w l[k] (.agg #[x0, x1, x2])
theorem ExprsAt.below {w w' : World} {a : Option Addr} {l : List ExT} (h : ExprsAt w a l) (hb : Below w.heap.size w w') : ExprsAt w' a l :=
  ⟨h.len, fun k hk => by
    obtain ⟨b, off, x0, x1, x2, e, c0, c1, c2, hx⟩ := h.cells k hk
    exact ⟨b, off, x0, x1, x2, e, (hb.cell (p := ⟨b, off + k * 3, none⟩) (lt_of_cell c0)).trans c0, (hb.cell (p := ⟨b, off + k * 3 + 1, none⟩) (lt_of_cell c1)).trans c1, (hb.cell (p := ⟨b, off + k * 3 + 2, none⟩) (lt_of_cell c2)).trans c2, hx.below hb⟩⟩
/-- The law's test case. -/
structure AskD where
  vars : Int
  order : List Int
  es : List ExT
  plan : List Ev
structure AskAt (w : World) (q : AskD) (ao ae ap : Option Addr) : Prop where
  vars : okI q.vars
  order : IntsAt w ao q.order
  es : ExprsAt w ae q.es
  plan : EvsAt w ap q.plan
theorem AskAt.below {w w' : World} {q : AskD} {ao ae ap : Option Addr} (h : AskAt w q ao ae ap) (hb : Below w.heap.size w w') : AskAt w' q ao ae ap := ⟨h.vars, h.order.below hb, h.es.below hb, h.plan.below hb⟩
/-- A small test case. -/
structure SmallP (q : AskD) : Prop where
  lo : 1 ≤ q.vars
  hi : q.vars ≤ 6
  es : q.es.length ≤ 5
  plan : q.plan.length ≤ 6
  order : q.order.length > 0 → permB q.order q.vars = true
  planOk : planR q.vars 0 q.plan = 0
  after : ∀ ev ∈ q.plan, ev.after ≤ 300
  expr : ∀ e ∈ q.es, e.size ≤ 40 ∧ okT e 1 ∧ ∀ v ∈ varsT e, v < q.vars
def askV (q : AskD) (ao ae ap : Option Addr) (co ce cp : Nat) : Value := .agg #[.int .i64 q.vars, .slice ao q.order.length co, .slice ae q.es.length ce, .slice ap q.plan.length cp]
set_option maxRecDepth 100000 in
set_option maxHeartbeats 4000000 in
theorem small_any (q : AskD) (ao ae ap : Option Addr) (co ce cp : Nat) (w : World) (h : AskAt w q ao ae ap) :
    Calls Tryz.prog 12 #[askV q ao ae ap co ce cp] w fun y w' => ∃ b, y = .returned (.bool b) ∧ (b = true → SmallP q) ∧ Below w.heap.size w w' := by
  obtain ⟨vars, order, es, plan⟩ := q
  obtain ⟨hv, ho, he, hp⟩ := h
  dsimp only [askV] at hv ho he hp ⊢
  unfold okI at hv
  have hol := ho.len
  have hel := he.len
  have hpl := hp.len
  have HO := Lib.hid ho
  have HE := Lib.hid he
  have HP := Lib.hid hp
  obtain ⟨w1, hw1⟩ : ∃ w1, w1 = w.alloc (.cells #[.int .i64 vars, .slice ao order.length co, .slice ae es.length ce, .slice ap plan.length cp] 26) := ⟨_, rfl⟩
  have HW1 : Hid (_ = w1) := Lib.hid hw1.symm
  have HB1 : Hid (Below w.heap.size w w1) := by rw [hw1]; exact Lib.hid (below_new1 _ _)
  have hblk : w1.heap[w.heap.size]? = some (.cells #[.int .i64 vars, .slice ao order.length co, .slice ae es.length ce, .slice ap plan.length cp] 26 (0, 0)) := by rw [hw1]; exact heap_alloc_new _ _
  have d0 : w1.cell? ⟨w.heap.size, 0, none⟩ = some (.int .i64 vars) := by rw [cell_of_row _ _ 0 _ _ _ hblk]; rfl
  have d1 : w1.cell? ⟨w.heap.size, 1, none⟩ = some (.slice ao order.length co) := by rw [cell_of_row _ _ 1 _ _ _ hblk]; rfl
  have d2 : w1.cell? ⟨w.heap.size, 2, none⟩ = some (.slice ae es.length ce) := by rw [cell_of_row _ _ 2 _ _ _ hblk]; rfl
  have d3 : w1.cell? ⟨w.heap.size, 3, none⟩ = some (.slice ap plan.length cp) := by rw [cell_of_row _ _ 3 _ _ _ hblk]; rfl
  have hs1 : w1.heap.size = w.heap.size + 1 := by rw [hw1]; simp
  have HRT : Hid (vars ≤ 6 → Calls Tryz.prog 55 #[.slice ao order.length co, .int .i64 vars] w1 fun x w' => x = .returned (.bool (permB order vars)) ∧ w1 = w') := Lib.hid fun hh => right_all ao co order vars w1 (HO.out.below HB1.out) (by omega)
  have HPL : Hid (0 ≤ vars → vars ≤ 6 → Calls Tryz.prog 59 #[.int .i64 vars, .int .i64 0, .slice ap plan.length cp] w1 fun x w' => x = .returned (.int .i64 (planR vars 0 plan)) ∧ w1 = w') := Lib.hid fun h1 h2 => plan13_any vars 0 ⟨h1, by omega⟩ ⟨by omega, by omega⟩ ap cp plan w1 (HP.out.below HB1.out)
  obtain ⟨P, hP⟩ : ∃ P : Ending → World → Prop, P = fun y w' => ∃ b, y = .returned (.bool b) ∧ (b = true → SmallP ⟨vars, order, es, plan⟩) ∧ Below w.heap.size w w' := ⟨_, rfl⟩
  have HNO : Hid (∀ W, Below w1.heap.size w1 W → P (.returned (.bool false)) W) := by rw [hP]; exact Lib.hid fun W hb => ⟨false, rfl, by simp, HB1.out.trans (hb.mono HB1.out.size)⟩
  have HYES : Hid (SmallP ⟨vars, order, es, plan⟩ → ∀ W, Below w1.heap.size w1 W → P (.returned (.bool true)) W) := by rw [hP]; exact Lib.hid fun hq W hb => ⟨true, rfl, fun _ => hq, HB1.out.trans (hb.mono HB1.out.size)⟩
  rw [← hP]
  clear ho he hp hw1 hblk hP
  go_enter Tryz.func12, Tryz.ntmps12
  go_upto_region 1 with fail
  rw [HW1.out]
  go_cut [50] (fun s50 wx => ∃ bad : Bool, s50 = .bool bad ∧ wx = w1 ∧ Hid (bad = false → 1 ≤ vars ∧ vars ≤ 6 ∧ es.length ≤ 5 ∧ plan.length ≤ 6 ∧ (order.length > 0 → permB order vars = true) ∧ planR vars 0 plan = 0))
  case first =>
    by_cases h1 : vars < 1
    · go_wp2_with fail
      go_meet
      case rel => exact ⟨true, rfl, rfl, Lib.hid (by simp)⟩
    by_cases h2 : vars > 6
    · go_wp2_with fail
      go_meet
      case rel => exact ⟨true, rfl, rfl, Lib.hid (by simp)⟩
    by_cases h3 : (es.length : Int) > 5
    · go_wp2_with fail
      go_meet
      case rel => exact ⟨true, rfl, rfl, Lib.hid (by simp)⟩
    by_cases h4 : (plan.length : Int) > 6
    · go_wp2_with fail
      go_meet
      case rel => exact ⟨true, rfl, rfl, Lib.hid (by simp)⟩
    have HPL := Lib.hid (HPL.out (by omega) (by omega))
    have HRT := Lib.hid (HRT.out (by omega))
    obtain ⟨pr, hpr⟩ : ∃ pr, pr = planR vars 0 plan := ⟨_, rfl⟩
    rw [← hpr] at HPL
    have HPR := Lib.hid hpr
    clear hpr
    by_cases h5 : (order.length : Int) > 0
    · obtain ⟨rb, hrb⟩ : ∃ rb, rb = permB order vars := ⟨_, rfl⟩
      rw [← hrb] at HRT
      have HRB := Lib.hid hrb
      clear hrb
      cases rb with
      | false =>
        go_wp2_with fail
        refine HRT.out.mono ?_
        rintro y w' ⟨rfl, rfl⟩
        go_wp2_with fail
        go_meet
        case rel => exact ⟨true, rfl, rfl, Lib.hid (by simp)⟩
      | true =>
        go_wp2_with fail
        refine HRT.out.mono ?_
        rintro y w' ⟨rfl, rfl⟩
        go_wp2_with fail
        refine HPL.out.mono ?_
        rintro y w' ⟨rfl, rfl⟩
        by_cases h6 : pr = 0
        · have HOK : Hid (1 ≤ vars ∧ vars ≤ 6 ∧ es.length ≤ 5 ∧ plan.length ≤ 6 ∧ (order.length > 0 → permB order vars = true) ∧ planR vars 0 plan = 0) := Lib.hid ⟨by omega, by omega, by omega, by omega, fun _ => HRB.out.symm, by rw [← HPR.out, h6]⟩
          subst h6
          go_wp2_with fail
          go_meet
          case rel => exact ⟨false, rfl, rfl, Lib.hid fun _ => HOK.out⟩
        · have h6' : (pr != 0) = true := by simpa using h6
          clear h6
          go_wp2_with fail
          go_meet
          case rel => exact ⟨true, rfl, rfl, Lib.hid (by simp)⟩
    · go_wp2_with fail
      refine HPL.out.mono ?_
      rintro y w' ⟨rfl, rfl⟩
      by_cases h6 : pr = 0
      · have HOK : Hid (1 ≤ vars ∧ vars ≤ 6 ∧ es.length ≤ 5 ∧ plan.length ≤ 6 ∧ (order.length > 0 → permB order vars = true) ∧ planR vars 0 plan = 0) := Lib.hid ⟨by omega, by omega, by omega, by omega, fun _ => by omega, by rw [← HPR.out, h6]⟩
        subst h6
        go_wp2_with fail
        go_meet
        case rel => exact ⟨false, rfl, rfl, Lib.hid fun _ => HOK.out⟩
      · have h6' : (pr != 0) = true := by simpa using h6
        clear h6
        go_wp2_with fail
        go_meet
        case rel => exact ⟨true, rfl, rfl, Lib.hid (by simp)⟩
  case rest =>
    obtain ⟨bad, rfl, rfl, HBAD⟩ := hcut
    clear HRT HPL
    cases bad with
    | true =>
      go_wp2_with fail
      exact HNO.out _ (Below.refl _ _)
    | false =>
      obtain ⟨g1, g2, g3, g4, g5, g6⟩ := HBAD.out rfl
      have HG5 := Lib.hid g5
      have HG6 := Lib.hid g6
      clear g5 g6 HBAD
      go_upto_region 3 with fail
      go_wp2_with fail
      go_loopw [4, 54] (fun s4 s54 wr => ∃ k : Nat, k ≤ plan.length ∧ s54 = .int .i64 k ∧ Below wc.heap.size wc wr ∧ Hid (∀ ev ∈ plan.take k, ev.after ≤ 300)) (fun _ s54 _ => plan.length - (intOf s54).toNat)
      case atStart => exact ⟨0, Nat.zero_le _, rfl, Below.refl _ _, Lib.hid fun ev he => by simp at he⟩
      case round =>
        obtain ⟨k, hk, rfl, hbel, HA⟩ := hrel
        by_cases hlt : k < plan.length
        · obtain ⟨b, off, rfl, c0, c1, c2⟩ := ((HP.out.below HB1.out).below hbel).cells k hlt
          have hkz : (k : Int) < plan.length := by omega
          have HBEL := Lib.hid hbel
          have HTK : Hid (∀ ev ∈ plan.take (k + 1), ev ∈ plan.take k ∨ ev = plan[k]) := Lib.hid fun ev he => by
            rw [List.take_succ_eq_append_getElem hlt, List.mem_append, List.mem_singleton] at he
            exact he
          obtain ⟨ev, hev⟩ : ∃ ev, ev = plan[k] := ⟨_, rfl⟩
          rw [← hev] at c0 c1 c2 HTK
          obtain ⟨af, ki, le⟩ := ev
          dsimp only at c0 c1 c2
          clear hev hbel
          by_cases haf : af > 300
          · have HF := Lib.hid (HNO.out _ (HBEL.out.trans ((below_new1 wr (.cells #[.int .i64 af, .int .i64 ki, .int .i64 le] 94)).mono HBEL.out.size)))
            go_wp2_with fail
            exact HF.out
          · have HF := Lib.hid (HBEL.out.trans ((below_new1 wr (.cells #[.int .i64 af, .int .i64 ki, .int .i64 le] 94)).mono HBEL.out.size))
            have HA2 : Hid (∀ ev ∈ plan.take (k + 1), ev.after ≤ 300) := Lib.hid fun ev he => by
              rcases HTK.out ev he with h | rfl
              · exact HA.out ev h
              · dsimp only; omega
            go_wp2_with fail
            go_roundw
            case rel => exact ⟨k + 1, by omega, by go_num, HF.out, HA2⟩
            case measure => simp [intOf]; omega
        · have HAF : Hid (∀ ev ∈ plan, ev.after ≤ 300) := Lib.hid fun ev hev => HA.out ev (by rw [List.take_of_length_le (by omega)]; exact hev)
          have hkz : ¬ (k : Int) < plan.length := by omega
          have d0' := (hbel.cell (p := ⟨w.heap.size, 0, none⟩) (lt_of_cell d0)).trans d0
          have d2' := (hbel.cell (p := ⟨w.heap.size, 2, none⟩) (lt_of_cell d2)).trans d2
          have HBEL := Lib.hid hbel
          obtain ⟨wA, hwA⟩ : ∃ wA, wA = wr := ⟨_, rfl⟩
          clear hbel
          go_wp2_with fail
          go_loopw [6, 8, 65] (fun s6 s8 s65 wx => ∃ k : Nat, k ≤ es.length ∧ s65 = .int .i64 k ∧ Below wc.heap.size wc wx ∧ Hid (∀ e ∈ es.take k, e.size ≤ 40 ∧ okT e 1 ∧ ∀ v ∈ varsT e, v < vars)) (fun _ _ s65 _ => es.length - (intOf s65).toNat)
          case atStart => exact ⟨0, Nat.zero_le _, rfl, HBEL.out, Lib.hid fun ev he => by simp at he⟩
          case round =>
            rename World => wy
            obtain ⟨j, hj, rfl, hbx, HB⟩ := hrel
            by_cases hlt : j < es.length
            · obtain ⟨b, off, x0, x1, x2, rfl, c0, c1, c2, hx⟩ := ((HE.out.below HB1.out).below hbx).cells j hlt
              have hjz : (j : Int) < es.length := by omega
              have HBX := Lib.hid hbx
              have HTK : Hid (∀ e ∈ es.take (j + 1), e ∈ es.take j ∨ e = es[j]) := Lib.hid fun e he => by
                rw [List.take_succ_eq_append_getElem hlt, List.mem_append, List.mem_singleton] at he
                exact he
              have hd0 := (hbx.cell (p := ⟨w.heap.size, 0, none⟩) (lt_of_cell d0)).trans d0
              obtain ⟨e, hev⟩ : ∃ e, e = es[j] := ⟨_, rfl⟩
              rw [← hev] at hx HTK
              have HX := Lib.hid hx
              obtain ⟨zo, zv, za, zn, zc, rfl, rfl, rfl⟩ := hx.parts
              clear hev hbx hx
              go_upto_region 12 with fail
              obtain ⟨wz, hwz⟩ : ∃ wz, wz = wy.alloc (.cells #[.int .i64 zo, .int .i64 zv, .slice za zn zc] 39) := ⟨_, rfl⟩
              have hbz : Below wy.heap.size wy wz := by rw [hwz]; exact below_new1 _ _
              have hblk : wz.heap[wy.heap.size]? = some (.cells #[.int .i64 zo, .int .i64 zv, .slice za zn zc] 39 (0, 0)) := by rw [hwz]; exact heap_alloc_new _ _
              have k0 : wz.cell? ⟨wy.heap.size, 0, none⟩ = some (.int .i64 zo) := by rw [cell_of_row _ _ 0 _ _ _ hblk]; rfl
              have k1 : wz.cell? ⟨wy.heap.size, 1, none⟩ = some (.int .i64 zv) := by rw [cell_of_row _ _ 1 _ _ _ hblk]; rfl
              have k2 : wz.cell? ⟨wy.heap.size, 2, none⟩ = some (.slice za zn zc) := by rw [cell_of_row _ _ 2 _ _ _ hblk]; rfl
              have kd := (hbz.cell (p := ⟨w.heap.size, 0, none⟩) (lt_of_cell hd0)).trans hd0
              have HXZ := Lib.hid (HX.out.below hbz)
              have HBZ := Lib.hid (HBX.out.trans (hbz.mono HBX.out.size))
              rw [← hwz]
              clear hwz hbz hblk c0 c1 c2 hd0
              go_wp2_with fail
              refine (parts_any e _ 40 _ (by omega) HXZ.out).mono ?_
              rintro y wp ⟨⟨r, rfl, _, _, hr3⟩, hbp⟩
              have HBP := Lib.hid (HBZ.out.trans (hbp.mono HBZ.out.size))
              have HXP := Lib.hid (HXZ.out.below hbp)
              have m0 := (hbp.cell (p := ⟨wy.heap.size, 0, none⟩) (lt_of_cell k0)).trans k0
              have m1 := (hbp.cell (p := ⟨wy.heap.size, 1, none⟩) (lt_of_cell k1)).trans k1
              have m2 := (hbp.cell (p := ⟨wy.heap.size, 2, none⟩) (lt_of_cell k2)).trans k2
              have md := (hbp.cell (p := ⟨w.heap.size, 0, none⟩) (lt_of_cell kd)).trans kd
              clear hbp k0 k1 k2 kd
              by_cases hr : (r : Int) > 40
              · have HF := Lib.hid (HNO.out _ HBP.out)
                go_wp2_with fail
                exact HF.out
              have hsz40 : e.size ≤ 40 := by have := hr3 (by omega); omega
              clear hr3
              go_wp2_with fail
              refine (check06_any e _ _ (by omega) HXP.out).mono ?_
              rintro y wq ⟨err, rfl, hiff, hbq⟩
              have HBQ := Lib.hid (HBP.out.trans (hbq.mono HBP.out.size))
              have HXQ := Lib.hid (HXP.out.below hbq)
              have n0 := (hbq.cell (p := ⟨wy.heap.size, 0, none⟩) (lt_of_cell m0)).trans m0
              have n1 := (hbq.cell (p := ⟨wy.heap.size, 1, none⟩) (lt_of_cell m1)).trans m1
              have n2 := (hbq.cell (p := ⟨wy.heap.size, 2, none⟩) (lt_of_cell m2)).trans m2
              have nd := (hbq.cell (p := ⟨w.heap.size, 0, none⟩) (lt_of_cell md)).trans md
              have HIF := Lib.hid hiff
              clear hbq m0 m1 m2 md hiff
              by_cases her : err = 0
              · have HOK := Lib.hid (HIF.out.1 her)
                subst her
                go_wp2_with fail
                refine (vars06Top_any e _ _ (by omega) HXQ.out).mono ?_
                rintro y ws ⟨u, os, rfl, hsl, hosl, hmem, hbs⟩
                obtain ⟨au, cu, rfl, hiu, hnu⟩ := hsl
                have HBS := Lib.hid (HBQ.out.trans (hbs.mono HBQ.out.size))
                have pd := (hbs.cell (p := ⟨w.heap.size, 0, none⟩) (lt_of_cell nd)).trans nd
                have HIU := Lib.hid hiu
                have HMEM := Lib.hid (hmem HOK.out)
                clear hbs n0 n1 n2 nd hiu hmem HX HXZ HXP HXQ
                go_wp2_with fail
                go_loopw [8, 80] (fun s8 s80 wt => ∃ i : Nat, i ≤ os.length ∧ s80 = .int .i64 i ∧ wt = ws ∧ Hid (∀ v ∈ os.take i, v < vars)) (fun _ s80 _ => os.length - (intOf s80).toNat)
                case atStart => exact ⟨0, Nat.zero_le _, rfl, rfl, Lib.hid fun v hv => by simp at hv⟩
                case round =>
                  obtain ⟨i, hi, rfl, rfl, HVS⟩ := hrel
                  by_cases hlt2 : i < os.length
                  · obtain ⟨b2, of2, rfl, cc⟩ := HIU.out.cells i hlt2
                    have hiz : (i : Int) < os.length := by omega
                    have HT2 := Lib.hid (mem_take_succ hlt2)
                    obtain ⟨z, hz⟩ : ∃ z, z = at0 os i := ⟨_, rfl⟩
                    rw [← hz] at cc HT2
                    clear hz
                    by_cases hzv : z ≥ vars
                    · have HF := Lib.hid (HNO.out _ HBS.out)
                      go_wp2_with fail
                      exact HF.out
                    · have HV2 : Hid (∀ v ∈ os.take (i + 1), v < vars) := Lib.hid fun v hv => by
                        rcases (HT2.out v).1 hv with h | rfl
                        · exact HVS.out v h
                        · omega
                      go_wp2_with fail
                      go_roundw
                      case rel => exact ⟨i + 1, by omega, by go_num, by simp, HV2⟩
                      case measure => simp [intOf]; omega
                  · have hiz : ¬ (i : Int) < os.length := by omega
                    have HB2 : Hid (∀ e ∈ es.take (j + 1), e.size ≤ 40 ∧ okT e 1 ∧ ∀ v ∈ varsT e, v < vars) := Lib.hid fun e' he' => by
                      rcases HTK.out e' he' with h | rfl
                      · exact HB.out e' h
                      · exact ⟨hsz40, HOK.out, fun v hv => HVS.out v (by rw [List.take_of_length_le (by omega)]; exact HMEM.out v hv)⟩
                    go_wp2_with fail
                    go_roundw
                    case rel => exact ⟨j + 1, by omega, by go_num, HBS.out, HB2⟩
                    case measure => simp [intOf]; omega
              · have hne : (err != 0) = true := by simpa using her
                have HF := Lib.hid (HNO.out _ HBQ.out)
                clear her
                go_wp2_with fail
                exact HF.out
            · have hjz : ¬ (j : Int) < es.length := by omega
              have HF := Lib.hid (HYES.out ⟨g1, g2, g3, g4, HG5.out, HG6.out, HAF.out, fun e he => HB.out e (by rw [List.take_of_length_le (by omega)]; exact he)⟩ _ hbx)
              go_wp2_with fail
              exact HF.out
end Go.Proofs.YtchliiaknmknhaaGreat

-- AskRow
namespace Go.Proofs.YtchliiaknmknhaaGreat
open Go.RowKit Go.Deep Go.ChangeShapes Go.WideShapes

theorem wfI {x : Int} (h : (Lit.int .i64 x).wf = true) : okI x := by
  unfold okI
  simp only [Lit.wf, IntKind.min, IntKind.max, IntKind.signed, IntKind.bits, Bool.and_eq_true, decide_eq_true_eq, if_true] at h
  omega
theorem add_flat {b off : Nat} (k : Nat) : (⟨b, off, none⟩ : Addr).add k = ⟨b, off + k, none⟩ := by unfold Addr.add; split <;> simp_all
theorem add0 (a : Addr) : a.add 0 = a := by simp [Addr.add]
theorem flat_of_cell {w : World} {a : Addr} {v : Value} (h : w.cell? a = some v) : a.spot = none := by
  obtain ⟨b, off, spot⟩ := a
  cases spot with
  | none => rfl
  | some s => simp [World.cell?] at h; split at h <;> simp at h
theorem choose_ev {n : Nat} {p : Nat → Ev → Prop} (h : ∀ i, i < n → ∃ x, p i x) : ∃ f : Nat → Ev, ∀ i, i < n → p i (f i) := by
  classical
  refine ⟨fun i => if hi : i < n then Classical.choose (h i hi) else ⟨0, 0, 0⟩, fun i hi => ?_⟩
  simp only [dif_pos hi]
  exact Classical.choose_spec (h i hi)
theorem open_row {H : Type} {enc : TypeId × Value → H} {P : Program} {w : World} {base : Nat} {spare : Nat → Bool} {held : Bool} {t e : TypeId} {fuel : Nat} {cs : List Value} {x : DataW H × List MemPlace} (ht : P.underlying t = some (.slice e)) (h : DataW.trod enc P w base spare held fuel t cs = some x) :
    cs = [.slice none 0 0] ∨ ∃ (a : Addr) (len cap n : Nat), cs = [.slice (some a) len cap] ∧ len ≤ cap ∧ cap ≤ maxLen ∧ fuel = n + 1 ∧ ∀ i, i < len → ∃ cs' y, w.cells? base (a.add (i * P.cellsOf e)) (P.cellsOf e) = some cs' ∧ DataW.trod enc P w base spare held n e cs' = some y := by
  rcases DataW.trod_slice ht h with ⟨h0, _⟩ | ⟨a, len, cap, elems, rest, n, hn, e1, _, _, hl, hm, hlen, hel, _⟩
  · exact .inl h0
  · refine .inr ⟨a, len, cap, n, e1, hl, hm, hn, fun i hi => ?_⟩
    have := hel i hi
    rw [List.getElem?_eq_getElem (by omega)] at this
    obtain ⟨cs', h1, h2⟩ := Option.bind_eq_some_iff.1 this
    exact ⟨cs', _, h1, h2⟩
set_option maxRecDepth 100000 in
theorem open_expr {H : Type} {enc : TypeId × Value → H} {w : World} {base : Nat} {spare : Nat → Bool} {held : Bool} : ∀ (fuel : Nat) {cs : List Value} {x : DataW H × List MemPlace},
    DataW.trod enc Tryz.prog w base spare held fuel 39 cs = some x → ∃ e x0 x1 x2, cs = [x0, x1, x2] ∧ ExprAt w e (.agg #[x0, x1, x2]) := by
  intro fuel
  induction fuel using Nat.strongRecOn with
  | _ fuel IH =>
    intro cs x h
    obtain ⟨xs, k, hk, hxy, hcl, hxl, hf⟩ := DataW.trod_struct Tryz.underlying39 h
    have c1 : Tryz.prog.cellsOf 3 = 1 := by kernel_rfl
    have c2 : Tryz.prog.cellsOf 23 = 1 := by kernel_rfl
    have c3 : Tryz.prog.cellsOf 39 = 3 := by kernel_rfl
    rw [c3] at hcl
    match xs, hxl, cs, hcl with
    | [y0, y1, y2], _, [v0, v1, v2], _ =>
      have g0 := hf 0 _ rfl
      have g1 := hf 1 _ rfl
      have g2 := hf 2 _ rfl
      simp [c1, c2] at g0 g1 g2
      obtain ⟨n0, e0, _, w0⟩ := DataW.trod_int Tryz.underlying3 g0
      obtain ⟨n1, e1, _, w1⟩ := DataW.trod_int Tryz.underlying3 g1
      simp only [List.cons.injEq, and_true] at e0 e1
      subst e0 e1
      rcases open_row Tryz.underlying23 g2 with e2 | ⟨a, len, cap, n, e2, hl, hm, hkn, hx⟩
      · simp only [List.cons.injEq, and_true] at e2
        subst e2
        exact ⟨.mk n0 n1 0 (fun _ => .nil), _, _, _, rfl, by unfold ExprAt; exact ⟨none, 0, rfl, wfI w0, wfI w1, by omega, fun k hk => by omega⟩⟩
      · simp only [List.cons.injEq, and_true] at e2
        subst e2
        have each : ∀ i, i < len → ∃ q : ExT, ∃ x0 x1 x2, w.cell? (a.add (i * 3)) = some x0 ∧ w.cell? ((a.add (i * 3)).add 1) = some x1 ∧ w.cell? ((a.add (i * 3)).add 2) = some x2 ∧ ExprAt w q (.agg #[x0, x1, x2]) := by
          intro i hi
          obtain ⟨cs', y, h1, h2⟩ := hx i hi
          rw [c3] at h1
          obtain ⟨_, hlen, hcell⟩ := World.cells?_some h1
          obtain ⟨e, x0, x1, x2, rfl, he⟩ := IH n (by omega) h2
          have f0 := hcell 0 (by omega)
          have f1 := hcell 1 (by omega)
          have f2 := hcell 2 (by omega)
          rw [add0] at f0
          exact ⟨e, x0, x1, x2, by simpa using f0, by simpa using f1, by simpa using f2, he⟩
        obtain ⟨q, hq⟩ := choose_lt each
        refine ⟨.mk n0 n1 len q, _, _, _, rfl, ?_⟩
        unfold ExprAt
        refine ⟨some a, cap, rfl, wfI w0, wfI w1, by unfold maxLen at hm; omega, fun i hi => ?_⟩
        obtain ⟨x0, x1, x2, f0, f1, f2, he⟩ := hq i hi
        have hsp : a.spot = none := by
          obtain ⟨_, _, _, q0, _⟩ := hq 0 (by omega)
          have := flat_of_cell q0
          simpa [Addr.add] using this
        obtain ⟨b, off, spot⟩ := a
        dsimp only at hsp
        subst hsp
        simp only [add_flat] at f0 f1 f2
        exact ⟨b, off, x0, x1, x2, rfl, f0, f1, f2, he⟩
theorem open_exprs {H : Type} {enc : TypeId × Value → H} {w : World} {base : Nat} {spare : Nat → Bool} {held : Bool} {fuel : Nat} {cs : List Value} {x : DataW H × List MemPlace}
    (h : DataW.trod enc Tryz.prog w base spare held fuel 23 cs = some x) : ∃ a l cap, cs = [.slice a l.length cap] ∧ ExprsAt w a l := by
  have c3 : Tryz.prog.cellsOf 39 = 3 := by kernel_rfl
  rcases open_row Tryz.underlying23 h with e2 | ⟨a, len, cap, n, e2, hl, hm, hkn, hx⟩
  · exact ⟨none, [], 0, e2, ⟨by simp, fun k hk => by simp at hk⟩⟩
  · subst e2
    have each : ∀ i, i < len → ∃ q : ExT, ∃ x0 x1 x2, w.cell? (a.add (i * 3)) = some x0 ∧ w.cell? ((a.add (i * 3)).add 1) = some x1 ∧ w.cell? ((a.add (i * 3)).add 2) = some x2 ∧ ExprAt w q (.agg #[x0, x1, x2]) := by
      intro i hi
      obtain ⟨cs', y, h1, h2⟩ := hx i hi
      rw [c3] at h1
      obtain ⟨_, hlen, hcell⟩ := World.cells?_some h1
      obtain ⟨e, x0, x1, x2, rfl, he⟩ := open_expr n h2
      have f0 := hcell 0 (by omega)
      have f1 := hcell 1 (by omega)
      have f2 := hcell 2 (by omega)
      rw [add0] at f0
      exact ⟨e, x0, x1, x2, by simpa using f0, by simpa using f1, by simpa using f2, he⟩
    obtain ⟨q, hq⟩ := choose_lt each
    refine ⟨some a, (List.range len).map q, cap, by simp, ⟨by unfold maxLen at hm; simp; omega, fun i hi => ?_⟩⟩
    have hi' : i < len := by simpa using hi
    obtain ⟨x0, x1, x2, f0, f1, f2, he⟩ := hq i hi'
    have hsp : a.spot = none := by
      obtain ⟨_, _, _, q0, _⟩ := hq 0 (by omega)
      have := flat_of_cell q0
      simpa [Addr.add] using this
    obtain ⟨b, off, spot⟩ := a
    dsimp only at hsp
    subst hsp
    simp only [add_flat] at f0 f1 f2
    exact ⟨b, off, x0, x1, x2, rfl, f0, f1, f2, by simpa using he⟩
set_option maxRecDepth 100000 in
theorem open_evs {H : Type} {enc : TypeId × Value → H} {w : World} {base : Nat} {spare : Nat → Bool} {held : Bool} {fuel : Nat} {cs : List Value} {x : DataW H × List MemPlace}
    (h : DataW.trod enc Tryz.prog w base spare held fuel 24 cs = some x) : ∃ a l cap, cs = [.slice a l.length cap] ∧ EvsAt w a l ∧ (∀ ev ∈ l, okI ev.after ∧ okI ev.kind ∧ okI ev.level) ∧ (a = none → cap = 0) ∧ l.length ≤ cap ∧ cap ≤ maxLen := by
  have c1 : Tryz.prog.cellsOf 3 = 1 := by kernel_rfl
  have c3 : Tryz.prog.cellsOf 94 = 3 := by kernel_rfl
  rcases open_row Tryz.underlying24 h with e2 | ⟨a, len, cap, n, e2, hl, hm, hkn, hx⟩
  · exact ⟨none, [], 0, e2, ⟨by simp, fun k hk => by simp at hk⟩, by simp, fun _ => rfl, by simp, by simp⟩
  · subst e2
    have each : ∀ i, i < len → ∃ q : Ev, w.cell? (a.add (i * 3)) = some (.int .i64 q.after) ∧ w.cell? ((a.add (i * 3)).add 1) = some (.int .i64 q.kind) ∧ w.cell? ((a.add (i * 3)).add 2) = some (.int .i64 q.level) ∧ okI q.after ∧ okI q.kind ∧ okI q.level := by
      intro i hi
      obtain ⟨cs', y, h1, h2⟩ := hx i hi
      rw [c3] at h1
      obtain ⟨_, hlen, hcell⟩ := World.cells?_some h1
      obtain ⟨xs, k, hk, hxy, _, hxl, hf⟩ := DataW.trod_struct Tryz.underlying94 h2
      match xs, hxl, cs', hlen with
      | [y0, y1, y2], _, [v0, v1, v2], _ =>
        have g0 := hf 0 _ rfl
        have g1 := hf 1 _ rfl
        have g2 := hf 2 _ rfl
        simp [c1] at g0 g1 g2
        obtain ⟨n0, e0, _, w0⟩ := DataW.trod_int Tryz.underlying3 g0
        obtain ⟨n1, e1, _, w1⟩ := DataW.trod_int Tryz.underlying3 g1
        obtain ⟨n2, e2, _, w2⟩ := DataW.trod_int Tryz.underlying3 g2
        simp only [List.cons.injEq, and_true] at e0 e1 e2
        subst e0 e1 e2
        have f0 := hcell 0 (by omega)
        have f1 := hcell 1 (by omega)
        have f2 := hcell 2 (by omega)
        rw [add0] at f0
        exact ⟨⟨n0, n1, n2⟩, by simpa using f0, by simpa using f1, by simpa using f2, wfI w0, wfI w1, wfI w2⟩
    obtain ⟨q, hq⟩ := choose_ev each
    refine ⟨some a, (List.range len).map q, cap, by simp, ⟨by unfold maxLen at hm; simp; omega, fun i hi => ?_⟩, ?_, by simp, by simpa using hl, hm⟩
    · have hi' : i < len := by simpa using hi
      obtain ⟨f0, f1, f2, _⟩ := hq i hi'
      have hsp : a.spot = none := by
        obtain ⟨q0, _⟩ := hq 0 (by omega)
        have := flat_of_cell q0
        simpa [Addr.add] using this
      obtain ⟨b, off, spot⟩ := a
      dsimp only at hsp
      subst hsp
      simp only [add_flat] at f0 f1 f2
      exact ⟨b, off, rfl, by simpa using f0, by simpa using f1, by simpa using f2⟩
    · intro ev hev
      obtain ⟨i, hi, rfl⟩ := List.mem_map.1 hev
      exact (hq i (by simpa using hi)).2.2.2

set_option maxRecDepth 100000 in
theorem open_ask {H : Type} {enc : TypeId × Value → H} {w : World} {base : Nat} {held : Bool} {fuel : Nat} {v : Value} {cs : Array Value} {x : DataW H × List MemPlace} (hv : v = .agg cs)
    (h : DataW.trod enc Tryz.prog w base (fun _ => true) held fuel 26 v.cells.toList = some x) : ∃ q ao ae ap co ce cp, v = askV q ao ae ap co ce cp ∧ AskAt w q ao ae ap ∧ (∀ ev ∈ q.plan, okI ev.after ∧ okI ev.kind ∧ okI ev.level) ∧ (ao = none → co = 0) ∧ (ap = none → cp = 0) ∧ q.plan.length ≤ cp ∧ cp ≤ maxLen := by
  subst hv
  obtain ⟨xs, k, hk, hxy, hcl, hxl, hf⟩ := DataW.trod_struct Tryz.underlying26 h
  have c1 : Tryz.prog.cellsOf 3 = 1 := by kernel_rfl
  have c2 : Tryz.prog.cellsOf 22 = 1 := by kernel_rfl
  have c4 : Tryz.prog.cellsOf 23 = 1 := by kernel_rfl
  have c5 : Tryz.prog.cellsOf 24 = 1 := by kernel_rfl
  have c3 : Tryz.prog.cellsOf 26 = 4 := by kernel_rfl
  rw [c3] at hcl
  obtain ⟨cl⟩ := cs
  simp only [Value.cells] at hcl hf
  match xs, hxl, cl, hcl with
  | [y0, y1, y2, y3], _, [v0, v1, v2, v3], _ =>
    have g0 := hf 0 _ rfl
    have g1 := hf 1 _ rfl
    have g2 := hf 2 _ rfl
    have g3 := hf 3 _ rfl
    simp [c1, c2, c4, c5] at g0 g1 g2 g3
    obtain ⟨n0, e0, _, w0⟩ := DataW.trod_int Tryz.underlying3 g0
    simp only [List.cons.injEq, and_true] at e0
    subst e0
    obtain ⟨ao, zs, co, e1, hio, hno⟩ : ∃ a zs c, v1 = .slice a zs.length c ∧ IntsAt w a zs ∧ (a = none → c = 0) := by
      rcases open_ints Tryz.underlying22 Tryz.underlying3 (by kernel_rfl) g1 with ⟨hcs, _⟩ | ⟨x, l, c, zs, hcs, _, hl, hm, hz, _, hcell, hwz⟩
      · simp at hcs
        subst hcs
        obtain ⟨a, c, e, h1, h2⟩ := sliceIs_of_row (w := w) (a := none) (len := 0) (cap := 0) (.inl ⟨rfl, rfl, rfl, rfl⟩)
        exact ⟨a, _, c, e, h1, h2⟩
      · simp at hcs
        subst hcs
        obtain ⟨a, c, e, h1, h2⟩ := sliceIs_of_row (w := w) (.inr ⟨_, rfl, hl, hm, by simpa using hz, hcell, hwz⟩)
        exact ⟨a, _, c, e, h1, h2⟩
    obtain ⟨ae, es, ce, e2, hes⟩ := open_exprs g2
    obtain ⟨ap, evs, cp, e3, hev, hok, hnp, hlp, hmp⟩ := open_evs g3
    simp only [List.cons.injEq, and_true] at e2 e3
    subst e1 e2 e3
    exact ⟨⟨n0, zs, es, evs⟩, ao, ae, ap, co, ce, cp, rfl, ⟨wfI w0, hio, hes, hev⟩, hok, hno, hnp, hlp, hmp⟩
end Go.Proofs.YtchliiaknmknhaaGreat
