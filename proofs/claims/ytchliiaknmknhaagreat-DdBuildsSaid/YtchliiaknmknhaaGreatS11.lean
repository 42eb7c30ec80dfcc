/- Several texts in one file: contracts of the program's functions and what follows from them. -/
import Derived.Test.YtchliiaknmknhaaGreatS10
import Derived.Deep.CutBlock
import Derived.Deep.Slices
import Derived.ChangeArms
import Derived.WideShapes
set_option linter.unusedSimpArgs false
set_option linter.unusedVariables false
set_option linter.unusedSectionVars false
set_option linter.unnecessarySimpa false
namespace Go.Proofs.YtchliiaknmknhaaGreat
open Go.RowKit
section
variable {K : Law} {n : Nat} {Od : List Nat → Prop} {room : Nat} {w0 w w' w'' : World} {mb : Nat} {fs fs' : List (Int × BF)} {nx nx' : Int} {o o' : Own} {m m' : ManD} {V V' : Nat → BF}
set_option maxRecDepth 100000 in
set_option maxHeartbeats 8000000 in
theorem build_two {w1 : World} {op v : Int} {nk : Nat} {kid : Nat → ExT} {a : Option Addr} {c : Nat} {E : ExT} {Q : Ending → World → Prop} (hctx : BCtx K n Od room w0 mb fs nx w w1 o m V op v nk kid a c E Q) (h1 : op = 8 ∨ op = 9) (hnk : nk = 2) (hF : fnT E = joinF op (fnT (kid 0)) (fnT (kid 1))) :
 Calls Tryz.prog 83 #[.pointer (some ⟨mb, 0, none⟩), .agg #[.int .i64 op, .int .i64 v, .slice a nk c]] w Q := by
 obtain ⟨HKK, H5, HKS, HSZ, HPOS, IH, HW1, HG1, HSAT1, HWT, HB2, HQ, hn64, hnx, hE1, hs1, d0, d1, d2, on, hw0, hr8, hp2, h2, h3⟩ := hctx
 have g1 : (op == 1) = false := by simp; omega
 have g2 : (op == 2) = false := by simp; omega
 have g3 : (op == 3) = false := by simp; omega
 have g5 : (op == 5) = false := by simp; omega
 have g6 : (op == 6) = false := by simp; omega
 have g7 : (op == 7) = false := by simp; omega
 have g4 : (op == 4) = false := by simp; omega
 have g10 : (op == 10) = false := by simp; omega
 have HNK := Lib.hid hnk
 have H1 := Lib.hid h1
 clear h1 hnk
 obtain ⟨w2, hw2⟩ : ∃ w2, w2 = w1.alloc (.cells #[] 3) := ⟨_, rfl⟩
 have HW2 : Hid (_ = w2) := Lib.hid hw2.symm
 have hb2' : Below w1.heap.size w1 w2 := by rw [hw2]; exact below_new1 _ _
 have HBS0 : Hid (BuiS K n Od room w0 mb (fs ++ []) nx o w1 (.slice (some ⟨w.heap.size + 1, 0, none⟩) 0 0) (([] : List (Int × BF)).map Prod.fst) w2) := Lib.hid ⟨o, m, V, by rw [List.append_nil]; exact HSAT1.out.below hb2', HWT.out, chg_below hb2' o, by rw [hw2, ← hs1]; exact ownC_new _ _ _ (Nat.le_refl _), fun k hk => by cases hk; rw [← hs1]; exact HSAT1.out.lt.none (Nat.le_refl _)⟩
 have HB12 := Lib.hid hb2'
 clear hw2 hb2'
 go_enter Tryz.func83, Tryz.ntmps83
 go_upto_region 1 with fail
 rw [HW1.out]
 go_upto_region 23 with fail
 rw [HW2.out]
 have e2 := (HB12.out.cell (p := ⟨w.heap.size, 2, none⟩) (lt_of_cell d2)).trans d2
 go_wp2_with fail
 go_loopw [15, 106] (fun s15 s106 wr => ∃ (i : Nat) (hs : List (Int × BF)) (nxi : Int), i ≤ nk ∧ s106 = .int .i64 i ∧ hs.length = i ∧ nxi + 2 * i ≤ nx + 3 * ((sumN i fun i => (kid i).size : Nat) : Int) ∧ Hid (∀ j (hj : j < hs.length), hs[j].2 = fnT (kid j)) ∧ Hid (BuiS K n Od room w0 mb (fs ++ hs) nxi o w1 s15 (hs.map Prod.fst) wr)) (fun _ s106 _ => nk - (intOf s106).toNat)
 case atStart => exact ⟨0, [], nx, Nat.zero_le _, rfl, rfl, by show nx + 2 * ((0 : Nat) : Int) ≤ nx + 3 * ((0 : Nat) : Int); omega, Lib.hid (fun j hj => by simp at hj), HBS0⟩
 case round =>
  clear HBS0 HB12 e2
  rename World => wy
  obtain ⟨i, hs, nxi, hi, rfl, hhl, hnxi, HFS, HBS⟩ := hrel
  by_cases hlt : i < nk
  ·
   obtain ⟨b, off, x0, x1, x2, rfl, c0, c1, c2, hx⟩ := H5.out i hlt
   have hb0 := HBS.out.goes.below0
   have q0 := (hb0.cell (p := ⟨b, off + i * 3, none⟩) (lt_of_cell c0)).trans c0
   have q1 := (hb0.cell (p := ⟨b, off + i * 3 + 1, none⟩) (lt_of_cell c1)).trans c1
   have q2 := (hb0.cell (p := ⟨b, off + i * 3 + 2, none⟩) (lt_of_cell c2)).trans c2
   obtain ⟨zo, zv, za, zn, zc, rfl, rfl, rfl⟩ := hx.parts
   have hiz : (i : Int) < nk := by omega
   have hks := HKS.out i hlt
   obtain ⟨wz, hwz⟩ : ∃ wz, wz = wy.alloc (.cells #[.int .i64 zo, .int .i64 zv, .slice za zn zc] 39) := ⟨_, rfl⟩
   have HWZ : Hid (_ = wz) := Lib.hid hwz.symm
   have hbz : Below wy.heap.size wy wz := by rw [hwz]; exact below_new1 _ _
   have hblk : wz.heap[wy.heap.size]? = some (.cells #[.int .i64 zo, .int .i64 zv, .slice za zn zc] 39 (0, 0)) := by rw [hwz]; exact heap_alloc_new _ _
   have p0 : wz.cell? ⟨wy.heap.size, 0, none⟩ = some (.int .i64 zo) := by rw [cell_of_row _ _ 0 _ _ _ hblk]; rfl
   have p1 : wz.cell? ⟨wy.heap.size, 1, none⟩ = some (.int .i64 zv) := by rw [cell_of_row _ _ 1 _ _ _ hblk]; rfl
   have p2 : wz.cell? ⟨wy.heap.size, 2, none⟩ = some (.slice za zn zc) := by rw [cell_of_row _ _ 2 _ _ _ hblk]; rfl
   obtain ⟨o1, m1, V1, bt⟩ := HBS.out.below hbz
   have hpos := HPOS.out i
   have HCALL := Lib.hid (IH.out i _ (fs ++ hs) nxi wz o1 m1 V1 hlt bt.sat bt.waits (HB2.out.app _) hx (by omega) (by simp; omega))
   have HBT := Lib.hid bt
   clear hb0 c0 c1 c2 hx bt hwz hbz hblk HBS
   go_upto_region 26 with fail
   rw [HWZ.out]
   clear q0 q1 q2
   go_wp2_with fail
   refine HCALL.out.mono ?_
   rintro y w3 ⟨k2, rfl, hk2, gg⟩
   have HBS3 := Lib.hid (HBT.out.go gg)
   have HF3 : Hid (∀ j (hj : j < (hs ++ [(k2, fnT (kid i))]).length), (hs ++ [(k2, fnT (kid i))])[j].2 = fnT (kid j)) := Lib.hid fun j hj => by
    rcases Nat.lt_or_ge j hs.length with h | h
    ·
     rw [List.getElem_append_left h]; exact HFS.out j h
    ·
     have hj' : j = i := by simp at hj; omega
     subst hj'
     rw [List.getElem_append_right (by omega)]
     simp
   clear gg HCALL HBT p0 p1 p2
   obtain ⟨o3, m3, V3, bt3⟩ := HBS3.out
   have hsz3 : w1.heap.size ≤ w3.heap.size := bt3.chg.size
   have HBT3 := Lib.hid bt3
   clear bt3
   go_upto_region 30 with (at_builtin; refine wpList_appC elemInt _ rfl _ _ rfl w1.heap.size _ (intsV (hs.map Prod.fst)) _ rfl rfl rfl rfl rfl (by exact HBT3.out.l.own) (by simp [intsV]; omega) hsz3 ?_; intro v5 w5 hown5 r1 r2 r3 r4 hk5)
   have HBS5 : Hid (BuiS K n Od room w0 mb (fs ++ (hs ++ [(k2, fnT (kid i))])) (k2 + 1) o w1 v5 ((hs ++ [(k2, fnT (kid i))]).map Prod.fst) w5) := Lib.hid (by
    have := BuiS.app HBT3.out hown5 r1 r2 r3 r4 hk5 hw0
    rw [List.append_assoc] at this
    rw [List.map_append]
    exact this)
   clear hown5 r1 r2 r3 r4 hk5 HBT3 HBS3
   go_wp2_with fail
   go_roundw
   case rel => exact ⟨i + 1, hs ++ [(k2, fnT (kid i))], k2 + 1, by omega, by go_num, by simp; omega, by
    show k2 + 1 + 2 * ((i + 1 : Nat) : Int) ≤ nx + 3 * (((sumN i fun i => (kid i).size) + (kid i).size : Nat) : Int)
    omega, HF3, HBS5⟩
   case measure => simp [intOf]; omega
  ·
   obtain rfl : i = nk := by omega
   have hiz : ¬ (i : Int) < i := by omega
   have f0 := HBS.out.goes.cell (p := ⟨w.heap.size, 0, none⟩) d0 on
   have hszn := HSZ.out
   have hsum : nxi + 2 * i + 3 ≤ nx + 3 * E.size := by omega
   have hnk := HNK.out
   have hnk1 : 1 ≤ i := by omega
   clear hszn H5 IH HSZ HKS HPOS
   obtain ⟨o1, m1, V1, bt⟩ := HBS.out
   have HBT := Lib.hid bt
   clear bt
   subst hnk
   obtain ⟨⟨k0, F0⟩, ⟨k1', F1⟩, rfl⟩ := len_two hhl
   obtain ⟨g, cp, rfl, hcells⟩ := HBS.out.cellsN (i := 2) rfl (by omega)
   have c0 : wy.cell? ⟨g, 0, none⟩ = some (.int .i64 k0) := hcells 0 (by omega)
   have c1 : wy.cell? ⟨g, 1, none⟩ = some (.int .i64 k1') := hcells 1 (by omega)
   have HF : Hid (joinF op F0 F1 = fnT E) := Lib.hid (by rw [hF, ← HFS.out 0 (by simp), ← HFS.out 1 (by simp)]; rfl)
   have HJ : Hid (∀ W, W = wy.drew → Calls Tryz.prog 118 #[.pointer (some ⟨mb, 0, none⟩), .int .i64 op, .int .i64 k0, .int .i64 k1'] W fun x w'' => ∃ k : Int, x = .returned (.tuple #[.int .i64 k, .bool true]) ∧ k ≤ nxi + 1 ∧ Goes K n Od room w0 mb (fs ++ [(k, joinF op F0 F1)]) (k + 1) NoW o1 wy w'') :=
    Lib.hid fun W hW => by subst hW; exact join_any HKK.out (HBT.out.refl.below (below_draw wy 1)) HB2.out (by omega) (Nat.le_trans (Nat.mul_le_mul_right _ (by omega)) hr8) (by have := H1.out; omega) (by have := H1.out; omega)
   clear hcells
   go_upto_region 39 with fail
   refine wp_region_mix (fun W : World => W.cell? ⟨w.heap.size, 0, none⟩ = some (.int .i64 op) ∧ W.cell? ⟨g, 0, none⟩ = some (.int .i64 k0) ∧ W.cell? ⟨g, 1, none⟩ = some (.int .i64 k1')) false 14
    [(0, false), (1, false), (2, false), (3, false), (4, false), (5, false), (6, false), (7, false), (8, false), (9, true), (10, false), (11, false), (12, false), (13, false)] (by kernel_rfl) (by kernel_rfl) ⟨f0, c0, c1⟩ ?_
   simp only [planned, plnLz]
   iterate 9
    refine mix_readE rfl ?_
    apply Exists.intro
    refine ⟨fun w' hw => ?_, ?_⟩
    ·
     obtain ⟨h1, h2, h3⟩ := hw
     go_simp
     rfl
    simp only [putLz]
   refine mix_callR (R := fun v w' => ∃ k : Int, v = .tuple #[.int .i64 k, .bool true] ∧ k ≤ nxi + 1 ∧ Goes K n Od room w0 mb (fs ++ [(k, joinF op F0 F1)]) (k + 1) NoW o1 wy w') rfl (by go_simp) ((HJ.out _ rfl).mono (fun e w' he => ?_)) ?_
   ·
    obtain ⟨k, rfl, q1, q2⟩ := he
    have hb := HBT.out.go q2
    obtain ⟨g', cp', ev, hc3⟩ := hb.cellsN (i := 2) rfl (by omega)
    cases ev
    exact ⟨_, rfl, ⟨hb.goes.cell (p := ⟨w.heap.size, 0, none⟩) d0 on, hc3 0 (by omega), hc3 1 (by omega)⟩, k, rfl, q1, q2⟩
   rintro v w3 - ⟨k, rfl, q1, q2⟩
   have HFN := Lib.hid (HQ.out k _ w3 HF.out (by omega) (HBT.out.go q2).goes)
   clear q2 HJ
   simp only [putLz]
   iterate 4
    refine mix_readE rfl ?_
    apply Exists.intro
    refine ⟨fun w' hw => ?_, ?_⟩
    ·
     obtain ⟨h1, h2, h3⟩ := hw
     go_simp
     rfl
    simp only [putLz]
   refine mix_end ?_
   go_wp2_with fail
   exact HFN.out
end
open Go.RowKit
section
variable {K : Law} {n : Nat} {Od : List Nat → Prop} {room : Nat} {w0 w w' w'' : World} {mb : Nat} {fs fs' : List (Int × BF)} {nx nx' : Int} {o o' : Own} {m m' : ManD} {V V' : Nat → BF}
set_option maxRecDepth 100000 in
set_option maxHeartbeats 8000000 in
theorem build_ite {w1 : World} {op v : Int} {nk : Nat} {kid : Nat → ExT} {a : Option Addr} {c : Nat} {E : ExT} {Q : Ending → World → Prop} (hctx : BCtx K n Od room w0 mb fs nx w w1 o m V op v nk kid a c E Q) (h1 : op = 10) (hnk : nk = 3) (hF : fnT E = iteFn (fnT (kid 0)) (fnT (kid 1)) (fnT (kid 2))) :
 Calls Tryz.prog 83 #[.pointer (some ⟨mb, 0, none⟩), .agg #[.int .i64 op, .int .i64 v, .slice a nk c]] w Q := by
 obtain ⟨HKK, H5, HKS, HSZ, HPOS, IH, HW1, HG1, HSAT1, HWT, HB2, HQ, hn64, hnx, hE1, hs1, d0, d1, d2, on, hw0, hr8, hp2, h2, h3⟩ := hctx
 have g1 : (op == 1) = false := by simp; omega
 have g2 : (op == 2) = false := by simp; omega
 have g3 : (op == 3) = false := by simp; omega
 have g5 : (op == 5) = false := by simp; omega
 have g6 : (op == 6) = false := by simp; omega
 have g7 : (op == 7) = false := by simp; omega
 have g4 : (op == 4) = false := by simp; omega
 have g10 : (op == 10) = true := by simp; omega
 have HNK := Lib.hid hnk
 clear h1 hnk
 obtain ⟨w2, hw2⟩ : ∃ w2, w2 = w1.alloc (.cells #[] 3) := ⟨_, rfl⟩
 have HW2 : Hid (_ = w2) := Lib.hid hw2.symm
 have hb2' : Below w1.heap.size w1 w2 := by rw [hw2]; exact below_new1 _ _
 have HBS0 : Hid (BuiS K n Od room w0 mb (fs ++ []) nx o w1 (.slice (some ⟨w.heap.size + 1, 0, none⟩) 0 0) (([] : List (Int × BF)).map Prod.fst) w2) := Lib.hid ⟨o, m, V, by rw [List.append_nil]; exact HSAT1.out.below hb2', HWT.out, chg_below hb2' o, by rw [hw2, ← hs1]; exact ownC_new _ _ _ (Nat.le_refl _), fun k hk => by cases hk; rw [← hs1]; exact HSAT1.out.lt.none (Nat.le_refl _)⟩
 have HB12 := Lib.hid hb2'
 clear hw2 hb2'
 go_enter Tryz.func83, Tryz.ntmps83
 go_upto_region 1 with fail
 rw [HW1.out]
 go_upto_region 23 with fail
 rw [HW2.out]
 have e2 := (HB12.out.cell (p := ⟨w.heap.size, 2, none⟩) (lt_of_cell d2)).trans d2
 go_wp2_with fail
 go_loopw [15, 106] (fun s15 s106 wr => ∃ (i : Nat) (hs : List (Int × BF)) (nxi : Int), i ≤ nk ∧ s106 = .int .i64 i ∧ hs.length = i ∧ nxi + 2 * i ≤ nx + 3 * ((sumN i fun i => (kid i).size : Nat) : Int) ∧ Hid (∀ j (hj : j < hs.length), hs[j].2 = fnT (kid j)) ∧ Hid (BuiS K n Od room w0 mb (fs ++ hs) nxi o w1 s15 (hs.map Prod.fst) wr)) (fun _ s106 _ => nk - (intOf s106).toNat)
 case atStart => exact ⟨0, [], nx, Nat.zero_le _, rfl, rfl, by show nx + 2 * ((0 : Nat) : Int) ≤ nx + 3 * ((0 : Nat) : Int); omega, Lib.hid (fun j hj => by simp at hj), HBS0⟩
 case round =>
  clear HBS0 HB12 e2
  rename World => wy
  obtain ⟨i, hs, nxi, hi, rfl, hhl, hnxi, HFS, HBS⟩ := hrel
  by_cases hlt : i < nk
  ·
   obtain ⟨b, off, x0, x1, x2, rfl, c0, c1, c2, hx⟩ := H5.out i hlt
   have hb0 := HBS.out.goes.below0
   have q0 := (hb0.cell (p := ⟨b, off + i * 3, none⟩) (lt_of_cell c0)).trans c0
   have q1 := (hb0.cell (p := ⟨b, off + i * 3 + 1, none⟩) (lt_of_cell c1)).trans c1
   have q2 := (hb0.cell (p := ⟨b, off + i * 3 + 2, none⟩) (lt_of_cell c2)).trans c2
   obtain ⟨zo, zv, za, zn, zc, rfl, rfl, rfl⟩ := hx.parts
   have hiz : (i : Int) < nk := by omega
   have hks := HKS.out i hlt
   obtain ⟨wz, hwz⟩ : ∃ wz, wz = wy.alloc (.cells #[.int .i64 zo, .int .i64 zv, .slice za zn zc] 39) := ⟨_, rfl⟩
   have HWZ : Hid (_ = wz) := Lib.hid hwz.symm
   have hbz : Below wy.heap.size wy wz := by rw [hwz]; exact below_new1 _ _
   have hblk : wz.heap[wy.heap.size]? = some (.cells #[.int .i64 zo, .int .i64 zv, .slice za zn zc] 39 (0, 0)) := by rw [hwz]; exact heap_alloc_new _ _
   have p0 : wz.cell? ⟨wy.heap.size, 0, none⟩ = some (.int .i64 zo) := by rw [cell_of_row _ _ 0 _ _ _ hblk]; rfl
   have p1 : wz.cell? ⟨wy.heap.size, 1, none⟩ = some (.int .i64 zv) := by rw [cell_of_row _ _ 1 _ _ _ hblk]; rfl
   have p2 : wz.cell? ⟨wy.heap.size, 2, none⟩ = some (.slice za zn zc) := by rw [cell_of_row _ _ 2 _ _ _ hblk]; rfl
   obtain ⟨o1, m1, V1, bt⟩ := HBS.out.below hbz
   have hpos := HPOS.out i
   have HCALL := Lib.hid (IH.out i _ (fs ++ hs) nxi wz o1 m1 V1 hlt bt.sat bt.waits (HB2.out.app _) hx (by omega) (by simp; omega))
   have HBT := Lib.hid bt
   clear hb0 c0 c1 c2 hx bt hwz hbz hblk HBS
   go_upto_region 26 with fail
   rw [HWZ.out]
   clear q0 q1 q2
   go_wp2_with fail
   refine HCALL.out.mono ?_
   rintro y w3 ⟨k2, rfl, hk2, gg⟩
   have HBS3 := Lib.hid (HBT.out.go gg)
   have HF3 : Hid (∀ j (hj : j < (hs ++ [(k2, fnT (kid i))]).length), (hs ++ [(k2, fnT (kid i))])[j].2 = fnT (kid j)) := Lib.hid fun j hj => by
    rcases Nat.lt_or_ge j hs.length with h | h
    ·
     rw [List.getElem_append_left h]; exact HFS.out j h
    ·
     have hj' : j = i := by simp at hj; omega
     subst hj'
     rw [List.getElem_append_right (by omega)]
     simp
   clear gg HCALL HBT p0 p1 p2
   obtain ⟨o3, m3, V3, bt3⟩ := HBS3.out
   have hsz3 : w1.heap.size ≤ w3.heap.size := bt3.chg.size
   have HBT3 := Lib.hid bt3
   clear bt3
   go_upto_region 30 with (at_builtin; refine wpList_appC elemInt _ rfl _ _ rfl w1.heap.size _ (intsV (hs.map Prod.fst)) _ rfl rfl rfl rfl rfl (by exact HBT3.out.l.own) (by simp [intsV]; omega) hsz3 ?_; intro v5 w5 hown5 r1 r2 r3 r4 hk5)
   have HBS5 : Hid (BuiS K n Od room w0 mb (fs ++ (hs ++ [(k2, fnT (kid i))])) (k2 + 1) o w1 v5 ((hs ++ [(k2, fnT (kid i))]).map Prod.fst) w5) := Lib.hid (by
    have := BuiS.app HBT3.out hown5 r1 r2 r3 r4 hk5 hw0
    rw [List.append_assoc] at this
    rw [List.map_append]
    exact this)
   clear hown5 r1 r2 r3 r4 hk5 HBT3 HBS3
   go_wp2_with fail
   go_roundw
   case rel => exact ⟨i + 1, hs ++ [(k2, fnT (kid i))], k2 + 1, by omega, by go_num, by simp; omega, by
    show k2 + 1 + 2 * ((i + 1 : Nat) : Int) ≤ nx + 3 * (((sumN i fun i => (kid i).size) + (kid i).size : Nat) : Int)
    omega, HF3, HBS5⟩
   case measure => simp [intOf]; omega
  ·
   obtain rfl : i = nk := by omega
   have hiz : ¬ (i : Int) < i := by omega
   have f0 := HBS.out.goes.cell (p := ⟨w.heap.size, 0, none⟩) d0 on
   have hszn := HSZ.out
   have hsum : nxi + 2 * i + 3 ≤ nx + 3 * E.size := by omega
   have hnk := HNK.out
   have hnk1 : 1 ≤ i := by omega
   clear hszn H5 IH HSZ HKS HPOS
   obtain ⟨o1, m1, V1, bt⟩ := HBS.out
   have HBT := Lib.hid bt
   clear bt
   subst hnk
   obtain ⟨⟨k0, F0⟩, ⟨k1', F1⟩, ⟨k2', F2⟩, rfl⟩ := len_three hhl
   obtain ⟨g, cp, rfl, hcells⟩ := HBS.out.cellsN (i := 3) rfl (by omega)
   have c0 : wy.cell? ⟨g, 0, none⟩ = some (.int .i64 k0) := hcells 0 (by omega)
   have c1 : wy.cell? ⟨g, 1, none⟩ = some (.int .i64 k1') := hcells 1 (by omega)
   have c2 : wy.cell? ⟨g, 2, none⟩ = some (.int .i64 k2') := hcells 2 (by omega)
   have HF : Hid (iteFn F0 F1 F2 = fnT E) := Lib.hid (by rw [hF, ← HFS.out 0 (by simp), ← HFS.out 1 (by simp), ← HFS.out 2 (by simp)]; rfl)
   have HI : Hid (∀ W, W = wy.drew → Calls Tryz.prog 18 #[.pointer (some ⟨mb, 0, none⟩), .int .i64 k0, .int .i64 k1', .int .i64 k2'] W fun x w'' => x = .returned (.tuple #[.int .i64 nxi, .int .i64 0]) ∧ Goes K n Od room w0 mb (fs ++ [(k0, F0), (k1', F1), (k2', F2)] ++ [(nxi, iteFn F0 F1 F2)]) (nxi + 1) NoW o1 wy w'') :=
    Lib.hid fun W hW => by subst hW; exact ite_ok HKK.out (Wt := NoW) (HBT.out.refl.below (below_draw wy 1)) (by omega) (Nat.le_trans (Nat.mul_le_mul_right _ (by simp)) hr8) (by simp) (by simp) (by simp)
   clear hcells
   go_upto_region 36 with fail
   refine wp_region_mix (fun W : World => W.cell? ⟨g, 0, none⟩ = some (.int .i64 k0) ∧ W.cell? ⟨g, 1, none⟩ = some (.int .i64 k1') ∧ W.cell? ⟨g, 2, none⟩ = some (.int .i64 k2')) false 16
    [(0, false), (1, false), (2, false), (3, false), (4, false), (5, false), (6, false), (7, false), (8, false), (9, false), (10, true), (11, false), (12, false), (13, false), (14, false), (15, false)] (by kernel_rfl) (by kernel_rfl) ⟨c0, c1, c2⟩ ?_
   simp only [planned, plnLz]
   iterate 10
    refine mix_readE rfl ?_
    apply Exists.intro
    refine ⟨fun w' hw => ?_, ?_⟩
    ·
     obtain ⟨h1, h2, h3⟩ := hw
     go_simp
     rfl
    simp only [putLz]
   refine mix_callR (R := fun v w' => v = .tuple #[.int .i64 nxi, .int .i64 0] ∧ Goes K n Od room w0 mb (fs ++ [(k0, F0), (k1', F1), (k2', F2)] ++ [(nxi, iteFn F0 F1 F2)]) (nxi + 1) NoW o1 wy w') rfl (by go_simp) ((HI.out _ rfl).mono (fun e w' he => ?_)) ?_
   ·
    obtain ⟨rfl, q2⟩ := he
    have hb := HBT.out.go q2
    obtain ⟨g', cp', ev, hc3⟩ := hb.cellsN (i := 3) rfl (by omega)
    cases ev
    exact ⟨_, rfl, ⟨hc3 0 (by omega), hc3 1 (by omega), hc3 2 (by omega)⟩, rfl, q2⟩
   rintro v w3 ⟨d0', d1', d2'⟩ ⟨rfl, q2⟩
   obtain ⟨o3, m3, V3, bt3⟩ := HBT.out.go q2
   have HBT3 := Lib.hid bt3
   clear q2 HI bt3 c0 c1 c2 HBS
   simp only [putLz]
   iterate 5
    refine mix_readE rfl ?_
    apply Exists.intro
    refine ⟨fun w' hw => ?_, ?_⟩
    ·
     obtain ⟨h1, h2, h3⟩ := hw
     go_simp
     rfl
    simp only [putLz]
   refine mix_end ?_
   have HD : Hid (∀ W T, Below w3.heap.size w3 W → T = W.alloc (.cells #[.int .i64 k0, .int .i64 k1', .int .i64 k2'] 3) → Calls Tryz.prog 49 #[.pointer (some ⟨mb, 0, none⟩), .slice (some ⟨W.heap.size, 0, none⟩) 3 3] T fun x w'' => x = .returned (.int .i64 0) ∧ Goes K n Od room w0 mb (fs ++ [(nxi, iteFn F0 F1 F2)]) (nxi + 1) NoW o3 w3 w'') :=
    Lib.hid fun W T hW hT => drop_ok HKK.out (hs := [(k0, F0), (k1', F1), (k2', F2)]) (r := [(nxi, iteFn F0 F1 F2)]) (by have := HBT3.out.refl; rw [List.append_assoc] at this; exact this.below hW) HB2.out (by omega) (by simp) hT
   go_upto_region 37 with fail
   refine wp_region_mix (fun W : World => W.cell? ⟨g, 0, none⟩ = some (.int .i64 k0) ∧ W.cell? ⟨g, 1, none⟩ = some (.int .i64 k1') ∧ W.cell? ⟨g, 2, none⟩ = some (.int .i64 k2')) false 20
    [(0, false), (1, false), (2, false), (3, false), (4, false), (5, false), (6, false), (7, false), (8, false), (9, false), (10, false), (11, false), (12, false), (13, false), (14, true), (15, true), (16, false), (17, false), (18, false), (19, false)] (by kernel_rfl) (by kernel_rfl) ⟨d0', d1', d2'⟩ ?_
   simp only [planned, plnLz]
   iterate 4
    refine mix_readE rfl ?_
    apply Exists.intro
    refine ⟨fun w' hw => ?_, ?_⟩
    ·
     obtain ⟨h1, h2, h3⟩ := hw
     go_simp
     rfl
    simp only [putLz]
   iterate 10
    refine mix_readGE true (by go_simp) ?_
    apply Exists.intro
    refine ⟨fun hgd w' hw => ?_, ?_⟩
    ·
     obtain ⟨h1, h2, h3⟩ := hw
     go_simp
     rfl
    simp only [putLz]
   have hbn := below_new1 w3.drew (.cells #[.int .i64 k0, .int .i64 k1', .int .i64 k2'] 3)
   refine mix_valueG (v := .slice (some ⟨w3.heap.size, 0, none⟩) 3 3) (w' := w3.drew.alloc (.cells #[.int .i64 k0, .int .i64 k1', .int .i64 k2'] 3)) (by go_simp) (by go_simp) ⟨(hbn.cell (p := ⟨g, 0, none⟩) (lt_of_cell (w := w3.drew) d0')).trans d0', (hbn.cell (p := ⟨g, 1, none⟩) (lt_of_cell (w := w3.drew) d1')).trans d1', (hbn.cell (p := ⟨g, 2, none⟩) (lt_of_cell (w := w3.drew) d2')).trans d2'⟩ ?_
   simp only [putLz]
   refine mix_callGR (R := fun v w' => v = .int .i64 0 ∧ Goes K n Od room w0 mb (fs ++ [(nxi, iteFn F0 F1 F2)]) (nxi + 1) NoW o3 w3 w') (by go_simp) (by go_simp) ((HD.out w3.drew _ (below_draw w3 1) rfl).mono (fun e w' he => ?_)) ?_
   ·
    obtain ⟨rfl, q2⟩ := he
    have hb := HBT3.out.go q2
    obtain ⟨g', cp', ev, hc3⟩ := hb.cellsN (i := 3) rfl (by omega)
    cases ev
    exact ⟨_, rfl, ⟨hc3 0 (by omega), hc3 1 (by omega), hc3 2 (by omega)⟩, rfl, q2⟩
   rintro v w4 - ⟨rfl, q2⟩
   have HFN := Lib.hid (HQ.out nxi _ w4 HF.out (by omega) (HBT3.out.go q2).goes)
   clear q2 HD
   simp only [putLz]
   iterate 1
    refine mix_readGE true (by go_simp) ?_
    apply Exists.intro
    refine ⟨fun hgd w' hw => ?_, ?_⟩
    ·
     obtain ⟨h1, h2, h3⟩ := hw
     go_simp
     rfl
    simp only [putLz]
   iterate 3
    refine mix_readE rfl ?_
    apply Exists.intro
    refine ⟨fun w' hw => ?_, ?_⟩
    ·
     obtain ⟨h1, h2, h3⟩ := hw
     go_simp
     rfl
    simp only [putLz]
   refine mix_end ?_
   go_wp2_with fail
   exact HFN.out
end
open Go.RowKit
section
variable {K : Law} {n : Nat} {Od : List Nat → Prop} {room : Nat} {w0 : World} {mb : Nat}
theorem build_any (hK : LawOK K) : ∀ (e : ExT) (x : Value) (fs : List (Int × BF)) (nx : Int) (w : World) (o : Own) (m : ManD) (V : Nat → BF), SatE K n Od room w0 mb fs nx w o m V → m.waits = [] → B2 fs → validT e → (∀ v ∈ varsT e, v < (n : Int)) → ExprAt w0 e x → nx + 3 * e.size < 549755813000 → (fs.length + e.size + 8) * 2 ^ n ≤ room →
 Calls Tryz.prog 83 #[.pointer (some ⟨mb, 0, none⟩), x] w fun y w' => ∃ k : Int, y = .returned (.tuple #[.int .i64 k, .bool true]) ∧ k + 3 ≤ nx + 3 * e.size ∧ Goes K n Od room w0 mb (fs ++ [(k, fnT e)]) (k + 1) NoW o w w'
 | .nil, x, fs, nx, w, o, m, V, _, _, _, hv, _, _, _, _ => hv.elim
 | .mk op v nk kid, x, fs, nx, w, o, m, V, hsat, hwt, hb2, hval, hvars, h, hnx, hroom => by
   unfold ExprAt at h
   obtain ⟨a, c, rfl, h2, h3, h4, h5⟩ := h
   obtain ⟨v1, v2, v3, v4, v5, v6⟩ := hval
   obtain ⟨k1, k2, k3⟩ := kids_ok v1
   have hblk : (w.alloc (.cells #[.int .i64 op, .int .i64 v, .slice a nk c] 39)).heap[w.heap.size]? = some (.cells #[.int .i64 op, .int .i64 v, .slice a nk c] 39 (0, 0)) := heap_alloc_new _ _
   have hb1 := below_new1 w (.cells #[.int .i64 op, .int .i64 v, .slice a nk c] 39)
   have hctx : BCtx K n Od room w0 mb fs nx w (w.alloc (.cells #[.int .i64 op, .int .i64 v, .slice a nk c] 39)) o m V op v nk kid a c (ExT.mk op v nk kid) (fun y w' => ∃ k : Int, y = .returned (.tuple #[.int .i64 k, .bool true]) ∧ k + 3 ≤ nx + 3 * (ExT.mk op v nk kid).size ∧ Goes K n Od room w0 mb (fs ++ [(k, fnT (ExT.mk op v nk kid))]) (k + 1) NoW o w w') := by
    refine ⟨Lib.hid hK, Lib.hid h5, Lib.hid fun i hi => ?_, Lib.hid rfl, Lib.hid (sumN_pos fun i => (kid i).size_pos), Lib.hid fun i x fs' nx' W o' m' V' hi q1 q2 q3 q4 q5 q6 => build_any hK (kid i) x fs' nx' W o' m' V' q1 q2 q3 (v6 i hi) (fun u hu => hvars u (by unfold varsT; exact List.mem_append_right _ (mem_flatN hi hu))) q4 q5 (Nat.le_trans (Nat.mul_le_mul_right _ (by omega)) hroom), Lib.hid rfl, Lib.hid (Goes.refl (hsat.below hb1) hwt), Lib.hid (hsat.below hb1), Lib.hid hwt, Lib.hid hb2, Lib.hid ?_, by omega, hnx, ExT.size_pos _, by simp, by rw [cell_of_row _ _ 0 _ _ _ hblk]; rfl, by rw [cell_of_row _ _ 1 _ _ _ hblk]; rfl, by rw [cell_of_row _ _ 2 _ _ _ hblk]; rfl, hsat.lt.none (Nat.le_refl _), ?_, Nat.le_trans (Nat.mul_le_mul_right _ (by omega)) hroom, Nat.pow_pos (by omega), h2, h3⟩
    ·
     have := sumN_two (f := fun i => (kid i).size) hi
     show _ ≤ 1 + sumN nk fun i => (kid i).size
     omega
    ·
     rintro k F W rfl hk g
     exact ⟨k, rfl, hk, g.after (chg_below hb1 o)⟩
    ·
     have := hsat.chg.size
     simp; omega
   rcases (show op = 1 ∨ op = 2 ∨ op = 3 ∨ (op = 5 ∨ op = 6 ∨ op = 7) ∨ op = 4 ∨ (op = 8 ∨ op = 9) ∨ op = 10 by omega) with h1 | h1 | h1 | h1 | h1 | h1 | h1
   ·
    exact build_true hctx h1 (by subst h1; exact fnT_const (.inl rfl) v nk kid)
   ·
    exact build_false hctx h1 (by subst h1; exact fnT_const (.inr rfl) v nk kid)
   ·
    have e1 := v2 h1
    have e2 := hvars v (by unfold varsT; rw [if_pos h1]; simp)
    obtain ⟨u, rfl⟩ : ∃ u : Nat, v = u := ⟨v.toNat, by omega⟩
    exact build_var hctx (u := u) (by omega) h1 rfl (by subst h1; exact fnT_var u nk kid)
   ·
    exact build_acc hctx h1 (fnT_acc h1 v nk kid)
   ·
    have e : nk = 1 := by subst h1; simp [kidsR] at v4 v5; omega
    exact build_not hctx h1 e (by subst h1; subst e; exact fnT_not v kid)
   ·
    have e : nk = 2 := by rcases h1 with rfl | rfl <;> (simp [kidsR] at v4 v5; omega)
    exact build_two hctx h1 e (by subst e; exact fnT_join h1 v kid)
   ·
    have e : nk = 3 := by subst h1; simp [kidsR] at v4 v5; omega
    exact build_ite hctx h1 e (by subst h1; subst e; exact fnT_ite v kid)
end
open Go.RowKit
theorem IntsAt.chgX {C : Nat → Prop} {o o' : Own} {w w' : World} {a : Option Addr} {zs : List Int} (h : IntsAt w a zs) (hc : ChgX C o o' w w') (hn : 0 < zs.length → ∀ x, a = some x → o x.block = none ∧ ¬ C x.block) : IntsAt w' a zs :=
 ⟨h.len, fun k hk => by
  obtain ⟨b, off, rfl, c⟩ := h.cells k hk
  have := hn (by omega) _ rfl
  exact ⟨b, off, rfl, hc.cell c this.1 this.2⟩⟩
def ArrI (K : Law) (n room : Nat) (w0 : World) (mb : Nat) (fs : List (Int × BF)) (nx : Int) (o : Own) (w : World) (m : ManD) (P : List Nat → Prop) (W : World) : Prop :=
 ∃ o' m' V', SatE K n P room w0 mb fs nx W o' m' V' ∧ m'.waits = m.waits ∧ m'.calls = m.calls ∧ ChgX NoB o o' w W
section
variable {K : Law} {n : Nat} {Od : List Nat → Prop} {room : Nat} {w0 w w' : World} {mb : Nat} {fs : List (Int × BF)} {nx : Int} {o o' : Own} {m m' : ManD} {V V' : Nat → BF} {P : List Nat → Prop} {W W' : World}
theorem ArrI.below (h : ArrI K n room w0 mb fs nx o w m P W) (hb : Below W.heap.size W W') : ArrI K n room w0 mb fs nx o w m P W' := by
 obtain ⟨o', m', V', h1, h2, h3, h4⟩ := h
 exact ⟨o', m', V', h1.below hb, h2, h3, h4.trans (chg_below hb o') (fun _ _ e => e)⟩
theorem ArrI.imp (h : ArrI K n room w0 mb fs nx o w m P W) {P' : List Nat → Prop} (hP : ∀ l, l.length = n → P l → P' l) : ArrI K n room w0 mb fs nx o w m P' W := by
 obtain ⟨o', m', V', h1, h2, h3, h4⟩ := h
 exact ⟨o', m', V', h1.withOd (hP _ h1.vars h1.od), h2, h3, h4⟩
theorem ArrI.swap (h : ArrI K n room w0 mb fs nx o w m P W) {k : Nat} (hk1 : k + 1 < n) (hn : nx ≤ 549755813888) (hr : 3 * (fs.length * 2 ^ n) ≤ room) {P' : List Nat → Prop} (hP : ∀ l, l.length = n → P l → P' (exL l k)) :
 Calls Tryz.prog 45 #[.pointer (some ⟨mb, 0, none⟩), .int .i64 k] W fun e w' => e = .returned (.int .i64 0) ∧ ArrI K n room w0 mb fs nx o w m P' w' := by
 obtain ⟨o', m', V', h1, h2, h3, h4⟩ := h
 refine (manSwap_ok h1 hk1 hn hr).mono ?_
 rintro e w' ⟨rfl, o2, m2, V2, s⟩
 refine ⟨rfl, o2, m2, V2, s.sat.withOd ?_, s.waits.trans h2, s.calls.trans h3, h4.trans (ChgX.of_chg s.chg NoB) (fun _ _ e => e)⟩
 rw [s.sat.od, swapD_exL]
 exact hP _ h1.vars h1.od
set_option maxRecDepth 100000 in
set_option maxHeartbeats 4000000 in
theorem arrange_any (h : SatE K n Od room w0 mb fs nx w o m V) (hn : nx ≤ 549755813888) (hr : 3 * (fs.length * 2 ^ n) ≤ room) {a : Option Addr} {c : Nat} {zs : List Int} (hz : IntsAt w a zs) (hno : 0 < zs.length → ∀ x, a = some x → o x.block = none) (hp : zs.length = 0 ∨ PermP zs n) :
 Calls Tryz.prog 82 #[.pointer (some ⟨mb, 0, none⟩), .slice a zs.length c] w fun x w' => x = .returned (.bool true) ∧ ArrI K n room w0 mb fs nx o w m (fun l => ∀ j, j < zs.length → ((l.getD j 0 : Nat) : Int) = at0 zs j) w' := by
 have hlen := hz.len
 have hn64 : n ≤ 64 := by have := h.ok.store.small; rw [h.vars] at this; exact this
 have HZ : Hid (∀ W P, ArrI K n room w0 mb fs nx o w m P W → IntsAt W a zs) := Lib.hid fun W P ⟨o', m', V', _, _, _, h4⟩ => hz.chgX h4 fun h0 x hx => ⟨hno h0 x hx, fun e => e⟩
 have HORD : Hid (∀ W P, ArrI K n room w0 mb fs nx o w m P W → Calls Tryz.prog 42 #[.pointer (some ⟨mb, 0, none⟩)] W fun x w' => ∃ (a : Option Addr) (c : Nat) (l : List Nat), x = .returned (.slice a n c) ∧ l.length = n ∧ IntsAt w' a (l.map Int.ofNat) ∧ P l ∧ (∀ v, v < n → ∃ i, i < n ∧ l.getD i 0 = v) ∧ (∀ i j, i < n → j < n → l.getD i 0 = l.getD j 0 → i = j) ∧ Below W.heap.size W w' ∧ ArrI K n room w0 mb fs nx o w m (fun l' => l' = l) w') := by
  refine Lib.hid fun W P hA => ?_
  obtain ⟨o', m', V', h1, h2, h3, h4⟩ := hA
  refine (manOrder_any h1.is h1.lt (by rw [h1.vars]; exact hn64)).mono ?_
  rintro x w' ⟨v, rfl, hv, hb⟩
  obtain ⟨av, cv, rfl, hva, _⟩ := hv.sliceIs (by simp [h1.vars]; omega)
  refine ⟨av, cv, m'.d.vars, by rw [List.length_map, h1.vars], h1.vars, hva, h1.od, fun v hv => ?_, fun i j hi hj e => ?_, hb, o', m', V', (h1.below hb).withOd rfl, h2, h3, h4.trans (chg_below hb o') (fun _ _ e => e)⟩
  ·
   have := h1.ok.store.mem (v := v) (by rw [h1.vars]; exact hv)
   rw [h1.vars] at this; exact this
  ·
   exact h1.ok.store.inj (by rw [h1.vars]; exact hi) (by rw [h1.vars]; exact hj) e
 have HSW : Hid (∀ W P, ArrI K n room w0 mb fs nx o w m P W → ∀ (k : Nat), k + 1 < n → ∀ P' : List Nat → Prop, (∀ l, l.length = n → P l → P' (exL l k)) → Calls Tryz.prog 45 #[.pointer (some ⟨mb, 0, none⟩), .int .i64 k] W fun e w' => e = .returned (.int .i64 0) ∧ ArrI K n room w0 mb fs nx o w m P' w') :=
  Lib.hid fun W P hA k hk P' hP => hA.swap hk hn hr hP
 have HP := Lib.hid hp
 obtain ⟨R, hR⟩ : ∃ R : (List Nat → Prop) → World → Prop, R = ArrI K n room w0 mb fs nx o w m := ⟨_, rfl⟩
 have HR0 : Hid (R (fun l => ∀ j, j < 0 → ((l.getD j 0 : Nat) : Int) = at0 zs j) w) := Lib.hid (by rw [hR]; exact ⟨o, m, V, h.withOd (fun j hj => by omega), rfl, rfl, ChgX.of_below (Below.refl _ _) o NoB⟩)
 have HRB : Hid (∀ P W W', R P W → Below W.heap.size W W' → R P W') := Lib.hid (by rw [hR]; intro P W W' h1 h2; exact h1.below h2)
 have HRM : Hid (∀ P P' W, R P W → (∀ l, l.length = n → P l → P' l) → R P' W) := Lib.hid (by rw [hR]; intro P P' W h1 h2; exact h1.imp h2)
 rw [← hR] at HZ HORD HSW ⊢
 clear h hz hno hp hr hn hR
 go_enter Tryz.func82, Tryz.ntmps82
 go_wp2_with fail
 go_loopw [5, 6, 7] (fun s5 s6 s7 wr => ∃ i : Nat, i ≤ zs.length ∧ s5 = .int .i64 i ∧ Hid (R (fun l => ∀ j, j < i → ((l.getD j 0 : Nat) : Int) = at0 zs j) wr)) (fun s5 _ _ _ => zs.length - (intOf s5).toNat)
 case atStart => exact ⟨0, Nat.zero_le _, rfl, HR0⟩
 case round =>
  obtain ⟨i, hi, rfl, HR⟩ := hrel
  by_cases hlt : i < zs.length
  ·
   have hiz : (i : Int) < zs.length := by omega
   have hperm : PermP zs n := by rcases HP.out with e | e
                                 ·
                                  omega
                                 ·
                                  exact e
   have hzn : zs.length = n := hperm.len
   obtain ⟨zi, hzi, ezi⟩ := hperm.lt i (by omega)
   have HOR := Lib.hid (HORD.out wr _ HR.out)
   have HINJ := Lib.hid hperm.inj
   clear hperm
   go_wp2_with fail
   refine HOR.out.mono ?_
   rintro x w3 ⟨av, cv, l, rfl, hll, hla, hod, hmem, hinj, hb3, hr3⟩
   obtain ⟨p, hpn, hpe⟩ := hmem zi hzi
   have hip : i ≤ p := by
    rcases Nat.lt_or_ge p i with h | h
    ·
     exfalso
     have e1 := hod p h
     rw [hpe, ← ezi] at e1
     have := HINJ.out i p (by omega) hpn e1
     omega
    ·
     exact h
   have HLA := Lib.hid hla
   have HOD := Lib.hid hod
   have HPE := Lib.hid hpe
   have HIJ := Lib.hid hinj
   have HR3 := Lib.hid hr3
   have hnn : ((n : Int) != (zs.length : Int)) = false := by rw [hzn]; simp
   obtain ⟨bz, oz, ea, cz⟩ := (HZ.out w3 _ hr3).cells i hlt
   subst ea
   rw [ezi] at cz
   have EZI := Lib.hid ezi
   clear hla hod hpe hinj hr3 hmem HOR hb3 ezi
   go_wp2_with fail
   go_loopw [7] (fun s7 wr => ∃ q : Nat, i ≤ q ∧ q ≤ p ∧ s7 = .int .i64 q ∧ Hid (Below w3.heap.size w3 wr)) (fun s7 _ => p - (intOf s7).toNat)
   case atStart => exact ⟨i, Nat.le_refl _, hip, rfl, Lib.hid (Below.refl _ _)⟩
   case round =>
    rename World => wq
    obtain ⟨q, hq1, hq2, rfl, HBQ⟩ := hrel
    have hqn : (q : Int) < (n : Int) := by omega
    have hqn' : q < n := by omega
    obtain ⟨bv, ov, rfl, cq⟩ := (HLA.out.below HBQ.out).cells q (by rw [List.length_map, hll]; exact hqn')
    have cz' := (HBQ.out.cell (p := ⟨bz, oz + i, none⟩) (lt_of_cell cz)).trans cz
    rw [at0_nat (by rw [hll]; exact hqn')] at cq
    obtain ⟨y, hy⟩ : ∃ y, y = l.getD q 0 := ⟨_, rfl⟩
    rw [← hy] at cq
    have HY := Lib.hid hy
    clear hy
    go_upto_region 8 with fail
    refine wp_region_mix (fun W : World => W.cell? ⟨bv, ov + q, none⟩ = some (.int .i64 (y : Nat)) ∧ W.cell? ⟨bz, oz + i, none⟩ = some (.int .i64 (zi : Nat)) ∧ Hid (Below w3.heap.size w3 W)) false 15
     [(0, false), (1, false), (2, false), (3, false), (4, false), (5, false), (6, false), (7, false), (8, false), (9, false), (10, false), (11, false), (12, false), (13, false), (14, false)] (by kernel_rfl) (by kernel_rfl) ⟨cq, cz', Lib.hid (HBQ.out.trans ((below_draw wq 1).mono HBQ.out.size))⟩ ?_
    simp only [planned, plnLz]
    iterate 5
     refine mix_readE rfl ?_
     apply Exists.intro
     refine ⟨fun w' hw => ?_, ?_⟩
     ·
      obtain ⟨h1, h2, _⟩ := hw
      go_simp
      rfl
     simp only [putLz]
    iterate 9
     refine mix_readGE true (by go_simp) ?_
     apply Exists.intro
     refine ⟨fun hgd w' hw => ?_, ?_⟩
     ·
      obtain ⟨h1, h2, _⟩ := hw
      go_simp
      rfl
     simp only [putLz]
    iterate 1
     refine mix_readE rfl ?_
     apply Exists.intro
     refine ⟨fun w' hw => ?_, ?_⟩
     ·
      obtain ⟨h1, h2, _⟩ := hw
      go_simp
      rfl
     simp only [putLz]
    refine mix_end ?_
    by_cases hqp : q < p
    ·
     have hne : ((y : Int) != (zi : Int)) = true := by
      simp only [bne_iff_ne, ne_eq]
      intro e
      have e2 : l.getD q 0 = l.getD p 0 := by rw [HPE.out, ← HY.out]; omega
      have := HIJ.out q p hqn' hpn e2
      omega
     go_wp2_with fail
     go_roundw
     case rel => exact ⟨q + 1, by omega, by omega, by go_num, Lib.hid (HBQ.out.trans ((below_draw wq 1).mono HBQ.out.size))⟩
     case measure => simp [intOf]; omega
    ·
     obtain rfl : q = p := by omega
     have hne : ((y : Int) != (zi : Int)) = false := by
      have : y = zi := by rw [HY.out, HPE.out]
      rw [this]; simp
     have hqe : ((q : Int) == (n : Int)) = false := by simp; omega
     have HR4 : Hid (R (fun l' => (∀ j, j < i → ((l'.getD j 0 : Nat) : Int) = at0 zs j) ∧ l'.getD q 0 = zi) wq.drew) := Lib.hid (by
      have h1 := HRB.out _ _ _ HR3.out (HBQ.out.trans ((below_draw wq 1).mono HBQ.out.size))
      exact HRM.out _ _ _ h1 fun l' _ e => by subst e; exact ⟨HOD.out, HPE.out⟩)
     rw [hne]
     clear HR3 HBQ HLA cq cz cz' hne
     go_wp2_with fail
     go_loopw [4, 7] (fun s4 s7 wr => ∃ q : Nat, i ≤ q ∧ q < n ∧ s7 = .int .i64 q ∧ Hid (R (fun l' => (∀ j, j < i → ((l'.getD j 0 : Nat) : Int) = at0 zs j) ∧ l'.getD q 0 = zi) wr)) (fun _ s7 _ => (intOf s7).toNat)
     case atStart => exact ⟨q, hq1, hqn', rfl, HR4⟩
     case round =>
      clear HR4 HY HPE
      rename World => wt
      obtain ⟨t, ht1, ht2, rfl, HRT⟩ := hrel
      by_cases hti : i < t
      ·
       obtain ⟨t', rfl⟩ : ∃ t', t = t' + 1 := ⟨t - 1, by omega⟩
       have htz : ((t' + 1 : Nat) : Int) > i := by omega
       have HS := Lib.hid (HSW.out wt _ HRT.out t' ht2 (fun l' => (∀ j, j < i → ((l'.getD j 0 : Nat) : Int) = at0 zs j) ∧ l'.getD t' 0 = zi) (fun l' hl ⟨g1, g2⟩ => ⟨fun j hj => by rw [exL_ne (by omega) (by omega)]; exact g1 j hj, by rw [exL_here (by omega)]; exact g2⟩))
       have hsub : ((t' + 1 : Nat) : Int) - 1 = (t' : Nat) := by omega
       go_upto_region 14 with fail
       go_wp2_with fail
       refine HS.out.mono ?_
       rintro x w5 ⟨rfl, hr5⟩
       have HR5 := Lib.hid hr5
       clear hr5 HS HRT
       go_wp2_with fail
       go_roundw
       case rel => exact ⟨t', by omega, by omega, by go_num, HR5⟩
       case measure => simp [intOf]
      ·
       obtain rfl : t = i := by omega
       have HR6 : Hid (R (fun l => ∀ j, j < t + 1 → ((l.getD j 0 : Nat) : Int) = at0 zs j) wt) := Lib.hid (by
        refine HRM.out _ _ _ HRT.out fun l' _ ⟨g1, g2⟩ j hj => ?_
        rcases Nat.lt_or_ge j t with h | h
        ·
         exact g1 j h
        ·
         obtain rfl : j = t := by omega
         rw [g2, EZI.out])
       have htz : ¬ (t : Int) > t := by omega
       go_wp2_with fail
       go_roundw
       case rel => exact ⟨t + 1, by omega, by go_num, HR6⟩
       case measure => simp [intOf]; omega
  ·
   have he : i = zs.length := by omega
   have hiz : ¬ (i : Int) < zs.length := by omega
   go_wp2_with fail
   go_ret
   exact ⟨rfl, by rw [← he]; exact HR.out⟩
end
open Go.RowKit
set_option maxRecDepth 100000 in
set_option maxHeartbeats 1000000 in
theorem list06_any (i n : Nat) (hi : i ≤ 1048576) (hn : n ≤ 16) (w : World) : Calls Tryz.prog 120 #[.int .i64 i, .int .i64 n] w fun x w' => ∃ v, x = .returned v ∧ OwnB w' w.heap.size v (bitsL i n) ∧ Below w.heap.size w w' := by
 go_enter Tryz.func120, Tryz.ntmps120
 go_wp2_with fail
 go_loopw [0, 5, 6] (fun s0 s5 s6 wr => ∃ j q : Nat, j ≤ n ∧ q ≤ 1048576 ∧ s6 = .int .i64 j ∧ s0 = .int .i64 q ∧ Hid (i / 2 ^ j = q) ∧ OwnB wr w.heap.size s5 (bitsL i j) ∧ w.heap.size ≤ wr.heap.size ∧ Below w.heap.size w wr) (fun _ _ s6 _ => n - (intOf s6).toNat)
 case atStart => exact ⟨0, i, Nat.zero_le _, hi, rfl, rfl, Lib.hid (by simp), ownC_new _ w _ (Nat.le_refl _), by simp, below_new1 w _⟩
 case round =>
  obtain ⟨j, q, hj, hq, rfl, rfl, HQ, hown, hsz, hbel⟩ := hrel
  by_cases hlt : j < n
  ·
   have HB : Hid (((q : Int).tmod 2 == 1) = bitB i j) := by
    refine Lib.hid ?_
    rw [tmod2]
    unfold bitB
    rw [HQ.out]
   have HOWN := Lib.hid hown
   have HBEL := Lib.hid hbel
   clear hown hbel
   go_wp2_with (at_builtin; refine wpList_appC elemBool _ rfl _ _ rfl w.heap.size _ (boolsV (bitsL i j)) _ rfl rfl rfl rfl rfl (by exact HOWN.out) (by simp [boolsV, bitsL_length]; omega) hsz ?_; intro v1 w1 hown1 e1 e2 e3 e4 hk1)
   go_roundw
   case rel =>
    refine ⟨j + 1, q / 2, by omega, by omega, by go_num, by go_num, Lib.hid ?_, ?_, by omega, below_app HBEL.out HOWN.out e1 e2 e3 e4 hk1 hsz⟩
    ·
     rw [Nat.pow_succ, ← Nat.div_div_eq_div_mul, HQ.out]
    ·
     rw [bitsL_succ]
     unfold OwnB
     rw [boolsV_snoc, ← HB.out]
     exact hown1
   case measure => simp [intOf]; omega
  ·
   have he : j = n := by omega
   subst he
   have HOWN := Lib.hid hown
   have HBEL := Lib.hid hbel
   clear hown hbel
   go_wp2_with fail
   go_ret
   exact ⟨_, rfl, HOWN.out, HBEL.out⟩
theorem run_appC {T ST : TypeId} {z : Value} {b : Nat} (E : ElemT T ST z b) (ty : TypeId) (wr : World) (base : Nat) (v : Value) (xs : List Value) (y : Value) (hy : y.oneCell' = true) (hown : OwnC T wr base v xs) (hlen : xs.length < 1099511627776) (hbase : base ≤ wr.heap.size) :
 ∃ v' w', (Builtin.append_ #[ST, ST] ty #[v, .slice (some ⟨wr.heap.size, 0, none⟩) 1 1]).run Tryz.prog (wr.alloc (.cells #[y] T)) = .ok v' w' ∧
  OwnC T w' base v' (xs ++ [y]) ∧ w'.os = wr.os ∧ w'.tape = wr.tape ∧ w'.output = wr.output ∧ wr.heap.size ≤ w'.heap.size ∧ KeepApp v v' wr w' := by
 obtain ⟨i, hi, hz, hsz, hby⟩ := info_parts E.info
 have hsm := E.small
 obtain ⟨v', w', hr, h1, h2, _, hloc⟩ := run_append_own_at (P := Tryz.prog) (wr.alloc (.cells #[y] T)) base ST ty T i z 1 b E.under hi hz hsz hby (by rw [E.one]; rfl) (by decide)
  v xs.length xs (hown.alloc _) ⟨wr.heap.size, 0, none⟩ 1 1 [y] rfl (cell_one_new _ _ _) (by intro u hu; simp at hu; subst hu; exact hy) (by unfold maxLen; omega) (by
   have h1 : (xs.length + 1) * b ≤ 1099511627776 * 100 := Nat.mul_le_mul (by omega) hsm
   omega) (by simp; omega)
 refine ⟨v', w', hr, ?_, h2.os, h2.tape, h2.output, ?_, ⟨keepBut_of_grown h2, hloc.imp id fun e => ⟨_, e, by simp⟩⟩⟩
 ·
  unfold OwnC
  rw [List.length_append]; exact h1
 ·
  have := h2.size; simp at this; omega
theorem OwnC.lower {T : TypeId} {w : World} {base b : Nat} {v : Value} {xs : List Value} (h : OwnC T w base v xs) (hb : b ≤ base) : OwnC T w b v xs := by
 refine ⟨h.1, ?_⟩
 rcases h.2 with hn | ⟨g, cap, cur, rfl, hb', rest⟩
 ·
  exact .inl hn
 ·
  exact .inr ⟨g, cap, cur, rfl, by omega, rest⟩
set_option maxRecDepth 100000 in
set_option maxHeartbeats 4000000 in
theorem ref06Table_any (e : ExT) (x : Value) (n : Nat) (hn : n ≤ 12) (w : World) (hs : e.size ≤ 4096) (hok : okT e 1) (h : ExprAt w e x) :
 Calls Tryz.prog 84 #[x, .int .i64 n] w fun y w' => ∃ v, y = .returned v ∧ OwnB w' w.heap.size v (tabB n (fnT e)) ∧ Below w.heap.size w w' := by
 have HCH : Hid (∀ W, Below w.heap.size w W → ∀ u, u = x → Calls Tryz.prog 73 #[u] W fun y w' => y = .returned (.int .i64 0) ∧ Below W.heap.size W w') := Lib.hid fun W hb u hu => by
  subst hu
  exact (check06_any e _ W hs (h.below hb)).mono (by
   rintro y w' ⟨err, rfl, h1, h2⟩
   rw [h1.2 hok]
   exact ⟨rfl, h2⟩)
 have HVAL : Hid (∀ W, Below w.heap.size w W → ∀ u, u = x → ∀ (ls : List Bool) al cl, BoolsAt W al ls → Calls Tryz.prog 119 #[u, .slice al ls.length cl] W fun y w' => y = .returned (.bool (fnT e (envOf ls))) ∧ Below W.heap.size W w') := Lib.hid fun W hb u hu ls al cl hl => by
  subst hu
  exact value06_any ls al cl e _ W hok.valid (h.below hb) hl
 have HLIST : Hid (∀ j, j ≤ 1048576 → ∀ W, Calls Tryz.prog 120 #[.int .i64 (j : Nat), .int .i64 n] W fun x w' => ∃ v, x = .returned v ∧ OwnB w' W.heap.size v (bitsL j n) ∧ Below W.heap.size W w') := Lib.hid fun j hj W => list06_any j n hj (by omega) W
 have HS : Hid (∀ k, k ≤ n → 2 ^ k ≤ 4096) := Lib.hid fun k hk => Nat.le_trans (Nat.pow_le_pow_right (by omega) (show k ≤ 12 by omega)) (by decide)
 obtain ⟨x0, x1, x2, hx, o0, o1, o2⟩ := h.agg
 subst hx
 obtain ⟨w1, hw1⟩ : ∃ w1, w1 = w.alloc (.cells #[x0, x1, x2] 39) := ⟨_, rfl⟩
 have HW1 : Hid (_ = w1) := Lib.hid hw1.symm
 have HB1 : Hid (Below w.heap.size w w1) := by rw [hw1]; exact Lib.hid (below_new1 _ _)
 have hblk : w1.heap[w.heap.size]? = some (.cells #[x0, x1, x2] 39 (0, 0)) := by rw [hw1]; exact heap_alloc_new _ _
 have hs1 : w1.heap.size = w.heap.size + 1 := by rw [hw1]; simp
 have d0 : w1.cell? ⟨w.heap.size, 0, none⟩ = some x0 := by rw [cell_of_row _ _ 0 _ _ _ hblk]; rfl
 have d1 : w1.cell? ⟨w.heap.size, 1, none⟩ = some x1 := by rw [cell_of_row _ _ 1 _ _ _ hblk]; rfl
 have d2 : w1.cell? ⟨w.heap.size, 2, none⟩ = some x2 := by rw [cell_of_row _ _ 2 _ _ _ hblk]; rfl
 obtain ⟨L, hL⟩ : ∃ L, L = 2 ^ n := ⟨_, rfl⟩
 have HLL := Lib.hid hL
 obtain ⟨G, hG⟩ : ∃ G : Nat → Bool, G = fun i => fnT e (envOf (bitsL i n)) := ⟨_, rfl⟩
 have HG : Hid (∀ i, fnT e (envOf (bitsL i n)) = G i) := Lib.hid fun i => by rw [hG]
 have HT : Hid (tabB n (fnT e) = (List.range L).map G) := Lib.hid (by rw [hL, hG]; rfl)
 have hL4 : L ≤ 4096 := by rw [hL]; exact HS.out n (Nat.le_refl _)
 rw [HT.out]
 clear h hw1 hblk hG hL
 go_enter Tryz.func84, Tryz.ntmps84
 go_upto_region 1 with fail
 rw [HW1.out]
 have hn0 : ¬ (n : Int) < 0 := by omega
 have hn12 : ¬ (n : Int) > 12 := by omega
 go_wp2_with fail
 refine (HCH.out _ HB1.out _ rfl).mono ?_
 rintro y w2 ⟨rfl, hb2⟩
 have HB2 := Lib.hid hb2
 clear hb2 HCH
 go_wp2_with fail
 go_loopw [5, 6] (fun s5 s6 wr => ∃ k p : Nat, k ≤ n ∧ s5 = .int .i64 p ∧ s6 = .int .i64 k ∧ Hid (wr = w2) ∧ Hid (2 ^ k = p)) (fun _ s6 _ => n - (intOf s6).toNat)
 case atStart => exact ⟨0, 1, Nat.zero_le _, rfl, rfl, Lib.hid rfl, Lib.hid rfl⟩
 case round =>
  obtain ⟨k, p, hk, rfl, rfl, HWR, HP⟩ := hrel
  have hpb : p ≤ 4096 := by rw [← HP.out]; exact HS.out k hk
  by_cases hlt : k < n
  ·
   go_wp2_with fail
   go_roundw
   case rel => exact ⟨k + 1, 2 * p, by omega, by go_num, by go_num, HWR, Lib.hid (by rw [Nat.pow_succ, HP.out]; omega)⟩
   case measure => simp [intOf]; omega
  ·
   obtain rfl : k = n := by omega
   obtain rfl : p = L := by rw [← HP.out, HLL.out]
   have hw2 := HWR.out
   subst hw2
   obtain ⟨w3, hw3⟩ : ∃ w3, w3 = wr.alloc (.cells #[] 4) := ⟨_, rfl⟩
   have HW3 : Hid (_ = w3) := Lib.hid hw3.symm
   have hb3 : Below w1.heap.size w1 w3 := by rw [hw3]; exact HB2.out.trans ((below_new1 _ _).mono HB2.out.size)
   have HOWN : Hid (OwnB w3 w1.heap.size (.slice (some ⟨wr.heap.size, 0, none⟩) 0 0) []) := by rw [hw3]; exact Lib.hid (ownC_new _ _ _ HB2.out.size)
   have HB3 := Lib.hid hb3
   have hs3 : w1.heap.size ≤ w3.heap.size := hb3.size
   clear hw3 hb3 hlt
   go_upto_region 9 with fail
   rw [HW3.out]
   go_wp2_with fail
   go_loopw [7, 8] (fun s7 s8 wr => ∃ j : Nat, j ≤ p ∧ s8 = .int .i64 j ∧ Hid (OwnB wr w1.heap.size s7 ((List.range j).map G)) ∧ Hid (Below w1.heap.size w1 wr) ∧ w1.heap.size ≤ wr.heap.size) (fun _ s8 _ => p - (intOf s8).toNat)
   case atStart => exact ⟨0, Nat.zero_le _, rfl, HOWN, HB3, hs3⟩
   case round =>
    clear HOWN HB3 hs3 HW3 HWR HB2
    rename World => wq
    obtain ⟨j, hj, rfl, HOW, HBEL, hsz⟩ := hrel
    by_cases hlt : j < p
    ·
     have e0 := (HBEL.out.cell (p := ⟨w.heap.size, 0, none⟩) (lt_of_cell d0)).trans d0
     have e1 := (HBEL.out.cell (p := ⟨w.heap.size, 1, none⟩) (lt_of_cell d1)).trans d1
     have e2 := (HBEL.out.cell (p := ⟨w.heap.size, 2, none⟩) (lt_of_cell d2)).trans d2
     have HL := Lib.hid (HLIST.out j (by omega) wq.drew)
     go_upto_region 12 with fail
     refine wp_region_mix (fun W : World => W.cell? ⟨w.heap.size, 0, none⟩ = some x0 ∧ W.cell? ⟨w.heap.size, 1, none⟩ = some x1 ∧ W.cell? ⟨w.heap.size, 2, none⟩ = some x2) false 9
      [(0, false), (1, false), (2, false), (3, false), (4, true), (5, true), (6, true), (7, true), (8, false)] (by kernel_rfl) (by kernel_rfl) ⟨e0, e1, e2⟩ ?_
     simp only [planned, plnLz]
     iterate 4
      refine mix_readE rfl ?_
      apply Exists.intro
      refine ⟨fun w' hw => ?_, ?_⟩
      ·
       obtain ⟨h1, h2, h3⟩ := hw
       go_simp
       rfl
      simp only [putLz]
     refine mix_callR (R := fun v w' => BoolsIs w' v (bitsL j k) ∧ Below wq.heap.size wq w') rfl (by go_simp) (HL.out.mono (fun e w' he => ?_)) ?_
     ·
      obtain ⟨v, rfl, q1, q2⟩ := he
      have q3 : Below wq.heap.size wq w' := (below_draw wq 1).trans (q2.mono (below_draw wq 1).size)
      exact ⟨v, rfl, ⟨(q3.cell (p := ⟨w.heap.size, 0, none⟩) (lt_of_cell e0)).trans e0, (q3.cell (p := ⟨w.heap.size, 1, none⟩) (lt_of_cell e1)).trans e1, (q3.cell (p := ⟨w.heap.size, 2, none⟩) (lt_of_cell e2)).trans e2⟩, q1.boolsIs (by rw [bitsL_length]; omega), q3⟩
     rintro v w4 ⟨f0, f1, f2⟩ ⟨⟨av, cv, rfl, hbs, -⟩, hb4⟩
     have HBS := Lib.hid hbs
     have HB4 := Lib.hid hb4
     clear hbs hb4 e0 e1 e2 HL
     simp only [putLz]
     refine mix_callR (R := fun v w' => v = .bool (G j) ∧ Below w4.heap.size w4 w') rfl (by go_simp) ((HVAL.out w4 (HB1.out.trans ((HBEL.out.trans (HB4.out.mono HBEL.out.size)).mono HB1.out.size)) _ rfl (bitsL j k) av cv HBS.out).mono (fun e w' he => ?_)) ?_
     ·
      obtain ⟨rfl, q3⟩ := he
      exact ⟨_, rfl, ⟨(q3.cell (p := ⟨w.heap.size, 0, none⟩) (lt_of_cell f0)).trans f0, (q3.cell (p := ⟨w.heap.size, 1, none⟩) (lt_of_cell f1)).trans f1, (q3.cell (p := ⟨w.heap.size, 2, none⟩) (lt_of_cell f2)).trans f2⟩, by rw [HG.out], q3⟩
     rintro v w5 ⟨g0, g1, g2⟩ ⟨rfl, hb5⟩
     obtain ⟨y, hy⟩ : ∃ y, y = G j := ⟨_, rfl⟩
     rw [← hy]
     have HYY : Hid (boolsV ((List.range (j + 1)).map G) = boolsV ((List.range j).map G) ++ [.bool y]) := Lib.hid (by rw [range_snoc, boolsV_snoc, hy])
     have hbq := HB4.out.trans (hb5.mono HB4.out.size)
     have HB5 := Lib.hid (HBEL.out.trans (hbq.mono HBEL.out.size))
     have HOW5 := Lib.hid (HOW.out.below hbq)
     have hsz5 : w1.heap.size ≤ w5.heap.size := Nat.le_trans hsz hbq.size
     clear hb5 hbq f0 f1 f2 hy HBS HB4
     simp only [putLz]
     have hbn := below_new1 w5 (.cells #[.bool y] 4)
     refine mix_value (v := .slice (some ⟨w5.heap.size, 0, none⟩) 1 1) (w' := w5.alloc (.cells #[.bool y] 4)) rfl (by go_simp) ⟨(hbn.cell (p := ⟨w.heap.size, 0, none⟩) (lt_of_cell g0)).trans g0, (hbn.cell (p := ⟨w.heap.size, 1, none⟩) (lt_of_cell g1)).trans g1, (hbn.cell (p := ⟨w.heap.size, 2, none⟩) (lt_of_cell g2)).trans g2⟩ ?_
     simp only [putLz]
     obtain ⟨v6, w6, hr6, hown6, q1, q2, q3, q4, hk6⟩ := run_appC elemBool 36 w5 w1.heap.size _ (boolsV ((List.range j).map G)) (.bool y) rfl HOW5.out (by simp [boolsV]; omega) hsz5
     have hb6 := below_app HB5.out HOW5.out q1 q2 q3 q4 hk6 hsz5
     refine mix_value (v := v6) (w' := w6) rfl (exec_append rfl rfl rfl hr6) ⟨(hb6.cell (p := ⟨w.heap.size, 0, none⟩) (lt_of_cell d0)).trans d0, (hb6.cell (p := ⟨w.heap.size, 1, none⟩) (lt_of_cell d1)).trans d1, (hb6.cell (p := ⟨w.heap.size, 2, none⟩) (lt_of_cell d2)).trans d2⟩ ?_
     simp only [putLz]
     iterate 1
      refine mix_readE rfl ?_
      apply Exists.intro
      refine ⟨fun w' hw => ?_, ?_⟩
      ·
       obtain ⟨h1, h2, h3⟩ := hw
       go_simp
       rfl
      simp only [putLz]
     refine mix_end ?_
     have HB6 := Lib.hid hb6
     have HOW6 := Lib.hid hown6
     have hsz6 : w1.heap.size ≤ w6.heap.size := by omega
     clear hb6 hown6 q1 q2 q3 q4 hk6 hr6 g0 g1 g2 hbn
     go_wp2_with fail
     go_roundw
     case rel => exact ⟨j + 1, by omega, by go_num, Lib.hid (by unfold OwnB; rw [HYY.out]; exact HOW6.out), HB6, hsz6⟩
     case measure => simp [intOf]; omega
    ·
     obtain rfl : j = p := by omega
     have HF : Hid (∃ v, Ending.returned u7 = .returned v ∧ OwnB wq w.heap.size v ((List.range j).map G) ∧ Below w.heap.size w wq) := Lib.hid ⟨u7, rfl, HOW.out.lower (by omega), HB1.out.trans (HBEL.out.mono HB1.out.size)⟩
     go_wp2_with fail
     go_ret
     exact HF.out
open Go.RowKit
section
variable {P : Program} (w : World)
theorem run_append_roomO (t ty e : TypeId) (i : TypeInfo) (ht : P.underlying t = some (.slice e)) (hi : P.info? e = some i)
 (g off sLen sCap : Nat) (cur : Array Value) (hg : w.heap[g]? = some (.cells cur e (0, 0)))
 (a : Addr) (m c : Nat) (news : List Value) (hl : news.length = m * i.size) (hnews : ∀ j u, news[j]? = some u → w.cell? (a.add j) = some u) (h1 : ∀ u ∈ news, u.oneCell' = true)
 (hroom : sLen + m ≤ sCap) (hfit : off + sLen * i.size + news.length ≤ cur.size) :
 (Builtin.append_ #[t, t] ty #[.slice (some ⟨g, off, none⟩) sLen sCap, .slice (some a) m c]).run P w =
  .ok (.slice (some ⟨g, off, none⟩) (sLen + m) sCap) (w.setRow g (cur.toList.take (off + sLen * i.size) ++ news ++ cur.toList.drop (off + sLen * i.size + news.length)).toArray) := by
 have hf := run_firstCells_some (P := P) w i.size m a m c news hl hnews
 have hst := run_storeCells_at P g (off + sLen * i.size) e news 0 cur w hg (by simpa using hfit) h1
 simp only [Nat.add_zero] at hst
 have hadd : (⟨g, off, none⟩ : Addr).add (sLen * i.size) = ⟨g, off + sLen * i.size, none⟩ := by unfold Addr.add; split <;> simp_all
 simp [Builtin.append_, run_underlying ht, sizeOf, typeInfo, hi, Builtin.lenOf, hroom, hf, hadd, hst]
end
theorem infoEv : (Tryz.prog.info? 94).map (fun i => (i.zero, i.size, i.bytes)) = some (some (.agg #[.int .i64 0, .int .i64 0, .int .i64 0]), 3, 24) := by kernel_rfl
theorem evs_get (l : List Ev) : ∀ (j : Nat) (u : Value), (l.flatMap evL)[j]? = some u → ∃ hk : j / 3 < l.length, (evL (l[j / 3]))[j % 3]? = some u := by
 induction l with
 | nil => intro j u h; simp at h
 | cons e l ih =>
   intro j u h
   rw [List.flatMap_cons] at h
   by_cases hj : j < 3
   ·
    rw [List.getElem?_append_left (by show j < 3; exact hj)] at h
    have e0 : j / 3 = 0 := by omega
    refine ⟨by rw [e0]; simp, ?_⟩
    have e1 : j % 3 = j := by omega
    simp only [e0, e1, List.getElem_cons_zero]
    exact h
   ·
    rw [List.getElem?_append_right (by show 3 ≤ j; omega)] at h
    obtain ⟨hk, h2⟩ := ih (j - 3) u h
    have e0 : j / 3 = (j - 3) / 3 + 1 := by omega
    have e1 : j % 3 = (j - 3) % 3 := by omega
    refine ⟨by rw [e0, List.length_cons]; omega, ?_⟩
    simp only [e0, e1, List.getElem_cons_succ]
    exact h2
theorem EvsAt.news {w : World} {b off : Nat} {l : List Ev} (h : EvsAt w (some ⟨b, off, none⟩) l) : ∀ j u, (l.flatMap evL)[j]? = some u → w.cell? ((⟨b, off, none⟩ : Addr).add j) = some u := by
 intro j u hu
 have hadd : (⟨b, off, none⟩ : Addr).add j = ⟨b, off + j, none⟩ := by unfold Addr.add; split <;> simp_all
 obtain ⟨hk, h2⟩ := evs_get l j u hu
 obtain ⟨b', off', e, c0, c1, c2⟩ := h.cells (j / 3) hk
 cases e
 rw [hadd]
 have hm : j % 3 < 3 := Nat.mod_lt _ (by decide)
 rcases (by omega : j % 3 = 0 ∨ j % 3 = 1 ∨ j % 3 = 2) with e | e | e <;> rw [e] at h2
 ·
  have e2 : j = j / 3 * 3 := by omega
  rw [e2, c0]; exact h2
 ·
  have e2 : j = j / 3 * 3 + 1 := by omega
  rw [e2, ← Nat.add_assoc, c1]; exact h2
 ·
  have e2 : j = j / 3 * 3 + 2 := by omega
  rw [e2, ← Nat.add_assoc, c2]; exact h2
theorem evs_one (l : List Ev) : ∀ u ∈ l.flatMap evL, u.oneCell' = true := by
 intro u hu
 obtain ⟨e, _, h⟩ := List.mem_flatMap.1 hu
 simp only [evL, List.mem_cons, List.not_mem_nil, or_false] at h
 rcases h with rfl | rfl | rfl <;> rfl
theorem waits_append {o : Own} {w : World} {v : Value} {ws l : List Ev} {a : Option Addr} {c : Nat} (h : WaitsAt o w v ws) (hlt : OwnLt o w) (hev : EvsAt w a l) (hsm : ws.length + l.length ≤ 1000) (ty : TypeId) :
 ∃ v' w' o', (Builtin.append_ #[24, 24] ty #[v, .slice a l.length c]).run Tryz.prog w = .ok v' w' ∧ WaitsAt o' w' v' (ws ++ l) ∧ Chg (· = .waits) o o' w w' ∧ OwnLt o' w' := by
 obtain ⟨i, hi, hz, hsz, hby⟩ := info_parts infoEv
 have ht := Tryz.underlying24
 by_cases h0 : l = []
 ·
  subst h0
  refine ⟨v, w, o, ?_, by rw [List.append_nil]; exact h, Chg.refl _ _ _, hlt⟩
  rcases h.ex with ⟨rfl, rfl⟩ | ⟨g, off, cap, cur, rfl, _, _, hn, _⟩
  ·
   cases a <;> simp [Builtin.append_, run_underlying ht, sizeOf, typeInfo, hi, Builtin.lenOf, Builtin.firstCells, loadCells, loadCellsFrom]
  ·
   cases a <;> simp [Builtin.append_, run_underlying ht, sizeOf, typeInfo, hi, Builtin.lenOf, hn, Builtin.firstCells, storeCells, loadCells, loadCellsFrom]
 ·
  have hl0 : 0 < l.length := List.length_pos_iff.2 h0
  obtain ⟨b, off, rfl, _⟩ := hev.cells 0 hl0
  have hnews := hev.news
  have hone := evs_one l
  have hln : (l.flatMap evL).length = l.length * i.size := by rw [hsz]; exact evFlat_length l
  have hlf : (ws.flatMap evL ++ l.flatMap evL).length = (ws ++ l).length * 3 := by rw [List.length_append, evFlat_length, evFlat_length, List.length_append]; omega
  have mk : ∀ (old : Nat), WaitsAt (ownAt o w.heap.size .waits) (w.drew.alloc (.cells ((ws.flatMap evL).toArray ++ (l.flatMap evL).toArray ++ Builtin.zeroCells (Value.agg #[.int .i64 0, .int .i64 0, .int .i64 0]).cells (grownCap w (ws.length + l.length) old 94 - (ws.length + l.length))) 94)) (.slice (some ⟨w.heap.size, 0, none⟩) (ws.length + l.length) (grownCap w (ws.length + l.length) old 94)) (ws ++ l) ∧
   Chg (· = .waits) o (ownAt o w.heap.size .waits) w (w.drew.alloc (.cells ((ws.flatMap evL).toArray ++ (l.flatMap evL).toArray ++ Builtin.zeroCells (Value.agg #[.int .i64 0, .int .i64 0, .int .i64 0]).cells (grownCap w (ws.length + l.length) old 94 - (ws.length + l.length))) 94)) ∧
   OwnLt (ownAt o w.heap.size .waits) (w.drew.alloc (.cells ((ws.flatMap evL).toArray ++ (l.flatMap evL).toArray ++ Builtin.zeroCells (Value.agg #[.int .i64 0, .int .i64 0, .int .i64 0]).cells (grownCap w (ws.length + l.length) old 94 - (ws.length + l.length))) 94)) := by
   intro old
   have hge := grownCap_ge w (ws.length + l.length) old 94
   have hcm : grownCap w (ws.length + l.length) old 94 ≤ maxLen := grownCap_le_maxLen w _ old _ (by unfold maxLen; omega)
   refine ⟨⟨.inr ⟨w.heap.size, 0, _, _, by rw [List.length_append], ownAt_same _ _ _, heap_alloc_new w.drew _, by rw [List.length_append]; exact hge, hcm, ?_, ?_⟩⟩, ((Chg.refl (· = .waits) o w).drewN 1).allocR (w' := w.drewN 1) hlt _ rfl, OwnLt.allocR (w := w.drewN 1) hlt _ .waits⟩
   ·
    have e3 : (Value.agg #[.int .i64 0, .int .i64 0, .int .i64 0]).cells.size = 3 := rfl
    simp only [Array.size_append, List.size_toArray, size_zeroCells, e3, evFlat_length, Nat.zero_add]
    omega
   ·
    simp only [Array.toList_append, List.drop_zero, List.flatMap_append]
    rw [List.take_left' hlf]
  rcases h.ex with ⟨rfl, rfl⟩ | ⟨g, off2, cap, cur, rfl, hog, hg, hnc, hcm, hcs, htake⟩
  ·
   have hr := run_append_nil (P := Tryz.prog) w 24 ty 94 i _ ht hi hz ⟨b, off, none⟩ l.length c (l.flatMap evL) hln hnews hl0 (by simp at hsm; omega) (by rw [hby]; simp at hsm; omega)
   have hm := mk 0
   simp only [List.length_nil, Nat.zero_add, List.flatMap_nil, List.nil_append, Array.empty_append] at hm ⊢
   exact ⟨_, _, _, hr, hm⟩
  ·
   by_cases hroom : ws.length + l.length ≤ cap
   ·
    have hfit : off2 + ws.length * i.size + (l.flatMap evL).length ≤ cur.size := by rw [hln, hsz]; omega
    have hr := run_append_roomO (P := Tryz.prog) w 24 ty 94 i ht hi g off2 ws.length cap cur hg ⟨b, off, none⟩ l.length c (l.flatMap evL) hln hnews hone hroom hfit
    refine ⟨_, _, o, hr, ⟨.inr ⟨g, off2, cap, _, by rw [List.length_append], hog, setRow_heap w g cur _ _ _ hg, by rw [List.length_append]; exact hroom, hcm, ?_, ?_⟩⟩, ⟨rfl, rfl, rfl, by simp, fun k _ hk => setRow_other w g k _ (by rintro rfl; exact hk _ hog rfl), fun _ _ h => h, fun _ h => (h rfl).elim⟩, fun k q hq => by have := hlt k q hq; simpa using this⟩
    ·
     simp only [List.size_toArray, List.length_append, List.length_take, List.length_drop, Array.length_toList]
     omega
    ·
     rw [hsz] at hfit ⊢
     have e1 : (cur.toList.take (off2 + ws.length * 3)).drop off2 = ws.flatMap evL := by
      rw [← htake, List.drop_take, Nat.add_sub_cancel_left]
     have e2 : off2 ≤ (cur.toList.take (off2 + ws.length * 3)).length := by
      have hq : ws.length * 3 ≤ cap * 3 := Nat.mul_le_mul_right _ hnc
      have hq2 : off2 + ws.length * 3 ≤ cur.size := by clear hfit; omega
      have hq3 : cur.toList.length = cur.size := Array.length_toList
      rw [List.length_take, hq3, Nat.min_eq_left hq2]; exact Nat.le_add_right _ _
     simp only [List.append_assoc]
     rw [List.drop_append_of_le_length e2, e1, ← List.append_assoc, List.flatMap_append, List.take_left' hlf]
   ·
    have holds : ∀ j u, (ws.flatMap evL)[j]? = some u → w.cell? ((⟨g, off2, none⟩ : Addr).add j) = some u := by
     intro j u hu
     have hadd : (⟨g, off2, none⟩ : Addr).add j = ⟨g, off2 + j, none⟩ := by unfold Addr.add; split <;> simp_all
     rw [hadd, cell_of_row w g (off2 + j) cur _ _ hg]
     rw [← htake, List.getElem?_take] at hu
     split at hu
     ·
      rw [List.getElem?_drop] at hu
      simpa using hu
     ·
      cases hu
    have hr := run_append_grow (P := Tryz.prog) w 24 ty 94 i _ ht hi hz ⟨g, off2, none⟩ ws.length cap (ws.flatMap evL) (by rw [hsz]; exact evFlat_length ws) holds ⟨b, off, none⟩ l.length c (l.flatMap evL) hln hnews (by omega) (by omega) (growslice_fits (by omega) (by rw [hby]; omega))
    exact ⟨_, _, _, hr, mk cap⟩
open Go.RowKit
theorem WaitsAt.form {o : Own} {w : World} {v : Value} {ws : List Ev} (h : WaitsAt o w v ws) : ∃ a c, v = .slice a ws.length c := by
 rcases h.ex with ⟨rfl, rfl⟩ | ⟨g, off, cap, cur, rfl, _⟩
 ·
  exact ⟨_, _, rfl⟩
 ·
  exact ⟨_, _, rfl⟩
theorem wpList_appE {P : Program} {ops : Array Oper} {rest : List Oper} {op : Oper} {a : Act} {Q : Exit → Act → World → Prop} {w w' : World} {vs vx v' : Value} (hgd : op.guard = none) (s x : Operand) (t : TypeId)
 (hop : op.op = .call { callee := .builtin .append, args := #[s, x], argTypes := #[t, t] }) (hs : a.eval s = vs) (hx : a.eval x = vx) (hr : (Builtin.append_ #[t, t] op.type #[vs, vx]).run P w = .ok v' w')
 (hK : wpList P ops Q rest (a.put op.dst v') w') : wpList P ops Q (op :: rest) a w := by
 refine wpList_plain hgd fun K hKK => ?_
 unfold Oper.wp execOp
 simp only [hop, resolve, invoke, builtin, Sem.run_bind, Sem.run_pure, Result.andThen_ok, List.map_toArray, List.map_cons, List.map_nil, hs, hx, hr]
 exact hKK _ _ hK
theorem ManIn.setWaits {F : Phi} {o o' : Own} {w w' : World} {mb : Nat} {m : ManD} {s : ManW} (h : ManIn F o w mb m s) (hlt : OwnLt o w) {v' : Value} {l' : List Ev} (hw : WaitsAt o' w' v' l') (hc : Chg (· = .waits) o o' w w') : ManIn F o' (w'.setCell ⟨mb, 4, none⟩ v') mb { m with waits := l' } { s with vw := v' } := by
 have key : ∀ {g r}, o g = some r → r ≠ .man → r ≠ .waits → (w'.setCell ⟨mb, 4, none⟩ v').heap[g]? = w.heap[g]? := by
  intro g r hg h1 h2
  refine (heap_setCell_ne (p := ⟨mb, 4, none⟩) (fun e => ?_) _).trans (hc.same hlt hg h2)
  have e' : g = mb := e
  subst e'
  have := h.own; rw [hg] at this; cases this; exact h1 rfl
 refine ⟨hc.ext _ _ h.own, ?_, h.store.keepR (fun g r hg hr => key hg (by rintro rfl; simp [RStore, RPool] at hr) (by rintro rfl; simp [RStore, RPool] at hr)) hc.ext, h.memo.keep (fun g r hg hr => key hg (by rintro rfl; rcases hr with e | e <;> cases e) (by rintro rfl; rcases hr with e | e <;> cases e)) hc.ext, hc.ext _ _ h.ownh, h.map.keepB (key h.ownh (by simp) (by simp)), hw.keep (fun g hg => heap_setCell_ne (p := ⟨mb, 4, none⟩) (fun e => ?_) _) (fun _ h => h)⟩
 ·
  exact heap_setCell_same ((hc.same hlt h.own (by simp)).trans h.blk) _
 ·
  have e' : g = mb := e
  subst e'
  have := hc.ext _ _ h.own; rw [hg] at this; cases this
section
variable {K : Law} {n : Nat} {Od : List Nat → Prop} {room : Nat} {w0 w w' : World} {mb : Nat} {fs : List (Int × BF)} {nx : Int} {o o' : Own} {m m' : ManD} {V V' : Nat → BF}
structure Planned (K : Law) (n : Nat) (Od : List Nat → Prop) (room : Nat) (w0 : World) (mb : Nat) (fs : List (Int × BF)) (nx : Int) (o : Own) (w : World) (m : ManD) (V : Nat → BF) (l : List Ev) (z : Int) (o' : Own) (w' : World) (m' : ManD) : Prop where
 sat : SatE K n Od room w0 mb fs nx w' o' m' V
 d : m'.d = m.d
 chg : Chg (fun _ => True) o o' w w'
 no : z ≠ 0 → m'.waits = m.waits ∧ m'.calls = m.calls
 yes : z = 0 → m'.waits = m.waits ++ l ∧ m'.calls = if m.waits = [] then 0 else m.calls
set_option maxRecDepth 100000 in
set_option maxHeartbeats 1000000 in
theorem manPlan_any (h : SatE K n Od room w0 mb fs nx w o m V) {a : Option Addr} {c : Nat} {l : List Ev} (hev : EvsAt w a l) (hno : 0 < l.length → ∀ x, a = some x → o x.block = none) (hwl : m.waits.length ≤ 256) :
 Calls Tryz.prog 37 #[.pointer (some ⟨mb, 0, none⟩), .slice a l.length c] w fun e w' => e = .returned (.int .i64 (planR n m.waits.length l)) ∧ ∃ o' m', Planned K n Od room w0 mb fs nx o w m V l (planR n m.waits.length l) o' w' m' := by
 obtain ⟨Q, hQ⟩ : ∃ Q : Ending → World → Prop, Q = fun e w' => e = .returned (.int .i64 (planR n m.waits.length l)) ∧ ∃ o' m', Planned K n Od room w0 mb fs nx o w m V l (planR n m.waits.length l) o' w' m' := ⟨_, rfl⟩
 rw [← hQ]
 have HQ := Lib.hid hQ
 clear hQ
 have hll := hev.len
 have hn64 : n ≤ 64 := by rw [← h.vars]; exact h.ok.store.small
 obtain ⟨s, hs⟩ := h.is
 obtain ⟨c0, c1, c2, c3, c4, c5, f0⟩ := cells6 hs.blk
 obtain ⟨av, cv, hvw⟩ := hs.waits.form
 have HBAD : Hid (∀ (z : Int) W, Below w.heap.size w W → planR n m.waits.length l = z → z ≠ 0 → Q (.returned (.int .i64 z)) W) := Lib.hid (by
  intro z W hb hz h0
  rw [HQ.out, hz]
  exact ⟨rfl, o, m, h.below hb, rfl, Chg.of_below hb _ _, fun _ => ⟨rfl, rfl⟩, fun e => (h0 e).elim⟩)
 have HV : Hid (∀ W, Below w.heap.size w W → Calls Tryz.prog 51 #[.pointer (some ⟨mb, 0, none⟩)] W fun e w' => e = .returned (.int .i64 n) ∧ w' = W) := Lib.hid (fun W hb => (manVars_any (h.below hb).is).mono fun e w' q => ⟨by rw [q.1, h.vars], q.2.symm⟩)
 have HI := Lib.hid hev
 have HS := Lib.hid hs
 have HH := Lib.hid h
 have HNO := Lib.hid hno
 rw [hvw] at c4
 have HVW := Lib.hid hvw
 have HWL := Lib.hid hwl
 clear h hs hev hno hvw
 by_cases hmany : (l.length : Int) > 256 - m.waits.length
 ·
  have HF := Lib.hid (HBAD.out 18 w (Below.refl _ _) (by unfold planR; rw [if_pos hmany]) (by decide))
  go_enter Tryz.func37, Tryz.ntmps37
  go_wp2_with fail
  exact HF.out
 have HR : Hid (planR n m.waits.length l = planL n (l.drop 0)) := Lib.hid (by unfold planR; rw [if_neg hmany]; rfl)
 obtain ⟨P, hP⟩ : ∃ P, P = planR n m.waits.length l := ⟨_, rfl⟩
 rw [← hP] at HR HBAD
 have HPE := Lib.hid hP
 clear hP
 have HM := Lib.hid hmany
 go_enter Tryz.func37, Tryz.ntmps37
 go_wp2_with fail
 go_loopw [20] (fun s20 wr => ∃ i : Nat, i ≤ l.length ∧ s20 = .int .i64 i ∧ Hid (Below w.heap.size w wr) ∧ Hid (P = planL n (l.drop i))) (fun s20 _ => l.length - (intOf s20).toNat)
 case atStart => exact ⟨0, Nat.zero_le _, rfl, Lib.hid (Below.refl _ _), HR⟩
 case round =>
  clear HR
  obtain ⟨i, hi, rfl, HB, HP⟩ := hrel
  by_cases hlt : i < l.length
  ·
   obtain ⟨b, off, rfl, e0, e1, e2⟩ := (HI.out.below HB.out).cells i hlt
   have hiz : (i : Int) < l.length := by omega
   have HC : Hid (∀ z : Int, evCode n l[i] = z → z ≠ 0 → P = z) := Lib.hid fun z hz h0 => by rw [HP.out, planL_drop hlt, hz, if_neg h0]
   have HN : Hid (evCode n l[i] = 0 → P = planL n (l.drop (i + 1))) := Lib.hid fun hz => by rw [HP.out, planL_drop hlt, hz, if_pos rfl]
   have HE : Hid (evCode n l[i] = if l[i].kind < 1 ∨ l[i].kind > 3 then 11 else if l[i].after < 1 ∨ (l[i].kind = 2 ∧ (l[i].level < 0 ∨ l[i].level > (n : Int) - 2)) then 2 else 0) := Lib.hid rfl
   obtain ⟨ev, hev⟩ : ∃ ev, ev = l[i] := ⟨_, rfl⟩
   rw [← hev] at e0 e1 e2 HC HN HE
   obtain ⟨af, ki, le⟩ := ev
   dsimp only at e0 e1 e2 HE
   clear hev HP c0 c1 c2 c3 c4 c5 f0
   obtain ⟨W, hW⟩ : ∃ W, W = wr.alloc (.cells #[.int .i64 af, .int .i64 ki, .int .i64 le] 94) := ⟨_, rfl⟩
   have hbW : Below w.heap.size w W := HB.out.trans ((show Below wr.heap.size wr W by rw [hW]; exact below_new1 wr _).mono HB.out.size)
   obtain ⟨bx, hbx⟩ : ∃ q, q = wr.heap.size := ⟨_, rfl⟩
   have hx : W.heap[bx]? = some (.cells #[.int .i64 af, .int .i64 ki, .int .i64 le] 94 (0, 0)) := by rw [hW, hbx]; exact heap_alloc_new wr _
   have b0 : W.cell? ⟨bx, 0, none⟩ = some (.int .i64 af) := by rw [cell_of_row W _ 0 _ _ _ hx]; rfl
   have b1 : W.cell? ⟨bx, 1, none⟩ = some (.int .i64 ki) := by rw [cell_of_row W _ 1 _ _ _ hx]; rfl
   have b2 : W.cell? ⟨bx, 2, none⟩ = some (.int .i64 le) := by rw [cell_of_row W _ 2 _ _ _ hx]; rfl
   have HW := Lib.hid hW
   have HBX := Lib.hid hbx
   have HBW := Lib.hid hbW
   have HVV : Hid (∀ q, Calls Tryz.prog 51 #[.pointer (some ⟨mb, 0, none⟩)] (W.drewN q) fun e w' => e = .returned (.int .i64 n) ∧ w' = W.drewN q) := Lib.hid (fun q => HV.out _ (hbW.trans ((below_draw W q).mono hbW.size)))
   have HJL := Lib.hid hlt
   clear hW hbx hbW hx
   go_upto_region 8 with fail
   rw [← HW.out, ← HBX.out]
   have hki : ki < 1 ∨ ki > 3 ∨ (ki = 2) ∨ (ki = 1 ∨ ki = 3) := by omega
   rcases hki with hk | hk | hk | hk
   ·
    have HF := Lib.hid (HBAD.out 11 W HBW.out (HC.out 11 (by rw [HE.out, if_pos (.inl hk)]) (by decide)) (by decide))
    go_wp2_with fail
    exact HF.out
   ·
    have HF := Lib.hid (HBAD.out 11 W HBW.out (HC.out 11 (by rw [HE.out, if_pos (.inr hk)]) (by decide)) (by decide))
    have hk1 : ¬ ki < 1 := by omega
    go_wp2_with fail
    exact HF.out
   ·
    by_cases ha : af < 1
    ·
     have HF : Hid (∀ q, Q (.returned (.int .i64 2)) (W.drewN q)) := Lib.hid (fun q => HBAD.out 2 _ (HBW.out.trans ((below_draw W q).mono HBW.out.size)) (HC.out 2 (by rw [HE.out, if_neg (by omega), if_pos (.inl ha)]) (by decide)) (by decide))
     subst hk
     go_upto_region 10 with fail
     go_quiet (with_reducible exact Calls.quiet_of_same (HVV.out _))
     go_wp2_with fail
     exact HF.out _
    ·
     by_cases hl0 : le < 0
     ·
      have HF : Hid (∀ q, Q (.returned (.int .i64 2)) (W.drewN q)) := Lib.hid (fun q => HBAD.out 2 _ (HBW.out.trans ((below_draw W q).mono HBW.out.size)) (HC.out 2 (by rw [HE.out, if_neg (by omega), if_pos (.inr ⟨hk, .inl hl0⟩)]) (by decide)) (by decide))
      subst hk
      go_upto_region 10 with fail
      go_quiet (with_reducible exact Calls.quiet_of_same (HVV.out _))
      go_wp2_with fail
      exact HF.out _
     ·
      by_cases hl1 : le ≥ (n : Int) - 1
      ·
       have HF : Hid (∀ q, Q (.returned (.int .i64 2)) (W.drewN q)) := Lib.hid (fun q => HBAD.out 2 _ (HBW.out.trans ((below_draw W q).mono HBW.out.size)) (HC.out 2 (by rw [HE.out, if_neg (by omega), if_pos (.inr ⟨hk, .inr (by omega)⟩)]) (by decide)) (by decide))
       subst hk
       go_upto_region 10 with fail
       go_quiet (with_reducible exact Calls.quiet_of_same (HVV.out _))
       go_wp2_with fail
       exact HF.out _
      ·
       have HPP := Lib.hid (HN.out (by rw [HE.out, if_neg (by omega), if_neg (by omega)]))
       subst hk
       go_upto_region 10 with fail
       go_quiet (with_reducible exact Calls.quiet_of_same (HVV.out _))
       have HBQ := Lib.hid (HBW.out.trans ((below_draw W nq).mono HBW.out.size))
       go_wp2_with fail
       go_roundw
       case rel => exact ⟨i + 1, Nat.succ_le_of_lt HJL.out, by go_num, HBQ, HPP⟩
       case measure =>
        have := HJL.out
        simp [intOf]
        omega
   ·
    have hk1 : ¬ ki < 1 := by omega
    have hk2 : ¬ ki > 3 := by omega
    have hk3 : (ki == 2) = false := by simp; omega
    by_cases ha : af < 1
    ·
     have HF : Hid (∀ q, Q (.returned (.int .i64 2)) (W.drewN q)) := Lib.hid (fun q => HBAD.out 2 _ (HBW.out.trans ((below_draw W q).mono HBW.out.size)) (HC.out 2 (by rw [HE.out, if_neg (by omega), if_pos (.inl ha)]) (by decide)) (by decide))
     clear hk
     go_upto_region 10 with fail
     go_quiet (with_reducible exact Calls.quiet_of_same (HVV.out _))
     go_wp2_with fail
     exact HF.out _
    ·
     have HPP := Lib.hid (HN.out (by rw [HE.out, if_neg (by omega), if_neg (by omega)]))
     clear hk
     go_upto_region 10 with fail
     go_quiet (with_reducible exact Calls.quiet_of_same (HVV.out _))
     have HBQ := Lib.hid (HBW.out.trans ((below_draw W nq).mono HBW.out.size))
     go_wp2_with fail
     go_roundw
     case rel => exact ⟨i + 1, Nat.succ_le_of_lt HJL.out, by go_num, HBQ, HPP⟩
     case measure =>
      have := HJL.out
      simp [intOf]
      omega
  ·
   have he : i = l.length := by omega
   have hiz : ¬ (i : Int) < l.length := by omega
   have HPP : Hid (P = 0) := Lib.hid (by rw [HP.out, he, List.drop_length]; rfl)
   clear he
   have hs' := HS.out.below HH.out.lt HB.out
   have hlt' := HH.out.lt.mono HB.out.size
   have hsm : m.waits.length + l.length ≤ 1000 := by have := HM.out; have := HWL.out; omega
   have HFIN : Hid (∀ (cl : Int) (W : World) (hm : ManIn (K m.d V) o W mb { m with calls := cl } s) (hl : OwnLt o W) (hc : Chg (fun _ => True) o o w W) (v' : Value) (W' : World) (o' : Own), cl = (if m.waits = [] then 0 else m.calls) → WaitsAt o' W' v' (m.waits ++ l) → Chg (· = .waits) o o' W W' → OwnLt o' W' → Q (.returned (.int .i64 0)) (W'.setCell ⟨mb, 4, none⟩ v')) := Lib.hid (by
    intro cl W hm hl hc v' W' o' hcl hw hc2 hl2
    rw [HQ.out, ← HPE.out, HPP.out]
    have hm2 := hm.setWaits hl hw hc2
    have hc3 : Chg (fun _ => True) o o' w (W'.setCell ⟨mb, 4, none⟩ v') := (hc.trans hc2.any).setCell (p := ⟨mb, 4, none⟩) (hc2.ext _ _ hm.own) trivial _
    exact ⟨rfl, o', { m with waits := m.waits ++ l, calls := cl }, ⟨⟨_, hm2⟩, hl2.mono (by simp [World.setCell]), ⟨HH.out.ok.store, ⟨HH.out.ok.handles.nodup, HH.out.ok.handles.zero, HH.out.ok.handles.one, HH.out.ok.handles.lt, HH.out.ok.handles.next, HH.out.ok.handles.ok, HH.out.ok.handles.len, HH.out.ok.handles.refs⟩⟩, HH.out.vars, HH.out.od, HH.out.room, HH.out.next, HH.out.hs, HH.out.chg.lower (ChgX.of_chg hc3 NoB) (fun _ e => e.elim)⟩, rfl, hc3, fun e => (e rfl).elim, fun _ => ⟨rfl, hcl⟩⟩)
   have HI2 := HI.out.below HB.out
   clear c0 c1 c2 c3 c4 c5 f0
   obtain ⟨c0, c1, c2, c3, c4, c5, f0⟩ := cells6 hs'.blk
   by_cases hw0 : m.waits = []
   ·
    have hz : m.waits.length = 0 := by rw [hw0]; rfl
    have HZ := Lib.hid hz
    have hm1 : ManIn (K m.d V) o (wr.setCell ⟨mb, 5, none⟩ (.int .i64 0)) mb { m with calls := 0 } s := hs'.field rfl rfl rfl rfl rfl (hs'.waits) rfl
    have hb1 : Chg (fun _ => True) o o w (wr.setCell ⟨mb, 5, none⟩ (.int .i64 0)) := (Chg.of_below HB.out _ _).setCell (p := ⟨mb, 5, none⟩) hs'.own trivial _
    have hl1 : OwnLt o (wr.setCell ⟨mb, 5, none⟩ (.int .i64 0)) := hlt'.mono (by simp [World.setCell])
    have he1 : EvsAt (wr.setCell ⟨mb, 5, none⟩ (.int .i64 0)) a l := ⟨HI2.len, fun k hk => by
     obtain ⟨b, off, e, q0, q1, q2⟩ := HI2.cells k hk
     have hne : mb ≠ b := by
      rintro rfl
      have := HNO.out (by omega) _ e
      have h2 := hs'.own
      rw [h2] at this; cases this
     exact ⟨b, off, e, cell_setCell_ne q0 (.inl hne), cell_setCell_ne q1 (.inl hne), cell_setCell_ne q2 (.inl hne)⟩⟩
    obtain ⟨v', w2, o2, hrun, hwa, hca, hla⟩ := waits_append (c := c) hm1.waits hl1 he1 hsm 24
    obtain ⟨av2, cv2, hv2⟩ := hwa.form
    subst hv2
    have HF := Lib.hid (HFIN.out 0 _ hm1 hl1 hb1 _ w2 o2 (by rw [if_pos hw0]) hwa hca hla)
    obtain ⟨k0, k1, k2, k3, k4, k5, kf⟩ := cells6 hm1.blk
    have hblk := (hca.same hl1 hm1.own (by simp)).trans hm1.blk
    obtain ⟨j0, j1, j2, j3, j4, j5, jf⟩ := cells6 hblk
    rw [HVW.out, hz] at c4 k4 hrun
    clear hs' hlt' hm1 hb1 hl1 he1 hwa hca hla HI2 hw0 hblk k0 k1 k2 k3 k5 kf
    have HRUN := Lib.hid hrun
    clear hrun
    go_upto_region 15 with fail
    go_wp2_with (refine wpList_appE rfl _ _ _ rfl rfl rfl HRUN.out ?_)
    have hq := HF.out
    rw [List.length_append, HZ.out, Nat.zero_add] at hq
    exact hq
   ·
    have hz : 0 < m.waits.length := List.length_pos_iff.2 hw0
    have hz1 : ((m.waits.length : Int) == 0) = false := by rw [beq_eq_false_iff_ne]; omega
    obtain ⟨v', w2, o2, hrun, hwa, hca, hla⟩ := waits_append (c := c) hs'.waits hlt' HI2 hsm 24
    obtain ⟨av2, cv2, hv2⟩ := hwa.form
    subst hv2
    have HF := Lib.hid (HFIN.out m.calls _ hs' hlt' (Chg.of_below HB.out _ _) _ w2 o2 (by rw [if_neg hw0]) hwa hca hla)
    have hblk := (hca.same hlt' hs'.own (by simp)).trans hs'.blk
    obtain ⟨j0, j1, j2, j3, j4, j5, jf⟩ := cells6 hblk
    rw [HVW.out] at c4 hrun
    clear hs' hlt' hwa hca hla HI2 hw0 hblk hz
    have HRUN := Lib.hid hrun
    clear hrun
    go_upto_region 15 with fail
    go_wp2_with (refine wpList_appE rfl _ _ _ rfl rfl rfl HRUN.out ?_)
    have hq := HF.out
    rw [List.length_append] at hq
    exact hq
end
open Go.RowKit
section
variable {K : Law} {n : Nat} {room : Nat} {w0 : World} {mb : Nat} {fs hs : List (Int × BF)} {nx : Int} {W w w' : World} {o o' : Own} {m m' : ManD} {V V' : Nat → BF} {vl vx : Value} {ws0 : List Ev}
theorem tab_small {n : Nat} (h : n ≤ 16) : 2 ^ n ≤ 1000000 := Nat.le_trans (Nat.pow_le_pow_right (by omega) h) (by decide)
abbrev SufW (ws0 : List Ev) : List Ev → Int → Prop := fun ws _ => ws <:+ ws0
theorem ite_ev (hK : LawOK K) (h : SatE K n (fun _ => True) room w0 mb fs nx w o m V) (hw : m.waits <:+ ws0) (hn : nx ≤ 549755813888) (hr : (fs.length + 1) * 2 ^ n ≤ room) {kf kg kh : Int} {F G H : BF} (hf : (kf, F) ∈ fs) (hg : (kg, G) ∈ fs) (hh : (kh, H) ∈ fs) :
 Calls Tryz.prog 18 #[.pointer (some ⟨mb, 0, none⟩), .int .i64 kf, .int .i64 kg, .int .i64 kh] w fun x w'' => x = .returned (.tuple #[.int .i64 nx, .int .i64 0]) ∧ Goes K n (fun _ => True) room w0 mb (fs ++ [(nx, iteFn F G H)]) (nx + 1) (SufW ws0) o w w'' := by
 refine (manIte_gen hK h ws0 hw (fun ev _ => happen_any hn ev) (by omega) hf hg hh).mono ?_
 rintro x w'' hp
 obtain ⟨o2, m2, V2, q1, q2, q3, q4⟩ := opLeft_ok hp (Nat.sub_le _ _) hr
 exact ⟨q3, o2, m2, V2, q1, q2, q4⟩
theorem goes_law {Od Od' : List Nat → Prop} {fs' : List (Int × BF)} {nx' : Int} {Wt Wt' : List Ev → Int → Prop} {hl hx : List (Int × BF)} (h : LawT K n Od room w0 mb fs nx Wt hl hx W o m V vl vx) (g : Goes K n Od' room w0 mb fs' nx' Wt' o W w') (hb : B2 fs') : LawE K n Od' room w0 mb fs' nx' Wt' hl hx w' vl vx := by
 obtain ⟨o', m', V', h1, h2, h3⟩ := g
 exact ⟨o', m', V', h.go h3 hb h2 h1⟩
def LawC (K : Law) (n : Nat) (Od : List Nat → Prop) (room : Nat) (w0 : World) (mb : Nat) (fs : List (Int × BF)) (nx : Int) (Wt : List Ev → Int → Prop) (hl hx : List (Int × BF)) (o : Own) (W w' : World) (vl vx : Value) : Prop :=
 ∃ o' m' V', ChgX NoB o o' W w' ∧ LawT K n Od room w0 mb fs nx Wt hl hx w' o' m' V' vl vx
theorem LawC.after {Od : List Nat → Prop} {Wt : List Ev → Int → Prop} {hl hx : List (Int × BF)} {w1 : World} (hc : ChgX NoB o o' W w1) (g : LawC K n Od room w0 mb fs nx Wt hl hx o' w1 w' vl vx) : LawC K n Od room w0 mb fs nx Wt hl hx o W w' vl vx := by
 obtain ⟨o2, m2, V2, h1, h2⟩ := g
 exact ⟨o2, m2, V2, hc.trans h1 (fun _ _ e => e), h2⟩
theorem goes_lawC {Od Od' : List Nat → Prop} {fs' : List (Int × BF)} {nx' : Int} {Wt Wt' : List Ev → Int → Prop} {hl hx : List (Int × BF)} (h : LawT K n Od room w0 mb fs nx Wt hl hx W o m V vl vx) (g : Goes K n Od' room w0 mb fs' nx' Wt' o W w') (hb : B2 fs') : LawC K n Od' room w0 mb fs' nx' Wt' hl hx o W w' vl vx := by
 obtain ⟨o', m', V', h1, h2, h3⟩ := g
 exact ⟨o', m', V', h1, h.go h3 hb h2 h1⟩
theorem LawT.goes {Od : List Nat → Prop} {Wt : List Ev → Int → Prop} {hl hx : List (Int × BF)} (h : LawT K n Od room w0 mb fs nx Wt hl hx W o m V vl vx) : Goes K n Od room w0 mb fs nx Wt o W W := ⟨o, m, V, ChgX.of_below (Below.refl _ _) o NoB, h.st, h.sat⟩
set_option maxRecDepth 100000 in
set_option maxHeartbeats 4000000 in
theorem again_any (hK : LawOK K) (h : LawT K n (fun _ => True) room w0 mb fs nx (SufW ws0) hs hs W o m V vl vx) (hsub : ∀ p ∈ hs, p ∈ fs) (hn16 : n ≤ 16) (hl : hs.length ≤ 100) (hn : nx + 2 ≤ 549755813888) (hr : (fs.length + 1) * 2 ^ n ≤ room) :
 Calls Tryz.prog 44 #[.pointer (some ⟨mb, 0, none⟩), .int .i64 n, vl, vx] W fun x w' => x = .returned (.bool true) ∧ LawC K n (fun _ => True) room w0 mb fs (nx + 1) (SufW ws0) hs hs o W w' vl vx := by
 have HL := Lib.hid h
 have HONE := Lib.hid (one_law h hsub hn16 hl)
 have HSUB := Lib.hid hsub
 have HKK := Lib.hid hK
 have HR := Lib.hid hr
 clear h hsub hr hK
 go_enter Tryz.func44, Tryz.ntmps44
 go_wp2_with fail
 refine (HONE.out _).mono ?_
 rintro y wA ⟨a1, F1, r1, rfl, hm1, hf1, hbA⟩
 have HBA := Lib.hid hbA
 have HLA := Lib.hid (HL.out.below hbA)
 have HF1 := Lib.hid hf1
 have HONE2 := Lib.hid (one_law HLA.out HSUB.out hn16 hl)
 clear hf1 hbA HONE HL
 go_wp2_with fail
 refine (HONE2.out _).mono ?_
 rintro y wB ⟨a2, F2, r2, rfl, hm2, hf2, hbB⟩
 have HBB := Lib.hid (HBA.out.trans (hbB.mono HBA.out.size))
 have HLB := Lib.hid (HLA.out.below hbB)
 have HF1B := Lib.hid (HF1.out.chg (chg_below hbB o))
 have HF2 := Lib.hid hf2
 have HONE3 := Lib.hid (one_law HLB.out HSUB.out hn16 hl)
 clear hf2 hbB HONE2 HLA HF1
 go_wp2_with fail
 refine (HONE3.out _).mono ?_
 rintro y wC ⟨a3, F3, r3, rfl, hm3, hf3, hbC⟩
 have HBC := Lib.hid (HBB.out.trans (hbC.mono HBB.out.size))
 have HLC := Lib.hid (HLB.out.below hbC)
 have HF1C := Lib.hid (HF1B.out.chg (chg_below hbC o))
 have HF2C := Lib.hid (HF2.out.chg (chg_below hbC o))
 have HF3C := Lib.hid hf3
 have HITE := Lib.hid (ite_ev HKK.out HLC.out.sat HLC.out.st (by omega) HR.out hm1 hm2 hm3)
 clear hf3 hbC HONE3 HLB HF1B HF2 hm1 hm2 hm3
 go_wp2_with fail
 refine HITE.out.mono ?_
 rintro y w4 ⟨rfl, o4, m4, V4, hc4, hw4, hs4⟩
 have HC4 := Lib.hid ((chg_below (HBC.out) o).trans hc4 (fun _ _ e => e))
 have HL4 := Lib.hid (HLC.out.go (Wt' := SufW ws0) hs4 (HLC.out.b2.app _) hw4 hc4)
 obtain ⟨aa1, ca1, rfl, s1⟩ := (HF1C.out.chg hc4).tab
 obtain ⟨aa2, ca2, rfl, s2⟩ := (HF2C.out.chg hc4).tab
 obtain ⟨aa3, ca3, rfl, s3⟩ := (HF3C.out.chg hc4).tab
 have HRI := Lib.hid (refIte_tab n F1 F2 F3 aa1 aa2 aa3 ca1 ca2 ca3 w4 s1 s2 s3)
 have HB2 := Lib.hid HLC.out.b2
 clear hs4 hw4 hc4 s1 s2 s3 HITE HF1C HF2C HF3C HLC
 go_wp2_with fail
 refine HRI.out.mono ?_
 rintro y w5 ⟨g, rfl, hown5, hb5⟩
 have HC5 := Lib.hid (HC4.out.trans (chg_below hb5 o4) (fun _ _ e => e))
 have HL5 := Lib.hid (HL4.out.below hb5)
 have hbs := hown5.boolsIs (by rw [tabB_length]; exact tab_small hn16)
 have HIS := Lib.hid (is_any HL5.out.sat hn16 (k := nx) (F := iteFn F1 F2 F3) (by simp) hbs)
 clear hown5 hb5 hbs HRI HL4
 go_wp2_with fail
 refine HIS.out.mono ?_
 rintro y w6 ⟨b, rfl, hb, hb6⟩
 obtain rfl := hb.2 (by first | rfl | trivial)
 have HC6 := Lib.hid (HC5.out.trans (chg_below hb6 o4) (fun _ _ e => e))
 have HL6 := Lib.hid (HL5.out.below hb6)
 have HD := Lib.hid (drop_ok HKK.out (hs := [(nx, iteFn F1 F2 F3)]) (r := []) (by have := HL6.out.goes; rw [List.append_nil]; exact this) HB2.out (by omega) (by simp) (T := w6.alloc (.cells #[.int .i64 nx] 3)) rfl)
 clear hb hb6 HIS HL5
 go_wp2_with fail
 refine HD.out.mono ?_
 rintro y w7 ⟨rfl, g7⟩
 have HL7 := Lib.hid ((goes_lawC HL6.out g7 (by rw [List.append_nil]; exact HB2.out)).after HC6.out)
 clear g7 HD
 go_wp2_with fail
 go_ret
 exact ⟨rfl, by have := HL7.out; rw [List.append_nil] at this; exact this⟩
end
open Go.RowKit
def roomOf (n : Nat) : Nat := 4 * 2 ^ (2 * n) + 192 * 2 ^ n
set_option maxRecDepth 100000 in
theorem enough_any (n : Nat) (hn : n ≤ 8) (w : World) : Calls Tryz.prog 106 #[.int .i64 n, .int .i64 40] w fun x w' => x = .returned (.int .i64 (roomOf n)) ∧ w = w' := by
 have HB : Hid (∀ (z : Int) (k : Nat), z = k → k ≤ 16 → Calls Tryz.prog 98 #[.int .i64 z] w fun x w' => x = .returned (.int .i64 (2 ^ k : Nat)) ∧ w = w') := Lib.hid fun z k e hk => by subst e; exact bit_any k (by omega) w
 have hA : 2 ^ (2 * n) ≤ 65536 := Nat.le_trans (Nat.pow_le_pow_right (by omega) (show 2 * n ≤ 16 by omega)) (by decide)
 have hB : 2 ^ n ≤ 65536 := Nat.le_trans (Nat.pow_le_pow_right (by omega) (show n ≤ 16 by omega)) (by decide)
 have HB1 := Lib.hid (fun z e => HB.out z (2 * n) e (by omega))
 have HB2 := Lib.hid (fun z e => HB.out z n e (by omega))
 unfold roomOf
 obtain ⟨a, ha⟩ : ∃ a, a = 2 ^ (2 * n) := ⟨_, rfl⟩
 obtain ⟨b, hb⟩ : ∃ b, b = 2 ^ n := ⟨_, rfl⟩
 rw [← ha] at hA HB1 ⊢
 rw [← hb] at hB HB2 ⊢
 clear ha hb HB
 go_enter Tryz.func106, Tryz.ntmps106
 go_wp2_with fail
 refine (HB1.out _ (by omega)).mono ?_
 rintro x w' ⟨rfl, rfl⟩
 go_wp2_with fail
 refine (HB2.out _ (by omega)).mono ?_
 rintro x w' ⟨rfl, rfl⟩
 go_wp2_with fail
 go_ret
 exact ⟨by congr 2, rfl⟩
set_option maxRecDepth 100000 in
theorem room13_any (n : Nat) (hn : n ≤ 8) (w : World) : Calls Tryz.prog 53 #[.int .i64 n, .int .i64 40] w fun x w' => x = .returned (.int .i64 (roomOf n)) ∧ w = w' := by
 have HE := Lib.hid (enough_any n hn w)
 go_enter Tryz.func53, Tryz.ntmps53
 go_wp2_with fail
 refine HE.out.mono ?_
 rintro x w' ⟨rfl, rfl⟩
 go_wp2_with fail
 go_ret
 exact ⟨rfl, rfl⟩
theorem roomOf_le {n : Nat} (hn : n ≤ 6) : 1 ≤ roomOf n ∧ roomOf n ≤ 1048576 := by
 have h1 : 2 ^ (2 * n) ≤ 4096 := Nat.le_trans (Nat.pow_le_pow_right (by omega) (show 2 * n ≤ 12 by omega)) (by decide)
 have h2 : 2 ^ n ≤ 64 := Nat.le_trans (Nat.pow_le_pow_right (by omega) hn) (by decide)
 have h3 : 0 < 2 ^ n := Nat.pow_pos (by omega)
 unfold roomOf
 omega
theorem roomOf_many {n k : Nat} (hk : k ≤ 192) : k * 2 ^ n ≤ roomOf n := by
 have := Nat.mul_le_mul_right (2 ^ n) hk
 unfold roomOf
 omega
def two : List (Int × BF) := [(0, fun _ => false), (1, fun _ => true)]
theorem two_b2 : B2 two := ⟨by simp [two], by simp [two]⟩
theorem new_sat2 {K : Law} (n room : Nat) (w : World) (hn : n ≤ 64) (h1 : 1 ≤ room) (h2 : room ≤ 1048576) :
 Calls Tryz.prog 14 #[.int .i64 n, .int .i64 room] w fun x w' => ∃ mb, x = .returned (.tuple #[.pointer (some ⟨mb, 0, none⟩), .int .i64 0]) ∧ ∃ o m V, SatE K n (fun _ => True) room w mb two 2 w' o m V ∧ m.waits = [] ∧ m.calls = 0 := by
 refine (new_man (F := K (man0 n room).d (fun _ _ => true)) (fun _ => none) n room w (fun k r h => by cases h) hn h1 h2).mono ?_
 rintro x w1 ⟨mb, o1, rfl, hm0, hc0, hl0, _⟩
 exact ⟨mb, rfl, o1, man0 n room, fun _ _ => true, ⟨hm0, hl0, man0_ok n room hn, by simp [man0, store0], trivial, by simp [man0, store0, pool0], rfl, by simp [man0, two, ef]; constructor <;> rfl, ChgX.of_chg hc0 NoB⟩, rfl, rfl⟩
def OrdP (zs : List Int) (l : List Nat) : Prop := ∀ j, j < zs.length → ((l.getD j 0 : Nat) : Int) = at0 zs j
def SetP (K : Law) (q : AskD) (n : Nat) (w : World) (y : Ending) (w' : World) : Prop :=
 ∃ mb vl vx wb hs nx, y = .returned (.tuple #[.pointer (some ⟨mb, 0, none⟩), vl, vx, .bool true]) ∧ Below w.heap.size w wb ∧ hs.map Prod.snd = q.es.map fnT ∧ nx ≤ 1000 ∧ LawE K n (OrdP q.order) (roomOf n) wb mb (two ++ hs) nx (fun ws c => ws = q.plan ∧ c = 0) hs hs w' vl vx
def SetI (K : Law) (q : AskD) (n : Nat) (wb : World) (mb : Nat) (j : Nat) (s8 s9 : Value) (W : World) : Prop :=
 ∃ hs nx, hs.map Prod.snd = (q.es.take j).map fnT ∧ nx ≤ 2 + 120 * (j : Int) ∧ LawE K n (OrdP q.order) (roomOf n) wb mb (two ++ hs) nx (fun ws c => ws = [] ∧ True) hs hs W s8 s9
set_option maxRecDepth 100000 in
set_option maxHeartbeats 8000000 in
theorem setup_any {K : Law} (hK : LawOK K) (q : AskD) (ao ae ap : Option Addr) (co ce cp : Nat) (w : World) (h : AskAt w q ao ae ap) (hsm : SmallP q) (n : Nat) (hqn : q.vars = n) :
 Calls Tryz.prog 23 #[askV q ao ae ap co ce cp] w (SetP K q n w) := by
 have hlo := hsm.lo
 have hhi := hsm.hi
 have hes := hsm.es
 have hpl := hsm.plan
 have HSM := Lib.hid hsm
 have HASK := Lib.hid h
 have hn6 : n ≤ 6 := by omega
 have hrm := roomOf_le hn6
 obtain ⟨Q, hQ⟩ : ∃ Q : Ending → World → Prop, Q = SetP K q n w := ⟨_, rfl⟩
 rw [← hQ]
 have HQ := Lib.hid hQ
 obtain ⟨w1, hw1⟩ : ∃ w1, w1 = w.alloc (.cells #[.int .i64 q.vars, .slice ao q.order.length co, .slice ae q.es.length ce, .slice ap q.plan.length cp] 26) := ⟨_, rfl⟩
 have HW1 : Hid (_ = w1) := Lib.hid hw1.symm
 have HB1 : Hid (Below w.heap.size w w1) := by rw [hw1]; exact Lib.hid (below_new1 _ _)
 have hblk : w1.heap[w.heap.size]? = some (.cells #[.int .i64 q.vars, .slice ao q.order.length co, .slice ae q.es.length ce, .slice ap q.plan.length cp] 26 (0, 0)) := by rw [hw1]; exact heap_alloc_new _ _
 have hs1 : w1.heap.size = w.heap.size + 1 := by rw [hw1]; simp
 have HQN := Lib.hid hqn
 rw [hqn] at hblk HW1
 have d0 : w1.cell? ⟨w.heap.size, 0, none⟩ = some (.int .i64 (n : Nat)) := by rw [cell_of_row _ _ 0 _ _ _ hblk]; rfl
 have d1 : w1.cell? ⟨w.heap.size, 1, none⟩ = some (.slice ao q.order.length co) := by rw [cell_of_row _ _ 1 _ _ _ hblk]; rfl
 have d2 : w1.cell? ⟨w.heap.size, 2, none⟩ = some (.slice ae q.es.length ce) := by rw [cell_of_row _ _ 2 _ _ _ hblk]; rfl
 have d3 : w1.cell? ⟨w.heap.size, 3, none⟩ = some (.slice ap q.plan.length cp) := by rw [cell_of_row _ _ 3 _ _ _ hblk]; rfl
 have hqz := hqn
 unfold askV
 rw [hqz]
 obtain ⟨rm, hrmE⟩ : ∃ rm, rm = roomOf n := ⟨_, rfl⟩
 have HRME := Lib.hid hrmE
 have HRM := Lib.hid (fun W => room13_any n (by omega) W)
 rw [← hrmE] at HRM hrm
 clear h hsm hQ hw1 hblk hrmE hqn hqz
 have HNEW := Lib.hid (new_sat2 (K := K) n rm w1.drew (by omega) hrm.1 hrm.2)
 go_enter Tryz.func23, Tryz.ntmps23
 go_upto_region 1 with fail
 rw [HW1.out]
 refine wp_region_mix (fun W : World => W.cell? ⟨w.heap.size, 0, none⟩ = some (.int .i64 (n : Nat)) ∧ True) false 11 [(0, false), (1, false), (2, false), (3, false), (4, true), (5, true), (6, false), (7, false), (8, false), (9, false), (10, false)] (by kernel_rfl) (by kernel_rfl) ⟨d0, trivial⟩ ?_
 simp only [planned, plnLz]
 iterate 4
  refine mix_readE rfl ?_
  apply Exists.intro
  refine ⟨fun w' hw => ?_, ?_⟩
  ·
   obtain ⟨h1, _⟩ := hw
   go_simp
   rfl
  simp only [putLz]
 refine mix_callR (R := fun v w' => v = .int .i64 (rm : Nat) ∧ w' = w1.drew) rfl (by go_simp) ((HRM.out _).mono (fun e w' he => ?_)) ?_
 ·
  obtain ⟨rfl, rfl⟩ := he
  exact ⟨_, rfl, ⟨d0, trivial⟩, rfl, rfl⟩
 rintro v w' - ⟨rfl, rfl⟩
 simp only [putLz]
 refine mix_callR (R := fun v w' => ∃ mb, v = .tuple #[.pointer (some ⟨mb, 0, none⟩), .int .i64 0] ∧ ∃ o m V, SatE K n (fun _ => True) rm w1.drew mb two 2 w' o m V ∧ m.waits = [] ∧ m.calls = 0) rfl (by go_simp) (HNEW.out.mono (fun e w' he => ?_)) ?_
 ·
  obtain ⟨mb, rfl, o, m, V, hst, hrest⟩ := he
  exact ⟨_, rfl, ⟨(hst.chg.below0.cell (p := ⟨w.heap.size, 0, none⟩) (lt_of_cell (w := w1.drew) d0)).trans d0, trivial⟩, mb, rfl, o, m, V, hst, hrest⟩
 rintro v w2 - ⟨mb, rfl, o, m, V, hst, hwt, hcl⟩
 simp only [putLz]
 iterate 5
  refine mix_readE rfl ?_
  apply Exists.intro
  refine ⟨fun w' hw => ?_, ?_⟩
  ·
   obtain ⟨h1, _⟩ := hw
   go_simp
   rfl
  simp only [putLz]
 refine mix_end ?_
 obtain ⟨wb, hwb⟩ : ∃ wb, wb = w1.drew := ⟨_, rfl⟩
 rw [← hwb] at hst
 have HBW : Hid (Below w.heap.size w wb) := Lib.hid (by rw [hwb]; exact HB1.out.trans ((below_draw w1 1).mono HB1.out.size))
 have c0 : wb.cell? ⟨w.heap.size, 0, none⟩ = some (.int .i64 (n : Nat)) := by rw [hwb]; exact d0
 have c1 : wb.cell? ⟨w.heap.size, 1, none⟩ = some (.slice ao q.order.length co) := by rw [hwb]; exact d1
 have c2 : wb.cell? ⟨w.heap.size, 2, none⟩ = some (.slice ae q.es.length ce) := by rw [hwb]; exact d2
 have c3 : wb.cell? ⟨w.heap.size, 3, none⟩ = some (.slice ap q.plan.length cp) := by rw [hwb]; exact d3
 have hbn : w.heap.size < wb.heap.size := lt_of_cell c0
 have HAB := Lib.hid (HASK.out.below HBW.out)
 clear hwb HNEW HRM d0 d1 d2 d3 HW1 hs1
 have HARR := Lib.hid (arrange_any (K := K) hst (by omega) (by rw [HRME.out]; have := roomOf_many (n := n) (k := 6) (by omega); simp [two]; omega) (c := co) (HAB.out.order.below hst.chg.below0) (fun h0 x hx => by
  obtain ⟨b, off, e, hc⟩ := HAB.out.order.cells 0 h0
  rw [hx] at e
  cases e
  exact hst.none0 (lt_of_cell hc)) (by
  rcases Nat.eq_zero_or_pos q.order.length with h0 | h0
  ·
   exact .inl h0
  ·
   have := HSM.out.order h0
   rw [HQN.out] at this
   exact .inr (permP_of this)))
 have e0 := (hst.chg.below0.cell (p := ⟨w.heap.size, 0, none⟩) (lt_of_cell c0)).trans c0
 have e1 := (hst.chg.below0.cell (p := ⟨w.heap.size, 1, none⟩) (lt_of_cell c1)).trans c1
 have HWT := Lib.hid hwt
 clear hst hwt hcl
 go_wp2_with fail
 refine HARR.out.mono ?_
 rintro y w3 ⟨rfl, o3, m3, V3, hst3, hwt3, hcl3, hc3⟩
 have HI0 : Hid (SetI K q n wb mb 0 (.slice none 0 0) (.slice none 0 0) w3) := Lib.hid ⟨[], 2, rfl, by omega, o3, m3, V3, by rw [HRME.out] at hst3; exact hst3, two_b2, ⟨by rw [hwt3, HWT.out], trivial⟩, ⟨ownC_nil _ _ _, fun k hk => by cases hk⟩, ⟨⟨[], rfl, ownC_nil _ _ _, fun i v hv => by simp at hv⟩, fun k hk => by cases hk⟩⟩
 have f2 := (hst3.chg.below0.cell (p := ⟨w.heap.size, 2, none⟩) (lt_of_cell c2)).trans c2
 clear hst3 hwt3 hcl3 hc3 HARR e0 e1
 go_wp2_with fail
 go_loopw [8, 9, 40] (fun s8 s9 s40 wr => ∃ j : Nat, j ≤ q.es.length ∧ s40 = .int .i64 j ∧ Hid (SetI K q n wb mb j s8 s9 wr)) (fun _ _ s40 _ => q.es.length - (intOf s40).toNat)
 case atStart => exact ⟨0, Nat.zero_le _, rfl, HI0⟩
 case round =>
  clear HI0 f2
  rename World => wy
  obtain ⟨j, hj, rfl, HI⟩ := hrel
  obtain ⟨hs, nx, hsnd, hnx, hle⟩ := HI.out
  have HLE := Lib.hid hle
  have HSND := Lib.hid hsnd
  have hhl : hs.length = j := by have := congrArg List.length hsnd; simpa [Nat.min_eq_left hj] using this
  clear HI hsnd hle
  by_cases hlt : j < q.es.length
  ·
   have hjz : (j : Int) < q.es.length := by omega
   have hb0 := HLE.out.below0
   obtain ⟨b, off, x0, x1, x2, ea, k0, k1, k2, hx⟩ := HAB.out.es.cells j hlt
   subst ea
   obtain ⟨zo, zv, za, zn, zc, rfl, rfl, rfl⟩ := hx.parts
   have HEX := Lib.hid (HSM.out.expr _ (List.getElem_mem hlt))
   have hsz40 := HEX.out.1
   obtain ⟨e, he⟩ : ∃ e, e = q.es[j] := ⟨_, rfl⟩
   rw [← he] at hx HEX hsz40
   have HX := Lib.hid hx
   have q0 := (hb0.cell (p := ⟨b, off + j * 3, none⟩) (lt_of_cell k0)).trans k0
   have q1 := (hb0.cell (p := ⟨b, off + j * 3 + 1, none⟩) (lt_of_cell k1)).trans k1
   have q2 := (hb0.cell (p := ⟨b, off + j * 3 + 2, none⟩) (lt_of_cell k2)).trans k2
   have HTK : Hid ((q.es.take (j + 1)).map fnT = (q.es.take j).map fnT ++ [fnT e]) := Lib.hid (by rw [List.take_succ_eq_append_getElem hlt, List.map_append, he]; rfl)
   obtain ⟨wz, hwz⟩ : ∃ wz, wz = wy.alloc (.cells #[.int .i64 zo, .int .i64 zv, .slice za zn zc] 39) := ⟨_, rfl⟩
   have HWZ : Hid (_ = wz) := Lib.hid hwz.symm
   have hbz : Below wy.heap.size wy wz := by rw [hwz]; exact below_new1 _ _
   have hblk : wz.heap[wy.heap.size]? = some (.cells #[.int .i64 zo, .int .i64 zv, .slice za zn zc] 39 (0, 0)) := by rw [hwz]; exact heap_alloc_new _ _
   have p0 : wz.cell? ⟨wy.heap.size, 0, none⟩ = some (.int .i64 zo) := by rw [cell_of_row _ _ 0 _ _ _ hblk]; rfl
   have p1 : wz.cell? ⟨wy.heap.size, 1, none⟩ = some (.int .i64 zv) := by rw [cell_of_row _ _ 1 _ _ _ hblk]; rfl
   have p2 : wz.cell? ⟨wy.heap.size, 2, none⟩ = some (.slice za zn zc) := by rw [cell_of_row _ _ 2 _ _ _ hblk]; rfl
   obtain ⟨o4, m4, V4, lt0⟩ := HLE.out
   have lt4 := lt0.below hbz
   have n4 : o4 wy.heap.size = none := lt0.sat.lt.none (Nat.le_refl _)
   have hlk : ∀ g, u8.ownBlock = some g → g < wy.heap.size := fun g hg => (lt0.l.own.lt g hg).2
   have hll : (two ++ hs).length = 2 + j := by simp [two, hhl]; omega
   have HCALL := Lib.hid (build_any hK e _ (two ++ hs) nx wz o4 m4 V4 lt4.sat lt4.st.1 lt4.b2 HEX.out.2.1.valid (by have := HEX.out.2.2; rw [HQN.out] at this; exact this) hx (by omega) (by rw [hll]; exact roomOf_many (by omega)))
   have HLT4 := Lib.hid lt4
   clear hb0 k0 k1 k2 hx hbz hblk hwz lt4 HLE he lt0
   go_upto_region 9 with fail
   rw [HWZ.out]
   clear q0 q1 q2
   go_wp2_with fail
   refine HCALL.out.mono ?_
   rintro y w5 ⟨k, rfl, hk, o5, m5, V5, hc5, hw5, hs5⟩
   have HLT5 : Hid (LawT K n (OrdP q.order) (roomOf n) wb mb (two ++ (hs ++ [(k, fnT e)])) (k + 1) (fun ws c => ws = [] ∧ True) hs hs w5 o5 m5 V5 u8 u9) := Lib.hid (HLT4.out.go (by rw [← List.append_assoc]; exact hs5) (two_b2.app _) ⟨hw5, trivial⟩ hc5)
   have r0 := hc5.cell (p := ⟨wy.heap.size, 0, none⟩) p0 n4 (fun e => e)
   have r1 := hc5.cell (p := ⟨wy.heap.size, 1, none⟩) p1 n4 (fun e => e)
   have r2 := hc5.cell (p := ⟨wy.heap.size, 2, none⟩) p2 n4 (fun e => e)
   have n5 := hc5.none' (lt_of_cell p0) n4
   have hsz5 : wb.heap.size ≤ w5.heap.size := hs5.chg.size
   clear hc5 hw5 hs5 HCALL p0 p1 p2 HLT4
   go_upto_region 13 with (at_builtin; refine wpList_appC elemInt _ rfl _ _ rfl wb.heap.size _ (intsV (hs.map Prod.fst)) _ rfl rfl rfl rfl rfl (by exact HLT5.out.l.own) (by simp [intsV]; omega) hsz5 ?_; intro v6 w6 hown6 g1 g2 g3 g4 hk6)
   have hw6 := wr_app g1 g2 g3 g4 hk6
   have hk6' : w6.heap[wy.heap.size]? = w5.heap[wy.heap.size]? := hw6.keep _ (lt_of_cell r0) (fun e => by have := hlk _ e; omega)
   have t0 := (World.cell?_of_block (w := w5) (a := ⟨wy.heap.size, 0, none⟩) hk6').trans r0
   have t1 := (World.cell?_of_block (w := w5) (a := ⟨wy.heap.size, 1, none⟩) hk6').trans r1
   have t2 := (World.cell?_of_block (w := w5) (a := ⟨wy.heap.size, 2, none⟩) hk6').trans r2
   have HLT6 := Lib.hid (HLT5.out.appL hown6 g1 g2 g3 g4 hk6 (p := (k, fnT e)))
   have a0 := (HLT6.out.below0.cell (p := ⟨w.heap.size, 0, none⟩) (lt_of_cell c0)).trans c0
   have HTB := Lib.hid (ref06Table_any e _ n (by omega) w6 (by omega) HEX.out.2.1 (HX.out.below HLT6.out.below0))
   clear hw6 hk6' hown6 g1 g2 g3 g4 hk6 r0 r1 r2 HLT5 hlk
   go_wp2_with fail
   refine HTB.out.mono ?_
   rintro y w7 ⟨v7, rfl, hown7, hb7⟩
   obtain ⟨av, cv, rfl, _⟩ := hown7.slice
   have HLB : Hid (LawB w7 o5 wb.heap.size (.slice av (boolsV (tabB n (fnT e))).length cv) (tabB n (fnT e))) := Lib.hid (lawB_new (n := n) hown7 (by rw [tabB_length]; exact tab_small (by omega)) HLT6.out.sat.lt HLT6.out.sat.chg.size)
   have HLT7 := Lib.hid (HLT6.out.below hb7)
   obtain ⟨rs, hrs1, hrs2, hrs3⟩ := HLT7.out.x.ex
   have HR2 := Lib.hid hrs2
   have HR3 := Lib.hid hrs3
   have hrl : rs.length = hs.length := by rw [hrs1]; simp
   have hsz7 : wb.heap.size ≤ w7.heap.size := HLT7.out.sat.chg.size
   clear hown7 hb7 hrs2 hrs3 HTB HLT6 t0 t1 t2 a0
   go_upto_region 14 with (at_builtin; refine wpList_appC elemRow _ rfl _ _ rfl wb.heap.size _ rs _ rfl rfl rfl rfl rfl (by exact HR2.out) (by omega) hsz7 ?_; intro v8 w8 hown8 g1 g2 g3 g4 hk8)
   have HLT8 := Lib.hid (HLT7.out.appX HLB.out rfl hrl HR2.out HR3.out hown8 g1 g2 g3 g4 hk8 (p := (k, fnT e)))
   have HIN : Hid (SetI K q n wb mb (j + 1) v6 v8 w8) := Lib.hid ⟨hs ++ [(k, fnT e)], k + 1, by rw [List.map_append, HSND.out, HTK.out]; rfl, by omega, o5, m5, V5, HLT8.out⟩
   clear hown8 g1 g2 g3 g4 hk8 HR2 HR3 HLT7 HLB HLT8
   go_wp2_with fail
   go_roundw
   case rel => exact ⟨j + 1, by omega, by go_num, HIN⟩
   case measure => simp [intOf]; omega
  ·
   have hje : j = q.es.length := by omega
   have hjz : ¬ (j : Int) < q.es.length := by omega
   obtain ⟨o4, m4, V4, lt4⟩ := HLE.out
   have e3 := (lt4.below0.cell (p := ⟨w.heap.size, 3, none⟩) (lt_of_cell c3)).trans c3
   have hw4 : m4.waits = [] := lt4.st.1
   have hcode : planR n m4.waits.length q.plan = 0 := by
    rw [hw4]
    have := HSM.out.planOk
    rw [HQN.out] at this
    exact this
   have HPL := Lib.hid (manPlan_any lt4.sat (c := cp) (HAB.out.plan.below lt4.below0) (fun h0 x hx => by
    obtain ⟨b, off, e, hc, _⟩ := HAB.out.plan.cells 0 h0
    rw [hx] at e
    cases e
    exact lt4.sat.none0 (lt_of_cell hc)) (by rw [hw4]; simp))
   rw [hcode] at HPL
   have HLT4 := Lib.hid lt4
   have HW4 := Lib.hid hw4
   clear lt4 hw4 hcode HLE
   go_wp2_with fail
   refine HPL.out.mono ?_
   rintro y w5 ⟨rfl, o5, m5, hpd⟩
   have HF : Hid (Q (.returned (.tuple #[.pointer (some ⟨mb, 0, none⟩), u8, u9, .bool true])) w5) := Lib.hid (by
    rw [HQ.out]
    refine ⟨mb, u8, u9, wb, hs, nx, rfl, HBW.out, by rw [HSND.out, hje, List.take_length], by omega, o5, m5, V4, HLT4.out.go hpd.sat HLT4.out.b2 ?_ (ChgX.of_chg hpd.chg NoB)⟩
    have := hpd.yes rfl
    rw [HW4.out] at this
    exact ⟨by simpa using this.1, by simpa using this.2⟩)
   clear hpd HPL
   go_wp2_with fail
   refine bodyPost_ret (results_tmp4 rfl _ _ _) rfl ?_
   exact HF.out
open Go.RowKit
section
variable {P : Program} {ops : Array Oper} {S : World → Prop} {Q : Exit → Act → World → Prop} {last : Bool}
theorem mix_skipG {o : Oper} {r : List (Option Oper × Bool)} {a : Act} {w : World} (hb : Region.wanted o (yielded ops a.tmps) = false) (_ : S w)
 (h : wpMix P ops Q S last r (a.put o.dst undef) w) : wpMix P ops Q S last ((some o, true) :: r) a w := by
 unfold wpMix
 simp only [hb]
 exact h
end
section
variable {K : Law} {n : Nat} {Od : List Nat → Prop} {room : Nat} {w0 : World} {mb : Nat} {fs hs hl hx : List (Int × BF)} {nx : Int} {Wt : List Ev → Int → Prop} {W w w' : World} {o o' : Own} {m m' : ManD} {V V' : Nat → BF} {vl vx : Value}
set_option maxRecDepth 100000 in
theorem manWaits_any {F : Phi} (h : ManAt F o w mb m) : Calls Tryz.prog 30 #[.pointer (some ⟨mb, 0, none⟩)] w fun x w' => x = .returned (.int .i64 m.waits.length) ∧ w = w' := by
 obtain ⟨s, h⟩ := h
 obtain ⟨c0, c1, c2, c3, c4, c5, f0⟩ := cells6 h.blk
 obtain ⟨a, c, e⟩ := h.waits.form
 rw [e] at c4
 clear h e
 go_enter Tryz.func30, Tryz.ntmps30
 go_wp2_with fail
 go_ret
 exact ⟨rfl, rfl⟩
def OrderR (n : Nat) (l : List Nat) (o : Own) (W : World) (x : Ending) (w' : World) : Prop :=
 ∃ a c, x = .returned (.slice a n c) ∧ l.length = n ∧ IntsAt w' a (l.map Int.ofNat) ∧ (∀ y, a = some y → o y.block = none) ∧ Below W.heap.size W w'
theorem order_law (h : LawT K n Od room w0 mb fs nx Wt hl hx W o m V vl vx) : Calls Tryz.prog 42 #[.pointer (some ⟨mb, 0, none⟩)] W fun x w' => OrderR n m.d.vars o W x w' := by
 have hn64 : n ≤ 64 := by have := h.sat.ok.store.small; rw [h.sat.vars] at this; exact this
 refine (manOrder_any h.sat.is h.sat.lt (by rw [h.sat.vars]; exact hn64)).mono ?_
 rintro x w' ⟨v, rfl, hv, hb⟩
 have hown : ∀ k, v.ownBlock = some k → W.heap.size ≤ k := fun k hk => (hv.lt k hk).1
 obtain ⟨av, cv, rfl, hva, _⟩ := hv.sliceIs (by simp [h.sat.vars]; omega)
 refine ⟨av, cv, by rw [List.length_map, h.sat.vars], h.sat.vars, hva, fun y hy => ?_, hb⟩
 subst hy
 exact h.sat.lt.none (hown y.block rfl)
theorem swap_law (h : LawT K n Od room w0 mb fs nx Wt hl hx W o m V vl vx) {k : Nat} (hk1 : k + 1 < n) (hn : nx ≤ 549755813888) (hr : 3 * (fs.length * 2 ^ n) ≤ room) :
 Calls Tryz.prog 45 #[.pointer (some ⟨mb, 0, none⟩), .int .i64 k] W fun e w' => e = .returned (.int .i64 0) ∧ LawC K n (fun l => l = exL m.d.vars k) room w0 mb fs nx Wt hl hx o W w' vl vx := by
 refine (manSwap_ok h.sat hk1 hn hr).mono ?_
 rintro e w' ⟨rfl, o2, m2, V2, s⟩
 have hc := ChgX.of_chg s.chg NoB
 exact ⟨rfl, o2, m2, V2, hc, h.go (s.sat.withOd (by rw [← swapD_exL]; exact s.sat.od)) h.b2 (by rw [s.waits, s.calls]; exact h.st) hc⟩
theorem swap_bad_law (h : LawT K n Od room w0 mb fs nx Wt hl hx W o m V vl vx) {z : Int} (hz : z < 0 ∨ (n : Int) - 1 ≤ z) :
 Calls Tryz.prog 45 #[.pointer (some ⟨mb, 0, none⟩), .int .i64 z] W fun e w' => e = .returned (.int .i64 2) ∧ LawC K n Od room w0 mb fs nx Wt hl hx o W w' vl vx := by
 refine (manSwap_bad h.sat hz).mono ?_
 rintro e w' ⟨rfl, hs, hc⟩
 have hc' := ChgX.of_chg hc NoB
 exact ⟨rfl, o, m, V, hc', h.go hs h.b2 h.st hc'⟩
theorem collect_law (h : LawT K n Od room w0 mb fs nx Wt hl hx W o m V vl vx) :
 Calls Tryz.prog 46 #[.pointer (some ⟨mb, 0, none⟩)] W fun x w' => x = .returned (.int .i64 m.d.dead) ∧ ∃ o' m', ChgX NoB o o' W w' ∧ m'.d.dead = 0 ∧ LawT K n Od room w0 mb fs nx Wt hl hx w' o' m' V vl vx := by
 refine (manCollect_any h.sat).mono ?_
 rintro x w' ⟨rfl, o2, d2, hs, hr, hc⟩
 have hc' := ChgX.of_chg hc NoB
 exact ⟨rfl, o2, _, hc', hr.dead, h.go hs h.b2 h.st hc'⟩
end
open Go.RowKit
set_option maxRecDepth 100000 in
set_option maxHeartbeats 400000 in
theorem refNot_any (bu : List Bool) (au : Option Addr) (cu : Nat) (w : World) (h1 : BoolsAt w au bu) :
 Calls Tryz.prog 28 #[.slice au bu.length cu] w fun x w' => ∃ g, x = .returned (.slice (some ⟨g, 0, none⟩) bu.length bu.length) ∧ OwnB w' w.heap.size (.slice (some ⟨g, 0, none⟩) bu.length bu.length) (bu.map (!·)) ∧ Below w.heap.size w w' := by
 have hlen := h1.len
 obtain ⟨L, hL⟩ : ∃ L, L = bu.length := ⟨_, rfl⟩
 have H1 := Lib.hid h1
 have HLL := Lib.hid hL
 rw [← hL] at hlen ⊢
 clear hL h1
 go_enter Tryz.func28, Tryz.ntmps28
 go_wp2_with (at_make; refine wpList_makeC elemBool rfl _ _ rfl w.heap.size w _ L rfl rfl rfl (by omega) (Nat.le_refl _) (Below.refl _ _) ?_; intro g w1 hown1 hb1 hs1 hk1 hg1 hgx; clear hgx)
 go_loopw [4] (fun s4 wr => ∃ j : Nat, j ≤ L ∧ s4 = .int .i64 j ∧ OwnB wr w.heap.size (.slice (some ⟨g, 0, none⟩) L L) ((bu.map (!·)).take j ++ (List.replicate L false).drop j) ∧ Below w.heap.size w wr) (fun s4 _ => L - (intOf s4).toNat)
 case atStart => exact ⟨0, by omega, rfl, by unfold OwnB; simpa [boolsV] using hown1, hb1⟩
 case round =>
  clear hown1 hb1
  obtain ⟨j, hj, rfl, hown, hbel⟩ := hrel
  by_cases hlt : j < L
  ·
   have hjl : j < (bu.map (!·)).length := by simp [← HLL.out]; exact hlt
   obtain ⟨b1, of1, e1, c1⟩ := (H1.out.below hbel).cells j (by rw [← HLL.out]; exact hlt)
   have q0 := hown.cellB j (by have := HLL.out; simp; omega)
   have p0 := hown.frozen j
   subst e1
   have HOWN := Lib.hid hown
   have HBEL := Lib.hid hbel
   obtain ⟨y1, hy1⟩ : ∃ y, y = bu.getD j false := ⟨_, rfl⟩
   rw [← hy1] at c1
   have HY : Hid ((bu.map (!·))[j] = !y1) := Lib.hid (by
    have hj2 : j < bu.length := by rw [← HLL.out]; exact hlt
    rw [hy1]; simp [hj2])
   clear hown hbel hy1 H1
   go_wp2_with fail
   go_roundw
   case rel =>
    refine ⟨j + 1, by omega, by go_num, ?_, HBEL.out.setCell hg1 _⟩
    rw [← list_take_set (by have := HLL.out; simp; omega) hjl HY.out]
    exact HOWN.out.setB j _
   case measure => simp [intOf]; omega
  ·
   obtain rfl : j = L := by omega
   have hl2 : (bu.map (!·)).length = j := by simp [← HLL.out]
   go_wp2_with fail
   go_ret
   refine ⟨g, rfl, ?_, hbel⟩
   rw [List.take_of_length_le (by omega), List.drop_of_length_le (by simp), List.append_nil] at hown
   exact hown
end Go.Proofs.YtchliiaknmknhaaGreat

namespace Go.Proofs.YtchliiaknmknhaaGreat
open Go.RowKit Go.Deep Go.ChangeShapes Go.WideShapes
theorem wfI {x : Int} (h : (Lit.int .i64 x).wf = true) : okI x := by
 unfold okI
 simp only [Lit.wf, IntKind.min, IntKind.max, IntKind.signed, IntKind.bits, Bool.and_eq_true, decide_eq_true_eq, if_true] at h
 omega
theorem add_flat {b off : Nat} (k : Nat) : (⟨b, off, none⟩ : Addr).add k = ⟨b, off + k, none⟩ := by unfold Addr.add; split <;> simp_all
theorem add0 (a : Addr) : a.add 0 = a := by simp [Addr.add]
theorem flat_of_cell {w : World} {a : Addr} {v : Value} (h : w.cell? a = some v) : a.spot = none := by
 obtain ⟨b, off, spot⟩ := a
 cases spot with
 | none => rfl
 | some s => simp [World.cell?] at h; split at h <;> simp at h
theorem choose_ev {n : Nat} {p : Nat → Ev → Prop} (h : ∀ i, i < n → ∃ x, p i x) : ∃ f : Nat → Ev, ∀ i, i < n → p i (f i) := by
 classical
 refine ⟨fun i => if hi : i < n then Classical.choose (h i hi) else ⟨0, 0, 0⟩, fun i hi => ?_⟩
 simp only [dif_pos hi]
 exact Classical.choose_spec (h i hi)
theorem open_row {H : Type} {enc : TypeId × Value → H} {P : Program} {w : World} {base : Nat} {spare : Nat → Bool} {held : Bool} {t e : TypeId} {fuel : Nat} {cs : List Value} {x : DataW H × List MemPlace} (ht : P.underlying t = some (.slice e)) (h : DataW.trod enc P w base spare held fuel t cs = some x) :
 cs = [.slice none 0 0] ∨ ∃ (a : Addr) (len cap n : Nat), cs = [.slice (some a) len cap] ∧ len ≤ cap ∧ cap ≤ maxLen ∧ fuel = n + 1 ∧ ∀ i, i < len → ∃ cs' y, w.cells? base (a.add (i * P.cellsOf e)) (P.cellsOf e) = some cs' ∧ DataW.trod enc P w base spare held n e cs' = some y := by
 rcases DataW.trod_slice ht h with ⟨h0, _⟩ | ⟨a, len, cap, elems, rest, n, hn, e1, _, _, hl, hm, hlen, hel, _⟩
 ·
  exact .inl h0
 ·
  refine .inr ⟨a, len, cap, n, e1, hl, hm, hn, fun i hi => ?_⟩
  have := hel i hi
  rw [List.getElem?_eq_getElem (by omega)] at this
  obtain ⟨cs', h1, h2⟩ := Option.bind_eq_some_iff.1 this
  exact ⟨cs', _, h1, h2⟩
set_option maxRecDepth 100000 in
theorem open_expr {H : Type} {enc : TypeId × Value → H} {w : World} {base : Nat} {spare : Nat → Bool} {held : Bool} : ∀ (fuel : Nat) {cs : List Value} {x : DataW H × List MemPlace},
 DataW.trod enc Tryz.prog w base spare held fuel 39 cs = some x → ∃ e x0 x1 x2, cs = [x0, x1, x2] ∧ ExprAt w e (.agg #[x0, x1, x2]) := by
 intro fuel
 induction fuel using Nat.strongRecOn with
 | _ fuel IH =>
   intro cs x h
   obtain ⟨xs, k, hk, hxy, hcl, hxl, hf⟩ := DataW.trod_struct Tryz.underlying39 h
   have c1 : Tryz.prog.cellsOf 3 = 1 := by kernel_rfl
   have c2 : Tryz.prog.cellsOf 23 = 1 := by kernel_rfl
   have c3 : Tryz.prog.cellsOf 39 = 3 := by kernel_rfl
   rw [c3] at hcl
   match xs, hxl, cs, hcl with
   | [y0, y1, y2], _, [v0, v1, v2], _ =>
     have g0 := hf 0 _ rfl
     have g1 := hf 1 _ rfl
     have g2 := hf 2 _ rfl
     simp [c1, c2] at g0 g1 g2
     obtain ⟨n0, e0, _, w0⟩ := DataW.trod_int Tryz.underlying3 g0
     obtain ⟨n1, e1, _, w1⟩ := DataW.trod_int Tryz.underlying3 g1
     simp only [List.cons.injEq, and_true] at e0 e1
     subst e0 e1
     rcases open_row Tryz.underlying23 g2 with e2 | ⟨a, len, cap, n, e2, hl, hm, hkn, hx⟩
     ·
      simp only [List.cons.injEq, and_true] at e2
      subst e2
      exact ⟨.mk n0 n1 0 (fun _ => .nil), _, _, _, rfl, by unfold ExprAt; exact ⟨none, 0, rfl, wfI w0, wfI w1, by omega, fun k hk => by omega⟩⟩
     ·
      simp only [List.cons.injEq, and_true] at e2
      subst e2
      have each : ∀ i, i < len → ∃ q : ExT, ∃ x0 x1 x2, w.cell? (a.add (i * 3)) = some x0 ∧ w.cell? ((a.add (i * 3)).add 1) = some x1 ∧ w.cell? ((a.add (i * 3)).add 2) = some x2 ∧ ExprAt w q (.agg #[x0, x1, x2]) := by
       intro i hi
       obtain ⟨cs', y, h1, h2⟩ := hx i hi
       rw [c3] at h1
       obtain ⟨_, hlen, hcell⟩ := World.cells?_some h1
       obtain ⟨e, x0, x1, x2, rfl, he⟩ := IH n (by omega) h2
       have f0 := hcell 0 (by omega)
       have f1 := hcell 1 (by omega)
       have f2 := hcell 2 (by omega)
       rw [add0] at f0
       exact ⟨e, x0, x1, x2, by simpa using f0, by simpa using f1, by simpa using f2, he⟩
      obtain ⟨q, hq⟩ := choose_lt each
      refine ⟨.mk n0 n1 len q, _, _, _, rfl, ?_⟩
      unfold ExprAt
      refine ⟨some a, cap, rfl, wfI w0, wfI w1, by unfold maxLen at hm; omega, fun i hi => ?_⟩
      obtain ⟨x0, x1, x2, f0, f1, f2, he⟩ := hq i hi
      have hsp : a.spot = none := by
       obtain ⟨_, _, _, q0, _⟩ := hq 0 (by omega)
       have := flat_of_cell q0
       simpa [Addr.add] using this
      obtain ⟨b, off, spot⟩ := a
      dsimp only at hsp
      subst hsp
      simp only [add_flat] at f0 f1 f2
      exact ⟨b, off, x0, x1, x2, rfl, f0, f1, f2, he⟩
theorem open_exprs {H : Type} {enc : TypeId × Value → H} {w : World} {base : Nat} {spare : Nat → Bool} {held : Bool} {fuel : Nat} {cs : List Value} {x : DataW H × List MemPlace}
 (h : DataW.trod enc Tryz.prog w base spare held fuel 23 cs = some x) : ∃ a l cap, cs = [.slice a l.length cap] ∧ ExprsAt w a l := by
 have c3 : Tryz.prog.cellsOf 39 = 3 := by kernel_rfl
 rcases open_row Tryz.underlying23 h with e2 | ⟨a, len, cap, n, e2, hl, hm, hkn, hx⟩
 ·
  exact ⟨none, [], 0, e2, ⟨by simp, fun k hk => by simp at hk⟩⟩
 ·
  subst e2
  have each : ∀ i, i < len → ∃ q : ExT, ∃ x0 x1 x2, w.cell? (a.add (i * 3)) = some x0 ∧ w.cell? ((a.add (i * 3)).add 1) = some x1 ∧ w.cell? ((a.add (i * 3)).add 2) = some x2 ∧ ExprAt w q (.agg #[x0, x1, x2]) := by
   intro i hi
   obtain ⟨cs', y, h1, h2⟩ := hx i hi
   rw [c3] at h1
   obtain ⟨_, hlen, hcell⟩ := World.cells?_some h1
   obtain ⟨e, x0, x1, x2, rfl, he⟩ := open_expr n h2
   have f0 := hcell 0 (by omega)
   have f1 := hcell 1 (by omega)
   have f2 := hcell 2 (by omega)
   rw [add0] at f0
   exact ⟨e, x0, x1, x2, by simpa using f0, by simpa using f1, by simpa using f2, he⟩
  obtain ⟨q, hq⟩ := choose_lt each
  refine ⟨some a, (List.range len).map q, cap, by simp, ⟨by unfold maxLen at hm; simp; omega, fun i hi => ?_⟩⟩
  have hi' : i < len := by simpa using hi
  obtain ⟨x0, x1, x2, f0, f1, f2, he⟩ := hq i hi'
  have hsp : a.spot = none := by
   obtain ⟨_, _, _, q0, _⟩ := hq 0 (by omega)
   have := flat_of_cell q0
   simpa [Addr.add] using this
  obtain ⟨b, off, spot⟩ := a
  dsimp only at hsp
  subst hsp
  simp only [add_flat] at f0 f1 f2
  exact ⟨b, off, x0, x1, x2, rfl, f0, f1, f2, by simpa using he⟩
set_option maxRecDepth 100000 in
theorem open_evs {H : Type} {enc : TypeId × Value → H} {w : World} {base : Nat} {spare : Nat → Bool} {held : Bool} {fuel : Nat} {cs : List Value} {x : DataW H × List MemPlace}
 (h : DataW.trod enc Tryz.prog w base spare held fuel 24 cs = some x) : ∃ a l cap, cs = [.slice a l.length cap] ∧ EvsAt w a l ∧ (∀ ev ∈ l, okI ev.after ∧ okI ev.kind ∧ okI ev.level) ∧ (a = none → cap = 0) ∧ l.length ≤ cap ∧ cap ≤ maxLen := by
 have c1 : Tryz.prog.cellsOf 3 = 1 := by kernel_rfl
 have c3 : Tryz.prog.cellsOf 94 = 3 := by kernel_rfl
 rcases open_row Tryz.underlying24 h with e2 | ⟨a, len, cap, n, e2, hl, hm, hkn, hx⟩
 ·
  exact ⟨none, [], 0, e2, ⟨by simp, fun k hk => by simp at hk⟩, by simp, fun _ => rfl, by simp, by simp⟩
 ·
  subst e2
  have each : ∀ i, i < len → ∃ q : Ev, w.cell? (a.add (i * 3)) = some (.int .i64 q.after) ∧ w.cell? ((a.add (i * 3)).add 1) = some (.int .i64 q.kind) ∧ w.cell? ((a.add (i * 3)).add 2) = some (.int .i64 q.level) ∧ okI q.after ∧ okI q.kind ∧ okI q.level := by
   intro i hi
   obtain ⟨cs', y, h1, h2⟩ := hx i hi
   rw [c3] at h1
   obtain ⟨_, hlen, hcell⟩ := World.cells?_some h1
   obtain ⟨xs, k, hk, hxy, _, hxl, hf⟩ := DataW.trod_struct Tryz.underlying94 h2
   match xs, hxl, cs', hlen with
   | [y0, y1, y2], _, [v0, v1, v2], _ =>
     have g0 := hf 0 _ rfl
     have g1 := hf 1 _ rfl
     have g2 := hf 2 _ rfl
     simp [c1] at g0 g1 g2
     obtain ⟨n0, e0, _, w0⟩ := DataW.trod_int Tryz.underlying3 g0
     obtain ⟨n1, e1, _, w1⟩ := DataW.trod_int Tryz.underlying3 g1
     obtain ⟨n2, e2, _, w2⟩ := DataW.trod_int Tryz.underlying3 g2
     simp only [List.cons.injEq, and_true] at e0 e1 e2
     subst e0 e1 e2
     have f0 := hcell 0 (by omega)
     have f1 := hcell 1 (by omega)
     have f2 := hcell 2 (by omega)
     rw [add0] at f0
     exact ⟨⟨n0, n1, n2⟩, by simpa using f0, by simpa using f1, by simpa using f2, wfI w0, wfI w1, wfI w2⟩
  obtain ⟨q, hq⟩ := choose_ev each
  refine ⟨some a, (List.range len).map q, cap, by simp, ⟨by unfold maxLen at hm; simp; omega, fun i hi => ?_⟩, ?_, by simp, by simpa using hl, hm⟩
  ·
   have hi' : i < len := by simpa using hi
   obtain ⟨f0, f1, f2, _⟩ := hq i hi'
   have hsp : a.spot = none := by
    obtain ⟨q0, _⟩ := hq 0 (by omega)
    have := flat_of_cell q0
    simpa [Addr.add] using this
   obtain ⟨b, off, spot⟩ := a
   dsimp only at hsp
   subst hsp
   simp only [add_flat] at f0 f1 f2
   exact ⟨b, off, rfl, by simpa using f0, by simpa using f1, by simpa using f2⟩
  ·
   intro ev hev
   obtain ⟨i, hi, rfl⟩ := List.mem_map.1 hev
   exact (hq i (by simpa using hi)).2.2.2
set_option maxRecDepth 100000 in
theorem open_ask {H : Type} {enc : TypeId × Value → H} {w : World} {base : Nat} {held : Bool} {fuel : Nat} {v : Value} {cs : Array Value} {x : DataW H × List MemPlace} (hv : v = .agg cs)
 (h : DataW.trod enc Tryz.prog w base (fun _ => true) held fuel 26 v.cells.toList = some x) : ∃ q ao ae ap co ce cp, v = askV q ao ae ap co ce cp ∧ AskAt w q ao ae ap ∧ (∀ ev ∈ q.plan, okI ev.after ∧ okI ev.kind ∧ okI ev.level) ∧ (ao = none → co = 0) ∧ (ap = none → cp = 0) ∧ q.plan.length ≤ cp ∧ cp ≤ maxLen := by
 subst hv
 obtain ⟨xs, k, hk, hxy, hcl, hxl, hf⟩ := DataW.trod_struct Tryz.underlying26 h
 have c1 : Tryz.prog.cellsOf 3 = 1 := by kernel_rfl
 have c2 : Tryz.prog.cellsOf 22 = 1 := by kernel_rfl
 have c4 : Tryz.prog.cellsOf 23 = 1 := by kernel_rfl
 have c5 : Tryz.prog.cellsOf 24 = 1 := by kernel_rfl
 have c3 : Tryz.prog.cellsOf 26 = 4 := by kernel_rfl
 rw [c3] at hcl
 obtain ⟨cl⟩ := cs
 simp only [Value.cells] at hcl hf
 match xs, hxl, cl, hcl with
 | [y0, y1, y2, y3], _, [v0, v1, v2, v3], _ =>
   have g0 := hf 0 _ rfl
   have g1 := hf 1 _ rfl
   have g2 := hf 2 _ rfl
   have g3 := hf 3 _ rfl
   simp [c1, c2, c4, c5] at g0 g1 g2 g3
   obtain ⟨n0, e0, _, w0⟩ := DataW.trod_int Tryz.underlying3 g0
   simp only [List.cons.injEq, and_true] at e0
   subst e0
   obtain ⟨ao, zs, co, e1, hio, hno⟩ : ∃ a zs c, v1 = .slice a zs.length c ∧ IntsAt w a zs ∧ (a = none → c = 0) := by
    rcases open_ints Tryz.underlying22 Tryz.underlying3 (by kernel_rfl) g1 with ⟨hcs, _⟩ | ⟨x, l, c, zs, hcs, _, hl, hm, hz, _, hcell, hwz⟩
    ·
     simp at hcs
     subst hcs
     obtain ⟨a, c, e, h1, h2⟩ := sliceIs_of_row (w := w) (a := none) (len := 0) (cap := 0) (.inl ⟨rfl, rfl, rfl, rfl⟩)
     exact ⟨a, _, c, e, h1, h2⟩
    ·
     simp at hcs
     subst hcs
     obtain ⟨a, c, e, h1, h2⟩ := sliceIs_of_row (w := w) (.inr ⟨_, rfl, hl, hm, by simpa using hz, hcell, hwz⟩)
     exact ⟨a, _, c, e, h1, h2⟩
   obtain ⟨ae, es, ce, e2, hes⟩ := open_exprs g2
   obtain ⟨ap, evs, cp, e3, hev, hok, hnp, hlp, hmp⟩ := open_evs g3
   simp only [List.cons.injEq, and_true] at e2 e3
   subst e1 e2 e3
   exact ⟨⟨n0, zs, es, evs⟩, ao, ae, ap, co, ce, cp, rfl, ⟨wfI w0, hio, hes, hev⟩, hok, hno, hnp, hlp, hmp⟩
open Go.RowKit
theorem bools_new (W : World) (bs : List Bool) (hl : bs.length ≤ 1000) : BoolsIs (W.alloc (.cells (boolsV bs).toArray 4)) (.slice (some ⟨W.heap.size, 0, none⟩) bs.length bs.length) bs :=
 ⟨_, _, rfl, ⟨by omega, fun k hk => ⟨W.heap.size, 0, rfl, by
  rw [Nat.zero_add, cell_of_row _ _ k _ _ _ (heap_alloc_new _ _)]
  simp [boolsV, List.getD, hk]⟩⟩, by simp⟩
abbrev LvG (w : World) (mb : Nat) (o : Own) (w1 : World) (fs : List (Int × BF)) (nx : Int) (W : World) : Prop := Goes iteLaw 2 (fun _ => True) 100 w mb fs nx NoW o w1 W
def lvA : List (Int × BF) := two ++ [(2, varF 0)]
def lvB : List (Int × BF) := lvA ++ [(3, varF 1)]
def lvC : List (Int × BF) := lvB ++ [(4, iteFn (varF 0) (varF 1) fun _ => false)]
def lvD : List (Int × BF) := lvC ++ [(5, iteFn (varF 1) (varF 0) fun _ => false)]
theorem lv_eq : iteFn (varF 0) (varF 1) (fun _ => false) = iteFn (varF 1) (varF 0) (fun _ => false) := by
 funext ρ
 show iteB (ρ 0) (ρ 1) false = iteB (ρ 1) (ρ 0) false
 cases ρ 0 <;> cases ρ 1 <;> rfl
set_option maxRecDepth 100000 in
set_option maxHeartbeats 1000000 in
theorem lives13b (w : World) : Calls Tryz.prog 13 #[] w fun x w' => x = .returned (.bool true) ∧ Below w.heap.size w w' := by
 have HNEW := Lib.hid (new_sat2 (K := iteLaw) 2 100 w (by omega) (by omega) (by omega))
 have HV0 : Hid (∀ mb o w1 W, LvG w mb o w1 two 2 W → Calls Tryz.prog 15 #[.pointer (some ⟨mb, 0, none⟩), .int .i64 0] W fun x w'' => x = .returned (.tuple #[.int .i64 2, .int .i64 0]) ∧ LvG w mb o w1 lvA 3 w'') :=
  Lib.hid fun mb o w1 W g => var_ok iteLaw_ok g (by omega) (by decide) (v := 0) (by omega)
 have HV1 : Hid (∀ mb o w1 W, LvG w mb o w1 lvA 3 W → Calls Tryz.prog 15 #[.pointer (some ⟨mb, 0, none⟩), .int .i64 1] W fun x w'' => x = .returned (.tuple #[.int .i64 3, .int .i64 0]) ∧ LvG w mb o w1 lvB 4 w'') :=
  Lib.hid fun mb o w1 W g => var_ok iteLaw_ok g (by omega) (by decide) (v := 1) (by omega)
 have HI0 : Hid (∀ mb o w1 W, LvG w mb o w1 lvB 4 W → Calls Tryz.prog 18 #[.pointer (some ⟨mb, 0, none⟩), .int .i64 2, .int .i64 3, .int .i64 0] W fun x w'' => x = .returned (.tuple #[.int .i64 4, .int .i64 0]) ∧ LvG w mb o w1 lvC 5 w'') :=
  Lib.hid fun mb o w1 W g => ite_ok iteLaw_ok (Wt := NoW) g (by omega) (by decide) (by simp [lvB, lvA]) (by simp [lvB]) (by simp [lvB, lvA, two])
 have HI1 : Hid (∀ mb o w1 W, LvG w mb o w1 lvC 5 W → Calls Tryz.prog 18 #[.pointer (some ⟨mb, 0, none⟩), .int .i64 3, .int .i64 2, .int .i64 0] W fun x w'' => x = .returned (.tuple #[.int .i64 5, .int .i64 0]) ∧ LvG w mb o w1 lvD 6 w'') :=
  Lib.hid fun mb o w1 W g => ite_ok iteLaw_ok (Wt := NoW) g (by omega) (by decide) (by simp [lvC, lvB]) (by simp [lvC, lvB, lvA]) (by simp [lvC, lvB, lvA, two])
 have HSM : Hid (∀ mb o w1 W, LvG w mb o w1 lvD 6 W → Calls Tryz.prog 56 #[.pointer (some ⟨mb, 0, none⟩), .int .i64 4, .int .i64 5] W fun x w'' => x = .returned (.tuple #[.bool true, .int .i64 0]) ∧ W = w'') :=
  Lib.hid fun mb o w1 W ⟨o', m', V', _, _, h⟩ => (manSame_any h (k := 4) (l := 5) (F := iteFn (varF 0) (varF 1) fun _ => false) (G := iteFn (varF 1) (varF 0) fun _ => false) (by simp [lvD, lvC]) (by simp [lvD])).mono fun x w'' ⟨b, h1, h2, h3⟩ => by
   rw [h1, h2.2 lv_eq]
   exact ⟨rfl, h3⟩
 have HEV : Hid (∀ mb o w1 W, LvG w mb o w1 lvD 6 W → ∀ v bs, BoolsIs W v bs → Calls Tryz.prog 58 #[.pointer (some ⟨mb, 0, none⟩), .int .i64 4, v] W fun x w'' => x = .returned (.tuple #[.bool (iteFn (varF 0) (varF 1) (fun _ => false) (envOf bs)), .int .i64 0]) ∧ Below W.heap.size W w'') :=
  Lib.hid fun mb o w1 W ⟨o', m', V', _, _, h⟩ v bs hb => h.eval (by simp [lvD, lvC]) hb
 have HHN : Hid (∀ mb o w1 W, LvG w mb o w1 lvD 6 W → Calls Tryz.prog 70 #[.pointer (some ⟨mb, 0, none⟩)] W fun x w'' => x = .returned (.int .i64 6) ∧ W = w'') :=
  Lib.hid fun mb o w1 W ⟨o', m', V', _, _, h⟩ => h.handles_any
 go_enter Tryz.func13, Tryz.ntmps13
 go_wp2_with fail
 refine HNEW.out.mono ?_
 rintro x w1 ⟨mb, rfl, o, m, V, hst, hwt, _⟩
 have H1 := Lib.hid (HV0.out mb o w1 w1 ⟨o, m, V, ChgX.of_below (Below.refl _ _) o NoB, hwt, hst⟩)
 clear hst hwt HNEW HV0
 go_wp2_with fail
 refine H1.out.mono ?_
 rintro x w2 ⟨rfl, h2⟩
 have H2 := Lib.hid (HV1.out _ _ _ _ h2)
 clear h2 H1 HV1
 go_wp2_with fail
 refine H2.out.mono ?_
 rintro x w3 ⟨rfl, h3⟩
 have H3 := Lib.hid (HI0.out _ _ _ _ h3)
 clear h3 H2 HI0
 go_wp2_with fail
 refine H3.out.mono ?_
 rintro x w4 ⟨rfl, h4⟩
 have H4 := Lib.hid (HI1.out _ _ _ _ h4)
 clear h4 H3 HI1
 go_wp2_with fail
 refine H4.out.mono ?_
 rintro x w5 ⟨rfl, h5⟩
 have H5 := Lib.hid (HSM.out _ _ _ _ h5)
 have H5' := Lib.hid h5
 clear h5 H4 HSM
 go_wp2_with fail
 refine H5.out.mono ?_
 rintro x w6 ⟨rfl, rfl⟩
 obtain ⟨w6, hw6⟩ : ∃ w6, w6 = w5.alloc (.cells #[.bool true, .bool true] 4) := ⟨_, rfl⟩
 have hb6 : Below w5.heap.size w5 w6 := by rw [hw6]; exact below_new1 _ _
 have H6' := Lib.hid (H5'.out.below hb6)
 have H6 := Lib.hid (HEV.out _ _ _ _ H6'.out _ [true, true] (by rw [hw6]; exact bools_new w5 [true, true] (by decide)))
 have HW6 : Hid (_ = w6) := Lib.hid hw6.symm
 clear hb6 hw6 H5'
 go_wp2_with fail
 rw [HW6.out]
 refine H6.out.mono ?_
 rintro x w7 ⟨rfl, hb7⟩
 have e7 : iteFn (varF 0) (varF 1) (fun _ => false) (envOf [true, true]) = true := rfl
 rw [e7]
 have H7' := Lib.hid (H6'.out.below hb7)
 clear hb7 H6' HW6 e7
 obtain ⟨w8, hw8⟩ : ∃ w8, w8 = w7.alloc (.cells #[.bool true] 4) := ⟨_, rfl⟩
 have hb8 : Below w7.heap.size w7 w8 := by rw [hw8]; exact below_new1 _ _
 have H8' := Lib.hid (H7'.out.below hb8)
 have H8 := Lib.hid (HEV.out _ _ _ _ H8'.out _ [true] (by rw [hw8]; exact bools_new w7 [true] (by decide)))
 have HW8 : Hid (_ = w8) := Lib.hid hw8.symm
 clear hb8 hw8 H7' HEV
 go_wp2_with fail
 rw [HW8.out]
 refine H8.out.mono ?_
 rintro x w9 ⟨rfl, hb9⟩
 have e9 : iteFn (varF 0) (varF 1) (fun _ => false) (envOf [true]) = false := rfl
 rw [e9]
 have H9' := Lib.hid (H8'.out.below hb9)
 have H9 := Lib.hid (HHN.out _ _ _ _ H9'.out)
 clear hb9 H8' HW8 e9
 go_wp2_with fail
 refine H9.out.mono ?_
 rintro x w10 ⟨rfl, rfl⟩
 go_wp2_with fail
 go_ret
 exact ⟨rfl, H9'.out.below0⟩
end Go.Proofs.YtchliiaknmknhaaGreat
