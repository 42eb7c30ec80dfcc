/- The walk of a law: BuildsW. -/
import Derived.Test.YtchliiaknmknhaaGreatS11
set_option linter.unusedSimpArgs false
set_option linter.unusedVariables false
set_option linter.unusedSectionVars false
set_option linter.unnecessarySimpa false
namespace Go.Proofs.YtchliiaknmknhaaGreat
open Go.RowKit
set_option maxRecDepth 100000 in
set_option maxHeartbeats 2000000 in
theorem refSame13_any (bx bz : List Bool) (hlen : bz.length = bx.length) (ax az : Option Addr) (cx cz : Nat) (w : World) (h1 : BoolsAt w ax bx) (h2 : BoolsAt w az bz) :
 Calls Tryz.prog 57 #[.slice ax bx.length cx, .slice az bx.length cz] w fun x w' => x = .returned (.bool (decide (bx = bz))) ∧ Below w.heap.size w w' := by
 have H1 := Lib.hid h1
 have H2 := Lib.hid h2
 have hl := h1.len
 have HLN := Lib.hid hlen
 obtain ⟨L, hL⟩ : ∃ L, L = bx.length := ⟨_, rfl⟩
 have HL := Lib.hid hL
 rw [← hL] at hl ⊢
 clear h1 h2 hL hlen
 go_enter Tryz.func57, Tryz.ntmps57
 go_wp2_with fail
 go_loopw [4, 5] (fun s4 s5 wr => ∃ j : Nat, j ≤ L ∧ s5 = .int .i64 j ∧ Hid (Below w.heap.size w wr) ∧ Hid (∀ q, q < j → bx.getD q false = bz.getD q false)) (fun _ s5 _ => L - (intOf s5).toNat)
 case atStart => exact ⟨0, Nat.zero_le _, rfl, Lib.hid (Below.refl _ _), Lib.hid fun q hq => by omega⟩
 case round =>
  obtain ⟨j, hj, rfl, HB, HQ⟩ := hrel
  by_cases hlt : j < L
  ·
   obtain ⟨b1, of1, rfl, c1⟩ := (H1.out.below HB.out).cells j (by rw [← HL.out]; exact hlt)
   obtain ⟨b2, of2, rfl, c2⟩ := (H2.out.below HB.out).cells j (by rw [HLN.out, ← HL.out]; exact hlt)
   have HBN := Lib.hid (HB.out.trans ((below_draw wr 1).mono HB.out.size))
   have hjz : (j : Int) < (L : Int) := by omega
   obtain ⟨y1, hy1⟩ : ∃ y, y = bx.getD j false := ⟨_, rfl⟩
   obtain ⟨y2, hy2⟩ : ∃ y, y = bz.getD j false := ⟨_, rfl⟩
   rw [← hy1] at c1
   rw [← hy2] at c2
   have HQ2 : Hid (y1 = y2 → ∀ q, q < j + 1 → bx.getD q false = bz.getD q false) := Lib.hid fun e q hq => by
    rcases Nat.lt_or_ge q j with h | h
    ·
     exact HQ.out q h
    ·
     obtain rfl : q = j := by omega
     rw [← hy1, ← hy2, e]
   have HNE : Hid (y1 ≠ y2 → bx ≠ bz) := Lib.hid fun hne e => hne (by rw [hy1, hy2, e])
   clear hy1 hy2
   go_upto_region 6 with fail
   refine wp_region_mix (fun W : World => W.cell? ⟨b1, of1 + j, none⟩ = some (.bool y1) ∧ W.cell? ⟨b2, of2 + j, none⟩ = some (.bool y2)) false 9
    [(0, false), (1, false), (2, false), (3, false), (4, false), (5, false), (6, false), (7, false), (8, false)] (by kernel_rfl) (by kernel_rfl) ⟨c1, c2⟩ ?_
   simp only [planned, plnLz]
   iterate 9
    refine mix_readE rfl ?_
    apply Exists.intro
    refine ⟨fun w' hw => ?_, ?_⟩
    ·
     obtain ⟨h1, h2⟩ := hw
     go_simp
     rfl
    simp only [putLz]
   refine mix_end ?_
   clear c1 c2
   cases y1 <;> cases y2
   ·
    have HQ3 := Lib.hid (HQ2.out rfl)
    go_wp2_with fail
    go_roundw
    case rel => exact ⟨j + 1, by omega, by go_num, HBN, HQ3⟩
    case measure => simp [intOf]; omega
   ·
    have HF : Hid (Ending.returned (.bool false) = .returned (.bool (decide (bx = bz)))) := Lib.hid (by rw [decide_eq_false (HNE.out (by simp))])
    go_wp2_with fail
    go_ret
    exact ⟨HF.out, HBN.out⟩
   ·
    have HF : Hid (Ending.returned (.bool false) = .returned (.bool (decide (bx = bz)))) := Lib.hid (by rw [decide_eq_false (HNE.out (by simp))])
    go_wp2_with fail
    go_ret
    exact ⟨HF.out, HBN.out⟩
   ·
    have HQ3 := Lib.hid (HQ2.out rfl)
    go_wp2_with fail
    go_roundw
    case rel => exact ⟨j + 1, by omega, by go_num, HBN, HQ3⟩
    case measure => simp [intOf]; omega
  ·
   have HF : Hid (Ending.returned (.bool true) = .returned (.bool (decide (bx = bz)))) := Lib.hid (by
    rw [decide_eq_true]
    refine List.ext_getElem HLN.out.symm fun i h1 h2 => ?_
    have := HQ.out i (by have := HL.out; omega)
    simpa [List.getD, h1, h2] using this)
   have hjz : ¬ (j : Int) < (L : Int) := by omega
   go_wp2_with fail
   go_ret
   exact ⟨HF.out, HB.out⟩
set_option maxRecDepth 100000 in
set_option maxHeartbeats 8000000 in
theorem builds_walk (q : AskD) (ao ae ap : Option Addr) (co ce cp : Nat) (w : World) (h : AskAt w q ao ae ap) :
 Calls Tryz.prog 8 #[askV q ao ae ap co ce cp] w fun y w' => y = .returned (.bool true) ∧ Below w.heap.size w w' := by
 have HSM : Hid (∀ W, Below w.heap.size w W → ∀ u, u = askV q ao ae ap co ce cp → Calls Tryz.prog 12 #[u] W fun y w' => ∃ b, y = .returned (.bool b) ∧ (b = true → SmallP q) ∧ Below W.heap.size W w') := Lib.hid fun W hb u hu => by subst hu; exact small_any q ao ae ap co ce cp W (h.below hb)
 have HST : Hid (∀ W n, Below w.heap.size w W → SmallP q → q.vars = (n : Nat) → ∀ u, u = askV q ao ae ap co ce cp → Calls Tryz.prog 23 #[u] W (SetP iteLaw q n W)) := Lib.hid fun W n hb hs hn u hu => by subst hu; exact setup_any iteLaw_ok q ao ae ap co ce cp W (h.below hb) hs n hn
 have HORD := Lib.hid h.order
 obtain ⟨vars, hvars⟩ : ∃ z, z = q.vars := ⟨_, rfl⟩
 have HV := Lib.hid hvars
 obtain ⟨plen, hplen⟩ : ∃ z, z = q.plan.length := ⟨_, rfl⟩
 have HPL := Lib.hid hplen
 unfold askV at HSM HST ⊢
 rw [← hvars, ← hplen] at HSM HST ⊢
 obtain ⟨olen, holen⟩ : ∃ z, z = q.order.length := ⟨_, rfl⟩
 have HOL := Lib.hid holen
 obtain ⟨elen, helen⟩ : ∃ z, z = q.es.length := ⟨_, rfl⟩
 rw [← holen, ← helen] at HSM HST ⊢
 obtain ⟨w1, hw1⟩ : ∃ w1, w1 = w.alloc (.cells #[.int .i64 vars, .slice ao olen co, .slice ae elen ce, .slice ap plen cp] 26) := ⟨_, rfl⟩
 have HW1 : Hid (_ = w1) := Lib.hid hw1.symm
 have HB1 : Hid (Below w.heap.size w w1) := by rw [hw1]; exact Lib.hid (below_new1 _ _)
 have hblk : w1.heap[w.heap.size]? = some (.cells #[.int .i64 vars, .slice ao olen co, .slice ae elen ce, .slice ap plen cp] 26 (0, 0)) := by rw [hw1]; exact heap_alloc_new _ _
 have d0 : w1.cell? ⟨w.heap.size, 0, none⟩ = some (.int .i64 vars) := by rw [cell_of_row _ _ 0 _ _ _ hblk]; rfl
 have d1 : w1.cell? ⟨w.heap.size, 1, none⟩ = some (.slice ao olen co) := by rw [cell_of_row _ _ 1 _ _ _ hblk]; rfl
 have d2 : w1.cell? ⟨w.heap.size, 2, none⟩ = some (.slice ae elen ce) := by rw [cell_of_row _ _ 2 _ _ _ hblk]; rfl
 have d3 : w1.cell? ⟨w.heap.size, 3, none⟩ = some (.slice ap plen cp) := by rw [cell_of_row _ _ 3 _ _ _ hblk]; rfl
 clear h hw1 hblk hvars hplen holen helen
 go_enter Tryz.func8, Tryz.ntmps8
 go_upto_region 1 with fail
 rw [HW1.out]
 go_wp2_with fail
 refine (HSM.out _ HB1.out _ rfl).mono ?_
 rintro y w2 ⟨b, rfl, hb, hbel⟩
 have HB := Lib.hid hb
 have HBEL := Lib.hid (HB1.out.trans (hbel.mono HB1.out.size))
 have e0 := (hbel.cell (p := ⟨w.heap.size, 0, none⟩) (lt_of_cell d0)).trans d0
 have e1 := (hbel.cell (p := ⟨w.heap.size, 1, none⟩) (lt_of_cell d1)).trans d1
 have e2 := (hbel.cell (p := ⟨w.heap.size, 2, none⟩) (lt_of_cell d2)).trans d2
 have e3 := (hbel.cell (p := ⟨w.heap.size, 3, none⟩) (lt_of_cell d3)).trans d3
 have HLV := Lib.hid (lives13b w2)
 clear hb hbel HSM d0 d1 d2 d3 HW1
 cases b with
 | false =>
   go_wp2_with fail
   refine HLV.out.mono ?_
   rintro y w3 ⟨rfl, hb3⟩
   have HB3 := Lib.hid (HBEL.out.trans (hb3.mono HBEL.out.size))
   clear hb3
   go_wp2_with fail
   go_ret
   exact ⟨rfl, HB3.out⟩
 | true =>
   have HSP := Lib.hid (HB.out (by first | rfl | trivial))
   obtain ⟨n, hn⟩ : ∃ n : Nat, vars = (n : Nat) := ⟨vars.toNat, by have := HSP.out.lo; have := HV.out; omega⟩
   subst hn
   have hn6 : n ≤ 6 := by have := HSP.out.hi; have := HV.out; omega
   have hes : q.es.length ≤ 5 := HSP.out.es
   have HSET := Lib.hid (HST.out w2 n HBEL.out HSP.out rfl _ rfl)
   clear HST HLV HB
   go_wp2_with fail
   refine HSET.out.mono ?_
   rintro y w3 ⟨mb, vl, vx, wb, hs, nx, rfl, hbw, hsnd, hnx, o3, m3, V3, lt3⟩
   have hhl : hs.length ≤ 5 := by have := congrArg List.length hsnd; simp at this; omega
   obtain ⟨al, cl, hvl⟩ : ∃ a c, vl = .slice a hs.length c := by
    obtain ⟨a, c, e, _⟩ := lt3.l.own.slice
    exact ⟨a, c, by rw [e]; simp [intsV]⟩
   subst hvl
   have HSUB : Hid (∀ p ∈ hs, p ∈ two ++ hs) := Lib.hid fun p hp => List.mem_append_right _ hp
   have hfl : (two ++ hs).length = 2 + hs.length := by simp [two]; omega
   have HROOM : Hid (∀ k, k ≤ 192 → k * 2 ^ n ≤ roomOf n) := Lib.hid fun k hk => roomOf_many hk
   have c0 := (hbw.cell (p := ⟨w.heap.size, 0, none⟩) (lt_of_cell e0)).trans e0
   have f0 := (lt3.below0.cell (p := ⟨w.heap.size, 0, none⟩) (lt_of_cell c0)).trans c0
   have HBB : Hid (Below w.heap.size w wb) := Lib.hid (HBEL.out.trans (hbw.mono HBEL.out.size))
   obtain ⟨ax, cx, hvx⟩ : ∃ a c, vx = .slice a hs.length c := by
    obtain ⟨a, c, e, _⟩ := (lt3.row (fun p hp => List.mem_append_right _ hp) (by omega)).x
    exact ⟨a, c, e⟩
   subst hvx
   have c1 := (hbw.cell (p := ⟨w.heap.size, 1, none⟩) (lt_of_cell e1)).trans e1
   have c3 := (hbw.cell (p := ⟨w.heap.size, 3, none⟩) (lt_of_cell e3)).trans e3
   have f1 := (lt3.below0.cell (p := ⟨w.heap.size, 1, none⟩) (lt_of_cell c1)).trans c1
   have f3 := (lt3.below0.cell (p := ⟨w.heap.size, 3, none⟩) (lt_of_cell c3)).trans c3
   have HB03 : Hid (Below w.heap.size w w3) := Lib.hid (HBB.out.trans (lt3.below0.mono HBB.out.size))
   have HL : Hid (∀ W, Below w3.heap.size w3 W → LawT iteLaw n (OrdP q.order) (roomOf n) wb mb (two ++ hs) nx (fun ws c => ws = q.plan ∧ c = 0) hs hs W o3 m3 V3 (.slice al hs.length cl) (.slice ax hs.length cx)) := Lib.hid fun W hb => lt3.below hb
   have HDEP : Hid (∀ i (hi : i < hs.length), DepF n hs[i].2) := Lib.hid fun i hi => by
    have hie : i < q.es.length := by have := congrArg List.length hsnd; simp at this; omega
    have e : hs[i].2 = fnT q.es[i] := by
     have h1 : (hs.map Prod.snd)[i]'(by simpa using hi) = (q.es.map fnT)[i]'(by simpa using hie) := List.getElem_of_eq hsnd _
     simpa using h1
    have hx := HSP.out.expr _ (List.getElem_mem hie)
    rw [e]
    exact fnT_dep hx.2.1.valid (by have h9 := hx.2.2; rw [← HV.out] at h9; exact h9)
   have hwl : (m3.waits.length : Int) = plen := by rw [lt3.st.1, HPL.out]
   have HOD := Lib.hid lt3.sat.od
   have HPB : Hid (permB (m3.d.vars.map Int.ofNat) n = true) := Lib.hid (by have := lt3.sat.ok.store.permB; rw [lt3.sat.vars] at this; exact this)
   have hrme := lt3.sat.room
   have HOLN : Hid (0 < olen → olen = n) := Lib.hid fun h0 => by
    have h1 := HSP.out.order (by rw [← HOL.out]; exact h0)
    rw [← HV.out] at h1
    have := (permP_of h1).len
    have := HOL.out
    omega
   obtain ⟨rm, hrm⟩ : ∃ rm, rm = roomOf n := ⟨_, rfl⟩
   have HRM : Hid (∀ W, Calls Tryz.prog 53 #[.int .i64 (n : Nat), .int .i64 40] W fun x w' => x = .returned (.int .i64 (rm : Nat)) ∧ W = w') := Lib.hid fun W => by rw [hrm]; exact room13_any n (by omega) W
   have HMR : Hid (∀ W, Below w3.heap.size w3 W → Calls Tryz.prog 52 #[.pointer (some ⟨mb, 0, none⟩)] W fun x w' => x = .returned (.int .i64 (rm : Nat)) ∧ W = w') := Lib.hid fun W hb => by
    have := manRoom_any (HL.out W hb).sat.is
    rw [hrme, ← hrm] at this
    exact this
   have HMW : Hid (∀ W, Below w3.heap.size w3 W → Calls Tryz.prog 30 #[.pointer (some ⟨mb, 0, none⟩)] W fun x w' => x = .returned (.int .i64 (plen : Nat)) ∧ W = w') := Lib.hid fun W hb => by
    have := manWaits_any (HL.out W hb).sat.is
    rw [hwl] at this
    exact this
   have HLF : Hid (∀ W, Below w3.heap.size w3 W → Calls Tryz.prog 20 #[.pointer (some ⟨mb, 0, none⟩), .int .i64 (hs.length : Nat)] W fun x w' => x = .returned (.bool true) ∧ W = w') := Lib.hid fun W hb => (left_any (HL.out W hb).sat hs.length (by omega)).mono fun e w' ⟨h1, h2⟩ => by
    rw [h1, decide_eq_true (by rw [hfl]; omega)]
    exact ⟨rfl, h2⟩
   have HAL := Lib.hid (fun W hb => all_any (HL.out W hb).sat (by omega) ((HL.out W hb).row HSUB.out (by omega)))
   have HCS : Hid (∀ W, Below w3.heap.size w3 W → W.cell? ⟨w.heap.size, 0, none⟩ = some (.int .i64 (n : Nat)) ∧ W.cell? ⟨w.heap.size, 1, none⟩ = some (.slice ao olen co) ∧ W.cell? ⟨w.heap.size, 3, none⟩ = some (.slice ap plen cp)) := Lib.hid fun W hb =>
    ⟨(hb.cell (p := ⟨w.heap.size, 0, none⟩) (lt_of_cell f0)).trans f0, (hb.cell (p := ⟨w.heap.size, 1, none⟩) (lt_of_cell f1)).trans f1, (hb.cell (p := ⟨w.heap.size, 3, none⟩) (lt_of_cell f3)).trans f3⟩
   have hbd := below_draw w3 1
   clear lt3 hbw hsnd HSET e0 e1 e2 e3 c0 c1 c3 hwl hrme hrm
   go_upto_region 4 with fail
   refine wp_region_mix (fun W : World => W.cell? ⟨w.heap.size, 0, none⟩ = some (.int .i64 (n : Nat)) ∧ W.cell? ⟨w.heap.size, 1, none⟩ = some (.slice ao olen co) ∧ W.cell? ⟨w.heap.size, 3, none⟩ = some (.slice ap plen cp)) false 49
    [(0, false), (1, false), (2, false), (3, false), (4, false), (5, false), (6, true), (7, false), (8, false), (9, false), (10, false), (11, false), (12, false), (13, true), (14, false), (15, false), (16, false), (17, false), (19, false), (20, false), (21, false), (18, true), (22, false), (23, false), (24, false), (25, false), (27, false), (28, false), (26, true), (29, false), (30, false), (31, false), (32, false), (34, false), (35, false), (33, true), (36, true), (37, false), (38, false), (39, false), (40, false), (41, true), (42, false), (43, false), (44, false), (45, false), (46, true), (47, false), (48, false)] (by kernel_rfl) (by kernel_rfl) (HCS.out _ hbd) ?_
   simp only [planned, plnLz]
   iterate 3
    refine mix_readE rfl ?_
    apply Exists.intro
    refine ⟨fun w' hw => ?_, ?_⟩
    ·
     obtain ⟨h1, h2, h3⟩ := hw
     go_simp
     rfl
    simp only [putLz]
   iterate 3
    refine mix_readGE true (by go_simp) ?_
    apply Exists.intro
    refine ⟨fun hgd w' hw => ?_, ?_⟩
    ·
     obtain ⟨h1, h2, h3⟩ := hw
     go_simp
     rfl
    simp only [putLz]
   refine mix_callGR (R := fun v w' => v = .bool true ∧ Below w3.heap.size w3 w') (by go_simp) (by go_simp) ((HAL.out _ hbd).mono (fun e w' he => ?_)) ?_
   ·
    obtain ⟨rfl, hb⟩ := he
    have hb' := hbd.trans (hb.mono hbd.size)
    exact ⟨_, rfl, HCS.out _ hb', rfl, hb'⟩
   rintro v w4 hs4 ⟨rfl, hb4⟩
   simp only [putLz]
   iterate 1
    refine mix_readGE true (by go_simp) ?_
    apply Exists.intro
    refine ⟨fun hgd w' hw => ?_, ?_⟩
    ·
     obtain ⟨h1, h2, h3⟩ := hw
     go_simp
     rfl
    simp only [putLz]
   iterate 2
    refine mix_readE rfl ?_
    apply Exists.intro
    refine ⟨fun w' hw => ?_, ?_⟩
    ·
     obtain ⟨h1, h2, h3⟩ := hw
     go_simp
     rfl
    simp only [putLz]
   iterate 3
    refine mix_readGE true (by go_simp) ?_
    apply Exists.intro
    refine ⟨fun hgd w' hw => ?_, ?_⟩
    ·
     obtain ⟨h1, h2, h3⟩ := hw
     go_simp
     rfl
    simp only [putLz]
   refine mix_callGR (R := fun v w' => v = .bool true ∧ w4 = w') (by go_simp) (by go_simp) ((HLF.out _ hb4).mono (fun e w' he => ?_)) ?_
   ·
    obtain ⟨rfl, rfl⟩ := he
    exact ⟨_, rfl, hs4, rfl, rfl⟩
   rintro v w' - ⟨rfl, rfl⟩
   simp only [putLz]
   iterate 1
    refine mix_readGE true (by go_simp) ?_
    apply Exists.intro
    refine ⟨fun hgd w' hw => ?_, ?_⟩
    ·
     obtain ⟨h1, h2, h3⟩ := hw
     go_simp
     rfl
    simp only [putLz]
   iterate 2
    refine mix_readE rfl ?_
    apply Exists.intro
    refine ⟨fun w' hw => ?_, ?_⟩
    ·
     obtain ⟨h1, h2, h3⟩ := hw
     go_simp
     rfl
    simp only [putLz]
   iterate 4
    refine mix_readGE true (by go_simp) ?_
    apply Exists.intro
    refine ⟨fun hgd w' hw => ?_, ?_⟩
    ·
     obtain ⟨h1, h2, h3⟩ := hw
     go_simp
     rfl
    simp only [putLz]
   refine mix_callGR (R := fun v w' => v = .int .i64 (plen : Nat) ∧ w4 = w') (by go_simp) (by go_simp) ((HMW.out _ hb4).mono (fun e w' he => ?_)) ?_
   ·
    obtain ⟨rfl, rfl⟩ := he
    exact ⟨_, rfl, hs4, rfl, rfl⟩
   rintro v w' - ⟨rfl, rfl⟩
   simp only [putLz]
   iterate 1
    refine mix_readGE true (by go_simp) ?_
    apply Exists.intro
    refine ⟨fun hgd w' hw => ?_, ?_⟩
    ·
     obtain ⟨h1, h2, h3⟩ := hw
     go_simp
     rfl
    simp only [putLz]
   iterate 2
    refine mix_readE rfl ?_
    apply Exists.intro
    refine ⟨fun w' hw => ?_, ?_⟩
    ·
     obtain ⟨h1, h2, h3⟩ := hw
     go_simp
     rfl
    simp only [putLz]
   iterate 3
    refine mix_readGE true (by go_simp) ?_
    apply Exists.intro
    refine ⟨fun hgd w' hw => ?_, ?_⟩
    ·
     obtain ⟨h1, h2, h3⟩ := hw
     go_simp
     rfl
    simp only [putLz]
   refine mix_callGR (R := fun v w' => v = .int .i64 (n : Nat) ∧ w4 = w') (by go_simp) (by go_simp) (((HL.out _ hb4).sat.vars_any).mono (fun e w' he => ?_)) ?_
   ·
    obtain ⟨rfl, rfl⟩ := he
    exact ⟨_, rfl, hs4, rfl, rfl⟩
   rintro v w' - ⟨rfl, rfl⟩
   simp only [putLz]
   iterate 1
    refine mix_readGE true (by go_simp) ?_
    apply Exists.intro
    refine ⟨fun hgd w' hw => ?_, ?_⟩
    ·
     obtain ⟨h1, h2, h3⟩ := hw
     go_simp
     rfl
    simp only [putLz]
   iterate 2
    refine mix_readE rfl ?_
    apply Exists.intro
    refine ⟨fun w' hw => ?_, ?_⟩
    ·
     obtain ⟨h1, h2, h3⟩ := hw
     go_simp
     rfl
    simp only [putLz]
   iterate 3
    refine mix_readGE true (by go_simp) ?_
    apply Exists.intro
    refine ⟨fun hgd w' hw => ?_, ?_⟩
    ·
     obtain ⟨h1, h2, h3⟩ := hw
     go_simp
     rfl
    simp only [putLz]
   refine mix_callGR (R := fun v w' => v = .int .i64 (rm : Nat) ∧ w4 = w') (by go_simp) (by go_simp) ((HMR.out _ hb4).mono (fun e w' he => ?_)) ?_
   ·
    obtain ⟨rfl, rfl⟩ := he
    exact ⟨_, rfl, hs4, rfl, rfl⟩
   rintro v w' - ⟨rfl, rfl⟩
   simp only [putLz]
   refine mix_callGR (R := fun v w' => v = .int .i64 (rm : Nat) ∧ w4 = w') (by go_simp) (by go_simp) ((HRM.out _).mono (fun e w' he => ?_)) ?_
   ·
    obtain ⟨rfl, rfl⟩ := he
    exact ⟨_, rfl, hs4, rfl, rfl⟩
   rintro v w' - ⟨rfl, rfl⟩
   simp only [putLz]
   iterate 1
    refine mix_readGE true (by go_simp) ?_
    apply Exists.intro
    refine ⟨fun hgd w' hw => ?_, ?_⟩
    ·
     obtain ⟨h1, h2, h3⟩ := hw
     go_simp
     rfl
    simp only [putLz]
   iterate 2
    refine mix_readE rfl ?_
    apply Exists.intro
    refine ⟨fun w' hw => ?_, ?_⟩
    ·
     obtain ⟨h1, h2, h3⟩ := hw
     go_simp
     rfl
    simp only [putLz]
   iterate 1
    refine mix_readGE true (by go_simp) ?_
    apply Exists.intro
    refine ⟨fun hgd w' hw => ?_, ?_⟩
    ·
     obtain ⟨h1, h2, h3⟩ := hw
     go_simp
     rfl
    simp only [putLz]
   refine mix_callGR (R := fun v w' => v = .int .i64 1 ∧ w4 = w') (by go_simp) (by go_simp) ((manConst_any mb true w4).mono (fun e w' he => ?_)) ?_
   ·
    obtain ⟨rfl, rfl⟩ := he
    exact ⟨_, rfl, hs4, rfl, rfl⟩
   rintro v w' - ⟨rfl, rfl⟩
   simp only [putLz]
   iterate 1
    refine mix_readGE true (by go_simp) ?_
    apply Exists.intro
    refine ⟨fun hgd w' hw => ?_, ?_⟩
    ·
     obtain ⟨h1, h2, h3⟩ := hw
     go_simp
     rfl
    simp only [putLz]
   iterate 2
    refine mix_readE rfl ?_
    apply Exists.intro
    refine ⟨fun w' hw => ?_, ?_⟩
    ·
     obtain ⟨h1, h2, h3⟩ := hw
     go_simp
     rfl
    simp only [putLz]
   iterate 1
    refine mix_readGE true (by go_simp) ?_
    apply Exists.intro
    refine ⟨fun hgd w' hw => ?_, ?_⟩
    ·
     obtain ⟨h1, h2, h3⟩ := hw
     go_simp
     rfl
    simp only [putLz]
   refine mix_callGR (R := fun v w' => v = .int .i64 0 ∧ w4 = w') (by go_simp) (by go_simp) ((manConst_any mb false w4).mono (fun e w' he => ?_)) ?_
   ·
    obtain ⟨rfl, rfl⟩ := he
    exact ⟨_, rfl, hs4, rfl, rfl⟩
   rintro v w' - ⟨rfl, rfl⟩
   simp only [putLz]
   iterate 1
    refine mix_readGE true (by go_simp) ?_
    apply Exists.intro
    refine ⟨fun hgd w' hw => ?_, ?_⟩
    ·
     obtain ⟨h1, h2, h3⟩ := hw
     go_simp
     rfl
    simp only [putLz]
   iterate 1
    refine mix_readE rfl ?_
    apply Exists.intro
    refine ⟨fun w' hw => ?_, ?_⟩
    ·
     obtain ⟨h1, h2, h3⟩ := hw
     go_simp
     rfl
    simp only [putLz]
   refine mix_end ?_
   have HB4 := Lib.hid hb4
   have HOR := Lib.hid (order_law (HL.out _ hb4))
   clear hs4 hb4 hbd f0 f1 f3 HRM HMR HMW HLF HAL
   go_wp2_with fail
   refine HOR.out.mono ?_
   rintro y w5 ⟨a5, c5, rfl, hl5, hi5, hno5, hb5⟩
   obtain ⟨l5, hl5e⟩ : ∃ l5, l5 = m3.d.vars := ⟨_, rfl⟩
   rw [← hl5e] at hl5 hi5 HOD HPB
   have HI5 := Lib.hid hi5
   have HB5 := Lib.hid (HB4.out.trans (hb5.mono HB4.out.size))
   have HRG : Hid (Calls Tryz.prog 55 #[.slice a5 n c5, .int .i64 (n : Nat)] w5 fun x w' => x = .returned (.bool true) ∧ w5 = w') := Lib.hid (by
    have := right_any a5 c5 (l5.map Int.ofNat) n w5 hi5 (by rw [List.length_map]; omega)
    rw [List.length_map, hl5, HPB.out] at this
    exact this)
   obtain ⟨r0, r1, r3⟩ := HCS.out _ HB5.out
   clear hi5 hno5 hb5 HOR hl5e HB4
   go_wp2_with fail
   refine HRG.out.mono ?_
   rintro y w' ⟨rfl, rfl⟩
   go_wp2_with fail
   go_loopw [2, 8, 83] (fun s2 s8 s83 wr => ∃ i : Nat, i ≤ olen ∧ s83 = .int .i64 i ∧ Hid (Below w5.heap.size w5 wr)) (fun _ _ s83 _ => olen - (intOf s83).toNat)
   case atStart => exact ⟨0, Nat.zero_le _, rfl, Lib.hid (Below.refl _ _)⟩
   case round =>
    clear r0 r1 r3
    rename World => wi
    obtain ⟨i, hi, rfl, HBI⟩ := hrel
    by_cases hlt : i < olen
    ·
     have hon : olen = n := HOLN.out (by omega)
     have hin : (i : Int) < (n : Int) := by omega
     have hio : (i : Int) < (olen : Int) := by omega
     obtain ⟨_, r1, _⟩ := HCS.out _ (HB5.out.trans (HBI.out.mono HB5.out.size))
     obtain ⟨b1, of1, rfl, k1⟩ := (HI5.out.below HBI.out).cells i (by rw [List.length_map]; omega)
     obtain ⟨b2, of2, rfl, k2⟩ := (HORD.out.below (HB03.out.trans ((HB5.out.trans (HBI.out.mono HB5.out.size)).mono HB03.out.size))).cells i (by rw [← HOL.out]; exact hlt)
     rw [at0_nat (by omega), HOD.out i (by rw [← HOL.out]; exact hlt)] at k1
     obtain ⟨z, hz⟩ : ∃ z, z = at0 q.order i := ⟨_, rfl⟩
     rw [← hz] at k1 k2
     have HBN := Lib.hid (HBI.out.trans ((below_draw wi 1).mono HBI.out.size))
     clear hz hon
     go_upto_region 12 with fail
     refine wp_region_mix (fun W : World => W.cell? ⟨b1, of1 + i, none⟩ = some (.int .i64 z) ∧ W.cell? ⟨b2, of2 + i, none⟩ = some (.int .i64 z) ∧ W.cell? ⟨w.heap.size, 1, none⟩ = some (.slice (some ⟨b2, of2, none⟩) olen co)) false 10
      [(0, false), (1, false), (2, false), (3, false), (4, false), (5, false), (6, false), (7, false), (8, false), (9, false)] (by kernel_rfl) (by kernel_rfl) ⟨k1, k2, r1⟩ ?_
     simp only [planned, plnLz]
     iterate 10
      refine mix_readE rfl ?_
      apply Exists.intro
      refine ⟨fun w' hw => ?_, ?_⟩
      ·
       obtain ⟨h1, h2, h3⟩ := hw
       go_simp
       rfl
      simp only [putLz]
     refine mix_end ?_
     clear k1 k2 r1
     go_wp2_with fail
     go_roundw
     case rel => exact ⟨i + 1, by omega, by go_num, HBN⟩
     case measure => simp [intOf]; omega
    ·
     have hio : ¬ (i : Int) < (olen : Int) := by omega
     have HB6 := Lib.hid (HB5.out.trans (HBI.out.mono HB5.out.size))
     clear HBI HI5 HOD HPB HRG HOLN
     go_wp2_with fail
     go_loopw [2, 9, 10, 11, 12, 99, 104] (fun s2 s9 s10 s11 s12 s99 s104 wr => ∃ i : Nat, i ≤ hs.length ∧ s99 = .int .i64 i ∧ Hid (Below w3.heap.size w3 wr)) (fun _ _ _ _ _ s99 _ _ => hs.length - (intOf s99).toNat)
     case atStart => exact ⟨0, Nat.zero_le _, rfl, HB6⟩
     case round =>
      clear HB6 hio
      rename World => wj
      obtain ⟨i, hi, rfl, HBI⟩ := hrel
      by_cases hlt : i < hs.length
      ·
       have hiz : (i : Int) < (hs.length : Int) := by omega
       go_wp2_with fail
       go_loopw [2, 10, 11, 12, 104] (fun s2 s10 s11 s12 s104 wr => ∃ j : Nat, j ≤ hs.length ∧ s104 = .int .i64 j ∧ Hid (Below w3.heap.size w3 wr)) (fun _ _ _ _ s104 _ => hs.length - (intOf s104).toNat)
       case atStart => exact ⟨0, Nat.zero_le _, rfl, HBI⟩
       case round =>
        clear HBI
        rename World => wk
        obtain ⟨j, hj, rfl, HBK⟩ := hrel
        by_cases hltj : j < hs.length
        ·
         have hjz : (j : Int) < (hs.length : Int) := by omega
         have hrow := (HL.out _ HBK.out).row HSUB.out (by omega)
         obtain ⟨al', cl', ea, hli⟩ := hrow.l
         cases ea
         obtain ⟨b1, of1, ea1, k1⟩ := hli.cells i (by simpa using hlt)
         obtain ⟨b2, of2, ea2, k2⟩ := hli.cells j (by simpa using hltj)
         rw [ea1] at ea2
         cases ea2
         subst ea1
         rw [at0_eq (by simpa using hlt), List.getElem_map] at k1
         rw [at0_eq (by simpa using hltj), List.getElem_map] at k2
         have HSA := Lib.hid (manSame_any (HL.out wk.drew (HBK.out.trans ((below_draw wk 1).mono HBK.out.size))).sat (k := hs[i].1) (F := hs[i].2) (l := hs[j].1) (G := hs[j].2) (HSUB.out _ (List.getElem_mem hlt)) (HSUB.out _ (List.getElem_mem hltj)))
         have HDE : Hid (∀ b : Bool, (b = true ↔ hs[i].2 = hs[j].2) → b = decide (tabB n hs[i].2 = tabB n hs[j].2)) := Lib.hid fun b hb => by
          rw [Bool.eq_iff_iff, hb, decide_eq_true_iff]
          exact ⟨fun e => by rw [e], fun e => tab_inj (HDEP.out i hlt) (HDEP.out j hltj) e⟩
         obtain ⟨ki, hki⟩ : ∃ k, k = hs[i].1 := ⟨_, rfl⟩
         obtain ⟨kj, hkj⟩ : ∃ k, k = hs[j].1 := ⟨_, rfl⟩
         rw [← hki] at k1 HSA
         rw [← hkj] at k2 HSA
         clear hrow hli hki hkj
         go_upto_region 21 with fail
         refine wp_region_mix (fun W : World => W.cell? ⟨b1, of1 + i, none⟩ = some (.int .i64 ki) ∧ W.cell? ⟨b1, of1 + j, none⟩ = some (.int .i64 kj)) false 15
          [(0, false), (1, false), (2, false), (3, false), (4, false), (5, false), (6, false), (7, false), (8, false), (9, true), (10, false), (11, false), (12, false), (13, false), (14, false)] (by kernel_rfl) (by kernel_rfl) ⟨k1, k2⟩ ?_
         simp only [planned, plnLz]
         iterate 9
          refine mix_readE rfl ?_
          apply Exists.intro
          refine ⟨fun w' hw => ?_, ?_⟩
          ·
           obtain ⟨h1, h2⟩ := hw
           go_simp
           rfl
          simp only [putLz]
         refine mix_callR (R := fun v w' => ∃ b : Bool, v = .tuple #[.bool b, .int .i64 0] ∧ b = decide (tabB n hs[i].2 = tabB n hs[j].2) ∧ wk.drew = w') rfl (by go_simp) (HSA.out.mono (fun e w' he => ?_)) ?_
         ·
          obtain ⟨b, rfl, h1, rfl⟩ := he
          exact ⟨_, rfl, ⟨k1, k2⟩, b, rfl, HDE.out b h1, rfl⟩
         rintro v w' - ⟨b, rfl, hbe, rfl⟩
         have HBE := Lib.hid hbe
         clear hbe
         simp only [putLz]
         iterate 5
          refine mix_readE rfl ?_
          apply Exists.intro
          refine ⟨fun w' hw => ?_, ?_⟩
          ·
           obtain ⟨h1, h2⟩ := hw
           go_simp
           rfl
          simp only [putLz]
         refine mix_end ?_
         obtain ⟨wm, hwm⟩ : ∃ wm, wm = wk.drew := ⟨_, rfl⟩
         have HBD : Hid (Below w3.heap.size w3 wm) := Lib.hid (by rw [hwm]; exact HBK.out.trans ((below_draw wk 1).mono HBK.out.size))
         rw [← hwm]
         clear k1 k2 HSA HDE hwm
         have hrow := (HL.out _ HBD.out).row HSUB.out (by omega)
         obtain ⟨ax', cx', ea, hxi⟩ := hrow.x
         cases ea
         obtain ⟨b3, of3, v3, ea3, k3, hv3, _⟩ := hxi.cells i (by simpa using hlt)
         obtain ⟨b4, of4, v4, ea4, k4, hv4, _⟩ := hxi.cells j (by simpa using hltj)
         rw [ea3] at ea4
         cases ea4
         subst ea3
         rw [getD_map _ _ _ _ hlt] at hv3
         rw [getD_map _ _ _ _ hltj] at hv4
         obtain ⟨av3, cv3, rfl, hba3, _⟩ := hv3
         obtain ⟨av4, cv4, rfl, hba4, _⟩ := hv4
         rw [tabB_length] at k3 k4
         have HRS : Hid (Calls Tryz.prog 57 #[.slice av3 (2 ^ n) cv3, .slice av4 (2 ^ n) cv4] wm.drew fun x w' => x = .returned (.bool b) ∧ Below wm.drew.heap.size wm.drew w') := Lib.hid (by
          have := refSame13_any (tabB n hs[i].2) (tabB n hs[j].2) (by simp [tabB_length]) av3 av4 cv3 cv4 wm.drew (hba3.below (below_draw wm 1)) (hba4.below (below_draw wm 1))
          rw [tabB_length, ← HBE.out] at this
          exact this)
         clear hrow hxi hba3 hba4
         go_upto_region 22 with fail
         refine wp_region_mix (fun W : World => W.cell? ⟨b3, of3 + i, none⟩ = some (.slice av3 (2 ^ n) cv3) ∧ W.cell? ⟨b3, of3 + j, none⟩ = some (.slice av4 (2 ^ n) cv4)) false 15
          [(0, false), (1, false), (2, false), (3, false), (4, false), (5, false), (6, false), (7, false), (8, false), (9, false), (10, false), (11, false), (12, true), (13, false), (14, false)] (by kernel_rfl) (by kernel_rfl) ⟨k3, k4⟩ ?_
         simp only [planned, plnLz]
         iterate 3
          refine mix_readE rfl ?_
          apply Exists.intro
          refine ⟨fun w' hw => ?_, ?_⟩
          ·
           obtain ⟨h1, h2⟩ := hw
           go_simp
           rfl
          simp only [putLz]
         iterate 9
          refine mix_readGE true (by go_simp) ?_
          apply Exists.intro
          refine ⟨fun hgd w' hw => ?_, ?_⟩
          ·
           obtain ⟨h1, h2⟩ := hw
           go_simp
           rfl
          simp only [putLz]
         refine mix_callGR (R := fun v w' => v = .bool b ∧ Below wm.heap.size wm w') (by go_simp) (by go_simp) (HRS.out.mono (fun e w' he => ?_)) ?_
         ·
          obtain ⟨rfl, hb⟩ := he
          have hb' := (below_draw wm 1).trans (hb.mono (below_draw wm 1).size)
          exact ⟨_, rfl, ⟨(hb'.cell (p := ⟨b3, of3 + i, none⟩) (lt_of_cell k3)).trans k3, (hb'.cell (p := ⟨b3, of3 + j, none⟩) (lt_of_cell k4)).trans k4⟩, rfl, hb'⟩
         rintro v wn - ⟨rfl, hbn⟩
         have HBN := Lib.hid (HBD.out.trans (hbn.mono HBD.out.size))
         clear hbn k3 k4 HRS HBE
         simp only [putLz]
         iterate 1
          refine mix_readGE true (by go_simp) ?_
          apply Exists.intro
          refine ⟨fun hgd w' hw => ?_, ?_⟩
          ·
           obtain ⟨h1, h2⟩ := hw
           go_simp
           rfl
          simp only [putLz]
         iterate 1
          refine mix_readE rfl ?_
          apply Exists.intro
          refine ⟨fun w' hw => ?_, ?_⟩
          ·
           obtain ⟨h1, h2⟩ := hw
           go_simp
           rfl
          simp only [putLz]
         refine mix_end ?_
         cases b
         all_goals
          go_wp2_with fail
          go_roundw
          case rel => exact ⟨j + 1, by omega, by go_num, HBN⟩
          case measure => simp [intOf]; omega
        ·
         have hjz : ¬ (j : Int) < (hs.length : Int) := by omega
         go_wp2_with fail
         go_roundw
         case rel => exact ⟨i + 1, by omega, by go_num, HBK⟩
         case measure => simp [intOf]; omega
      ·
       have hiz : ¬ (i : Int) < (hs.length : Int) := by omega
       have HLV := Lib.hid (lives13b wj)
       go_wp2_with fail
       refine HLV.out.mono ?_
       rintro y w9 ⟨rfl, hb9⟩
       have HB0 := Lib.hid (HB03.out.trans (HBI.out.mono HB03.out.size))
       have HFN := Lib.hid (HB0.out.trans (hb9.mono HB0.out.size))
       clear hb9
       go_wp2_with fail
       go_ret
       exact ⟨rfl, HFN.out⟩
end Go.Proofs.YtchliiaknmknhaaGreat
