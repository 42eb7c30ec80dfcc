/- The walk of a law: SwapsW. -/
import Derived.Test.YtchliiaknmknhaaGreatS11
set_option linter.unusedSimpArgs false
set_option linter.unusedVariables false
set_option linter.unusedSectionVars false
set_option linter.unnecessarySimpa false
namespace Go.Proofs.YtchliiaknmknhaaGreat
open Go.RowKit
def SwsI (q : AskD) (n : Nat) (wb : World) (mb : Nat) (hs : List (Int × BF)) (vl vx : Value) (j : Nat) (W : World) : Prop :=
 ∃ nx : Int, nx ≤ 1001 + j ∧ LawE iteLaw n (fun _ => True) (roomOf n) wb mb (two ++ hs) nx (SufW q.plan) hs hs W vl vx
theorem suff_nil {l : List Ev} {ws : List Ev} (h : ws <:+ l) (e : l.length = 0) : ws <:+ ([] : List Ev) := by
 have : l = [] := List.length_eq_zero_iff.1 e
 rw [this] at h; exact h
set_option maxRecDepth 100000 in
set_option maxHeartbeats 8000000 in
theorem swaps_walk (q : AskD) (ao ae ap : Option Addr) (co ce cp : Nat) (v1 : Value) (ls : List Int) (w : World) (h : AskAt w q ao ae ap) (hls : SliceIs w v1 ls) :
 Calls Tryz.prog 6 #[askV q ao ae ap co ce cp, v1] w fun y w' => y = .returned (.bool true) ∧ Below w.heap.size w w' := by
 obtain ⟨al, cl, rfl, hli, _⟩ := hls
 have HSM : Hid (∀ W, Below w.heap.size w W → ∀ u, u = askV q ao ae ap co ce cp → Calls Tryz.prog 12 #[u] W fun y w' => ∃ b, y = .returned (.bool b) ∧ (b = true → SmallP q) ∧ Below W.heap.size W w') := Lib.hid fun W hb u hu => by subst hu; exact small_any q ao ae ap co ce cp W (h.below hb)
 have HST : Hid (∀ W n, Below w.heap.size w W → SmallP q → q.vars = (n : Nat) → ∀ u, u = askV q ao ae ap co ce cp → Calls Tryz.prog 23 #[u] W (SetP iteLaw q n W)) := Lib.hid fun W n hb hs hn u hu => by subst hu; exact setup_any iteLaw_ok q ao ae ap co ce cp W (h.below hb) hs n hn
 have HLI := Lib.hid hli
 have hlen := hli.len
 obtain ⟨vars, hvars⟩ : ∃ z, z = q.vars := ⟨_, rfl⟩
 have HV := Lib.hid hvars
 obtain ⟨plen, hplen⟩ : ∃ z, z = q.plan.length := ⟨_, rfl⟩
 have HPL := Lib.hid hplen
 unfold askV at HSM HST ⊢
 rw [← hvars, ← hplen] at HSM HST ⊢
 obtain ⟨olen, holen⟩ : ∃ z, z = q.order.length := ⟨_, rfl⟩
 obtain ⟨elen, helen⟩ : ∃ z, z = q.es.length := ⟨_, rfl⟩
 rw [← holen, ← helen] at HSM HST ⊢
 obtain ⟨w1, hw1⟩ : ∃ w1, w1 = w.alloc (.cells #[.int .i64 vars, .slice ao olen co, .slice ae elen ce, .slice ap plen cp] 26) := ⟨_, rfl⟩
 have HW1 : Hid (_ = w1) := Lib.hid hw1.symm
 have HB1 : Hid (Below w.heap.size w w1) := by rw [hw1]; exact Lib.hid (below_new1 _ _)
 have hblk : w1.heap[w.heap.size]? = some (.cells #[.int .i64 vars, .slice ao olen co, .slice ae elen ce, .slice ap plen cp] 26 (0, 0)) := by rw [hw1]; exact heap_alloc_new _ _
 have d0 : w1.cell? ⟨w.heap.size, 0, none⟩ = some (.int .i64 vars) := by rw [cell_of_row _ _ 0 _ _ _ hblk]; rfl
 have d1 : w1.cell? ⟨w.heap.size, 1, none⟩ = some (.slice ao olen co) := by rw [cell_of_row _ _ 1 _ _ _ hblk]; rfl
 have d2 : w1.cell? ⟨w.heap.size, 2, none⟩ = some (.slice ae elen ce) := by rw [cell_of_row _ _ 2 _ _ _ hblk]; rfl
 have d3 : w1.cell? ⟨w.heap.size, 3, none⟩ = some (.slice ap plen cp) := by rw [cell_of_row _ _ 3 _ _ _ hblk]; rfl
 clear h hli hw1 hblk hvars hplen holen helen
 go_enter Tryz.func6, Tryz.ntmps6
 go_upto_region 1 with fail
 rw [HW1.out]
 go_wp2_with fail
 refine (HSM.out _ HB1.out _ rfl).mono ?_
 rintro y w2 ⟨b, rfl, hb, hbel⟩
 have HB := Lib.hid hb
 have HBEL := Lib.hid (HB1.out.trans (hbel.mono HB1.out.size))
 have e0 := (hbel.cell (p := ⟨w.heap.size, 0, none⟩) (lt_of_cell d0)).trans d0
 have e1 := (hbel.cell (p := ⟨w.heap.size, 1, none⟩) (lt_of_cell d1)).trans d1
 have e2 := (hbel.cell (p := ⟨w.heap.size, 2, none⟩) (lt_of_cell d2)).trans d2
 have e3 := (hbel.cell (p := ⟨w.heap.size, 3, none⟩) (lt_of_cell d3)).trans d3
 have HLV := Lib.hid (lives13b w2)
 clear hb hbel HSM d0 d1 d2 d3 HW1
 cases b with
 | false =>
   go_wp2_with fail
   refine HLV.out.mono ?_
   rintro y w3 ⟨rfl, hb3⟩
   have HB3 := Lib.hid (HBEL.out.trans (hb3.mono HBEL.out.size))
   clear hb3
   go_wp2_with fail
   go_ret
   exact ⟨rfl, HB3.out⟩
 | true =>
   by_cases hl30 : (ls.length : Int) > 30
   ·
    go_wp2_with fail
    refine HLV.out.mono ?_
    rintro y w3 ⟨rfl, hb3⟩
    have HB3 := Lib.hid (HBEL.out.trans (hb3.mono HBEL.out.size))
    clear hb3
    go_wp2_with fail
    go_ret
    exact ⟨rfl, HB3.out⟩
   have HSP := Lib.hid (HB.out (by first | rfl | trivial))
   obtain ⟨n, hn⟩ : ∃ n : Nat, vars = (n : Nat) := ⟨vars.toNat, by have := HSP.out.lo; have := HV.out; omega⟩
   subst hn
   have hn6 : n ≤ 6 := by have := HSP.out.hi; have := HV.out; omega
   have hn1 : 1 ≤ n := by have := HSP.out.lo; have := HV.out; omega
   have hes : q.es.length ≤ 5 := HSP.out.es
   have hpl6 : plen ≤ 6 := by have := HSP.out.plan; have := HPL.out; omega
   have HSET := Lib.hid (HST.out w2 n HBEL.out HSP.out rfl _ rfl)
   clear HST HLV HB
   go_wp2_with fail
   refine HSET.out.mono ?_
   rintro y w3 ⟨mb, vl, vx, wb, hs, nx, rfl, hbw, hsnd, hnx, o3, m3, V3, lt3⟩
   have hhl : hs.length ≤ 5 := by have := congrArg List.length hsnd; simp at this; omega
   have HBW := Lib.hid hbw
   have HSUB : Hid (∀ p ∈ hs, p ∈ two ++ hs) := Lib.hid fun p hp => List.mem_append_right _ hp
   have hfl : (two ++ hs).length = 2 + hs.length := by simp [two]; omega
   have HROOM : Hid (∀ k, k ≤ 192 → k * 2 ^ n ≤ roomOf n) := Lib.hid fun k hk => roomOf_many hk
   have c0 := (hbw.cell (p := ⟨w.heap.size, 0, none⟩) (lt_of_cell e0)).trans e0
   have c3 := (hbw.cell (p := ⟨w.heap.size, 3, none⟩) (lt_of_cell e3)).trans e3
   have HLW : Hid (IntsAt wb al ls) := Lib.hid (HLI.out.below (HBEL.out.trans (hbw.mono HBEL.out.size)))
   have f0 := (lt3.below0.cell (p := ⟨w.heap.size, 0, none⟩) (lt_of_cell c0)).trans c0
   have HBB : Hid (Below w.heap.size w wb) := Lib.hid (HBEL.out.trans (hbw.mono HBEL.out.size))
   have HAG := Lib.hid (again_any iteLaw_ok ((lt3.withOd (Od' := fun _ => True) trivial).withSt (Wt' := SufW q.plan) (by rw [lt3.st.1]; exact List.suffix_refl _)) HSUB.out (by omega) (by omega) (by omega) (by rw [hfl]; exact HROOM.out _ (by omega)))
   clear lt3 hbw hsnd HSET e0 e1 e2 e3
   go_wp2_with fail
   refine HAG.out.mono ?_
   rintro y w4 ⟨rfl, o4, m4, V4, hc4, lt4⟩
   have HI0 : Hid (SwsI q n wb mb hs vl vx 0 w4) := Lib.hid ⟨nx + 1, by omega, o4, m4, V4, lt4⟩
   clear hc4 lt4 HAG f0
   go_wp2_with fail
   go_loopw [4, 10, 11, 12, 13, 14, 44, 121] (fun s4 s10 s11 s12 s13 s14 s44 s121 wr => ∃ j : Nat, j ≤ ls.length ∧ s44 = .int .i64 j ∧ Hid (SwsI q n wb mb hs vl vx j wr)) (fun _ _ _ _ _ _ s44 _ _ => ls.length - (intOf s44).toNat)
   case atStart => exact ⟨0, Nat.zero_le _, rfl, HI0⟩
   case round =>
    clear HI0
    rename World => wy
    obtain ⟨j, hj, rfl, HI⟩ := hrel
    obtain ⟨nxj, hnxj, oj, mj, Vj, ltj⟩ := HI.out
    have HLT := Lib.hid ltj
    have hwb := ltj.below0
    have g0 := (hwb.cell (p := ⟨w.heap.size, 0, none⟩) (lt_of_cell c0)).trans c0
    clear HI
    by_cases hlt : j < ls.length
    ·
     have hjz : (j : Int) < ls.length := by omega
     obtain ⟨bz, oz, rfl, cz0⟩ := HLW.out.cells j hlt
     have cz := (hwb.cell (p := ⟨bz, oz + j, none⟩) (lt_of_cell cz0)).trans cz0
     obtain ⟨kk, hkk⟩ : ∃ kk, kk = at0 ls j := ⟨_, rfl⟩
     rw [← hkk] at cz
     have HOR := Lib.hid (order_law ltj)
     clear cz0 hkk ltj hwb
     go_wp2_with fail
     refine HOR.out.mono ?_
     rintro y w5 ⟨a5, c5, rfl, hl5, hi5, hno5, hb5⟩
     have HL5 := Lib.hid (HLT.out.below hb5)
     have HI5 := Lib.hid hi5
     have HNO5 := Lib.hid hno5
     obtain ⟨l5, hl5e⟩ : ∃ l5, l5 = mj.d.vars := ⟨_, rfl⟩
     have HE5 := Lib.hid hl5e
     rw [← hl5e] at hl5 HI5
     clear hi5 hno5 hb5 HOR cz hl5e g0
     by_cases hin : 0 ≤ kk ∧ kk + 1 < n
     ·
      obtain ⟨hk0, hk1⟩ := hin
      obtain ⟨k, rfl⟩ : ∃ k : Nat, kk = (k : Nat) := ⟨kk.toNat, by omega⟩
      have hk1' : k + 1 < n := by omega
      have HSW := Lib.hid (swap_law HL5.out hk1' (by omega) (by rw [hfl]; have := HROOM.out (3 * (2 + hs.length)) (by omega); rw [Nat.mul_assoc] at this; exact this))
      go_wp2_with fail
      refine HSW.out.mono ?_
      rintro y w6 ⟨rfl, o6, m6, V6, hc6, lt6⟩
      have HC6 := Lib.hid hc6
      have HI6 := Lib.hid (HI5.out.chgX hc6 (fun _ x hx => ⟨HNO5.out x hx, fun e => e⟩))
      have HNO56 : Hid (∀ x, a5 = some x → o6 x.block = none) := Lib.hid fun x hx => by
       obtain ⟨b, off, e, hc⟩ := HI5.out.cells 0 (by rw [List.length_map]; omega)
       rw [hx] at e
       cases e
       exact hc6.none' (lt_of_cell hc) (HNO5.out _ hx)
      have HL6 := Lib.hid lt6
      have HOR6 := Lib.hid (order_law lt6)
      have HOD6 : Hid (m6.d.vars = exL l5 k) := Lib.hid (by rw [HE5.out]; exact lt6.sat.od)
      clear hc6 lt6 HSW HI5
      go_wp2_with fail
      refine HOR6.out.mono ?_
      rintro y w7 ⟨a7, c7, rfl, hl7, hi7, hno7, hb7⟩
      have HL7 := Lib.hid (HL6.out.below hb7)
      rw [HOD6.out] at hl7 hi7
      have HI7 := Lib.hid hi7
      have HI7w := Lib.hid (HI6.out.below hb7)
      have HNO7 := Lib.hid hno7
      have hb0 := HL7.out.below0
      have g0 := (hb0.cell (p := ⟨w.heap.size, 0, none⟩) (lt_of_cell c0)).trans c0
      have g3 := (hb0.cell (p := ⟨w.heap.size, 3, none⟩) (lt_of_cell c3)).trans c3
      have HNO6 : Hid (∀ x, a5 = some x → o6 x.block = none) := HNO56
      clear hi7 hno7 hb7 HOR6 hb0 HI6 HNO56
      obtain ⟨x0, hx0⟩ : ∃ x0, x0 = l5.getD k 0 := ⟨_, rfl⟩
      obtain ⟨x1, hx1⟩ : ∃ x1, x1 = l5.getD (k + 1) 0 := ⟨_, rfl⟩
      have HS7 : Hid (∀ W o8, ChgX NoB o6 o8 w7 W → W.cell? ⟨w.heap.size, 0, none⟩ = some (.int .i64 (n : Nat)) ∧ W.cell? ⟨w.heap.size, 3, none⟩ = some (.slice ap plen cp) ∧ IntsAt W a7 ((exL l5 k).map Int.ofNat) ∧ IntsAt W a5 (l5.map Int.ofNat)) := Lib.hid fun W o8 hc =>
       ⟨(HL7.out.sat.chg.trans hc (fun _ _ e => e)).below0.cell (p := ⟨w.heap.size, 0, none⟩) (lt_of_cell c0) |>.trans c0, (HL7.out.sat.chg.trans hc (fun _ _ e => e)).below0.cell (p := ⟨w.heap.size, 3, none⟩) (lt_of_cell c3) |>.trans c3, HI7.out.chgX hc (fun _ x hx => ⟨HNO7.out x hx, fun e => e⟩), HI7w.out.chgX hc (fun _ x hx => ⟨HNO6.out x hx, fun e => e⟩)⟩
      obtain ⟨b7, of7, e7, c70⟩ := HI7.out.cells k (by rw [List.length_map, exL_length]; omega)
      obtain ⟨b7', of7', e7', c71⟩ := HI7.out.cells (k + 1) (by rw [List.length_map, exL_length]; omega)
      obtain ⟨b5, of5, e5, c50⟩ := HI7w.out.cells k (by rw [List.length_map]; omega)
      obtain ⟨b5', of5', e5', c51⟩ := HI7w.out.cells (k + 1) (by rw [List.length_map]; omega)
      rw [e7] at e7'
      rw [e5] at e5'
      cases e7'
      cases e5'
      subst e7 e5
      rw [at0_nat (by rw [exL_length]; omega), exL_here (by omega), ← hx1] at c70
      rw [at0_nat (by rw [exL_length]; omega), exL_next (by omega), ← hx0] at c71
      rw [at0_nat (by omega), ← hx0] at c50
      rw [at0_nat (by omega), ← hx1] at c51
      have HS : Hid (∀ W o8, ChgX NoB o6 o8 w7 W → W.cell? ⟨b7, of7 + k, none⟩ = some (.int .i64 (x1 : Nat)) ∧ W.cell? ⟨b7, of7 + (k + 1), none⟩ = some (.int .i64 (x0 : Nat)) ∧ W.cell? ⟨b5, of5 + k, none⟩ = some (.int .i64 (x0 : Nat)) ∧ W.cell? ⟨b5, of5 + (k + 1), none⟩ = some (.int .i64 (x1 : Nat)) ∧ W.cell? ⟨w.heap.size, 0, none⟩ = some (.int .i64 (n : Nat)) ∧ W.cell? ⟨w.heap.size, 3, none⟩ = some (.slice ap plen cp)) := Lib.hid fun W o8 hc => by
       obtain ⟨r0, r3, _, _⟩ := HS7.out W o8 hc
       have n7 : o6 b7 = none := HNO7.out ⟨b7, of7, none⟩ rfl
       have n5 : o6 b5 = none := HNO6.out ⟨b5, of5, none⟩ rfl
       exact ⟨hc.cell c70 n7 (fun e => e), hc.cell c71 n7 (fun e => e), hc.cell c50 n5 (fun e => e), hc.cell c51 n5 (fun e => e), r0, r3⟩
      have hwr1 : (IntKind.i64).wrap ((k : Int) + 1) = (k : Int) + 1 := by simp [IntKind.wrap, IntKind.bits]; omega
      have htn1 : ((k : Int) + 1).toNat = k + 1 := by omega
      have h0k1 : (0 : Int) ≤ (k : Int) + 1 := by omega
      have hk2 : (k : Int) + 1 < (n : Int) := by omega
      have hkn : (k : Int) < (n : Int) := by omega
      have hnn2 : ¬ (k : Int) < 0 := by omega
      have hnn3 : ¬ (k : Int) > (n : Int) - 2 := by omega
      clear hx0 hx1 c70 c71 c50 c51
      have HGO : Hid (∀ W, (∃ o8 m8 V8, ChgX NoB o6 o8 w7 W ∧ LawT iteLaw n (fun _ => True) (roomOf n) wb mb (two ++ hs) (nxj + 1) (SufW q.plan) hs hs W o8 m8 V8 vl vx) → SwsI q n wb mb hs vl vx (j + 1) W ∧ ∃ o8, ChgX NoB o6 o8 w7 W) := Lib.hid (by
       rintro W ⟨o8, m8, V8, hc, hl⟩
       exact ⟨⟨nxj + 1, by omega, o8, m8, V8, hl⟩, o8, hc⟩)
      have HGO0 : Hid (∀ W, (∃ o8 m8 V8, ChgX NoB o6 o8 w7 W ∧ LawT iteLaw n (fun _ => True) (roomOf n) wb mb (two ++ hs) nxj (SufW q.plan) hs hs W o8 m8 V8 vl vx) → SwsI q n wb mb hs vl vx (j + 1) W ∧ ∃ o8, ChgX NoB o6 o8 w7 W) := Lib.hid (by
       rintro W ⟨o8, m8, V8, hc, hl⟩
       exact ⟨⟨nxj, by omega, o8, m8, V8, hl⟩, o8, hc⟩)
      have HL7D : Hid (LawT iteLaw n (fun _ => True) (roomOf n) wb mb (two ++ hs) nxj (SufW q.plan) hs hs w7.drew o6 m6 V6 vl vx) := Lib.hid ((HL7.out.withOd (Od' := fun _ => True) trivial).below (below_draw w7 1))
      have HD7 : Hid (ChgX NoB o6 o6 w7 w7.drew) := Lib.hid (chg_below (below_draw w7 1) o6)
      go_upto_region 17 with fail
      go_cut [118] (fun s118 wx => s118 = .bool false ∧ Hid (SwsI q n wb mb hs vl vx (j + 1) wx ∧ ∃ o8, ChgX NoB o6 o8 w7 wx))
      case first =>
       refine wp_region_mix (fun W : World => W.cell? ⟨b7, of7 + k, none⟩ = some (.int .i64 (x1 : Nat)) ∧ W.cell? ⟨b7, of7 + (k + 1), none⟩ = some (.int .i64 (x0 : Nat)) ∧ W.cell? ⟨b5, of5 + k, none⟩ = some (.int .i64 (x0 : Nat)) ∧ W.cell? ⟨b5, of5 + (k + 1), none⟩ = some (.int .i64 (x1 : Nat)) ∧ W.cell? ⟨w.heap.size, 0, none⟩ = some (.int .i64 (n : Nat)) ∧ W.cell? ⟨w.heap.size, 3, none⟩ = some (.slice ap plen cp)) false 41
        [(0, false), (1, false), (2, false), (3, false), (4, false), (5, false), (6, false), (7, false), (8, false), (9, false), (10, false), (11, false), (12, false), (13, false), (14, false), (15, false), (16, false), (17, false), (18, false), (19, false), (20, false), (21, false), (22, false), (23, false), (24, false), (25, false), (26, false), (27, false), (28, false), (29, false), (30, false), (31, false), (32, false), (33, false), (34, false), (35, false), (36, false), (37, true), (38, false), (39, false), (40, false)] (by kernel_rfl) (by kernel_rfl) (HS.out _ _ HD7.out) ?_
       simp only [planned, plnLz]
       by_cases hp0 : plen = 0
       ·
        have hpz : ((plen : Int) == 0) = true := by simp; omega
        have HAG := Lib.hid (again_any iteLaw_ok (ws0 := []) (HL7D.out.withSt (Wt' := SufW []) (suff_nil HL7D.out.st (by have := HPL.out; omega))) HSUB.out (by omega) (by omega) (by omega) (by rw [hfl]; exact HROOM.out _ (by omega)))
        iterate 3
         refine mix_readE rfl ?_
         apply Exists.intro
         refine ⟨fun w' hw => ?_, ?_⟩
         ·
          obtain ⟨h1, h2, h3, h4, h5, h6⟩ := hw
          go_simp
          rfl
         simp only [putLz]
        iterate 10
         refine mix_readGE true (by go_simp) ?_
         apply Exists.intro
         refine ⟨fun hgd w' hw => ?_, ?_⟩
         ·
          obtain ⟨h1, h2, h3, h4, h5, h6⟩ := hw
          go_simp
          rfl
         simp only [putLz]
        iterate 2
         refine mix_readE rfl ?_
         apply Exists.intro
         refine ⟨fun w' hw => ?_, ?_⟩
         ·
          obtain ⟨h1, h2, h3, h4, h5, h6⟩ := hw
          go_simp
          rfl
         simp only [putLz]
        iterate 10
         refine mix_readGE true (by go_simp) ?_
         apply Exists.intro
         refine ⟨fun hgd w' hw => ?_, ?_⟩
         ·
          obtain ⟨h1, h2, h3, h4, h5, h6⟩ := hw
          go_simp
          rfl
         simp only [putLz]
        iterate 2
         refine mix_readE rfl ?_
         apply Exists.intro
         refine ⟨fun w' hw => ?_, ?_⟩
         ·
          obtain ⟨h1, h2, h3, h4, h5, h6⟩ := hw
          go_simp
          rfl
         simp only [putLz]
        iterate 5
         refine mix_readGE true (by go_simp) ?_
         apply Exists.intro
         refine ⟨fun hgd w' hw => ?_, ?_⟩
         ·
          obtain ⟨h1, h2, h3, h4, h5, h6⟩ := hw
          go_simp
          rfl
         simp only [putLz]
        iterate 5
         refine mix_readGE true (by go_simp) ?_
         apply Exists.intro
         refine ⟨fun hgd w' hw => ?_, ?_⟩
         ·
          obtain ⟨h1, h2, h3, h4, h5, h6⟩ := hw
          go_simp
          rfl
         simp only [putLz]
        refine mix_callGR (R := fun v w' => v = .bool true ∧ LawC iteLaw n (fun _ => True) (roomOf n) wb mb (two ++ hs) (nxj + 1) (SufW []) hs hs o6 w7.drew w' vl vx) (by go_simp) (by go_simp) (HAG.out.mono (fun e w' he => ?_)) ?_
        ·
         obtain ⟨rfl, o8, m8, V8, hc, hl⟩ := he
         exact ⟨_, rfl, HS.out _ _ (HD7.out.trans hc (fun _ _ e => e)), rfl, o8, m8, V8, hc, hl⟩
        rintro v w8 - ⟨rfl, o8, m8, V8, hc, hl⟩
        have HF := Lib.hid (HGO.out w8 ⟨o8, m8, V8, HD7.out.trans hc (fun _ _ e => e), hl.withSt (Wt' := SufW q.plan) (List.IsSuffix.trans (show m8.waits <:+ [] from hl.st) (List.nil_suffix))⟩)
        clear hc hl HAG
        simp only [putLz]
        iterate 2
         refine mix_readGE true (by go_simp) ?_
         apply Exists.intro
         refine ⟨fun hgd w' hw => ?_, ?_⟩
         ·
          obtain ⟨h1, h2, h3, h4, h5, h6⟩ := hw
          go_simp
          rfl
         simp only [putLz]
        iterate 1
         refine mix_readE rfl ?_
         apply Exists.intro
         refine ⟨fun w' hw => ?_, ?_⟩
         ·
          obtain ⟨h1, h2, h3, h4, h5, h6⟩ := hw
          go_simp
          rfl
         simp only [putLz]
        refine mix_end ?_
        go_wp2_with fail
        go_meet
        case rel => exact ⟨rfl, HF⟩
       ·
        have hpz : ((plen : Int) == 0) = false := by simp; omega
        have HF := Lib.hid (HGO0.out w7.drew ⟨o6, m6, V6, HD7.out, HL7D.out⟩)
        iterate 3
         refine mix_readE rfl ?_
         apply Exists.intro
         refine ⟨fun w' hw => ?_, ?_⟩
         ·
          obtain ⟨h1, h2, h3, h4, h5, h6⟩ := hw
          go_simp
          rfl
         simp only [putLz]
        iterate 10
         refine mix_readGE true (by go_simp) ?_
         apply Exists.intro
         refine ⟨fun hgd w' hw => ?_, ?_⟩
         ·
          obtain ⟨h1, h2, h3, h4, h5, h6⟩ := hw
          go_simp
          rfl
         simp only [putLz]
        iterate 2
         refine mix_readE rfl ?_
         apply Exists.intro
         refine ⟨fun w' hw => ?_, ?_⟩
         ·
          obtain ⟨h1, h2, h3, h4, h5, h6⟩ := hw
          go_simp
          rfl
         simp only [putLz]
        iterate 10
         refine mix_readGE true (by go_simp) ?_
         apply Exists.intro
         refine ⟨fun hgd w' hw => ?_, ?_⟩
         ·
          obtain ⟨h1, h2, h3, h4, h5, h6⟩ := hw
          go_simp
          rfl
         simp only [putLz]
        iterate 2
         refine mix_readE rfl ?_
         apply Exists.intro
         refine ⟨fun w' hw => ?_, ?_⟩
         ·
          obtain ⟨h1, h2, h3, h4, h5, h6⟩ := hw
          go_simp
          rfl
         simp only [putLz]
        iterate 5
         refine mix_readGE true (by go_simp) ?_
         apply Exists.intro
         refine ⟨fun hgd w' hw => ?_, ?_⟩
         ·
          obtain ⟨h1, h2, h3, h4, h5, h6⟩ := hw
          go_simp
          rfl
         simp only [putLz]
        iterate 5
         refine mix_readGE false (by go_simp) ?_
         refine Exists.intro undef (And.intro (fun hgd => absurd hgd (by simp)) ?_)
         simp only [putLz]
        refine mix_skipG (by go_simp) (HS.out _ _ HD7.out) ?_
        simp only [putLz]
        iterate 1
         refine mix_readGE false (by go_simp) ?_
         refine Exists.intro undef (And.intro (fun hgd => absurd hgd (by simp)) ?_)
         simp only [putLz]
        iterate 1
         refine mix_readGE true (by go_simp) ?_
         apply Exists.intro
         refine ⟨fun hgd w' hw => ?_, ?_⟩
         ·
          obtain ⟨h1, h2, h3, h4, h5, h6⟩ := hw
          go_simp
          rfl
         simp only [putLz]
        iterate 1
         refine mix_readE rfl ?_
         apply Exists.intro
         refine ⟨fun w' hw => ?_, ?_⟩
         ·
          obtain ⟨h1, h2, h3, h4, h5, h6⟩ := hw
          go_simp
          rfl
         simp only [putLz]
        refine mix_end ?_
        go_wp2_with fail
        go_meet
        case rel => exact ⟨rfl, HF⟩
      case rest =>
       obtain ⟨rfl, HG8⟩ := hcut
       clear HGO HGO0 HL7D HD7
       rename World => w8
       obtain ⟨o8, hc8⟩ := HG8.out.2
       obtain ⟨r0, r3, HI8, HI8w⟩ := HS7.out w8 o8 hc8
       have HI8 := Lib.hid HI8
       have HI8w := Lib.hid HI8w
       have HSI := Lib.hid HG8.out.1
       clear hc8 HG8 HS7 HS r3 HI7 HI7w
       go_wp2_with fail
       go_loopw [4, 14, 121] (fun s4 s14 s121 wr => ∃ i : Nat, i ≤ n ∧ s121 = .int .i64 i ∧ Hid (Below w8.heap.size w8 wr)) (fun _ _ s121 _ => n - (intOf s121).toNat)
       case atStart => exact ⟨0, Nat.zero_le _, rfl, Lib.hid (Below.refl _ _)⟩
       case round =>
        rename World => wi
        obtain ⟨i, hi, rfl, HBI⟩ := hrel
        by_cases hin : i < n
        ·
         have hiz : (i : Int) < n := by omega
         obtain ⟨b7', of7', e7', c7⟩ := (HI8.out.below HBI.out).cells i (by rw [List.length_map, exL_length]; omega)
         obtain ⟨b5', of5', e5', c5⟩ := (HI8w.out.below HBI.out).cells i (by rw [List.length_map]; omega)
         cases e7'
         cases e5'
         rw [at0_nat (by rw [exL_length]; omega)] at c7
         rw [at0_nat (by omega)] at c5
         obtain ⟨y7, hy7⟩ : ∃ y, y = (exL l5 k).getD i 0 := ⟨_, rfl⟩
         obtain ⟨y5, hy5⟩ : ∃ y, y = l5.getD i 0 := ⟨_, rfl⟩
         rw [← hy7] at c7
         rw [← hy5] at c5
         have HNE : Hid (i ≠ k → i ≠ k + 1 → y7 = y5) := Lib.hid fun h1 h2 => by rw [hy7, hy5, exL_ne h1 h2]
         clear hy7 hy5
         have HBN := Lib.hid (HBI.out.trans ((below_draw wi 1).mono HBI.out.size))
         go_upto_region 22 with fail
         refine wp_region_mix (fun W : World => W.cell? ⟨b7, of7 + i, none⟩ = some (.int .i64 (y7 : Nat)) ∧ W.cell? ⟨b5, of5 + i, none⟩ = some (.int .i64 (y5 : Nat))) false 20
          [(0, false), (1, false), (2, false), (3, false), (4, false), (5, false), (6, false), (7, false), (8, false), (9, false), (10, false), (11, false), (12, false), (13, false), (14, false), (15, false), (16, false), (17, false), (18, false), (19, false)] (by kernel_rfl) (by kernel_rfl) ⟨c7, c5⟩ ?_
         simp only [planned, plnLz]
         by_cases hk1e : i = k
         ·
          have hA : ((i : Int) != (k : Int)) = false := by rw [hk1e]; simp
          clear hk1e HNE
          iterate 4
           refine mix_readE rfl ?_
           apply Exists.intro
           refine ⟨fun w' hw => ?_, ?_⟩
           ·
            obtain ⟨h1, h2⟩ := hw
            go_simp
            rfl
           simp only [putLz]
          iterate 4
           refine mix_readGE false (by go_simp) ?_
           refine Exists.intro undef (And.intro (fun hgd => absurd hgd (by simp)) ?_)
           simp only [putLz]
          iterate 2
           refine mix_readE rfl ?_
           apply Exists.intro
           refine ⟨fun w' hw => ?_, ?_⟩
           ·
            obtain ⟨h1, h2⟩ := hw
            go_simp
            rfl
           simp only [putLz]
          iterate 9
           refine mix_readGE false (by go_simp) ?_
           refine Exists.intro undef (And.intro (fun hgd => absurd hgd (by simp)) ?_)
           simp only [putLz]
          iterate 1
           refine mix_readE rfl ?_
           apply Exists.intro
           refine ⟨fun w' hw => ?_, ?_⟩
           ·
            obtain ⟨h1, h2⟩ := hw
            go_simp
            rfl
           simp only [putLz]
          refine mix_end ?_
          go_wp2_with fail
          go_roundw
          case rel => exact ⟨i + 1, by omega, by go_num, HBN⟩
          case measure => simp [intOf]; omega
         ·
          have hA : ((i : Int) != (k : Int)) = true := by simp; omega
          by_cases hk2e : i = k + 1
          ·
           have hB : ((i : Int) != (k : Int) + 1) = false := by simp; omega
           clear hk2e HNE
           iterate 4
            refine mix_readE rfl ?_
            apply Exists.intro
            refine ⟨fun w' hw => ?_, ?_⟩
            ·
             obtain ⟨h1, h2⟩ := hw
             go_simp
             rfl
            simp only [putLz]
           iterate 4
            refine mix_readGE true (by go_simp) ?_
            apply Exists.intro
            refine ⟨fun hgd w' hw => ?_, ?_⟩
            ·
             obtain ⟨h1, h2⟩ := hw
             go_simp
             rfl
            simp only [putLz]
           iterate 2
            refine mix_readE rfl ?_
            apply Exists.intro
            refine ⟨fun w' hw => ?_, ?_⟩
            ·
             obtain ⟨h1, h2⟩ := hw
             go_simp
             rfl
            simp only [putLz]
           iterate 9
            refine mix_readGE false (by go_simp) ?_
            refine Exists.intro undef (And.intro (fun hgd => absurd hgd (by simp)) ?_)
            simp only [putLz]
           iterate 1
            refine mix_readE rfl ?_
            apply Exists.intro
            refine ⟨fun w' hw => ?_, ?_⟩
            ·
             obtain ⟨h1, h2⟩ := hw
             go_simp
             rfl
            simp only [putLz]
           refine mix_end ?_
           go_wp2_with fail
           go_roundw
           case rel => exact ⟨i + 1, by omega, by go_num, HBN⟩
           case measure => simp [intOf]; omega
          ·
           have hB : ((i : Int) != (k : Int) + 1) = true := by simp; omega
           obtain rfl := HNE.out hk1e hk2e
           iterate 4
            refine mix_readE rfl ?_
            apply Exists.intro
            refine ⟨fun w' hw => ?_, ?_⟩
            ·
             obtain ⟨h1, h2⟩ := hw
             go_simp
             rfl
            simp only [putLz]
           iterate 4
            refine mix_readGE true (by go_simp) ?_
            apply Exists.intro
            refine ⟨fun hgd w' hw => ?_, ?_⟩
            ·
             obtain ⟨h1, h2⟩ := hw
             go_simp
             rfl
            simp only [putLz]
           iterate 2
            refine mix_readE rfl ?_
            apply Exists.intro
            refine ⟨fun w' hw => ?_, ?_⟩
            ·
             obtain ⟨h1, h2⟩ := hw
             go_simp
             rfl
            simp only [putLz]
           iterate 9
            refine mix_readGE true (by go_simp) ?_
            apply Exists.intro
            refine ⟨fun hgd w' hw => ?_, ?_⟩
            ·
             obtain ⟨h1, h2⟩ := hw
             go_simp
             rfl
            simp only [putLz]
           iterate 1
            refine mix_readE rfl ?_
            apply Exists.intro
            refine ⟨fun w' hw => ?_, ?_⟩
            ·
             obtain ⟨h1, h2⟩ := hw
             go_simp
             rfl
            simp only [putLz]
           refine mix_end ?_
           go_wp2_with fail
           go_roundw
           case rel => exact ⟨i + 1, by omega, by go_num, HBN⟩
           case measure => simp [intOf]; omega
        ·
         have hiz : ¬ (i : Int) < n := by omega
         have HSN : Hid (SwsI q n wb mb hs vl vx (j + 1) wi) := Lib.hid (by
          obtain ⟨nx9, h9, g9⟩ := HSI.out
          exact ⟨nx9, h9, g9.below HBI.out⟩)
         go_wp2_with fail
         go_roundw
         case rel => exact ⟨j + 1, by omega, by go_num, HSN⟩
         case measure => simp [intOf]; omega
     ·
      have hout : kk < 0 ∨ (n : Int) - 1 ≤ kk := by omega
      have HSW := Lib.hid (swap_bad_law (HL5.out.withOd (Od' := fun _ => True) trivial) hout)
      go_wp2_with fail
      refine HSW.out.mono ?_
      rintro y w6 ⟨rfl, o6, m6, V6, hc6, lt6⟩
      have HL6 := Lib.hid lt6
      have HOR6 := Lib.hid (order_law lt6)
      clear hc6 lt6 HSW HI5 HNO5 HE5
      go_wp2_with fail
      refine HOR6.out.mono ?_
      rintro y w7 ⟨a7, c7, rfl, hl7, hi7, hno7, hb7⟩
      have HL7 := Lib.hid (HL6.out.below hb7)
      have hb0 := HL7.out.below0
      have g0 := (hb0.cell (p := ⟨w.heap.size, 0, none⟩) (lt_of_cell c0)).trans c0
      have HSN : Hid (SwsI q n wb mb hs vl vx (j + 1) w7) := Lib.hid ⟨nxj, by omega, o6, m6, V6, HL7.out⟩
      clear hi7 hno7 hb7 hl7 HOR6 hb0 HL6 HL7
      by_cases hk0 : kk < 0
      ·
       go_wp2_with fail
       go_roundw
       case rel => exact ⟨j + 1, by omega, by go_num, HSN⟩
       case measure => simp [intOf]; omega
      ·
       have hk9 : kk > (n : Int) - 2 := by omega
       go_wp2_with fail
       go_roundw
       case rel => exact ⟨j + 1, by omega, by go_num, HSN⟩
       case measure => simp [intOf]; omega
    ·
     have hjz : ¬ (j : Int) < ls.length := by omega
     obtain ⟨al9, cl9, hvl⟩ : ∃ a c, vl = .slice a hs.length c := by
      obtain ⟨a, c, e, _⟩ := HLT.out.l.own.slice
      exact ⟨a, c, by rw [e]; simp [intsV]⟩
     have HC1 := Lib.hid (collect_law HLT.out)
     clear g0 HLT ltj hwb
     go_wp2_with fail
     refine HC1.out.mono ?_
     rintro y w5 ⟨rfl, o5, m5, hc5, hd5, lt5⟩
     have HC2 : Hid (Calls Tryz.prog 46 #[.pointer (some ⟨mb, 0, none⟩)] w5.drew fun x w' => x = .returned (.int .i64 0) ∧ ∃ o' m', LawT iteLaw n (fun _ => True) (roomOf n) wb mb (two ++ hs) nxj (SufW q.plan) hs hs w' o' m' Vj vl vx) := Lib.hid (by
      refine (collect_law (lt5.below (below_draw w5 1))).mono ?_
      rintro x w' ⟨rfl, o', m', _, _, hl⟩
      exact ⟨by rw [hd5]; rfl, o', m', hl⟩)
     have g3 : w5.drew.cell? ⟨w.heap.size, 3, none⟩ = some (.slice ap plen cp) := (lt5.below0.cell (p := ⟨w.heap.size, 3, none⟩) (lt_of_cell c3)).trans c3
     clear hc5 hd5 lt5 HC1
     subst hvl
     go_upto_region 27 with fail
     refine wp_region_mix (fun W : World => W.cell? ⟨w.heap.size, 3, none⟩ = some (.slice ap plen cp) ∧ True) false 27
      [(0, false), (1, true), (2, false), (3, false), (4, false), (5, false), (6, false), (7, true), (8, false), (9, false), (10, false), (11, false), (12, false), (13, true), (14, false), (15, false), (16, false), (18, false), (19, false), (20, false), (17, true), (21, false), (22, false), (23, false), (24, true), (25, false), (26, false)] (by kernel_rfl) (by kernel_rfl) ⟨g3, trivial⟩ ?_
     simp only [planned, plnLz]
     iterate 1
      refine mix_readE rfl ?_
      apply Exists.intro
      refine ⟨fun w' hw => ?_, ?_⟩
      ·
       obtain ⟨h1, _⟩ := hw
       go_simp
       rfl
      simp only [putLz]
     refine mix_callR (R := fun v w' => v = .int .i64 0 ∧ ∃ o' m', LawT iteLaw n (fun _ => True) (roomOf n) wb mb (two ++ hs) nxj (SufW q.plan) hs hs w' o' m' Vj (.slice al9 hs.length cl9) vx) rfl (by go_simp) (HC2.out.mono (fun e w' he => ?_)) ?_
     ·
      obtain ⟨rfl, o', m', hl⟩ := he
      exact ⟨_, rfl, ⟨(hl.below0.cell (p := ⟨w.heap.size, 3, none⟩) (lt_of_cell c3)).trans c3, trivial⟩, rfl, o', m', hl⟩
     rintro v w6 - ⟨rfl, o6, m6, lt6⟩
     have HL6 := Lib.hid lt6
     clear lt6 HC2
     simp only [putLz]
     iterate 2
      refine mix_readE rfl ?_
      apply Exists.intro
      refine ⟨fun w' hw => ?_, ?_⟩
      ·
       obtain ⟨h1, _⟩ := hw
       go_simp
       rfl
      simp only [putLz]
     iterate 3
      refine mix_readGE true (by go_simp) ?_
      apply Exists.intro
      refine ⟨fun hgd w' hw => ?_, ?_⟩
      ·
       obtain ⟨h1, _⟩ := hw
       go_simp
       rfl
      simp only [putLz]
     refine mix_callGR (R := fun v w' => v = .bool true ∧ Below w6.heap.size w6 w') (by go_simp) (by go_simp) ((all_any HL6.out.sat (by omega) (HL6.out.row HSUB.out (by omega))).mono (fun e w' he => ?_)) ?_
     ·
      obtain ⟨rfl, hb⟩ := he
      exact ⟨_, rfl, ⟨((HL6.out.below hb).below0.cell (p := ⟨w.heap.size, 3, none⟩) (lt_of_cell c3)).trans c3, trivial⟩, rfl, hb⟩
     rintro v w7 - ⟨rfl, hb7⟩
     have HL7 := Lib.hid (HL6.out.below hb7)
     have g7 := (HL7.out.below0.cell (p := ⟨w.heap.size, 3, none⟩) (lt_of_cell c3)).trans c3
     clear hb7 HL6
     simp only [putLz]
     iterate 2
      refine mix_readE rfl ?_
      apply Exists.intro
      refine ⟨fun w' hw => ?_, ?_⟩
      ·
       obtain ⟨h1, _⟩ := hw
       go_simp
       rfl
      simp only [putLz]
     iterate 3
      refine mix_readGE true (by go_simp) ?_
      apply Exists.intro
      refine ⟨fun hgd w' hw => ?_, ?_⟩
      ·
       obtain ⟨h1, _⟩ := hw
       go_simp
       rfl
      simp only [putLz]
     have HLF : Hid (Calls Tryz.prog 20 #[.pointer (some ⟨mb, 0, none⟩), .int .i64 (hs.length : Nat)] w7 fun x w' => x = .returned (.bool true) ∧ w7 = w') := Lib.hid ((left_any HL7.out.sat hs.length (by omega)).mono fun e w' ⟨h1, h2⟩ => by
      rw [h1, decide_eq_true (by rw [hfl]; omega)]
      exact ⟨rfl, h2⟩)
     refine mix_callGR (R := fun v w' => v = .bool true ∧ w7 = w') (by go_simp) (by go_simp) (HLF.out.mono (fun e w' he => ?_)) ?_
     ·
      obtain ⟨rfl, rfl⟩ := he
      exact ⟨_, rfl, ⟨g7, trivial⟩, rfl, rfl⟩
     rintro v w' - ⟨rfl, rfl⟩
     simp only [putLz]
     iterate 2
      refine mix_readE rfl ?_
      apply Exists.intro
      refine ⟨fun w' hw => ?_, ?_⟩
      ·
       obtain ⟨h1, _⟩ := hw
       go_simp
       rfl
      simp only [putLz]
     iterate 4
      refine mix_readGE true (by go_simp) ?_
      apply Exists.intro
      refine ⟨fun hgd w' hw => ?_, ?_⟩
      ·
       obtain ⟨h1, _⟩ := hw
       go_simp
       rfl
      simp only [putLz]
     obtain ⟨wl, hwl⟩ : ∃ wl, wl = m6.waits.length := ⟨_, rfl⟩
     have hwle : (wl : Int) ≤ (plen : Int) := by
      have h1 : m6.waits <:+ q.plan := HL7.out.st
      have := h1.length_le
      have := HPL.out
      omega
     have HWA := Lib.hid (manWaits_any HL7.out.sat.is)
     rw [← hwl] at HWA
     have hwle2 : wl ≤ plen := by omega
     clear hwl
     refine mix_callGR (R := fun v w' => v = .int .i64 (wl : Nat) ∧ w7 = w') (by go_simp) (by go_simp) (HWA.out.mono (fun e w' he => ?_)) ?_
     ·
      obtain ⟨rfl, rfl⟩ := he
      exact ⟨_, rfl, ⟨g7, trivial⟩, rfl, rfl⟩
     rintro v w' - ⟨rfl, rfl⟩
     simp only [putLz]
     iterate 1
      refine mix_readGE true (by go_simp) ?_
      apply Exists.intro
      refine ⟨fun hgd w' hw => ?_, ?_⟩
      ·
       obtain ⟨h1, _⟩ := hw
       go_simp
       rfl
      simp only [putLz]
     iterate 2
      refine mix_readE rfl ?_
      apply Exists.intro
      refine ⟨fun w' hw => ?_, ?_⟩
      ·
       obtain ⟨h1, _⟩ := hw
       go_simp
       rfl
      simp only [putLz]
     refine mix_callGR (R := fun v w' => v = .bool true ∧ Below w7.heap.size w7 w') (by go_simp) (by go_simp) ((lives13b w7).mono (fun e w' he => ?_)) ?_
     ·
      obtain ⟨rfl, hb⟩ := he
      exact ⟨_, rfl, ⟨(hb.cell (p := ⟨w.heap.size, 3, none⟩) (lt_of_cell g7)).trans g7, trivial⟩, rfl, hb⟩
     rintro v w8 - ⟨rfl, hb8⟩
     have HFN := Lib.hid (HBB.out.trans ((HL7.out.below0.trans (hb8.mono HL7.out.below0.size)).mono HBB.out.size))
     clear hb8 HWA HLF HL7 g7
     simp only [putLz]
     iterate 2
      refine mix_readE rfl ?_
      apply Exists.intro
      refine ⟨fun w' hw => ?_, ?_⟩
      ·
       obtain ⟨h1, _⟩ := hw
       go_simp
       rfl
      simp only [putLz]
     refine mix_end ?_
     go_wp2_with fail
     go_ret
     exact ⟨rfl, HFN.out⟩
end Go.Proofs.YtchliiaknmknhaaGreat
