/- The walk of a law: ItesW. -/
import Derived.Test.YtchliiaknmknhaaGreatS11
set_option linter.unusedSimpArgs false
set_option linter.unusedVariables false
set_option linter.unusedSectionVars false
set_option linter.unnecessarySimpa false
namespace Go.Proofs.YtchliiaknmknhaaGreat
open Go.RowKit
theorem notTab (n : Nat) (F : BF) : (tabB n F).map (fun b => !b) = tabB n (notF F) := by
 unfold tabB
 rw [List.map_map]
 rfl
theorem refNot_tab (n : Nat) (F : BF) (au : Option Addr) (cu : Nat) (w : World) (h1 : BoolsAt w au (tabB n F)) :
 Calls Tryz.prog 28 #[.slice au (2 ^ n) cu] w fun x w' => ∃ g, x = .returned (.slice (some ⟨g, 0, none⟩) (2 ^ n) (2 ^ n)) ∧ BoolsIs w' (.slice (some ⟨g, 0, none⟩) (2 ^ n) (2 ^ n)) (tabB n (notF F)) ∧ Below w.heap.size w w' := by
 have := refNot_any (tabB n F) au cu w h1
 rw [tabB_length] at this
 refine this.mono ?_
 rintro x w' ⟨g, rfl, h2, h3⟩
 rw [notTab] at h2
 exact ⟨g, rfl, h2.boolsIs (by have := h1.len; rw [tabB_length] at this ⊢; exact this), h3⟩
set_option maxRecDepth 100000 in
set_option maxHeartbeats 8000000 in
theorem ites_walk (q : AskD) (ao ae ap : Option Addr) (co ce cp : Nat) (zf zg zh : Int) (w : World) (h : AskAt w q ao ae ap) :
 Calls Tryz.prog 7 #[askV q ao ae ap co ce cp, .int .i64 zf, .int .i64 zg, .int .i64 zh] w fun y w' => y = .returned (.bool true) ∧ Below w.heap.size w w' := by
 have HSM : Hid (∀ W, Below w.heap.size w W → ∀ u, u = askV q ao ae ap co ce cp → Calls Tryz.prog 12 #[u] W fun y w' => ∃ b, y = .returned (.bool b) ∧ (b = true → SmallP q) ∧ Below W.heap.size W w') := Lib.hid fun W hb u hu => by subst hu; exact small_any q ao ae ap co ce cp W (h.below hb)
 have HST : Hid (∀ W n, Below w.heap.size w W → SmallP q → q.vars = (n : Nat) → ∀ u, u = askV q ao ae ap co ce cp → Calls Tryz.prog 23 #[u] W (SetP iteLaw q n W)) := Lib.hid fun W n hb hs hn u hu => by subst hu; exact setup_any iteLaw_ok q ao ae ap co ce cp W (h.below hb) hs n hn
 obtain ⟨vars, hvars⟩ : ∃ z, z = q.vars := ⟨_, rfl⟩
 have HV := Lib.hid hvars
 obtain ⟨plen, hplen⟩ : ∃ z, z = q.plan.length := ⟨_, rfl⟩
 unfold askV at HSM HST ⊢
 rw [← hvars, ← hplen] at HSM HST ⊢
 obtain ⟨olen, holen⟩ : ∃ z, z = q.order.length := ⟨_, rfl⟩
 obtain ⟨elen, helen⟩ : ∃ z, z = q.es.length := ⟨_, rfl⟩
 rw [← holen, ← helen] at HSM HST ⊢
 obtain ⟨w1, hw1⟩ : ∃ w1, w1 = w.alloc (.cells #[.int .i64 vars, .slice ao olen co, .slice ae elen ce, .slice ap plen cp] 26) := ⟨_, rfl⟩
 have HW1 : Hid (_ = w1) := Lib.hid hw1.symm
 have HB1 : Hid (Below w.heap.size w w1) := by rw [hw1]; exact Lib.hid (below_new1 _ _)
 have hblk : w1.heap[w.heap.size]? = some (.cells #[.int .i64 vars, .slice ao olen co, .slice ae elen ce, .slice ap plen cp] 26 (0, 0)) := by rw [hw1]; exact heap_alloc_new _ _
 have d0 : w1.cell? ⟨w.heap.size, 0, none⟩ = some (.int .i64 vars) := by rw [cell_of_row _ _ 0 _ _ _ hblk]; rfl
 have d1 : w1.cell? ⟨w.heap.size, 1, none⟩ = some (.slice ao olen co) := by rw [cell_of_row _ _ 1 _ _ _ hblk]; rfl
 have d2 : w1.cell? ⟨w.heap.size, 2, none⟩ = some (.slice ae elen ce) := by rw [cell_of_row _ _ 2 _ _ _ hblk]; rfl
 have d3 : w1.cell? ⟨w.heap.size, 3, none⟩ = some (.slice ap plen cp) := by rw [cell_of_row _ _ 3 _ _ _ hblk]; rfl
 clear h hw1 hblk hvars hplen holen helen
 go_enter Tryz.func7, Tryz.ntmps7
 go_upto_region 1 with fail
 rw [HW1.out]
 go_wp2_with fail
 refine (HSM.out _ HB1.out _ rfl).mono ?_
 rintro y w2 ⟨b, rfl, hb, hbel⟩
 have HB := Lib.hid hb
 have HBEL := Lib.hid (HB1.out.trans (hbel.mono HB1.out.size))
 have e0 := (hbel.cell (p := ⟨w.heap.size, 0, none⟩) (lt_of_cell d0)).trans d0
 have e1 := (hbel.cell (p := ⟨w.heap.size, 1, none⟩) (lt_of_cell d1)).trans d1
 have e2 := (hbel.cell (p := ⟨w.heap.size, 2, none⟩) (lt_of_cell d2)).trans d2
 have e3 := (hbel.cell (p := ⟨w.heap.size, 3, none⟩) (lt_of_cell d3)).trans d3
 have HLV := Lib.hid (lives13b w2)
 clear hb hbel HSM d0 d1 d2 d3 HW1
 cases b with
 | false =>
   go_wp2_with fail
   refine HLV.out.mono ?_
   rintro y w3 ⟨rfl, hb3⟩
   have HB3 := Lib.hid (HBEL.out.trans (hb3.mono HBEL.out.size))
   clear hb3
   go_wp2_with fail
   go_ret
   exact ⟨rfl, HB3.out⟩
 | true =>
   have HSP := Lib.hid (HB.out (by first | rfl | trivial))
   obtain ⟨n, hn⟩ : ∃ n : Nat, vars = (n : Nat) := ⟨vars.toNat, by have := HSP.out.lo; have := HV.out; omega⟩
   subst hn
   have hn6 : n ≤ 6 := by have := HSP.out.hi; have := HV.out; omega
   have hes : q.es.length ≤ 5 := HSP.out.es
   have HSET := Lib.hid (HST.out w2 n HBEL.out HSP.out rfl _ rfl)
   clear HST HLV HB
   go_wp2_with fail
   refine HSET.out.mono ?_
   rintro y w3 ⟨mb, vl, vx, wb, hs, nx, rfl, hbw, hsnd, hnx, o3, m3, V3, lt3⟩
   have hhl : hs.length ≤ 5 := by have := congrArg List.length hsnd; simp at this; omega
   obtain ⟨al, cl, hvl⟩ : ∃ a c, vl = .slice a hs.length c := by
    obtain ⟨a, c, e, _⟩ := lt3.l.own.slice
    exact ⟨a, c, by rw [e]; simp [intsV]⟩
   subst hvl
   have HSUB : Hid (∀ p ∈ hs, p ∈ two ++ hs) := Lib.hid fun p hp => List.mem_append_right _ hp
   have hfl : (two ++ hs).length = 2 + hs.length := by simp [two]; omega
   have HROOM : Hid (∀ k, k ≤ 192 → k * 2 ^ n ≤ roomOf n) := Lib.hid fun k hk => roomOf_many hk
   have c0 := (hbw.cell (p := ⟨w.heap.size, 0, none⟩) (lt_of_cell e0)).trans e0
   have f0 := (lt3.below0.cell (p := ⟨w.heap.size, 0, none⟩) (lt_of_cell c0)).trans c0
   have HBB : Hid (Below w.heap.size w wb) := Lib.hid (HBEL.out.trans (hbw.mono HBEL.out.size))
   have HRG : Hid (∀ p ∈ two ++ hs, p.1 < nx) := Lib.hid fun p hp => (lt3.sat.range p hp).2
   have HL := Lib.hid ((lt3.withOd (Od' := fun _ => True) trivial).withSt (Wt' := SufW q.plan) (by rw [lt3.st.1]; exact List.suffix_refl _))
   have HONE := Lib.hid (one_law HL.out HSUB.out (by omega) (by omega) zf)
   clear lt3 hbw hsnd HSET e0 e1 e2 e3
   go_wp2_with fail
   refine HONE.out.mono ?_
   rintro y wA ⟨a1, F1, r1, rfl, hm1, hf1, hbA⟩
   have HLA := Lib.hid (HL.out.below hbA)
   have HF1 := Lib.hid hf1
   have fA := (hbA.cell (p := ⟨w.heap.size, 0, none⟩) (lt_of_cell f0)).trans f0
   have HONE2 := Lib.hid (one_law HLA.out HSUB.out (by omega) (by omega) zg)
   clear hf1 hbA HONE HL f0
   go_wp2_with fail
   refine HONE2.out.mono ?_
   rintro y wB ⟨a2, F2, r2, rfl, hm2, hf2, hbB⟩
   have HLB := Lib.hid (HLA.out.below hbB)
   have HF1B := Lib.hid (HF1.out.chg (chg_below hbB o3))
   have HF2 := Lib.hid hf2
   have fB := (hbB.cell (p := ⟨w.heap.size, 0, none⟩) (lt_of_cell fA)).trans fA
   have HONE3 := Lib.hid (one_law HLB.out HSUB.out (by omega) (by omega) zh)
   clear hf2 hbB HONE2 HLA HF1 fA
   go_wp2_with fail
   refine HONE3.out.mono ?_
   rintro y wC ⟨a3, F3, r3, rfl, hm3, hf3, hbC⟩
   have HLC := Lib.hid (HLB.out.below hbC)
   have HF1C := Lib.hid (HF1B.out.chg (chg_below hbC o3))
   have HF2C := Lib.hid (HF2.out.chg (chg_below hbC o3))
   have HF3C := Lib.hid hf3
   have HITE := Lib.hid (ite_ev iteLaw_ok HLC.out.sat HLC.out.st (by omega) (by rw [hfl]; exact HROOM.out _ (by omega)) hm1 hm2 hm3)
   clear hf3 hbC HONE3 HLB HF1B HF2 hm1 hm2 hm3 fB
   go_wp2_with fail
   refine HITE.out.mono ?_
   rintro y w4 ⟨rfl, o4, m4, V4, hc4, hw4, hs4⟩
   have HL4 := Lib.hid (HLC.out.go (Wt' := SufW q.plan) hs4 (HLC.out.b2.app _) hw4 hc4)
   have HF1D := Lib.hid (HF1C.out.chg hc4)
   have HF2D := Lib.hid (HF2C.out.chg hc4)
   have HF3D := Lib.hid (HF3C.out.chg hc4)
   have HNT := Lib.hid (not_ok iteLaw_ok HL4.out.goes (by omega) (k := nx) (F := iteFn F1 F2 F3) (by simp))
   clear hs4 hw4 hc4 HITE HF1C HF2C HF3C HLC
   go_wp2_with fail
   refine HNT.out.mono ?_
   rintro y w5 ⟨rfl, o5, m5, V5, hc5, hw5, hs5⟩
   have HL5 := Lib.hid (HL4.out.go (Wt' := SufW q.plan) hs5 (HL4.out.b2.app _) hw5 hc5)
   have HF1E := Lib.hid (HF1D.out.chg hc5)
   have HF2E := Lib.hid (HF2D.out.chg hc5)
   have HF3E := Lib.hid (HF3D.out.chg hc5)
   have HCP := Lib.hid (copy_ok iteLaw_ok HL5.out.goes (by omega) (k := nx + 1) (F := notF (iteFn F1 F2 F3)) (by simp))
   clear hs5 hw5 hc5 HNT HF1D HF2D HF3D HL4
   go_wp2_with fail
   refine HCP.out.mono ?_
   rintro y w6 ⟨rfl, o6, m6, V6, hc6, hw6, hs6⟩
   have HL6 := Lib.hid (HL5.out.go (Wt' := SufW q.plan) hs6 (HL5.out.b2.app _) hw6 hc6)
   obtain ⟨aa1, ca1, rfl, s1⟩ := (HF1E.out.chg hc6).tab
   obtain ⟨aa2, ca2, rfl, s2⟩ := (HF2E.out.chg hc6).tab
   obtain ⟨aa3, ca3, rfl, s3⟩ := (HF3E.out.chg hc6).tab
   have HRI := Lib.hid (refIte_tab n F1 F2 F3 aa1 aa2 aa3 ca1 ca2 ca3 w6 s1 s2 s3)
   have HLF : Hid (∀ W, Below w6.heap.size w6 W → Calls Tryz.prog 20 #[.pointer (some ⟨mb, 0, none⟩), .int .i64 ((hs.length : Nat) + 3)] W fun x w' => x = .returned (.bool true) ∧ W = w') := Lib.hid fun W hb => (left_any (HL6.out.below hb).sat (hs.length + 3) (by omega)).mono fun e w' ⟨h1, h2⟩ => by
    rw [h1, decide_eq_true (by simp [two] <;> omega)]
    exact ⟨rfl, h2⟩
   have HLF6 := Lib.hid (HLF.out w6 (Below.refl _ _))
   obtain ⟨FF, hFF⟩ : ∃ FF, FF = iteFn F1 F2 F3 := ⟨_, rfl⟩
   rw [← hFF] at HL6 HRI
   clear hs6 hw6 hc6 s1 s2 s3 HCP HF1E HF2E HF3E HL5 hFF HLF
   go_wp2_with fail
   refine HLF6.out.mono ?_
   rintro y w' ⟨rfl, rfl⟩
   go_wp2_with fail
   refine HRI.out.mono ?_
   rintro y w7 ⟨g, rfl, hown7, hb7⟩
   have hbs := hown7.boolsIs (by rw [tabB_length]; exact tab_small (by omega))
   have hba : BoolsAt w7 (some ⟨g, 0, none⟩) (tabB n FF) := by
    obtain ⟨a, c, e, h1, _⟩ := hbs
    injection e with e1 e2 e3
    rw [e1]
    exact h1
   have HBA := Lib.hid hba
   have HL7 := Lib.hid (HL6.out.below hb7)
   have HIS := Lib.hid (is_any HL7.out.sat (by omega) (k := nx) (F := FF) (by simp) hbs)
   clear hown7 hb7 hbs hba HRI HL6 HLF6
   go_wp2_with fail
   refine HIS.out.mono ?_
   rintro y w8 ⟨b, rfl, hb, hb8⟩
   obtain rfl := hb.2 (by first | rfl | trivial)
   have HL8 := Lib.hid (HL7.out.below hb8)
   have HBA8 := Lib.hid (HBA.out.below hb8)
   have HN8 := Lib.hid (refNot_tab n FF _ (2 ^ n) w8 HBA8.out)
   clear hb hb8 HIS HL7 HBA
   go_wp2_with fail
   refine HN8.out.mono ?_
   rintro y w9 ⟨g9, rfl, hbs9, hb9⟩
   have HL9 := Lib.hid (HL8.out.below hb9)
   have HBA9 := Lib.hid (HBA8.out.below hb9)
   have HIS := Lib.hid (is_any HL9.out.sat (by omega) (k := nx + 1) (F := notF FF) (by simp) hbs9)
   clear hb9 hbs9 HN8 HL8 HBA8
   go_wp2_with fail
   refine HIS.out.mono ?_
   rintro y w10 ⟨b, rfl, hb, hb10⟩
   obtain rfl := hb.2 (by first | rfl | trivial)
   have HL10 := Lib.hid (HL9.out.below hb10)
   have HN10 := Lib.hid (refNot_tab n FF _ (2 ^ n) w10 (HBA9.out.below hb10))
   clear hb hb10 HIS HL9 HBA9
   go_wp2_with fail
   refine HN10.out.mono ?_
   rintro y w11 ⟨g11, rfl, hbs11, hb11⟩
   have HL11 := Lib.hid (HL10.out.below hb11)
   have HIS := Lib.hid (is_any HL11.out.sat (by omega) (k := nx + 1 + 1) (F := notF FF) (by simp) hbs11)
   clear hb11 hbs11 HN10 HL10
   go_wp2_with fail
   refine HIS.out.mono ?_
   rintro y w12 ⟨b, rfl, hb, hb12⟩
   obtain rfl := hb.2 (by first | rfl | trivial)
   have HL12 := Lib.hid (HL11.out.below hb12)
   have HALL := Lib.hid (all_any HL12.out.sat (by omega) (HL12.out.row (fun p hp => by simp [HSUB.out p hp, hp]) (by omega)))
   clear hb hb12 HIS HL11
   go_wp2_with fail
   refine HALL.out.mono ?_
   rintro y w13 ⟨rfl, hb13⟩
   have HL13 := Lib.hid (HL12.out.below hb13)
   have HD := Lib.hid (drop_ok iteLaw_ok (fs := two ++ hs) (hs := [(nx, FF), (nx + 1, notF FF)]) (r := [(nx + 1 + 1, notF FF)]) (by have := HL13.out.goes; simpa [List.append_assoc] using this) (two_b2.app _) (by omega) (by simp) (T := w13.alloc (.cells #[.int .i64 nx, .int .i64 (nx + 1)] 3)) rfl)
   clear hb13 HALL HL12
   go_wp2_with fail
   refine HD.out.mono ?_
   rintro y w14 ⟨rfl, o14, m14, V14, hc14, hw14, hs14⟩
   have hno : ∀ k : Int, nx ≤ k → k < nx + 1 + 1 → ∀ p ∈ (two ++ hs) ++ [(nx + 1 + 1, notF FF)], p.1 ≠ k := fun k h1 h2 p hp => by
    rcases List.mem_append.1 hp with h | h
    ·
     have := HRG.out p h; omega
    ·
     simp only [List.mem_singleton] at h
     rw [h]
     show nx + 1 + 1 ≠ k
     omega
   have HI1 := Lib.hid (manIs_no hs14 (hno nx (by omega) (by omega)))
   have HI2 := Lib.hid (manIs_no hs14 (hno (nx + 1) (by omega) (by omega)))
   have HI3 := Lib.hid (manIs_yes hs14 (k := nx + 1 + 1) (F := notF FF) (by simp))
   have HLF : Hid (Calls Tryz.prog 20 #[.pointer (some ⟨mb, 0, none⟩), .int .i64 ((hs.length : Nat) + 1)] w14 fun x w' => x = .returned (.bool true) ∧ w14 = w') := Lib.hid ((left_any hs14 (hs.length + 1) (by omega)).mono fun e w' ⟨h1, h2⟩ => by
    rw [h1, decide_eq_true (by simp [two] <;> omega)]
    exact ⟨rfl, h2⟩)
   have HB14 := Lib.hid hs14.chg.below0
   have HLV := Lib.hid (lives13b w14)
   clear hc14 hw14 hs14 hno HD HL13
   go_wp2_with fail
   refine HI1.out.mono ?_
   rintro y w' ⟨rfl, rfl⟩
   go_wp2_with fail
   refine HI2.out.mono ?_
   rintro y w' ⟨rfl, rfl⟩
   go_wp2_with fail
   refine HI3.out.mono ?_
   rintro y w' ⟨rfl, rfl⟩
   go_wp2_with fail
   refine HLF.out.mono ?_
   rintro y w' ⟨rfl, rfl⟩
   go_wp2_with fail
   refine HLV.out.mono ?_
   rintro y w15 ⟨rfl, hb15⟩
   have HFN := Lib.hid (HBB.out.trans ((HB14.out.trans (hb15.mono HB14.out.size)).mono HBB.out.size))
   clear hb15 HLV HI1 HI2 HI3 HLF
   go_wp2_with fail
   go_ret
   exact ⟨rfl, HFN.out⟩
end Go.Proofs.YtchliiaknmknhaaGreat
