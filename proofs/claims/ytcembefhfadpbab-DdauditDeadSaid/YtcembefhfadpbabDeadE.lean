/- The law DdauditDead. -/
import Derived.Test.YtcembefhfadpbabDeadQ
import Derived.Test.YtcembefhfadpbabAudL
namespace Go.Proofs.Ytcembefhfadpbab
open Go.RowKit
open Go.Maps

set_option maxHeartbeats 400000 in
theorem same25_any (v v' : Value) (zs : List Int) (w : World) (h : SliceIs w v zs) (h' : SliceIs w v' zs) :
    Calls Try.prog 6 #[v, v'] w fun e w' => e = .returned (.bool true) ∧ Below w.heap.size w w' := by
  obtain ⟨a, c, rfl, ha, _⟩ := h
  obtain ⟨b, d, rfl, hb, _⟩ := h'
  have HA := Lib.hid ha
  have HB := Lib.hid hb
  have hl := ha.len
  clear ha hb
  go_enter Try.func6, Try.ntmps6
  go_wp2_with fail
  go_loopw [13] (fun s13 wr => ∃ k : Nat, k ≤ zs.length ∧ s13 = .int .i64 k ∧ Below w.heap.size w wr) (fun s13 _ => zs.length - (intOf s13).toNat)
  case atStart => exact ⟨0, by omega, rfl, Below.refl _ _⟩
  case round =>
    obtain ⟨k, hk, rfl, hbr⟩ := hrel
    have HBR := Lib.hid hbr
    clear hbr
    by_cases hkt : k < zs.length
    · obtain ⟨b1, o1, rfl, c1⟩ := (HA.out.below HBR.out).cells k hkt
      obtain ⟨b2, o2, rfl, c2⟩ := (HB.out.below HBR.out).cells k hkt
      obtain ⟨x, hx⟩ : ∃ x, at0 zs k = x := ⟨_, rfl⟩
      rw [hx] at c1 c2
      have hk0 : (0 : Int) ≤ k := by omega
      have hk1 : (k : Int) < zs.length := by omega
      clear hx
      go_wp2_with fail
      go_quiet (fail)
      go_wp2_with fail
      go_roundw
      case rel => exact ⟨k + 1, by omega, by go_num, below_drewN HBR.out _⟩
      case measure => simp [intOf]; omega
    · go_wp2_with fail
      go_ret
      exact ⟨rfl, HBR.out⟩

/-- Is it the first place so far? -/
def firstJ (l : List Nd) (i : Nat) (p : Bool) (j : Nat) : Bool := p && decide (∀ k, k < j → (nd l k).id ≠ (nd l i).id)
theorem firstJ_zero (l : List Nd) (i : Nat) (p : Bool) : firstJ l i p 0 = p := by simp [firstJ]
theorem firstJ_succ (l : List Nd) (i : Nat) (p : Bool) (j : Nat) : firstJ l i p (j + 1) = (firstJ l i p j && ((nd l j).id != (nd l i).id)) := by
  unfold firstJ
  rw [Bool.and_assoc]
  congr 1
  rw [Bool.eq_iff_iff]
  simp only [decide_eq_true_eq, Bool.and_eq_true, bne_iff_ne]
  constructor
  · intro h; exact ⟨fun k hk => h k (by omega), h j (by omega)⟩
  · rintro ⟨h1, h2⟩ k hk
    by_cases e : k = j
    · subst e; exact h2
    · exact h1 k (by omega)

set_option maxRecDepth 100000 in
set_option maxHeartbeats 3200000 in
theorem dead_law (a : Option Addr) (c : Nat) (l : List Nd) (w : World) (h : NodesAt w a l) :
    Calls Try.prog 3 #[.slice a l.length c] w fun e w' => e = .returned (.bool true) ∧ Below w.heap.size w w' := by
  have HN := Lib.hid h
  have hnl := h.len
  clear h
  by_cases h1 : 20 < l.length
  · have h1' : (20 : Int) < l.length := by omega
    go_enter Try.func3, Try.ntmps3
    go_wp2_with fail
    refine (lives25 _).mono ?_
    rintro e w1 ⟨rfl, hb⟩
    go_wp2_with fail
    go_ret
    exact ⟨rfl, hb⟩
  · have h1' : ¬ (20 : Int) < l.length := by omega
    go_enter Try.func3, Try.ntmps3
    go_wp2_with fail
    refine (ddRefs_any a c l _ HN.out (by omega)).mono ?_
    rintro x w1 ⟨mb, rfl, hc1, hb1, hmb⟩
    have HC1 := Lib.hid hc1
    have HB1 := Lib.hid hb1
    clear hc1 hb1
    go_wp2_with fail
    refine (ddDead_any a c l _ (HN.out.below HB1.out) (by omega)).mono ?_
    rintro x w2 ⟨v2, zs, rfl, hown2, hs2, hm2, hb2⟩
    obtain ⟨hd1, hd2⟩ := deadR_spec l l.length (Nat.le_refl _)
    have hzs : zs = deadR l l.length := sorted_ext hs2 hd1 fun x => (hm2 x).trans (hd2 x).symm
    subst hzs
    have hdl := deadR_length l l.length
    have HB2 := Lib.hid (HB1.out.trans (hb2.mono HB1.out.size))
    have HC2 := Lib.hid (HC1.out.below hb2)
    have HS2 := Lib.hid (hown2.sliceIs (by omega))
    clear hown2 hs2 hm2 hb2 hd1 hd2 HC1 HB1
    go_wp2_with fail
    refine (refDead_mark a c l _ (HN.out.below HB2.out) (by omega)).mono ?_
    rintro x w3 ⟨v3, rfl, hown3, hb3⟩
    have HB3 := Lib.hid (HB2.out.trans (hb3.mono HB2.out.size))
    have HC3 := Lib.hid (HC2.out.below hb3)
    have HS3 := Lib.hid (HS2.out.below hb3)
    have HT3 := Lib.hid (hown3.sliceIs (by omega))
    clear hown3 hb3 HB2 HC2 HS2
    go_wp2_with fail
    refine (same25_any _ _ _ _ HS3.out HT3.out).mono ?_
    rintro x w4 ⟨rfl, hb4⟩
    have HB4 := Lib.hid (HB3.out.trans (hb4.mono HB3.out.size))
    have HC4 := Lib.hid (HC3.out.below hb4)
    clear hb4 HB3 HC3 HS3 HT3
    go_wp2_with fail
    go_loopw [24, 4] (fun s24 s4 wr => ∃ i : Nat, i ≤ l.length ∧ s24 = .int .i64 i ∧ s4 = .int .i64 ((firsts l i).length : Nat) ∧ CntIs wr mb (fun x => if isId l x = true then refsN l x l.length else 0) ∧ Below w.heap.size w wr) (fun s24 _ _ => l.length - (intOf s24).toNat)
    case atStart => exact ⟨0, by omega, rfl, by simp [firsts], HC4.out, HB4.out⟩
    case round =>
      obtain ⟨i, hi, rfl, rfl, hc, hb⟩ := hrel
      have HC := Lib.hid hc
      have HB := Lib.hid hb
      have hfl := firsts_length_le l i
      have HF := Lib.hid (firsts_succ l i)
      clear hc hb
      by_cases hit : i < l.length
      · obtain ⟨bb, off, rfl, c0, c1, c2, c3, c4⟩ := (HN.out.below HB.out).cells i hit
        have HC2 := Lib.hid (HC.out.below (below_new1 _ (.cells #[.int .i64 (nd l i).id, .int .i64 (nd l i).v, .int .i64 (nd l i).lo, .int .i64 (nd l i).hi, .int .i64 (nd l i).refs] 31)))
        have HB2 := Lib.hid (HB.out.alloc HB.out.size (.cells #[.int .i64 (nd l i).id, .int .i64 (nd l i).v, .int .i64 (nd l i).lo, .int .i64 (nd l i).hi, .int .i64 (nd l i).refs] 31))
        have hlk := HC2.out.look (nd l i).id
        have e0 : isId l (nd l i).id = true := isId_iff.2 ⟨i, hit, rfl⟩
        simp only [e0, if_true] at hlk
        have hrl := refsN_le l (nd l i).id l.length
        have HRF := fun W hW => refRefs_any (some ⟨bb, off, none⟩) c l (nd l i).id W hW (by omega)
        have HFB : Hid (firstB l i = firstJ l i (decide (0 < refsN l (nd l i).id l.length)) i) := Lib.hid rfl
        obtain ⟨n, hn⟩ : ∃ n, n = refsN l (nd l i).id l.length := ⟨_, rfl⟩
        rw [← hn] at hlk hrl HRF HFB
        obtain ⟨pB, hpB⟩ : ∃ pB, decide (0 < n) = pB := ⟨_, rfl⟩
        rw [hpB] at HFB
        have HRF := Lib.hid HRF
        clear hn e0
        go_wp2_with fail
        refine (HRF.out _ (HN.out.below HB2.out)).mono ?_
        rintro e w' ⟨rfl, rfl⟩
        go_wp2_with fail
        obtain ⟨W2, hW2⟩ : ∃ W, W = wr.alloc (.cells #[.int .i64 (nd l i).id, .int .i64 (nd l i).v, .int .i64 (nd l i).lo, .int .i64 (nd l i).hi, .int .i64 (nd l i).refs] 31) := ⟨_, rfl⟩
        obtain ⟨N, hN⟩ : ∃ N, N = wr.heap.size := ⟨_, rfl⟩
        have hxc : Hid (W2.cell? ⟨N, 0, none⟩ = some (.int .i64 (nd l i).id)) := by show _ = _; rw [hW2, hN]; simp
        rw [← hW2] at HC2 HB2 ⊢
        rw [← hN]
        clear hW2 hN hlk c0 c1 c2 c3 c4 HC HB hpB HRF
        go_loopw [9, 8] (fun s9 s8 wx => ∃ j : Nat, j ≤ i ∧ s9 = .int .i64 j ∧ s8 = .bool (firstJ l i pB j) ∧ Below W2.heap.size W2 wx) (fun s9 _ _ => i - (intOf s9).toNat)
        case atStart => exact ⟨0, by omega, rfl, by rw [firstJ_zero], Below.refl _ _⟩
        case round =>
          obtain ⟨j, hj, rfl, rfl, hb⟩ := hrel
          have HBJ := Lib.hid hb
          have HJ := Lib.hid (firstJ_succ l i pB j)
          clear hb
          obtain ⟨F, hF⟩ : ∃ F, F = firstJ l i pB j := ⟨_, rfl⟩
          rw [← hF] at HJ ⊢
          have HF0 := Lib.hid hF
          clear hF
          by_cases hjt : j < i
          · obtain ⟨bb', off', he', d0, _⟩ := (HN.out.below (HB2.out.trans (HBJ.out.mono HB2.out.size))).cells j (by omega)
            obtain ⟨rfl, rfl⟩ : bb = bb' ∧ off = off' := by cases he'; exact ⟨rfl, rfl⟩
            have hx1 := (HBJ.out.cell (p := ⟨N, 0, none⟩) (lt_of_cell hxc.out)).trans hxc.out
            have hjt' : (j : Int) < i := by omega
            have hj0 : (0 : Int) ≤ j := by omega
            have hjl : (j : Int) < l.length := by omega
            obtain ⟨Q, hQ⟩ : ∃ Q, ((nd l j).id != (nd l i).id) = Q := ⟨_, rfl⟩
            rw [hQ] at HJ
            obtain ⟨x, hx⟩ : ∃ x, x = (nd l j).id := ⟨_, rfl⟩
            obtain ⟨y, hy⟩ : ∃ y, y = (nd l i).id := ⟨_, rfl⟩
            rw [← hx] at d0 hQ
            rw [← hy] at hx1 hQ
            clear hx hy he'
            cases F
            · go_wp2_with fail
              go_quiet (fail)
              go_wp2_with fail
              go_roundw
              case rel => exact ⟨j + 1, by omega, by go_num, by rw [HJ.out]; rfl, below_drewN HBJ.out _⟩
              case measure => simp [intOf]; omega
            · go_wp2_with fail
              go_quiet (fail)
              go_wp2_with fail
              go_roundw
              case rel => exact ⟨j + 1, by omega, by go_num, by rw [HJ.out]; rfl, below_drewN HBJ.out _⟩
              case measure => simp [intOf]; omega
          · obtain rfl : j = i := by omega
            have HC3 := Lib.hid (HC2.out.below HBJ.out)
            have HB3 := Lib.hid (HB2.out.trans (HBJ.out.mono HB2.out.size))
            have HFF : Hid (firstB l j = F) := by show _ = _; rw [HFB.out, HF0.out]
            clear HJ HF0
            cases F
            · go_wp2_with fail
              go_roundw
              case rel => exact ⟨j + 1, by omega, by go_num, by rw [HF.out, HFF.out]; rfl, HC3.out, HB3.out⟩
              case measure => simp [intOf]; omega
            · go_wp2_with fail
              go_roundw
              case rel => exact ⟨j + 1, by omega, by go_num, by rw [HF.out, HFF.out]; simp, HC3.out, HB3.out⟩
              case measure => simp [intOf]; omega
      · obtain rfl : i = l.length := by omega
        have hlen := HC.out.len
        go_wp2_with fail
        refine (lives25 _).mono ?_
        rintro e w5 ⟨rfl, hb5⟩
        go_wp2_with fail
        go_ret
        exact ⟨rfl, HB.out.trans (hb5.mono HB.out.size)⟩
end Go.Proofs.Ytcembefhfadpbab
