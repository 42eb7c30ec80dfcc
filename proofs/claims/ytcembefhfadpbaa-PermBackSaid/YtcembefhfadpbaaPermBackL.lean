/- The walk of the law PermBack. -/
import Derived.Test.YtcembefhfadpbaaPermMakesL
import Derived.Test.YtcembefhfadpbaaPermM3
namespace Go.Proofs.Ytcembefhfadpbaa
open Go.RowKit

theorem SliceIs.open_ {w : World} {v : Value} {zs : List Int} {n : Nat} (h : SliceIs w v zs) (hn : zs.length = n) : ∃ a c, v = .slice a n c ∧ IntsAt w a zs ∧ SliceIs w (.slice a n c) zs := by
  subst hn
  obtain ⟨a, c, rfl, h1, h2⟩ := h
  exact ⟨a, c, rfl, h1, a, c, rfl, h1, h2⟩

set_option maxRecDepth 100000 in
set_option maxHeartbeats 3000000 in
theorem lawBack_try (va : Value) (zs : List Int) (i k : Int) (w : World) (h : SliceIs w va zs) (hr : rightB zs = true) (hl40 : zs.length ≤ 40) :
    Calls Try.prog 8 #[va, .int .i64 i, .int .i64 k] w fun e w' => e = .returned (.bool true) ∧ Below w.heap.size w w' := by
  have HA := Lib.hid h
  obtain ⟨a, c, rfl, ha, hna⟩ := h
  clear ha hna
  have hlen : zs.length < 1000000 := by omega
  have HR := Lib.hid hr
  have HRI := Lib.hid (right_inverse hr)
  have HRS := Lib.hid (right_swap hr i)
  have HRM := Lib.hid (right_move hr i k)
  have HRT := Lib.hid (right_reverse hr)
  have HLI := Lib.hid (inverseZ_length hr)
  have HLM := Lib.hid (moveZ_length zs i k)
  have HRG := Lib.hid ((rightB_iff zs).1 hr).1
  have HAI := Lib.hid (fun p hp => at0_inverse_at hr (p := p) hp)
  have HII := Lib.hid (inverse_inverse hr)
  have HSS := Lib.hid (swap_swap (zs := zs) i)
  have HMM := Lib.hid (move_move (zs := zs) i k)
  clear hr
  have hB0 : Below w.heap.size w w := Below.refl _ _
  go_enter Try.func8, Try.ntmps8
  go_wp2_with fail
  refine (refRight_v HA.out).mono ?_
  rintro e w1 ⟨rfl, q1, hq1⟩
  rw [HR.out]
  have hB1 : Below w.heap.size w w1 := by rw [hq1]; exact below_drewN hB0 _
  clear hB0 hq1
  go_wp2_with fail
  refine (permInverse_v (HA.out.below hB1) hlen).mono ?_
  rintro e w2 ⟨v, rfl, sv, hb2⟩
  have hB2 := hB1.trans (hb2.mono hB1.size)
  clear hB1 hb2
  go_wp2_with fail
  refine (permSwap_v (HA.out.below hB2) hlen).mono ?_
  rintro e w3 ⟨s, rfl, ss, hb3⟩
  have hB3 := hB2.trans (hb3.mono hB2.size)
  have sv := sv.below hb3
  clear hB2 hb3
  go_wp2_with fail
  refine (permMove_v (HA.out.below hB3) hlen).mono ?_
  rintro e w4 ⟨m, rfl, sm, hb4⟩
  have hB4 := hB3.trans (hb4.mono hB3.size)
  have sv := sv.below hb4
  have ss := ss.below hb4
  clear hB3 hb4
  go_wp2_with fail
  refine (permTurn_v (HA.out.below hB4) hlen).mono ?_
  rintro e w5 ⟨t, rfl, st, hb5⟩
  have hB5 := hB4.trans (hb5.mono hB4.size)
  have sv := sv.below hb5
  have ss := ss.below hb5
  have sm := sm.below hb5
  clear hB4 hb5
  obtain ⟨av, cv, rfl, iv, sv⟩ := sv.open_ HLI.out
  obtain ⟨am, cm, rfl, im, sm⟩ := sm.open_ HLM.out
  obtain ⟨at_, ct, rfl, it, st⟩ := st.open_ (show zs.reverse.length = zs.length by simp)
  have SV := Lib.hid sv
  have SS := Lib.hid ss
  have SM := Lib.hid sm
  have ST := Lib.hid st
  have IV := Lib.hid iv
  have IM := Lib.hid im
  have IT := Lib.hid it
  clear sv ss sm st iv im it
  go_wp2_with fail
  refine (permRight_v (SV.out) (by rw [HLI.out]; omega)).mono ?_
  rintro e w6 ⟨rfl, hb6⟩
  rw [HRI.out]
  have hC6 : Below w5.heap.size w5 w6 := hb6
  go_wp2_with fail
  refine (permRight_v (SS.out.below hC6) (by rw [swapZ_length]; omega)).mono ?_
  rintro e w7 ⟨rfl, hb7⟩
  rw [HRS.out]
  have hC7 : Below w5.heap.size w5 w7 := hC6.trans (hb7.mono hC6.size)
  go_wp2_with fail
  refine (permRight_v (SM.out.below hC7) (by rw [HLM.out]; omega)).mono ?_
  rintro e w8 ⟨rfl, hb8⟩
  rw [HRM.out]
  have hC8 : Below w5.heap.size w5 w8 := hC7.trans (hb8.mono hC7.size)
  go_wp2_with fail
  refine (permRight_v (ST.out.below hC8) (by simp; omega)).mono ?_
  rintro e w9 ⟨rfl, hb9⟩
  rw [HRT.out]
  have hC9 : Below w5.heap.size w5 w9 := hC8.trans (hb9.mono hC8.size)
  go_wp2_with fail
  have SV := Lib.hid (SV.out.below hC9)
  have SS := Lib.hid (SS.out.below hC9)
  have SM := Lib.hid (SM.out.below hC9)
  have ST := Lib.hid (ST.out.below hC9)
  have IV := Lib.hid (IV.out.below hC9)
  have IM := Lib.hid (IM.out.below hC9)
  have IT := Lib.hid (IT.out.below hC9)
  have hB9 := hB5.trans (hC9.mono hB5.size)
  clear hB5 hC6 hC7 hC8 hC9 hb6 hb7 hb8 hb9
  have HA9 := Lib.hid (HA.out.below hB9)
  obtain ⟨_, _, hv, hia, _⟩ := HA9.out
  cases hv
  have IA := Lib.hid hia
  clear hia
  go_loopw [11] (fun s wr => ∃ p : Nat, p ≤ zs.length ∧ s = .int .i64 p ∧ ∃ n, wr = w9.drewN n) (fun s _ => zs.length - (intOf s).toNat)
  case atStart => exact ⟨0, by omega, rfl, 0, rfl⟩
  case round =>
    obtain ⟨p, hp, rfl, n, rfl⟩ := hrel
    by_cases hlt : p < zs.length
    · obtain ⟨hx1, hx2⟩ := HRG.out p hlt
      obtain ⟨b0, o0, rfl, c0⟩ := IA.out.cells p hlt
      obtain ⟨b1, o1, rfl, c1⟩ := IV.out.cells (at0 zs p).toNat (by rw [HLI.out]; omega)
      obtain ⟨b2, o2, rfl, c2⟩ := IT.out.cells (zs.length - 1 - p) (by simp; omega)
      rw [HAI.out p hlt] at c1
      rw [at0_reverse (by omega), show zs.length - 1 - (zs.length - 1 - p) = p by omega] at c2
      go_wp2_with fail
      have t1 : IntKind.i64.wrap ((zs.length : Int) - 1) = (zs.length : Int) - 1 := IntWalk.i64_in _ (by omega)
      have t2 : IntKind.i64.wrap ((zs.length : Int) - 1 - (p : Int)) = (zs.length : Int) - 1 - (p : Int) := IntWalk.i64_in _ (by omega)
      have t3 : ((zs.length : Int) - 1 - (p : Int)).toNat = zs.length - 1 - p := by omega
      have t4 : 0 ≤ (zs.length : Int) - 1 - (p : Int) := by omega
      go_quiet (fail)
      go_wp2_with fail
      go_roundw
      case rel => exact ⟨p + 1, by omega, by go_num, _, rfl⟩
      case measure => simp [intOf]; omega
    · by_cases hin : (0 ≤ i ∧ i < zs.length) ∧ (0 ≤ k ∧ k < zs.length)
      · obtain ⟨⟨hi0, hi1⟩, hk0, hk1⟩ := hin
        obtain ⟨b0, o0, rfl, c0⟩ := IA.out.cells i.toNat (by omega)
        obtain ⟨b1, o1, rfl, c1⟩ := IM.out.cells k.toNat (by rw [HLM.out]; omega)
        have hmk : at0 (moveZ zs i k) k.toNat = at0 zs i.toNat := by
          have := at0_moveZ (zs := zs) (f := i.toNat) (t := k.toNat) (j := k.toNat) (by omega) (by omega) (by omega)
          rw [show ((i.toNat : Nat) : Int) = i by omega, show ((k.toNat : Nat) : Int) = k by omega] at this
          rw [this]; unfold moveF; rw [if_pos rfl]
        rw [hmk] at c1
        clear hmk
        go_wp2_with fail
        go_quiet (fail)
        go_wp2_with fail
        refine (permInverse_v (SV.out.drewN _) (by rw [HLI.out]; exact hlen)).mono ?_
        rintro e u1 ⟨x1, rfl, sx1, hb1⟩
        rw [HII.out] at sx1
        have hD1 := (below_drewN hB9 _).trans (hb1.mono (by simpa using hB9.size))
        go_wp2_with fail
        refine (refSame_yes sx1 (HA.out.below hD1) rfl).mono ?_
        rintro e u2 ⟨rfl, m2, rfl⟩
        have hb2 := below_drewN hb1 m2
        have hD2 := below_drewN hD1 m2
        clear hb1 hD1 sx1
        generalize u1.drewN m2 = u2 at hb2 hD2 ⊢
        go_wp2_with fail
        refine (permTurn_v ((ST.out.drewN _).below hb2) (by simp; omega)).mono ?_
        rintro e u3 ⟨x3, rfl, sx3, hb3⟩
        rw [List.reverse_reverse] at sx3
        have hb3' := hb2.trans (hb3.mono hb2.size)
        have hD3 := hD2.trans (hb3.mono hD2.size)
        clear hb2 hD2 hb3
        go_wp2_with fail
        refine (refSame_yes sx3 (HA.out.below hD3) rfl).mono ?_
        rintro e u4 ⟨rfl, m4, rfl⟩
        have hb4 := below_drewN hb3' m4
        have hD4 := below_drewN hD3 m4
        clear hb3' hD3 sx3
        generalize u3.drewN m4 = u4 at hb4 hD4 ⊢
        go_wp2_with fail
        refine (permSwap_v ((SS.out.drewN _).below hb4) (by rw [swapZ_length]; exact hlen)).mono ?_
        rintro e u5 ⟨x5, rfl, sx5, hb5⟩
        rw [HSS.out] at sx5
        have hb5' := hb4.trans (hb5.mono hb4.size)
        have hD5 := hD4.trans (hb5.mono hD4.size)
        clear hb4 hD4 hb5
        go_wp2_with fail
        refine (refSame_yes sx5 (HA.out.below hD5) rfl).mono ?_
        rintro e u6 ⟨rfl, m6, rfl⟩
        have hb6 := below_drewN hb5' m6
        have hD6 := below_drewN hD5 m6
        clear hb5' hD5 sx5
        generalize u5.drewN m6 = u6 at hb6 hD6 ⊢
        go_wp2_with fail
        refine (permMove_v ((SM.out.drewN _).below hb6) (by rw [moveZ_length]; exact hlen)).mono ?_
        rintro e u7 ⟨x7, rfl, sx7, hb7⟩
        rw [HMM.out] at sx7
        have hD7 := hD6.trans (hb7.mono hD6.size)
        clear hb6 hD6 hb7
        go_wp2_with fail
        refine (refSame_yes sx7 (HA.out.below hD7) rfl).mono ?_
        rintro e u8 ⟨rfl, m8, rfl⟩
        have hD8 := below_drewN hD7 m8
        clear hD7 sx7
        generalize u7.drewN m8 = u8 at hD8 ⊢
        go_wp2_with fail
        refine (lives_any _).mono ?_
        rintro e u9 ⟨rfl, hb9⟩
        have hD9 := hD8.trans (hb9.mono hD8.size)
        go_wp2_with fail
        go_ret
        exact ⟨rfl, hD9⟩
      · have HX := Lib.hid hin
        clear hin
        by_cases c1 : 0 ≤ i
        · by_cases c2 : i < zs.length
          · by_cases c3 : 0 ≤ k
            · have c4 : (zs.length : Int) ≤ k := by have := HX.out; omega
              have d4 : decide (k < (zs.length : Int)) = false := by simp; omega
              go_wp2_with fail
              go_quiet (fail)
              go_wp2_with fail
              refine (permInverse_v (SV.out.drewN _) (by rw [HLI.out]; exact hlen)).mono ?_
              rintro e u1 ⟨x1, rfl, sx1, hb1⟩
              rw [HII.out] at sx1
              have hD1 := (below_drewN hB9 _).trans (hb1.mono (by simpa using hB9.size))
              go_wp2_with fail
              refine (refSame_yes sx1 (HA.out.below hD1) rfl).mono ?_
              rintro e u2 ⟨rfl, m2, rfl⟩
              have hb2 := below_drewN hb1 m2
              have hD2 := below_drewN hD1 m2
              clear hb1 hD1 sx1
              generalize u1.drewN m2 = u2 at hb2 hD2 ⊢
              go_wp2_with fail
              refine (permTurn_v ((ST.out.drewN _).below hb2) (by simp; omega)).mono ?_
              rintro e u3 ⟨x3, rfl, sx3, hb3⟩
              rw [List.reverse_reverse] at sx3
              have hb3' := hb2.trans (hb3.mono hb2.size)
              have hD3 := hD2.trans (hb3.mono hD2.size)
              clear hb2 hD2 hb3
              go_wp2_with fail
              refine (refSame_yes sx3 (HA.out.below hD3) rfl).mono ?_
              rintro e u4 ⟨rfl, m4, rfl⟩
              have hb4 := below_drewN hb3' m4
              have hD4 := below_drewN hD3 m4
              clear hb3' hD3 sx3
              generalize u3.drewN m4 = u4 at hb4 hD4 ⊢
              go_wp2_with fail
              refine (permSwap_v ((SS.out.drewN _).below hb4) (by rw [swapZ_length]; exact hlen)).mono ?_
              rintro e u5 ⟨x5, rfl, sx5, hb5⟩
              rw [HSS.out] at sx5
              have hb5' := hb4.trans (hb5.mono hb4.size)
              have hD5 := hD4.trans (hb5.mono hD4.size)
              clear hb4 hD4 hb5
              go_wp2_with fail
              refine (refSame_yes sx5 (HA.out.below hD5) rfl).mono ?_
              rintro e u6 ⟨rfl, m6, rfl⟩
              have hb6 := below_drewN hb5' m6
              have hD6 := below_drewN hD5 m6
              clear hb5' hD5 sx5
              generalize u5.drewN m6 = u6 at hb6 hD6 ⊢
              go_wp2_with fail
              refine (permMove_v ((SM.out.drewN _).below hb6) (by rw [moveZ_length]; exact hlen)).mono ?_
              rintro e u7 ⟨x7, rfl, sx7, hb7⟩
              rw [HMM.out] at sx7
              have hD7 := hD6.trans (hb7.mono hD6.size)
              clear hb6 hD6 hb7
              go_wp2_with fail
              refine (refSame_yes sx7 (HA.out.below hD7) rfl).mono ?_
              rintro e u8 ⟨rfl, m8, rfl⟩
              have hD8 := below_drewN hD7 m8
              clear hD7 sx7
              generalize u7.drewN m8 = u8 at hD8 ⊢
              go_wp2_with fail
              refine (lives_any _).mono ?_
              rintro e u9 ⟨rfl, hb9⟩
              have hD9 := hD8.trans (hb9.mono hD8.size)
              go_wp2_with fail
              go_ret
              exact ⟨rfl, hD9⟩
            · have d3 : decide (0 ≤ k) = false := by simp; omega
              go_wp2_with fail
              go_quiet (fail)
              go_wp2_with fail
              refine (permInverse_v (SV.out.drewN _) (by rw [HLI.out]; exact hlen)).mono ?_
              rintro e u1 ⟨x1, rfl, sx1, hb1⟩
              rw [HII.out] at sx1
              have hD1 := (below_drewN hB9 _).trans (hb1.mono (by simpa using hB9.size))
              go_wp2_with fail
              refine (refSame_yes sx1 (HA.out.below hD1) rfl).mono ?_
              rintro e u2 ⟨rfl, m2, rfl⟩
              have hb2 := below_drewN hb1 m2
              have hD2 := below_drewN hD1 m2
              clear hb1 hD1 sx1
              generalize u1.drewN m2 = u2 at hb2 hD2 ⊢
              go_wp2_with fail
              refine (permTurn_v ((ST.out.drewN _).below hb2) (by simp; omega)).mono ?_
              rintro e u3 ⟨x3, rfl, sx3, hb3⟩
              rw [List.reverse_reverse] at sx3
              have hb3' := hb2.trans (hb3.mono hb2.size)
              have hD3 := hD2.trans (hb3.mono hD2.size)
              clear hb2 hD2 hb3
              go_wp2_with fail
              refine (refSame_yes sx3 (HA.out.below hD3) rfl).mono ?_
              rintro e u4 ⟨rfl, m4, rfl⟩
              have hb4 := below_drewN hb3' m4
              have hD4 := below_drewN hD3 m4
              clear hb3' hD3 sx3
              generalize u3.drewN m4 = u4 at hb4 hD4 ⊢
              go_wp2_with fail
              refine (permSwap_v ((SS.out.drewN _).below hb4) (by rw [swapZ_length]; exact hlen)).mono ?_
              rintro e u5 ⟨x5, rfl, sx5, hb5⟩
              rw [HSS.out] at sx5
              have hb5' := hb4.trans (hb5.mono hb4.size)
              have hD5 := hD4.trans (hb5.mono hD4.size)
              clear hb4 hD4 hb5
              go_wp2_with fail
              refine (refSame_yes sx5 (HA.out.below hD5) rfl).mono ?_
              rintro e u6 ⟨rfl, m6, rfl⟩
              have hb6 := below_drewN hb5' m6
              have hD6 := below_drewN hD5 m6
              clear hb5' hD5 sx5
              generalize u5.drewN m6 = u6 at hb6 hD6 ⊢
              go_wp2_with fail
              refine (permMove_v ((SM.out.drewN _).below hb6) (by rw [moveZ_length]; exact hlen)).mono ?_
              rintro e u7 ⟨x7, rfl, sx7, hb7⟩
              rw [HMM.out] at sx7
              have hD7 := hD6.trans (hb7.mono hD6.size)
              clear hb6 hD6 hb7
              go_wp2_with fail
              refine (refSame_yes sx7 (HA.out.below hD7) rfl).mono ?_
              rintro e u8 ⟨rfl, m8, rfl⟩
              have hD8 := below_drewN hD7 m8
              clear hD7 sx7
              generalize u7.drewN m8 = u8 at hD8 ⊢
              go_wp2_with fail
              refine (lives_any _).mono ?_
              rintro e u9 ⟨rfl, hb9⟩
              have hD9 := hD8.trans (hb9.mono hD8.size)
              go_wp2_with fail
              go_ret
              exact ⟨rfl, hD9⟩
          · have d2 : decide (i < (zs.length : Int)) = false := by simp; omega
            go_wp2_with fail
            go_quiet (fail)
            go_wp2_with fail
            refine (permInverse_v (SV.out.drewN _) (by rw [HLI.out]; exact hlen)).mono ?_
            rintro e u1 ⟨x1, rfl, sx1, hb1⟩
            rw [HII.out] at sx1
            have hD1 := (below_drewN hB9 _).trans (hb1.mono (by simpa using hB9.size))
            go_wp2_with fail
            refine (refSame_yes sx1 (HA.out.below hD1) rfl).mono ?_
            rintro e u2 ⟨rfl, m2, rfl⟩
            have hb2 := below_drewN hb1 m2
            have hD2 := below_drewN hD1 m2
            clear hb1 hD1 sx1
            generalize u1.drewN m2 = u2 at hb2 hD2 ⊢
            go_wp2_with fail
            refine (permTurn_v ((ST.out.drewN _).below hb2) (by simp; omega)).mono ?_
            rintro e u3 ⟨x3, rfl, sx3, hb3⟩
            rw [List.reverse_reverse] at sx3
            have hb3' := hb2.trans (hb3.mono hb2.size)
            have hD3 := hD2.trans (hb3.mono hD2.size)
            clear hb2 hD2 hb3
            go_wp2_with fail
            refine (refSame_yes sx3 (HA.out.below hD3) rfl).mono ?_
            rintro e u4 ⟨rfl, m4, rfl⟩
            have hb4 := below_drewN hb3' m4
            have hD4 := below_drewN hD3 m4
            clear hb3' hD3 sx3
            generalize u3.drewN m4 = u4 at hb4 hD4 ⊢
            go_wp2_with fail
            refine (permSwap_v ((SS.out.drewN _).below hb4) (by rw [swapZ_length]; exact hlen)).mono ?_
            rintro e u5 ⟨x5, rfl, sx5, hb5⟩
            rw [HSS.out] at sx5
            have hb5' := hb4.trans (hb5.mono hb4.size)
            have hD5 := hD4.trans (hb5.mono hD4.size)
            clear hb4 hD4 hb5
            go_wp2_with fail
            refine (refSame_yes sx5 (HA.out.below hD5) rfl).mono ?_
            rintro e u6 ⟨rfl, m6, rfl⟩
            have hb6 := below_drewN hb5' m6
            have hD6 := below_drewN hD5 m6
            clear hb5' hD5 sx5
            generalize u5.drewN m6 = u6 at hb6 hD6 ⊢
            go_wp2_with fail
            refine (permMove_v ((SM.out.drewN _).below hb6) (by rw [moveZ_length]; exact hlen)).mono ?_
            rintro e u7 ⟨x7, rfl, sx7, hb7⟩
            rw [HMM.out] at sx7
            have hD7 := hD6.trans (hb7.mono hD6.size)
            clear hb6 hD6 hb7
            go_wp2_with fail
            refine (refSame_yes sx7 (HA.out.below hD7) rfl).mono ?_
            rintro e u8 ⟨rfl, m8, rfl⟩
            have hD8 := below_drewN hD7 m8
            clear hD7 sx7
            generalize u7.drewN m8 = u8 at hD8 ⊢
            go_wp2_with fail
            refine (lives_any _).mono ?_
            rintro e u9 ⟨rfl, hb9⟩
            have hD9 := hD8.trans (hb9.mono hD8.size)
            go_wp2_with fail
            go_ret
            exact ⟨rfl, hD9⟩
        · have d1 : decide (0 ≤ i) = false := by simp; omega
          go_wp2_with fail
          go_quiet (fail)
          go_wp2_with fail
          refine (permInverse_v (SV.out.drewN _) (by rw [HLI.out]; exact hlen)).mono ?_
          rintro e u1 ⟨x1, rfl, sx1, hb1⟩
          rw [HII.out] at sx1
          have hD1 := (below_drewN hB9 _).trans (hb1.mono (by simpa using hB9.size))
          go_wp2_with fail
          refine (refSame_yes sx1 (HA.out.below hD1) rfl).mono ?_
          rintro e u2 ⟨rfl, m2, rfl⟩
          have hb2 := below_drewN hb1 m2
          have hD2 := below_drewN hD1 m2
          clear hb1 hD1 sx1
          generalize u1.drewN m2 = u2 at hb2 hD2 ⊢
          go_wp2_with fail
          refine (permTurn_v ((ST.out.drewN _).below hb2) (by simp; omega)).mono ?_
          rintro e u3 ⟨x3, rfl, sx3, hb3⟩
          rw [List.reverse_reverse] at sx3
          have hb3' := hb2.trans (hb3.mono hb2.size)
          have hD3 := hD2.trans (hb3.mono hD2.size)
          clear hb2 hD2 hb3
          go_wp2_with fail
          refine (refSame_yes sx3 (HA.out.below hD3) rfl).mono ?_
          rintro e u4 ⟨rfl, m4, rfl⟩
          have hb4 := below_drewN hb3' m4
          have hD4 := below_drewN hD3 m4
          clear hb3' hD3 sx3
          generalize u3.drewN m4 = u4 at hb4 hD4 ⊢
          go_wp2_with fail
          refine (permSwap_v ((SS.out.drewN _).below hb4) (by rw [swapZ_length]; exact hlen)).mono ?_
          rintro e u5 ⟨x5, rfl, sx5, hb5⟩
          rw [HSS.out] at sx5
          have hb5' := hb4.trans (hb5.mono hb4.size)
          have hD5 := hD4.trans (hb5.mono hD4.size)
          clear hb4 hD4 hb5
          go_wp2_with fail
          refine (refSame_yes sx5 (HA.out.below hD5) rfl).mono ?_
          rintro e u6 ⟨rfl, m6, rfl⟩
          have hb6 := below_drewN hb5' m6
          have hD6 := below_drewN hD5 m6
          clear hb5' hD5 sx5
          generalize u5.drewN m6 = u6 at hb6 hD6 ⊢
          go_wp2_with fail
          refine (permMove_v ((SM.out.drewN _).below hb6) (by rw [moveZ_length]; exact hlen)).mono ?_
          rintro e u7 ⟨x7, rfl, sx7, hb7⟩
          rw [HMM.out] at sx7
          have hD7 := hD6.trans (hb7.mono hD6.size)
          clear hb6 hD6 hb7
          go_wp2_with fail
          refine (refSame_yes sx7 (HA.out.below hD7) rfl).mono ?_
          rintro e u8 ⟨rfl, m8, rfl⟩
          have hD8 := below_drewN hD7 m8
          clear hD7 sx7
          generalize u7.drewN m8 = u8 at hD8 ⊢
          go_wp2_with fail
          refine (lives_any _).mono ?_
          rintro e u9 ⟨rfl, hb9⟩
          have hD9 := hD8.trans (hb9.mono hD8.size)
          go_wp2_with fail
          go_ret
          exact ⟨rfl, hD9⟩


set_option maxHeartbeats 800000 in
theorem lawBack_any (va : Value) (zs : List Int) (i k : Int) (w : World) (h : SliceIs w va zs) :
    Calls Try.prog 8 #[va, .int .i64 i, .int .i64 k] w fun e w' => e = .returned (.bool true) ∧ Below w.heap.size w w' := by
  by_cases h1 : zs.length ≤ 40
  · by_cases hr : rightB zs = true
    · exact lawBack_try va zs i k w h hr h1
    · have hr' : rightB zs = false := by simpa using hr
      have HA := Lib.hid h
      obtain ⟨a, c, rfl, ha, hna⟩ := h
      have HR := Lib.hid hr'
      clear ha hna hr hr'
      go_enter Try.func8, Try.ntmps8
      go_wp2_with fail
      refine (refRight_v HA.out).mono ?_
      rintro e w1 ⟨rfl, q1, rfl⟩
      rw [HR.out]
      go_wp2_with fail
      refine (lives_any _).mono ?_
      rintro e w2 ⟨rfl, hb2⟩
      go_wp2_with fail
      go_ret
      exact ⟨rfl, (below_draw w q1).trans (hb2.mono (by simp))⟩
  · have HA := Lib.hid h
    obtain ⟨a, c, rfl, ha, hna⟩ := h
    have hla := ha.len
    have h2 : (40 : Int) < zs.length := by omega
    clear ha hna
    go_enter Try.func8, Try.ntmps8
    go_wp2_with fail
    refine (lives_any _).mono ?_
    rintro e w2 ⟨rfl, hb2⟩
    go_wp2_with fail
    go_ret
    exact ⟨rfl, hb2⟩

end Go.Proofs.Ytcembefhfadpbaa
