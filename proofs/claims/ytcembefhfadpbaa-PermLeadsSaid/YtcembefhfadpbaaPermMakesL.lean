/- The walk of the law PermMakes. -/
import Derived.Test.YtcembefhfadpbaaPermL
namespace Go.Proofs.Ytcembefhfadpbaa
open Go.RowKit

theorem refRight_v {v : Value} {zs : List Int} {w : World} (h : SliceIs w v zs) :
    Calls Try.prog 16 #[v] w fun e w' => e = .returned (.bool (rightB zs)) ∧ ∃ n, w' = w.drewN n := by
  obtain ⟨a, c, rfl, h1, h2⟩ := h
  exact refRight_any a c zs w h1
theorem refInverse_v {v : Value} {zs : List Int} {w : World} (h : SliceIs w v zs) (hlen : zs.length < 1000000) :
    Calls Try.prog 23 #[v] w fun e w' => ∃ v, e = .returned v ∧ SliceIs w' v (inverseZ zs) ∧ Below w.heap.size w w' := by
  obtain ⟨a, c, rfl, h1, h2⟩ := h
  exact (refInverse_any a c zs w h1 hlen).mono fun e w' ⟨v, h1, h2, h3⟩ => ⟨v, h1, h2.sliceIs (by unfold inverseZ; split <;> simp [iota_length]; omega), h3⟩
theorem refSwap_s {v : Value} {zs : List Int} {i : Int} {w : World} (h : SliceIs w v zs) (hlen : zs.length < 1000000) :
    Calls Try.prog 24 #[v, .int .i64 i] w fun e w' => ∃ v, e = .returned v ∧ SliceIs w' v (swapZ zs i) ∧ Below w.heap.size w w' :=
  (refSwap_v h hlen).mono fun e w' ⟨v, h1, h2, h3⟩ => ⟨v, h1, h2.sliceIs (by rw [swapZ_length]; omega), h3⟩
theorem refMove_v {v : Value} {zs : List Int} {f t : Int} {w : World} (h : SliceIs w v zs) (hlen : zs.length < 1000000) :
    Calls Try.prog 26 #[v, .int .i64 f, .int .i64 t] w fun e w' => ∃ v, e = .returned v ∧ SliceIs w' v (moveZ zs f t) ∧ Below w.heap.size w w' := by
  obtain ⟨a, c, rfl, h1, h2⟩ := h
  exact refMove_any a c zs f t w h1 h2 hlen
theorem refTurn_v {v : Value} {zs : List Int} {w : World} (h : SliceIs w v zs) (hlen : zs.length < 1000000) :
    Calls Try.prog 28 #[v] w fun e w' => ∃ v, e = .returned v ∧ SliceIs w' v zs.reverse ∧ Below w.heap.size w w' := by
  obtain ⟨a, c, rfl, h1, h2⟩ := h
  exact (refTurn_any a c zs w h1 hlen).mono fun e w' ⟨v, h1, h2, h3⟩ => ⟨v, h1, h2.sliceIs (by simp; omega), h3⟩
theorem permIdent_v (n : Int) (w : World) :
    Calls Try.prog 20 #[.int .i64 n] w fun e w' => ∃ v, e = .returned v ∧ SliceIs w' v (identZ n) ∧ Below w.heap.size w w' :=
  (permIdent_any n w).mono fun e w' ⟨v, h1, h2, h3⟩ => ⟨v, h1, h2.sliceIs (by have := ident_length n; omega), h3⟩
theorem refIdent_v (n : Int) (w : World) :
    Calls Try.prog 21 #[.int .i64 n] w fun e w' => ∃ v, e = .returned v ∧ SliceIs w' v (identZ n) ∧ Below w.heap.size w w' :=
  (refIdent_any n w).mono fun e w' ⟨v, h1, h2, h3⟩ => ⟨v, h1, h2.sliceIs (by have := ident_length n; omega), h3⟩

set_option maxRecDepth 100000 in
set_option maxHeartbeats 1600000 in
theorem lawMakes_any (va : Value) (zs : List Int) (i k : Int) (w : World) (h : SliceIs w va zs) :
    Calls Try.prog 7 #[va, .int .i64 i, .int .i64 k] w fun e w' => e = .returned (.bool true) ∧ Below w.heap.size w w' := by
  have HA := Lib.hid h
  obtain ⟨a, c, rfl, ha, hna⟩ := h
  have hla := ha.len
  clear ha hna
  by_cases h1 : (70 : Int) < zs.length
  · go_enter Try.func7, Try.ntmps7
    go_wp2_with fail
    refine (lives_any _).mono ?_
    rintro e w1 ⟨rfl, hb1⟩
    go_wp2_with fail
    go_ret
    exact ⟨rfl, hb1⟩
  · have hlen : zs.length < 1000000 := by omega
    have hB0 : Below w.heap.size w w := Below.refl _ _
    obtain ⟨rb, hrb⟩ : ∃ b, rightB zs = b := ⟨_, rfl⟩
    have HRB := Lib.hid hrb
    clear hrb
    go_enter Try.func7, Try.ntmps7
    go_wp2_with fail
    refine (permRight_v (HA.out.below hB0) hlen).mono ?_
    rintro e w1 ⟨rfl, hb1⟩
    rw [HRB.out]
    have hB1 := hB0.trans (hb1.mono hB0.size)
    clear hB0 hb1
    go_wp2_with fail
    refine (refRight_v (HA.out.below hB1)).mono ?_
    rintro e w2 ⟨rfl, q2, hq2⟩
    rw [HRB.out]
    have hB2 : Below w.heap.size w w2 := by rw [hq2]; exact below_drewN hB1 _
    clear hB1 hq2
    go_wp2_with fail
    refine (permIdent_v _ _).mono ?_
    rintro e w3 ⟨x0, rfl, sx0, hb3⟩
    have hB3 := hB2.trans (hb3.mono hB2.size)
    clear hB2 hb3
    go_wp2_with fail
    refine (refIdent_v _ _).mono ?_
    rintro e w4 ⟨y0, rfl, sy0, hb4⟩
    have hB4 := hB3.trans (hb4.mono hB3.size)
    have sx0' := sx0.below hb4
    clear sx0
    clear hB3 hb4
    go_wp2_with fail
    refine (refSame_yes sx0' sy0 rfl).mono ?_
    rintro e w5 ⟨rfl, q5, hq5⟩
    have hB5 : Below w.heap.size w w5 := by rw [hq5]; exact below_drewN hB4 _
    clear hB4 hq5 sx0' sy0
    go_wp2_with fail
    refine (permInverse_v (HA.out.below hB5) hlen).mono ?_
    rintro e w6 ⟨x1, rfl, sx1, hb6⟩
    have hB6 := hB5.trans (hb6.mono hB5.size)
    clear hB5 hb6
    go_wp2_with fail
    refine (refInverse_v (HA.out.below hB6) hlen).mono ?_
    rintro e w7 ⟨y1, rfl, sy1, hb7⟩
    have hB7 := hB6.trans (hb7.mono hB6.size)
    have sx1' := sx1.below hb7
    clear sx1
    clear hB6 hb7
    go_wp2_with fail
    refine (refSame_yes sx1' sy1 rfl).mono ?_
    rintro e w8 ⟨rfl, q8, hq8⟩
    have hB8 : Below w.heap.size w w8 := by rw [hq8]; exact below_drewN hB7 _
    clear hB7 hq8 sx1' sy1
    go_wp2_with fail
    refine (permSwap_v (HA.out.below hB8) hlen).mono ?_
    rintro e w9 ⟨x2, rfl, sx2, hb9⟩
    have hB9 := hB8.trans (hb9.mono hB8.size)
    clear hB8 hb9
    go_wp2_with fail
    refine (refSwap_s (HA.out.below hB9) hlen).mono ?_
    rintro e w10 ⟨y2, rfl, sy2, hb10⟩
    have hB10 := hB9.trans (hb10.mono hB9.size)
    have sx2' := sx2.below hb10
    clear sx2
    clear hB9 hb10
    go_wp2_with fail
    refine (refSame_yes sx2' sy2 rfl).mono ?_
    rintro e w11 ⟨rfl, q11, hq11⟩
    have hB11 : Below w.heap.size w w11 := by rw [hq11]; exact below_drewN hB10 _
    clear hB10 hq11 sx2' sy2
    go_wp2_with fail
    refine (permMove_v (HA.out.below hB11) hlen).mono ?_
    rintro e w12 ⟨x3, rfl, sx3, hb12⟩
    have hB12 := hB11.trans (hb12.mono hB11.size)
    clear hB11 hb12
    go_wp2_with fail
    refine (refMove_v (HA.out.below hB12) hlen).mono ?_
    rintro e w13 ⟨y3, rfl, sy3, hb13⟩
    have hB13 := hB12.trans (hb13.mono hB12.size)
    have sx3' := sx3.below hb13
    clear sx3
    clear hB12 hb13
    go_wp2_with fail
    refine (refSame_yes sx3' sy3 rfl).mono ?_
    rintro e w14 ⟨rfl, q14, hq14⟩
    have hB14 : Below w.heap.size w w14 := by rw [hq14]; exact below_drewN hB13 _
    clear hB13 hq14 sx3' sy3
    go_wp2_with fail
    refine (permTurn_v (HA.out.below hB14) hlen).mono ?_
    rintro e w15 ⟨x4, rfl, sx4, hb15⟩
    have hB15 := hB14.trans (hb15.mono hB14.size)
    clear hB14 hb15
    go_wp2_with fail
    refine (refTurn_v (HA.out.below hB15) hlen).mono ?_
    rintro e w16 ⟨y4, rfl, sy4, hb16⟩
    have hB16 := hB15.trans (hb16.mono hB15.size)
    have sx4' := sx4.below hb16
    clear sx4
    clear hB15 hb16
    go_wp2_with fail
    refine (refSame_yes sx4' sy4 rfl).mono ?_
    rintro e w17 ⟨rfl, q17, hq17⟩
    have hB17 : Below w.heap.size w w17 := by rw [hq17]; exact below_drewN hB16 _
    clear hB16 hq17 sx4' sy4
    go_wp2_with fail
    refine (lives_any _).mono ?_
    rintro e w18 ⟨rfl, hb18⟩
    have hB18 := hB17.trans (hb18.mono hB17.size)
    go_wp2_with fail
    go_ret
    exact ⟨rfl, hB18⟩

end Go.Proofs.Ytcembefhfadpbaa
