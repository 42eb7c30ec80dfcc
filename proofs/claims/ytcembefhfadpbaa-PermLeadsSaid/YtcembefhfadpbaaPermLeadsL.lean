/- The walk of the law PermLeads. -/
import Derived.Test.YtcembefhfadpbaaPermMakesL
import Derived.Test.YtcembefhfadpbaaPermM4
namespace Go.Proofs.Ytcembefhfadpbaa
open Go.RowKit

theorem invs_drop {f : Int → Int} {zs : List Int} {i : Nat} (h : i < zs.length) : invs f (zs.drop i) = (zs.drop (i + 1)).countP (fun y => decide (f (at0 zs i) > f y)) + invs f (zs.drop (i + 1)) := by
  rw [drop_at0 h]; rfl
theorem countP_drop {p : Int → Bool} {zs : List Int} {k : Nat} (h : k < zs.length) : (zs.drop k).countP p = (zs.drop (k + 1)).countP p + if p (at0 zs k) = true then 1 else 0 := by
  rw [drop_at0 h, List.countP_cons]
theorem invs_le (f : Int → Int) : ∀ zs : List Int, invs f zs ≤ zs.length * zs.length
  | [] => by simp [invs]
  | x :: xs => by
    have h1 := invs_le f xs
    have h2 := List.countP_le_length (p := fun y => decide (f x > f y)) (l := xs)
    simp only [invs, List.length_cons]
    have : (xs.length + 1) * (xs.length + 1) = xs.length * xs.length + 2 * xs.length + 1 := by rw [Nat.add_mul, Nat.mul_add]; omega
    omega

set_option maxRecDepth 100000 in
set_option maxHeartbeats 1000000 in
theorem refUnlike_any (a b : Option Addr) (c c' : Nat) (xs ys : List Int) (w : World) (h : IntsAt w a xs) (h' : IntsAt w b ys) (hlen : xs.length ≤ 1000) :
    Calls Try.prog 17 #[.slice a xs.length c, .slice b ys.length c'] w fun e w' => e = .returned (.int .i64 (invs (placeZ ys) xs : Nat)) ∧ ∃ n, w' = w.drewN n := by
  have HA := Lib.hid h
  have HB := Lib.hid h'
  clear h h'
  obtain ⟨T, HT⟩ : ∃ T, Hid (T = invs (placeZ ys) xs) := ⟨_, rfl⟩
  have hT : T ≤ 1000000 := by rw [HT.out]; have := invs_le (placeZ ys) xs; have := Nat.mul_le_mul hlen hlen; omega
  go_enter Try.func17, Try.ntmps17
  go_wp2
  go_loopw [5, 6] (fun s5 s6 wr => ∃ (i n : Nat), i ≤ xs.length ∧ s6 = .int .i64 i ∧ s5 = .int .i64 n ∧ n + invs (placeZ ys) (xs.drop i) = T ∧ ∃ q, wr = w.drewN q) (fun _ s6 _ => xs.length - (intOf s6).toNat)
  case atStart => exact ⟨0, 0, by omega, rfl, rfl, by rw [HT.out]; simp, 0, rfl⟩
  case round =>
    obtain ⟨i, n, hi, rfl, rfl, hn, q, rfl⟩ := hrel
    have HN := Lib.hid hn
    have hnT : n ≤ T := by omega
    clear hn
    by_cases hlt : i < xs.length
    · obtain ⟨ba, oa, rfl, ca⟩ := HA.out.cells i hlt
      have HD := Lib.hid (invs_drop (f := placeZ ys) hlt)
      go_wp2
      go_loopw [5, 7] (fun s5 s7 wi => ∃ (k m : Nat), k ≤ xs.length ∧ s7 = .int .i64 k ∧ s5 = .int .i64 m ∧ m + (xs.drop k).countP (fun y => decide (placeZ ys (at0 xs i) > placeZ ys y)) + invs (placeZ ys) (xs.drop (i + 1)) = T ∧ ∃ q, wi = w.drewN q) (fun _ s7 _ => xs.length - (intOf s7).toNat)
      case atStart => exact ⟨i + 1, n, by omega, by go_num, rfl, by rw [← HN.out, HD.out]; omega, q, rfl⟩
      case round =>
        obtain ⟨k, m, hk, rfl, rfl, hm, hq2⟩ := hrel
        have HQ := Lib.hid hq2
        clear hq2
        have hcw : ∀ p, wr.cell? p = w.cell? p := fun p => by obtain ⟨q, hq⟩ := HQ.out; rw [hq]; rfl
        have HBr : Hid (IntsAt wr b ys) := by obtain ⟨q, hq⟩ := HQ.out; rw [hq]; exact HB.out.drewN q
        have HM := Lib.hid hm
        have hmT : m ≤ T := by omega
        clear hm
        by_cases hlt2 : k < xs.length
        · obtain ⟨ba', oa', hab, ca2⟩ := HA.out.cells k hlt2
          cases hab
          rw [← hcw] at ca2
          have ca1 := (hcw _).trans ca
          clear hcw
          have HC := Lib.hid (countP_drop (p := fun y => decide (placeZ ys (at0 xs i) > placeZ ys y)) hlt2)
          generalize hpi : placeZ ys (at0 xs i) = P1 at HC HM
          generalize hpk : placeZ ys (at0 xs k) = P2 at HC HM
          have HPI := Lib.hid hpi
          have HPK := Lib.hid hpk
          clear hpi hpk
          have hcall1 : ∀ w', Calls Try.prog 40 #[.slice b ys.length c', .int .i64 (at0 xs i)] (wr.drewN w') fun e w'' => e = .returned (.int .i64 P1) ∧ ∃ m, w'' = (wr.drewN w').drewN m := by
            intro w'; rw [← HPI.out]; exact refPlace_any b c' ys _ _ (HBr.out.drewN _)
          have hcall2 : ∀ w', Calls Try.prog 40 #[.slice b ys.length c', .int .i64 (at0 xs k)] (wr.drewN w') fun e w'' => e = .returned (.int .i64 P2) ∧ ∃ m, w'' = (wr.drewN w').drewN m := by
            intro w'; rw [← HPK.out]; exact refPlace_any b c' ys _ _ (HBr.out.drewN _)
          have H1 := Lib.hid hcall1
          have H2 := Lib.hid hcall2
          clear hcall1 hcall2
          by_cases hgt : P2 < P1
          · have HG := Lib.hid hgt
            go_wp2
            go_quiet ((first | (with_reducible exact Calls.quiet_of (H1.out _)) | (with_reducible exact Calls.quiet_of (H2.out _))))
            go_wp2
            go_roundw
            case rel => exact ⟨k + 1, m + 1, by omega, by go_num, by go_num, by
              rw [← HM.out, HC.out, if_pos (by simpa using HG.out)]; omega, by obtain ⟨q, hq⟩ := HQ.out; rw [hq]; exact ⟨_, World.drewN_drewN ..⟩⟩
            case measure => simp [intOf]; omega
          · have HG := Lib.hid hgt
            go_wp2
            go_quiet ((first | (with_reducible exact Calls.quiet_of (H1.out _)) | (with_reducible exact Calls.quiet_of (H2.out _))))
            go_wp2
            go_roundw
            case rel => exact ⟨k + 1, m, by omega, by go_num, rfl, by
              rw [← HM.out, HC.out, if_neg (by simpa using HG.out)]; omega, by obtain ⟨q, hq⟩ := HQ.out; rw [hq]; exact ⟨_, World.drewN_drewN ..⟩⟩
            case measure => simp [intOf]; omega
        · obtain rfl : k = xs.length := by omega
          go_wp2
          go_roundw
          case rel => exact ⟨i + 1, m, by omega, by go_num, rfl, by rw [← HM.out, List.drop_of_length_le (Nat.le_refl _)]; simp, HQ.out⟩
          case measure => simp [intOf]; omega
    · obtain rfl : i = xs.length := by omega
      go_wp2
      go_ret
      exact ⟨ret_i64 (by rw [← HT.out, ← HN.out, List.drop_of_length_le (Nat.le_refl _)]; simp [invs]), _, rfl⟩


theorem SliceIs.open2 {w : World} {v : Value} {zs : List Int} (h : SliceIs w v zs) : ∃ a c, v = .slice a zs.length c ∧ IntsAt w a zs ∧ SliceIs w (.slice a zs.length c) zs := by
  obtain ⟨a, c, rfl, h1, h2⟩ := h
  exact ⟨a, c, rfl, h1, a, c, rfl, h1, h2⟩
theorem refUnlike_v {u v : Value} {xs ys : List Int} {w : World} (h : SliceIs w u xs) (h' : SliceIs w v ys) (hlen : xs.length ≤ 1000) :
    Calls Try.prog 17 #[u, v] w fun e w' => e = .returned (.int .i64 (invs (placeZ ys) xs : Nat)) ∧ ∃ n, w' = w.drewN n := by
  obtain ⟨a, c, rfl, h1, h2⟩ := h
  obtain ⟨a', c', rfl, h1', h2'⟩ := h'
  exact refUnlike_any a a' c c' xs ys w h1 h1' hlen
theorem refSame_end {u v : Value} {xs ys : List Int} {w : World} (h : SliceIs w u xs) (h' : SliceIs w v ys) (he : xs = ys) :
    Calls Try.prog 15 #[u, v] w fun e w' => e = .returned (.bool true) ∧ Below w.heap.size w w' :=
  (refSame_yes h h' he).mono fun e w' ⟨h1, n, h2⟩ => ⟨h1, by rw [h2]; exact below_draw _ _⟩

set_option maxRecDepth 100000 in
set_option maxHeartbeats 2000000 in
theorem lawLeads_try (va vb : Value) (xs ys : List Int) (w : World) (h : SliceIs w va xs) (h' : SliceIs w vb ys) (h30 : xs.length ≤ 30) (hl : xs.length = ys.length) (hr : rightB xs = true) (hr' : rightB ys = true) :
    Calls Try.prog 6 #[va, vb] w fun e w' => e = .returned (.bool true) ∧ Below w.heap.size w w' := by
  have HA := Lib.hid h
  have HB := Lib.hid h'
  obtain ⟨L1, L2, L3⟩ := leads_law hr hr' hl
  have HE : Hid (stepsErr xs ys = 0) := by unfold stepsErr; rw [if_pos ⟨hr, hr'⟩, if_pos hl]; rfl
  obtain ⟨a, c, rfl, ha, hna⟩ := h
  obtain ⟨b, c', rfl, hb, hnb⟩ := h'
  have hys : ys.length ≤ 30 := by omega
  have H3 : ((xs.length : Int) != ys.length) = false := by simp [hl]
  have hxy : xs.length ≤ ys.length := by omega
  have hyx : ys.length ≤ xs.length := by omega
  have HR := Lib.hid hr
  have HR' := Lib.hid hr'
  have HL1 := Lib.hid L1
  have HL2 := Lib.hid L2
  have HL3 := Lib.hid L3
  have hT : (stepsOf xs ys).length ≤ 1000000 := by rw [L1]; have := invs_le (placeZ ys) xs; have h2 := Nat.mul_le_mul h30 h30; omega
  clear ha hna hb hnb hr hr' hl L1 L2 L3
  go_enter Try.func6, Try.ntmps6
  go_wp2_with fail
  refine (refRight_v HA.out).mono ?_
  rintro e w1 ⟨rfl, q1, hq1⟩
  rw [HR.out]
  have hB1 : Below w.heap.size w w1 := by rw [hq1]; exact below_draw _ _
  clear hq1
  go_wp2_with fail
  refine (refRight_v (HB.out.below hB1)).mono ?_
  rintro e w2 ⟨rfl, q2, hq2⟩
  rw [HR'.out]
  have hB2 : Below w.heap.size w w2 := by rw [hq2]; exact below_drewN hB1 _
  clear hq2 hB1
  go_wp2_with fail
  refine (permSteps_any _ _ xs ys _ (HA.out.below hB2) (HB.out.below hB2) (by omega) (by omega)).mono ?_
  rintro e w3 ⟨l, rfl, hs3, hb3⟩
  rw [HE.out]
  have hB3 := hB2.trans (hb3.mono hB2.size)
  clear hB2 hb3
  obtain ⟨al, cl, rfl, il, sl⟩ := hs3.open2
  have IL := Lib.hid il
  clear il sl hs3
  go_wp2_with fail
  refine (refUnlike_v (HA.out.below hB3) (HB.out.below hB3) (by omega)).mono ?_
  rintro e w4 ⟨rfl, q4, hq4⟩
  rw [← HL1.out]
  have IL := Lib.hid (by rw [hq4]; exact IL.out.drewN q4 : IntsAt w4 al (stepsOf xs ys))
  have hB4 : Below w.heap.size w w4 := by rw [hq4]; exact below_drewN hB3 _
  clear hq4 hB3
  generalize hst : stepsOf xs ys = st at IL HL2 HL3 hT ⊢
  clear hst HL1
  have hst30 : ∀ k, k < st.length → 0 ≤ at0 st k ∧ at0 st k + 1 < ys.length := fun k hk => HL2.out _ (by rw [at0_eq hk]; exact List.getElem_mem _)
  have HST := Lib.hid hst30
  clear hst30 HL2
  go_wp2_with fail
  go_loopw [7, 8] (fun s7 s8 wr => ∃ (k : Nat) (cur : List Int), k ≤ st.length ∧ s8 = .int .i64 k ∧ SliceIs wr s7 cur ∧ cur.length = xs.length ∧ (st.drop k).foldl swapZ cur = ys ∧ Below w4.heap.size w4 wr) (fun _ s8 _ => st.length - (intOf s8).toNat)
  case atStart => exact ⟨0, xs, by omega, rfl, HA.out.below hB4, rfl, by simpa using HL3.out, Below.refl _ _⟩
  case round =>
    obtain ⟨k, cur, hk, rfl, hs, hcl, hfo, hb⟩ := hrel
    have HS := Lib.hid hs
    have HCL := Lib.hid hcl
    have HFO := Lib.hid hfo
    have hcl2 : cur.length ≤ 30 := by omega
    clear hs hcl hfo
    by_cases hlt : k < st.length
    · obtain ⟨hx1, hx2⟩ := HST.out k hlt
      have HI := Lib.hid (IL.out.below hb)
      obtain ⟨b0, o0, rfl, c0⟩ := HI.out.cells k hlt
      have d1 : decide (at0 st k < 0) = false := by simp; omega
      have d2 : decide ((xs.length : Int) - 1 ≤ at0 st k) = false := by simp; omega
      go_wp2_with fail
      refine (permSwap_v HS.out (by omega)).mono ?_
      rintro e w5 ⟨v5, rfl, s5, hb5⟩
      have hb6 := hb.trans (hb5.mono hb.size)
      go_wp2_with fail
      go_roundw
      case rel => exact ⟨k + 1, swapZ cur (at0 st k), by omega, by go_num, s5, by rw [swapZ_length]; exact HCL.out, by have := HFO.out; rw [drop_at0 hlt] at this; exact this, hb6⟩
      case measure => simp [intOf]; omega
    · obtain rfl : k = st.length := by omega
      have hcy : cur = ys := by have := HFO.out; rw [List.drop_of_length_le (Nat.le_refl _)] at this; exact this
      have HCY := Lib.hid hcy
      clear hcy
      have hB5 := hB4.trans (hb.mono hB4.size)
      go_wp2_with fail
      refine (refSame_end HS.out (HB.out.below hB5) HCY.out).mono ?_
      rintro e w6 ⟨rfl, hb6⟩
      have hB6 := hB5.trans (hb6.mono hB5.size)
      go_wp2_with fail
      refine (lives_any _).mono ?_
      rintro e w7 ⟨rfl, hb7⟩
      have hB7 := hB6.trans (hb7.mono hB6.size)
      go_wp2_with fail
      go_ret
      exact ⟨rfl, hB7⟩


set_option maxHeartbeats 1000000 in
theorem lawLeads_any (va vb : Value) (xs ys : List Int) (w : World) (h : SliceIs w va xs) (h' : SliceIs w vb ys) :
    Calls Try.prog 6 #[va, vb] w fun e w' => e = .returned (.bool true) ∧ Below w.heap.size w w' := by
  by_cases h30 : xs.length ≤ 30
  · by_cases hl : xs.length = ys.length
    · by_cases hr : rightB xs = true
      · by_cases hr' : rightB ys = true
        · exact lawLeads_try va vb xs ys w h h' h30 hl hr hr'
        · have hrf : rightB ys = false := by simpa using hr'
          have HA := Lib.hid h
          have HB := Lib.hid h'
          obtain ⟨a, c, rfl, ha, hna⟩ := h
          obtain ⟨b, c', rfl, hb, hnb⟩ := h'
          have H3 : ((xs.length : Int) != ys.length) = false := by simp [hl]
          have HR := Lib.hid hr
          have HR' := Lib.hid hrf
          clear ha hna hb hnb hr hr' hl hrf
          go_enter Try.func6, Try.ntmps6
          go_wp2_with fail
          refine (refRight_v HA.out).mono ?_
          rintro e w1 ⟨rfl, q1, hq1⟩
          rw [HR.out]
          have hB1 : Below w.heap.size w w1 := by rw [hq1]; exact below_draw _ _
          clear hq1
          go_wp2_with fail
          refine (refRight_v (HB.out.below hB1)).mono ?_
          rintro e w2 ⟨rfl, q2, hq2⟩
          rw [HR'.out]
          have hB2 : Below w.heap.size w w2 := by rw [hq2]; exact below_drewN hB1 _
          clear hq2 hB1
          go_wp2_with fail
          refine (lives_any _).mono ?_
          rintro e w3 ⟨rfl, hb3⟩
          have hB3 := hB2.trans (hb3.mono hB2.size)
          go_wp2_with fail
          go_ret
          exact ⟨rfl, hB3⟩
      · have hrf : rightB xs = false := by simpa using hr
        have HA := Lib.hid h
        obtain ⟨a, c, rfl, ha, hna⟩ := h
        obtain ⟨b, c', rfl, hb, hnb⟩ := h'
        have H3 : ((xs.length : Int) != ys.length) = false := by simp [hl]
        have HR := Lib.hid hrf
        clear ha hna hb hnb hr hl hrf
        go_enter Try.func6, Try.ntmps6
        go_wp2_with fail
        refine (refRight_v HA.out).mono ?_
        rintro e w1 ⟨rfl, q1, hq1⟩
        rw [HR.out]
        have hB1 : Below w.heap.size w w1 := by rw [hq1]; exact below_draw _ _
        clear hq1
        go_wp2_with fail
        refine (lives_any _).mono ?_
        rintro e w3 ⟨rfl, hb3⟩
        have hB3 := hB1.trans (hb3.mono hB1.size)
        go_wp2_with fail
        go_ret
        exact ⟨rfl, hB3⟩
    · obtain ⟨a, c, rfl, ha, hna⟩ := h
      obtain ⟨b, c', rfl, hb, hnb⟩ := h'
      have H3 : ((xs.length : Int) != ys.length) = true := by simp; omega
      clear ha hna hb hnb hl
      go_enter Try.func6, Try.ntmps6
      go_wp2_with fail
      refine (lives_any _).mono ?_
      rintro e w3 ⟨rfl, hb3⟩
      go_wp2_with fail
      go_ret
      exact ⟨rfl, hb3⟩
  · obtain ⟨a, c, rfl, ha, hna⟩ := h
    obtain ⟨b, c', rfl, hb, hnb⟩ := h'
    have hla := ha.len
    have h2 : (30 : Int) < xs.length := by omega
    clear ha hna hb hnb
    go_enter Try.func6, Try.ntmps6
    go_wp2_with fail
    refine (lives_any _).mono ?_
    rintro e w3 ⟨rfl, hb3⟩
    go_wp2_with fail
    go_ret
    exact ⟨rfl, hb3⟩

end Go.Proofs.Ytcembefhfadpbaa
