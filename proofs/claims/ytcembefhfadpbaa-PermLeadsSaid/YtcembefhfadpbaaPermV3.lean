/- The walk of perm.Steps. -/
import Derived.Test.YtcembefhfadpbaaPermV2
namespace Go.Proofs.Ytcembefhfadpbaa
open Go.RowKit

theorem OwnI.len {w : World} {base n c : Nat} {a : Option Addr} {zs : List Int} (h : OwnI w base (.slice a n c) zs) : n = zs.length := by
  rcases h.2 with ⟨hv, h0⟩ | ⟨g, cap, cur, hv, _⟩
  · simp only [Value.slice.injEq] at hv; omega
  · simp only [Value.slice.injEq] at hv; omega
theorem OwnI.intsAt {w : World} {base n c : Nat} {a : Option Addr} {zs : List Int} (h : OwnI w base (.slice a n c) zs) (hl : zs.length ≤ 9223372036854775807) : IntsAt w a zs := by
  obtain rfl := h.len
  exact intsAt_of_owns hl h
theorem index_at {a : Option Addr} {n c : Nat} {zs : List Int} {x : Int} {w : World} (hn : n = zs.length) (h : IntsAt w a zs) :
    Calls Try.prog 39 #[.slice a n c, .int .i64 x] w fun e w' => e = .returned (.int .i64 (placeZ zs x)) ∧ ∃ n, w' = w.drewN n := by
  subst hn; exact index_any a c zs x w h

set_option maxRecDepth 100000 in
set_option maxHeartbeats 1000000 in
theorem permSteps_any (va vb : Value) (xs ys : List Int) (w : World) (h : SliceIs w va xs) (h' : SliceIs w vb ys) (hlen : xs.length ≤ 1000) (hlen' : ys.length ≤ 1000) :
    Calls Try.prog 13 #[va, vb] w (RefStepsPost xs ys w) := by
  obtain ⟨a, c, rfl, ha, hna⟩ := h
  obtain ⟨b, c', rfl, hb, hnb⟩ := h'
  have HA := Lib.hid ha
  have HB := Lib.hid hb
  clear ha hb hna hnb
  by_cases hr : rightB xs = true
  · by_cases hr' : rightB ys = true
    · by_cases hl : xs.length = ys.length
      · have HE : Hid (stepsErr xs ys = 0) := by unfold stepsErr; rw [if_pos ⟨hr, hr'⟩, if_pos hl]; rfl
        have HF : Hid (stepsOf xs ys = stepsZ xs ys 0) := by unfold stepsOf; rw [if_pos ⟨hr, hr', hl⟩]; rfl
        have HR := Lib.hid hr
        have HR' := Lib.hid hr'
        have H3 : ((xs.length : Int) != ys.length) = false := by simp [hl]
        clear hr hr' hl
        go_enter Try.func13, Try.ntmps13
        go_wp2_with fail
        refine (permRight_any _ _ xs _ HA.out (by omega)).mono ?_
        rintro e w1 ⟨rfl, hb1⟩
        rw [HR.out]
        go_wp2_with fail
        refine (permRight_any _ _ ys _ (HB.out.below hb1) (by omega)).mono ?_
        rintro e w2 ⟨rfl, hb2⟩
        rw [HR'.out]
        have hb12 : Below w.heap.size w w2 := hb1.trans (hb2.mono hb1.size)
        go_wp2_with fail
        refine (clone_any _ _ xs _ (HA.out.below hb12) (by omega)).mono ?_
        rintro e w3 ⟨g, rfl, hown3, hb3⟩
        have hs2 := hb12.size
        have hg : w2.heap.size ≤ g := (hown3.lt g rfl).1
        have hbel3 : Below w.heap.size w w3 := hb12.trans (hb3.mono hs2)
        have hs3 : w2.heap.size ≤ w3.heap.size := hb3.size
        go_wp2_with fail
        go_loopw [6, 30] (fun s6 s30 wr => ∃ (k : Nat) (cur out : List Int), k ≤ ys.length ∧ s30 = .int .i64 k ∧ OwnI wr w2.heap.size (.slice (some ⟨g, 0, none⟩) xs.length xs.length) cur ∧ cur.length = xs.length ∧ OwnI wr w2.heap.size s6 out ∧ s6.ownBlock ≠ some g ∧ out.length ≤ k * 1000 ∧ out ++ stepsZ cur (ys.drop k) k = stepsZ xs ys 0 ∧ w2.heap.size ≤ wr.heap.size ∧ Below w2.heap.size w2 wr) (fun _ s30 _ => ys.length - (intOf s30).toNat)
        case atStart => exact ⟨0, xs, [], by omega, rfl, hown3, rfl, ownI_nil _ _, by simp [Value.ownBlock], by simp, by simp, hs3, hb3⟩
        case round =>
          obtain ⟨k, cur, out, hk, rfl, hcur, hcl, hown, hne, hol, hst, hsz, hbel⟩ := hrel
          have HST := Lib.hid hst
          have HCL := Lib.hid hcl
          have HNE := Lib.hid hne
          have hcl1 : cur.length ≤ 1000 := by omega
          clear hst hcl hne
          have HB1 := Lib.hid (HB.out.below (hb12.trans (hbel.mono hs2)))
          by_cases hlt : k < ys.length
          · obtain ⟨bb, off, rfl, hcell⟩ := HB1.out.cells k hlt
            have HDR := Lib.hid (stepsZ_drop cur ys k hlt)
            have HCI := Lib.hid (hcur.intsAt (by omega))
            go_wp2_with fail
            refine (index_at HCL.out.symm (HCI.out.drewN 0)).mono ?_
            rintro e w' ⟨rfl, n, rfl⟩
            have hp1 := placeZ_lo cur (at0 ys k)
            have hp2 := placeZ_lt cur (at0 ys k)
            have HBT := Lib.hid (bubTo_eq cur (at0 ys k) k)
            generalize placeZ cur (at0 ys k) = p at hp1 hp2 HBT ⊢
            go_wp2_with fail
            have hpl : p < xs.length ∨ p ≤ 0 := by have := HCL.out; omega
            obtain ⟨N, F, HN⟩ : ∃ (N F : List Int), Hid (N = (bub cur k (p - k).toNat).1 ∧ F = out ++ (bub cur k (p - k).toNat).2) := ⟨_, _, rfl, rfl⟩
            go_loopw [6, 10] (fun s6 s10 wi => ∃ (d : Nat) (c1 o1 : List Int) (q : Int), s10 = .int .i64 q ∧ -1 ≤ q ∧ q ≤ 1000 ∧ (q < xs.length ∨ q ≤ 0) ∧ (q ≤ k → d = 0) ∧ (k < q → q = k + d) ∧ OwnI wi w2.heap.size (.slice (some ⟨g, 0, none⟩) xs.length xs.length) c1 ∧ c1.length = xs.length ∧ OwnI wi w2.heap.size s6 o1 ∧ s6.ownBlock ≠ some g ∧ o1.length + d ≤ (k + 1) * 1000 ∧ N = (bub c1 k d).1 ∧ F = o1 ++ (bub c1 k d).2 ∧ w2.heap.size ≤ wi.heap.size ∧ Below w2.heap.size w2 wi) (fun _ s10 _ => (intOf s10 + 1).toNat)
            case atStart => exact ⟨(p - k).toNat, cur, out, p, rfl, hp1, by omega, hpl, by omega, by omega, hcur.drewN n, HCL.out, hown.drewN n, HNE.out, by omega, HN.out.1, HN.out.2, hsz, below_drewN hbel n⟩
            case round =>
              obtain ⟨d, c1, o1, q, rfl, hq1, hq2, hq3, hd1, hd2, hc1, hc1l, hown1, hne1, hol1, hN, hF, hsz1, hbel1⟩ := hrel
              have HN1 := Lib.hid hN
              have HF1 := Lib.hid hF
              have HC1 := Lib.hid hc1l
              have HNE1 := Lib.hid hne1
              have hc1m : c1.length ≤ 1000 := by omega
              clear hN hF hc1l hne1
              by_cases hqk : (k : Int) < q
              · obtain ⟨d, rfl⟩ : ∃ l, d = l + 1 := ⟨d - 1, by omega⟩
                have hqe : q = (k : Int) + d + 1 := by omega
                subst hqe
                have hkd : k + d + 1 < xs.length := by omega
                have hkd1 : k + d + 1 < c1.length := by rw [HC1.out]; exact hkd
                clear hd1 hd2 hq3
                have hw1 : IntKind.i64.wrap ((k : Int) + d + 1 - 1) = ((k + d : Nat) : Int) := by rw [IntWalk.i64_in _ (by omega)]; omega
                have q0 := hc1.cell (k + d) (by omega)
                have q1 := hc1.cell (k + d + 1) (by omega)
                have p0 := hc1.frozen (k + d)
                have p1 := hc1.frozen (k + d + 1)
                have t0 : ((k : Int) + d).toNat = k + d := by omega
                have t1 : ((k : Int) + d + 1).toNat = k + d + 1 := by omega
                go_wp2_with fail
                go_region
                have HSW := Lib.hid (swapZ_in (zs := c1) (k := k + d) hkd1)
                have hc3 := ((hc1.stored (k + d) (at0 c1 (k + d + 1))).stored (k + d + 1) (at0 c1 (k + d))).drewN 1
                have ho3 := ((hown1.setCell_other (a := ⟨g, k + d, none⟩) HNE1.out (.int .i64 (at0 c1 (k + d + 1)))).setCell_other (a := ⟨g, k + d + 1, none⟩) HNE1.out (.int .i64 (at0 c1 (k + d)))).drewN 1
                have hb4 := below_drewN ((hbel1.setCell (p := ⟨g, k + d, none⟩) hg (.int .i64 (at0 c1 (k + d + 1)))).setCell (p := ⟨g, k + d + 1, none⟩) hg (.int .i64 (at0 c1 (k + d)))) 1
                have hg1 := (hc1.lt g rfl).2
                go_wp2_with (at_builtin; go_loud (refine wpList_app1 _ rfl _ _ rfl w2.heap.size w2 _ o1 _ rfl rfl (by rfl) (by simp) ho3 (by omega) (by simpa using hsz1) hb4 ?_); intro v2 w4 hown4 hbel4 hsz4 hkb4)
                have hc4 := hc3.keep hkb4.keep (fun x hx hxx => by cases hx; exact HNE1.out hxx.symm)
                rw [← HSW.out] at hc4
                have hne4 := hkb4.ne HNE1.out (by simpa using hg1)
                go_roundw
                case rel => exact ⟨d, swapZ c1 ((k + d : Nat) : Int), o1 ++ [((k + d : Nat) : Int)], ((k + d : Nat) : Int), by go_num, by omega, by omega, by omega, by omega, by omega, hc4, by rw [swapZ_length]; exact HC1.out, hown4, hne4, by simp; omega, HN1.out, by rw [HF1.out, bub_succ2]; simp, hsz4, hbel4⟩
                case measure => simp [intOf]; omega
              · obtain rfl := hd1 (by omega)
                have HOW := Lib.hid hown1
                have hN2 : N = c1 := HN1.out
                have hF2 : F = o1 := by rw [HF1.out]; simp [bub]
                have HNN := Lib.hid hN2
                have HFF := Lib.hid hF2
                clear hN2 hF2 hd1 hd2 hown1
                go_wp2
                go_roundw
                case rel => exact ⟨k + 1, N, F, by omega, by go_num, by rw [HNN.out]; exact hc1, by rw [HNN.out]; exact HC1.out, by rw [HFF.out]; exact HOW.out, HNE1.out, by rw [HFF.out]; omega, by
                  rw [HN.out.1, HN.out.2, ← HST.out, HDR.out, HBT.out]; simp, hsz1, hbel1⟩
                case measure => simp [intOf]; omega
          · obtain rfl : k = ys.length := by omega
            have hfin : stepsZ xs ys 0 = out := by rw [← HST.out]; simp [stepsZ]
            have HFIN := Lib.hid hfin
            clear hfin
            go_wp2
            go_ret2
            exact steps_close HE.out (HF.out.trans HFIN.out) (hown.sliceIs (by omega)) (hb12.trans (hbel.mono hs2))
      · have HE : Hid (stepsErr xs ys = 3) := by unfold stepsErr; rw [if_pos ⟨hr, hr'⟩, if_neg hl]; rfl
        have HF : Hid (stepsOf xs ys = []) := by unfold stepsOf; rw [if_neg (fun hh => hl hh.2.2)]; rfl
        have HR := Lib.hid hr
        have HR' := Lib.hid hr'
        have H3 : ((xs.length : Int) != ys.length) = true := by simp; omega
        clear hr hr' hl
        go_enter Try.func13, Try.ntmps13
        go_wp2_with fail
        refine (permRight_any _ _ xs _ HA.out (by omega)).mono ?_
        rintro e w1 ⟨rfl, hb1⟩
        rw [HR.out]
        go_wp2_with fail
        refine (permRight_any _ _ ys _ (HB.out.below hb1) (by omega)).mono ?_
        rintro e w2 ⟨rfl, hb2⟩
        rw [HR'.out]
        go_wp2_with fail
        go_ret2
        exact steps_close HE.out HF.out (sliceIs_nil _) (hb1.trans (hb2.mono hb1.size))
    · have HE : Hid (stepsErr xs ys = 1) := by unfold stepsErr; rw [if_neg (fun hh => hr' hh.2)]; rfl
      have HF : Hid (stepsOf xs ys = []) := by unfold stepsOf; rw [if_neg (fun hh => hr' hh.2.1)]; rfl
      have hr'' : rightB ys = false := by simpa using hr'
      have HR := Lib.hid hr
      have HR' := Lib.hid hr''
      clear hr hr' hr''
      go_enter Try.func13, Try.ntmps13
      go_wp2_with fail
      refine (permRight_any _ _ xs _ HA.out (by omega)).mono ?_
      rintro e w1 ⟨rfl, hb1⟩
      rw [HR.out]
      go_wp2_with fail
      refine (permRight_any _ _ ys _ (HB.out.below hb1) (by omega)).mono ?_
      rintro e w2 ⟨rfl, hb2⟩
      rw [HR'.out]
      go_wp2_with fail
      go_ret2
      exact steps_close HE.out HF.out (sliceIs_nil _) (hb1.trans (hb2.mono hb1.size))
  · have HE : Hid (stepsErr xs ys = 1) := by unfold stepsErr; rw [if_neg (fun hh => hr hh.1)]; rfl
    have HF : Hid (stepsOf xs ys = []) := by unfold stepsOf; rw [if_neg (fun hh => hr hh.1)]; rfl
    have hr'' : rightB xs = false := by simpa using hr
    have HR := Lib.hid hr''
    clear hr hr''
    go_enter Try.func13, Try.ntmps13
    go_wp2_with fail
    refine (permRight_any _ _ xs _ HA.out (by omega)).mono ?_
    rintro e w1 ⟨rfl, hb1⟩
    rw [HR.out]
    go_wp2_with fail
    go_ret2
    exact steps_close HE.out HF.out (sliceIs_nil _) hb1

end Go.Proofs.Ytcembefhfadpbaa
