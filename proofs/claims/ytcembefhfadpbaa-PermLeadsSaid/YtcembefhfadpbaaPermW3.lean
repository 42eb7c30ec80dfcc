/- The walks of the order functions' references, third part: Steps. -/
import Derived.Test.YtcembefhfadpbaaPermW2
namespace Go.Proofs.Ytcembefhfadpbaa
open Go.RowKit

theorem bubTo_eq (zs : List Int) (x : Int) (i : Nat) : bubTo zs x i = bub zs i (placeZ zs x - i).toNat := rfl
theorem bub_succ1 (zs : List Int) (i d : Nat) : (bub zs i (d + 1)).1 = (bub (swapZ zs ((i + d : Nat) : Int)) i d).1 := rfl
theorem bub_succ2 (zs : List Int) (i d : Nat) : (bub zs i (d + 1)).2 = ((i + d : Nat) : Int) :: (bub (swapZ zs ((i + d : Nat) : Int)) i d).2 := rfl

def RefStepsPost (a b : List Int) (w : World) (e : Ending) (w' : World) : Prop :=
  ∃ v, e = .returned (.tuple #[v, .int .i64 (stepsErr a b)]) ∧ SliceIs w' v (stepsOf a b) ∧ Below w.heap.size w w'

theorem steps_close {a b r : List Int} {w w' : World} {v : Value} {E : Int} (hE : stepsErr a b = E) (hr : stepsOf a b = r) (hs : SliceIs w' v r) (hb : Below w.heap.size w w') :
    RefStepsPost a b w (.returned (.tuple #[v, .int .i64 E])) w' := ⟨v, by rw [hE], by rw [hr]; exact hs, hb⟩

set_option maxHeartbeats 800000 in
theorem refSteps_any (va vb : Value) (xs ys : List Int) (w : World) (h : SliceIs w va xs) (h' : SliceIs w vb ys) (hlen : xs.length ≤ 1000) (hlen' : ys.length ≤ 1000) :
    Calls Try.prog 14 #[va, vb] w (RefStepsPost xs ys w) := by
  obtain ⟨a, c, rfl, ha, hna⟩ := h
  obtain ⟨b, c', rfl, hb, hnb⟩ := h'
  have HA := Lib.hid ha
  have HB := Lib.hid hb
  have HNA := Lib.hid hna
  clear ha hb hna hnb
  by_cases hr : rightB xs = true
  · by_cases hr' : rightB ys = true
    · by_cases hl : xs.length = ys.length
      · have HE : Hid (stepsErr xs ys = 0) := by unfold stepsErr; rw [if_pos ⟨hr, hr'⟩, if_pos hl]; rfl
        have HF : Hid (stepsOf xs ys = stepsZ xs ys 0) := by unfold stepsOf; rw [if_pos ⟨hr, hr', hl⟩]; rfl
        have HR := Lib.hid hr
        have HR' := Lib.hid hr'
        have HL := Lib.hid hl
        have H3 : ((xs.length : Int) != ys.length) = false := by simp [hl]
        clear hr hr' hl
        go_enter Try.func14, Try.ntmps14
        go_wp2_with fail
        refine (refRight_any _ _ xs _ HA.out).mono ?_
        rintro e w' ⟨rfl, n, rfl⟩
        rw [HR.out]
        go_wp2_with fail
        refine (refRight_any _ _ ys _ (HB.out.drewN n)).mono ?_
        rintro e w' ⟨rfl, n2, rfl⟩
        rw [HR'.out]
        go_wp2_with fail
        go_loopw [0, 6, 7] (fun s0 s6 s7 wr => ∃ (k : Nat) (cur out : List Int), k ≤ ys.length ∧ s7 = .int .i64 k ∧ SliceIs wr s0 cur ∧ cur.length = xs.length ∧ OwnI wr w.heap.size s6 out ∧ out.length ≤ k * 1000 ∧ out ++ stepsZ cur (ys.drop k) k = stepsZ xs ys 0 ∧ w.heap.size ≤ wr.heap.size ∧ Below w.heap.size w wr) (fun _ _ s7 _ => ys.length - (intOf s7).toNat)
        case atStart => exact ⟨0, xs, [], by omega, rfl, ⟨_, _, rfl, HA.out.below (below_drawnew _ _ _), HNA.out⟩, rfl, ownI_new (w.drewN _) _ (Nat.le_refl _), by simp, by simp, by simp, below_drawnew _ _ _⟩
        case round =>
          obtain ⟨k, cur, out, hk, rfl, hcur, hcl, hown, hol, hst, hsz, hbel⟩ := hrel
          have HST := Lib.hid hst
          have HCL := Lib.hid hcl
          have hcl1 : cur.length ≤ 1000 := by omega
          obtain ⟨ac, cc, rfl, hca, hcn⟩ := hcur
          have HCA := Lib.hid hca
          have HCN := Lib.hid hcn
          clear hst hcl hca hcn
          have HB1 := Lib.hid (HB.out.below hbel)
          by_cases hlt : k < ys.length
          · obtain ⟨bb, off, rfl, hcell⟩ := HB1.out.cells k hlt
            have HDR := Lib.hid (stepsZ_drop cur ys k hlt)
            go_wp2_with fail
            refine (refPlace_any _ _ cur _ _ HCA.out).mono ?_
            rintro e w' ⟨rfl, n, rfl⟩
            have hp1 := placeZ_lo cur (at0 ys k)
            have hp2 := placeZ_lt cur (at0 ys k)
            have HBT := Lib.hid (bubTo_eq cur (at0 ys k) k)
            generalize placeZ cur (at0 ys k) = p at hp1 hp2 HBT ⊢
            go_wp2_with fail
            obtain ⟨N, F, HN⟩ : ∃ (N F : List Int), Hid (N = (bub cur k (p - k).toNat).1 ∧ F = out ++ (bub cur k (p - k).toNat).2) := ⟨_, _, rfl, rfl⟩
            go_loopw [0, 6, 8] (fun s0 s6 s8 wi => ∃ (d : Nat) (c1 o1 : List Int) (q : Int), s8 = .int .i64 q ∧ -1 ≤ q ∧ q ≤ 1000 ∧ (q ≤ k → d = 0) ∧ (k < q → q = k + d) ∧ SliceIs wi s0 c1 ∧ c1.length = xs.length ∧ OwnI wi w.heap.size s6 o1 ∧ o1.length + d ≤ (k + 1) * 1000 ∧ N = (bub c1 k d).1 ∧ F = o1 ++ (bub c1 k d).2 ∧ w.heap.size ≤ wi.heap.size ∧ Below w.heap.size w wi) (fun _ _ s8 _ => (intOf s8 + 1).toNat)
            case atStart => exact ⟨(p - k).toNat, cur, out, p, rfl, hp1, by omega, by omega, by omega, ⟨_, _, rfl, HCA.out.drewN n, HCN.out⟩, HCL.out, hown.drewN n, by omega, HN.out.1, HN.out.2, hsz, below_drewN hbel n⟩
            case round =>
              obtain ⟨d, c1, o1, q, rfl, hq1, hq2, hd1, hd2, hc1, hc1l, hown1, hol1, hN, hF, hsz1, hbel1⟩ := hrel
              obtain ⟨ac1, cc1, rfl, hca1, hcn1⟩ := hc1
              have HCA1 := Lib.hid hca1
              have HCN1 := Lib.hid hcn1
              have HN1 := Lib.hid hN
              have HF1 := Lib.hid hF
              have HC1 := Lib.hid hc1l
              have hc1m : c1.length ≤ 1000 := by omega
              clear hca1 hcn1 hN hF hc1l
              by_cases hqk : (k : Int) < q
              · obtain ⟨d, rfl⟩ : ∃ l, d = l + 1 := ⟨d - 1, by omega⟩
                have hqe : q = (k : Int) + d + 1 := by omega
                subst hqe
                clear hd1 hd2
                have hw1 : IntKind.i64.wrap ((k : Int) + d + 1 - 1) = ((k + d : Nat) : Int) := by rw [IntWalk.i64_in _ (by omega)]; omega
                go_wp2_with fail
                refine (refSwap_any _ _ c1 _ _ HCA1.out HCN1.out (by omega)).mono ?_
                rintro e w1 ⟨v1, rfl, hown2, hbel2⟩
                have hsz2 : w.heap.size ≤ w1.heap.size := by have := hbel2.size; omega
                have hown3 := hown1.below hbel2
                have hbel3 := hbel1.trans (hbel2.mono hsz1)
                go_wp2_with (at_builtin; refine wpList_app1 _ rfl _ _ rfl w.heap.size w _ o1 _ rfl rfl rfl rfl (by exact hown3) (by omega) hsz2 hbel3 ?_; intro v2 w2 hown4 hbel4 hsz4 hkb4)
                have hown2k := hown2.keep hkb4.keep (fun x hx hxx => by have h1 := (hown2.lt x hx).1; have h2 := (hown1.lt x hxx.symm).2; omega)
                go_roundw
                case rel => exact ⟨d, swapZ c1 ((k + d : Nat) : Int), o1 ++ [((k + d : Nat) : Int)], ((k + d : Nat) : Int), by go_num, by omega, by omega, by omega, by omega, hown2k.sliceIs (by rw [swapZ_length]; omega), by rw [swapZ_length]; exact HC1.out, hown4, by simp; omega, HN1.out, by rw [HF1.out, bub_succ2]; simp, hsz4, hbel4⟩
                case measure => simp [intOf]; omega
              · obtain rfl := hd1 (by omega)
                have HOW := Lib.hid hown1
                have hN2 : N = c1 := HN1.out
                have hF2 : F = o1 := by rw [HF1.out]; simp [bub]
                have HNN := Lib.hid hN2
                have HFF := Lib.hid hF2
                clear hN2 hF2 hd1 hd2 hown1
                go_wp2
                go_roundw
                case rel => exact ⟨k + 1, N, F, by omega, by go_num, by rw [HNN.out]; exact ⟨_, _, rfl, HCA1.out, HCN1.out⟩, by rw [HNN.out]; exact HC1.out, by rw [HFF.out]; exact HOW.out, by rw [HFF.out]; omega, by
                  rw [HN.out.1, HN.out.2, ← HST.out, HDR.out, HBT.out]; simp, hsz1, hbel1⟩
                case measure => simp [intOf]; omega
          · obtain rfl : k = ys.length := by omega
            have hfin : stepsZ xs ys 0 = out := by rw [← HST.out]; simp [stepsZ]
            have HFIN := Lib.hid hfin
            clear hfin
            go_wp2
            go_ret2
            exact steps_close HE.out (HF.out.trans HFIN.out) (hown.sliceIs (by omega)) hbel
      · have HE : Hid (stepsErr xs ys = 3) := by unfold stepsErr; rw [if_pos ⟨hr, hr'⟩, if_neg hl]; rfl
        have HF : Hid (stepsOf xs ys = []) := by unfold stepsOf; rw [if_neg (fun hh => hl hh.2.2)]; rfl
        have HR := Lib.hid hr
        have HR' := Lib.hid hr'
        have H3 : ((xs.length : Int) != ys.length) = true := by simp; omega
        clear hr hr' hl
        go_enter Try.func14, Try.ntmps14
        go_wp2_with fail
        refine (refRight_any _ _ xs _ HA.out).mono ?_
        rintro e w' ⟨rfl, n, rfl⟩
        rw [HR.out]
        go_wp2_with fail
        refine (refRight_any _ _ ys _ (HB.out.drewN n)).mono ?_
        rintro e w' ⟨rfl, n2, rfl⟩
        rw [HR'.out]
        go_wp2_with fail
        go_ret2
        exact steps_close HE.out HF.out (sliceIs_nil _) (below_draw _ _)
    · have HE : Hid (stepsErr xs ys = 1) := by unfold stepsErr; rw [if_neg (fun hh => hr' hh.2)]; rfl
      have HF : Hid (stepsOf xs ys = []) := by unfold stepsOf; rw [if_neg (fun hh => hr' hh.2.1)]; rfl
      have hr'' : rightB ys = false := by simpa using hr'
      have HR := Lib.hid hr
      have HR' := Lib.hid hr''
      clear hr hr' hr''
      go_enter Try.func14, Try.ntmps14
      go_wp2_with fail
      refine (refRight_any _ _ xs _ HA.out).mono ?_
      rintro e w' ⟨rfl, n, rfl⟩
      rw [HR.out]
      go_wp2_with fail
      refine (refRight_any _ _ ys _ (HB.out.drewN n)).mono ?_
      rintro e w' ⟨rfl, n2, rfl⟩
      rw [HR'.out]
      go_wp2_with fail
      go_ret2
      exact steps_close HE.out HF.out (sliceIs_nil _) (below_draw _ _)
  · have HE : Hid (stepsErr xs ys = 1) := by unfold stepsErr; rw [if_neg (fun hh => hr hh.1)]; rfl
    have HF : Hid (stepsOf xs ys = []) := by unfold stepsOf; rw [if_neg (fun hh => hr hh.1)]; rfl
    have hr'' : rightB xs = false := by simpa using hr
    have HR := Lib.hid hr''
    clear hr hr''
    go_enter Try.func14, Try.ntmps14
    go_wp2_with fail
    refine (refRight_any _ _ xs _ HA.out).mono ?_
    rintro e w' ⟨rfl, n, rfl⟩
    rw [HR.out]
    go_wp2_with fail
    go_ret2
    exact steps_close HE.out HF.out (sliceIs_nil _) (below_draw _ _)

end Go.Proofs.Ytcembefhfadpbaa
