/- The reference's Nodes. -/
import Derived.Test.YtcembefhfadpbaaFind
namespace Go.Proofs.Ytcembefhfadpbaa
open Go.RowKit
open Go.Maps

theorem nodeIn_new (w : World) (n : Nd) (r : Int) : NodeIn (w.alloc (.cells #[.int .i64 n.id, .int .i64 n.v, .int .i64 n.lo, .int .i64 n.hi, .int .i64 r] 34)) w.heap.size n :=
  ⟨by simp, by simp, by simp, by simp⟩
theorem RN.new {e : TypeId} {w0 wr : World} {v : Value} {fs : List (Int × Int)} (hb : Below w0.heap.size w0 wr) (hsz : w0.heap.size ≤ wr.heap.size) (h : OwnF e wr w0.heap.size v fs) (n : Nd) (r : Int) :
    RN e w0 wr.heap.size n v fs (wr.alloc (.cells #[.int .i64 n.id, .int .i64 n.v, .int .i64 n.lo, .int .i64 n.hi, .int .i64 r] 34)) :=
  ⟨hb.alloc hsz _, by simp; omega, nodeIn_new _ _ _, World.ownsRow.alloc h _, fun e => by have := (h.lt _ e).2; omega⟩
theorem fl_true (k id : Int) : fl true k id = [(k, id)] := rfl
theorem fl_false {fs : List (Int × Int)} (k id : Int) : fs ++ fl false k id = fs := by simp [fl]
def matchB (q n : Nd) : Bool := decide (q.id = n.id ∨ (q.v = n.v ∧ q.lo = n.lo ∧ q.hi = n.hi))
theorem twB_true {l : List Nd} {i j : Nat} (hj : j < i) (h : matchB (nd l j) (nd l i) = true) : twB l i = true := by
  simp only [matchB, decide_eq_true_eq] at h
  simp only [twB, decide_eq_true_eq]
  exact ⟨j, hj, h⟩
theorem twB_false {l : List Nd} {i : Nat} (h : ∀ j, j < i → matchB (nd l j) (nd l i) = false) : twB l i = false := by
  simp only [twB, decide_eq_false_iff_not]
  rintro ⟨j, hj, hh⟩
  have := h j hj
  simp only [matchB, decide_eq_false_iff_not] at this
  exact this hh
theorem negB_lo {hi : Int} (h : ¬ 0 ≤ hi) : negB hi = false := by simp [negB, h]
theorem negB_odd {hi : Int} (h0 : 0 ≤ hi) (h : hi % 2 = 1) : negB hi = true := by simp [negB, h, h0]
theorem negB_even {hi : Int} (h : ¬ hi % 2 = 1) : negB hi = false := by simp [negB, h]

set_option maxRecDepth 100000 in
set_option maxHeartbeats 3200000 in
theorem refNodes_any (a a' : Option Addr) (c c' : Nat) (order : List Int) (l : List Nd) (w0 : World) (ho : IntsAt w0 a order) (h : NodesAt w0 a' l) (hlen : l.length ≤ 1000000000) :
    Calls Try.prog 11 #[.slice a order.length c, .slice a' l.length c'] w0 fun x w' => ∃ v, x = .returned v ∧ OwnF 30 w' w0.heap.size v (nodesF order l l.length) ∧ Below w0.heap.size w0 w' := by
  have HO := Lib.hid ho
  have HN := Lib.hid h
  clear ho h
  go_enter Try.func11, Try.ntmps11
  go_wp2
  go_loopw [5, 6] (fun s5 i w => ∃ k : Nat, ∃ v, k ≤ l.length ∧ s5 = v ∧ i = .int .i64 k ∧ Below w0.heap.size w0 w ∧ w0.heap.size ≤ w.heap.size ∧ OwnF 30 w w0.heap.size v (nodesF order l k)) (fun _ i _ => l.length - (intOf i).toNat)
  case atStart => exact ⟨0, _, Nat.zero_le _, rfl, rfl, Below.refl _ _, Nat.le_refl _, ownF_nil _ _ _⟩
  case round =>
    obtain ⟨k, v, hk, rfl, rfl, hb, hsz, hown⟩ := hrel
    have HB := Lib.hid hb
    have HW := Lib.hid hown
    clear hb hown
    by_cases hlt : k < l.length
    · obtain ⟨b, off, rfl, c0, c1, c2, c3, c4⟩ := (HN.out.below HB.out).cells k hlt
      obtain ⟨⟨i1, i2⟩, ⟨i3, i4⟩, ⟨i5, i6⟩, ⟨i7, i8⟩⟩ := HN.out.ok k hlt
      obtain ⟨n, hn⟩ : ∃ n, nd l k = n := ⟨_, rfl⟩
      obtain ⟨r, hr⟩ : ∃ r, (nd l k).refs = r := ⟨_, rfl⟩
      obtain ⟨fs, hfs⟩ : ∃ fs, nodesF order l k = fs := ⟨_, rfl⟩
      have HL : Hid (fs.length ≤ 5 * k) := by
        show _ ≤ _
        have := nodesF_length order l k
        rw [hfs] at this
        exact this
      rw [hr] at c4
      rw [hn] at c0 c1 c2 c3 i1 i2 i3 i4 i5 i6 i7 i8
      have HFS := Lib.hid hfs
      have HND := Lib.hid hn
      clear hn hr hfs
      go_upto_region 6 with fail
      go_cut [5, 7, 28] (fun s5 s7 s28 wx => ∃ N v1, s5 = v1 ∧ s7 = .pointer (some ⟨N, 0, none⟩) ∧ s28 = .bool (negB n.hi) ∧ RN 30 w0 N n v1 fs wx)
      case first =>
        by_cases hh : 0 ≤ n.hi
        · by_cases h1 : n.hi % 2 = 1
          · have H1 : (n.hi % 2 == 1) = true := by simpa using h1
            have HX := Lib.hid (negB_odd hh h1)
            clear h1
            go_wp2_with fail
            go_meet
            exact ⟨_, _, rfl, rfl, by rw [HX.out], RN.new HB.out hsz (by rw [← HFS.out]; exact HW.out) n r⟩
          · have H1 : (n.hi % 2 == 1) = false := by simpa using h1
            have HX := Lib.hid (negB_even h1)
            clear h1
            go_wp2_with fail
            go_meet
            exact ⟨_, _, rfl, rfl, by rw [HX.out], RN.new HB.out hsz (by rw [← HFS.out]; exact HW.out) n r⟩
        · have HX := Lib.hid (negB_lo hh)
          go_wp2_with fail
          go_meet
          exact ⟨_, _, rfl, rfl, by rw [HX.out], RN.new HB.out hsz (by rw [← HFS.out]; exact HW.out) n r⟩
      case rest =>
        obtain ⟨N, v1, rfl, rfl, rfl, hrn⟩ := hcut
        have HR := Lib.hid hrn
        clear hrn c0 c1 c2 c3 c4 HW HB
        obtain ⟨d0, d1, d2, d3⟩ := HR.out.nin
        go_upto_if 28 with fail
        go_cut [5] (fun s5 wx => ∃ v', s5 = v' ∧ RN 30 w0 N n v' (fs ++ fl (negB n.hi) 4 n.id) wx)
        case first =>
          by_cases hc : (negB n.hi) = true
          · have HC := Lib.hid hc
            rw [hc]
            clear hc
            go_wp2_with (at_builtin; refine wpList_appF 30 27 Try.underlying27 infoFR _ rfl _ _ rfl w0.heap.size w0 _ fs _ _ rfl rfl rfl rfl (by exact HR.out.own) (by have := HL.out; omega) (by exact HR.out.size) (by exact HR.out.below) ?_; intro v' w' h1 h2 h3 h4)
            go_meet
            exact ⟨_, rfl, by rw [HC.out, fl_true]; exact HR.out.app h1 h2 h3 h4⟩
          · have hc' : (negB n.hi) = false := by simpa using hc
            rw [hc']
            have HC := Lib.hid hc'
            clear hc hc'
            go_wp2_with fail
            go_meet
            exact ⟨_, rfl, by rw [HC.out, fl_false]; exact HR.out⟩
        case rest =>
          obtain ⟨v2, rfl, hrn⟩ := hcut
          obtain ⟨fs1, hf⟩ : ∃ x, x = fs ++ fl (negB n.hi) 4 n.id := ⟨_, rfl⟩
          rw [← hf] at hrn
          clear HR
          have HR := Lib.hid hrn
          have HF1 := Lib.hid hf
          have HL' : Hid (fs1.length ≤ 5 * k + 1) := by
            show _ ≤ _
            rw [hf, List.length_append]
            have := HL.out
            have := fl_length (negB n.hi) 4 n.id
            omega
          clear HL hrn hf d0 d1 d2 d3
          have HL := Lib.hid HL'.out
          clear HL'
          obtain ⟨d0, d1, d2, d3⟩ := HR.out.nin
          go_upto_if 39 with fail
          go_cut [5] (fun s5 wx => ∃ v', s5 = v' ∧ RN 30 w0 N n v' (fs1 ++ fl (n.lo == n.hi) 3 n.id) wx)
          case first =>
            by_cases hc : (n.lo == n.hi) = true
            · have HC := Lib.hid hc
              rw [hc]
              clear hc
              go_wp2_with (at_builtin; refine wpList_appF 30 27 Try.underlying27 infoFR _ rfl _ _ rfl w0.heap.size w0 _ fs1 _ _ rfl rfl rfl rfl (by exact HR.out.own) (by have := HL.out; omega) (by exact HR.out.size) (by exact HR.out.below) ?_; intro v' w' h1 h2 h3 h4)
              go_meet
              exact ⟨_, rfl, by rw [HC.out, fl_true]; exact HR.out.app h1 h2 h3 h4⟩
            · have hc' : (n.lo == n.hi) = false := by simpa using hc
              rw [hc']
              have HC := Lib.hid hc'
              clear hc hc'
              go_wp2_with fail
              go_meet
              exact ⟨_, rfl, by rw [HC.out, fl_false]; exact HR.out⟩
          case rest =>
            obtain ⟨v3, rfl, hrn⟩ := hcut
            obtain ⟨fs2, hf⟩ : ∃ x, x = fs1 ++ fl (n.lo == n.hi) 3 n.id := ⟨_, rfl⟩
            rw [← hf] at hrn
            clear HR
            have HR := Lib.hid hrn
            have HF2 := Lib.hid hf
            have HL' : Hid (fs2.length ≤ 5 * k + 2) := by
              show _ ≤ _
              rw [hf, List.length_append]
              have := HL.out
              have := fl_length (n.lo == n.hi) 3 n.id
              omega
            clear HL hrn hf d0 d1 d2 d3
            have HL := Lib.hid HL'.out
            clear HL'
            obtain ⟨d0, d1, d2, d3⟩ := HR.out.nin
            go_upto_region 10 with fail
            go_cut [55] (fun s wx => s = .bool (lostB n.lo l || lostB n.hi l) ∧ RN 30 w0 N n u5 fs2 wx)
            case first =>
              cases hx : lostB n.lo l with
              | true =>
                have HX := Lib.hid hx
                clear hx
                go_wp2_with fail
                refine (refLost_any _ _ _ l _ (HN.out.below HR.out.below) i6).mono ?_
                rintro x w' ⟨rfl, rfl⟩
                rw [HX.out]
                go_wp2_with fail
                go_meet
                exact ⟨by rw [HX.out]; rfl, HR.out⟩
              | false =>
                have HX := Lib.hid hx
                clear hx
                go_wp2_with fail
                refine (refLost_any _ _ _ l _ (HN.out.below HR.out.below) i6).mono ?_
                rintro x w' ⟨rfl, rfl⟩
                rw [HX.out]
                go_wp2_with fail
                refine (refLost_any _ _ _ l _ (HN.out.below HR.out.below) i8).mono ?_
                rintro x w' ⟨rfl, rfl⟩
                go_wp2_with fail
                go_meet
                exact ⟨by rw [HX.out]; rfl, HR.out⟩
            case rest =>
              obtain ⟨rfl, hrn⟩ := hcut
              clear HR d0 d1 d2 d3
              have HR := Lib.hid hrn
              clear hrn
              obtain ⟨d0, d1, d2, d3⟩ := HR.out.nin
              go_upto_if 55 with fail
              go_cut [5] (fun s5 wx => ∃ v', s5 = v' ∧ RN 30 w0 N n v' (fs2 ++ fl (lostB n.lo l || lostB n.hi l) 5 n.id) wx)
              case first =>
                by_cases hc : (lostB n.lo l || lostB n.hi l) = true
                · have HC := Lib.hid hc
                  rw [hc]
                  clear hc
                  go_wp2_with (at_builtin; refine wpList_appF 30 27 Try.underlying27 infoFR _ rfl _ _ rfl w0.heap.size w0 _ fs2 _ _ rfl rfl rfl rfl (by exact HR.out.own) (by have := HL.out; omega) (by exact HR.out.size) (by exact HR.out.below) ?_; intro v' w' h1 h2 h3 h4)
                  go_meet
                  exact ⟨_, rfl, by rw [HC.out, fl_true]; exact HR.out.app h1 h2 h3 h4⟩
                · have hc' : (lostB n.lo l || lostB n.hi l) = false := by simpa using hc
                  rw [hc']
                  have HC := Lib.hid hc'
                  clear hc hc'
                  go_wp2_with fail
                  go_meet
                  exact ⟨_, rfl, by rw [HC.out, fl_false]; exact HR.out⟩
              case rest =>
                obtain ⟨v4, rfl, hrn⟩ := hcut
                obtain ⟨fs3, hf⟩ : ∃ x, x = fs2 ++ fl (lostB n.lo l || lostB n.hi l) 5 n.id := ⟨_, rfl⟩
                rw [← hf] at hrn
                clear HR
                have HR := Lib.hid hrn
                have HF3 := Lib.hid hf
                have HL' : Hid (fs3.length ≤ 5 * k + 3) := by
                  show _ ≤ _
                  rw [hf, List.length_append]
                  have := HL.out
                  have := fl_length (lostB n.lo l || lostB n.hi l) 5 n.id
                  omega
                clear HL hrn hf d0 d1 d2 d3
                have HL := Lib.hid HL'.out
                clear HL'
                obtain ⟨d0, d1, d2, d3⟩ := HR.out.nin
                obtain ⟨p, hp⟩ : ∃ p, placeZ order n.v = p := ⟨_, rfl⟩
                have HP := Lib.hid hp
                clear hp
                go_wp2_with fail
                refine (refAPlace_any _ _ order _ _ (HO.out.below HR.out.below)).mono ?_
                rintro x w' ⟨rfl, rfl⟩
                rw [HP.out]
                go_upto_region 13 with fail
                go_cut [83] (fun s wx => s = .bool (orderB order l n) ∧ RN 30 w0 N n u5 fs3 wx)
                case first =>
                  by_cases hx : p < 0
                  · have HX : Hid (orderB order l n = true) := by show _ = _; simp [orderB, HP.out, hx]
                    go_wp2_with fail
                    go_meet
                    exact ⟨by rw [HX.out], HR.out⟩
                  · cases hy : wrongB p n.lo order l with
                    | true =>
                      have HX : Hid (orderB order l n = true) := by show _ = _; simp [orderB, HP.out, hy]
                      have HY := Lib.hid hy
                      clear hy
                      go_wp2_with fail
                      refine (refWrong_any _ _ _ _ _ _ order l _ (HO.out.below HR.out.below) (HN.out.below HR.out.below) i6).mono ?_
                      rintro x w' ⟨rfl, rfl⟩
                      rw [HY.out]
                      go_wp2_with fail
                      go_meet
                      exact ⟨by rw [HX.out], HR.out⟩
                    | false =>
                      have HX : Hid (orderB order l n = wrongB p n.hi order l) := by show _ = _; simp [orderB, HP.out, hy, hx]
                      have HY := Lib.hid hy
                      clear hy
                      go_wp2_with fail
                      refine (refWrong_any _ _ _ _ _ _ order l _ (HO.out.below HR.out.below) (HN.out.below HR.out.below) i6).mono ?_
                      rintro x w' ⟨rfl, rfl⟩
                      rw [HY.out]
                      go_wp2_with fail
                      refine (refWrong_any _ _ _ _ _ _ order l _ (HO.out.below HR.out.below) (HN.out.below HR.out.below) i8).mono ?_
                      rintro x w' ⟨rfl, rfl⟩
                      go_wp2_with fail
                      go_meet
                      exact ⟨by rw [HX.out], HR.out⟩
                case rest =>
                  obtain ⟨rfl, hrn⟩ := hcut
                  clear HR d0 d1 d2 d3
                  have HR := Lib.hid hrn
                  clear hrn
                  obtain ⟨d0, d1, d2, d3⟩ := HR.out.nin
                  go_upto_if 83 with fail
                  go_cut [5] (fun s5 wx => ∃ v', s5 = v' ∧ RN 30 w0 N n v' (fs3 ++ fl (orderB order l n) 1 n.id) wx)
                  case first =>
                    by_cases hc : (orderB order l n) = true
                    · have HC := Lib.hid hc
                      rw [hc]
                      clear hc
                      go_wp2_with (at_builtin; refine wpList_appF 30 27 Try.underlying27 infoFR _ rfl _ _ rfl w0.heap.size w0 _ fs3 _ _ rfl rfl rfl rfl (by exact HR.out.own) (by have := HL.out; omega) (by exact HR.out.size) (by exact HR.out.below) ?_; intro v' w' h1 h2 h3 h4)
                      go_meet
                      exact ⟨_, rfl, by rw [HC.out, fl_true]; exact HR.out.app h1 h2 h3 h4⟩
                    · have hc' : (orderB order l n) = false := by simpa using hc
                      rw [hc']
                      have HC := Lib.hid hc'
                      clear hc hc'
                      go_wp2_with fail
                      go_meet
                      exact ⟨_, rfl, by rw [HC.out, fl_false]; exact HR.out⟩
                  case rest =>
                    obtain ⟨v5, rfl, hrn⟩ := hcut
                    obtain ⟨fs4, hf⟩ : ∃ x, x = fs3 ++ fl (orderB order l n) 1 n.id := ⟨_, rfl⟩
                    rw [← hf] at hrn
                    clear HR
                    have HR := Lib.hid hrn
                    have HF4 := Lib.hid hf
                    have HL' : Hid (fs4.length ≤ 5 * k + 4) := by
                      show _ ≤ _
                      rw [hf, List.length_append]
                      have := HL.out
                      have := fl_length (orderB order l n) 1 n.id
                      omega
                    clear HL hrn hf d0 d1 d2 d3
                    have HL := Lib.hid HL'.out
                    clear HL'
                    go_wp2
                    go_loopw [5, 9] (fun s5 s9 wx => ∃ v' m, s5 = v' ∧ s9 = .int .i64 (m : Nat) ∧ ((m ≤ k ∧ RN 30 w0 N n v' fs4 wx ∧ ∀ j, j < m → matchB (nd l j) n = false) ∨ (m = k + 1 ∧ RN 30 w0 N n v' (fs4 ++ [(2, n.id)]) wx ∧ ∃ j, j < k ∧ matchB (nd l j) n = true))) (fun _ i _ => k + 1 - (intOf i).toNat)
                    case atStart => exact ⟨_, 0, rfl, rfl, .inl ⟨Nat.zero_le _, HR.out, by omega⟩⟩
                    case round =>
                      clear HR
                      obtain ⟨v', m, rfl, rfl, hcase⟩ := hrel
                      by_cases hlt2 : m < k
                      · have hcase' := hcase.resolve_right (fun h => by have := h.1; omega)
                        clear hcase
                        obtain ⟨hm, hrn, hno⟩ := hcase'
                        have HR := Lib.hid hrn
                        have HNO := Lib.hid hno
                        clear hrn hno
                        obtain ⟨b', off', heq, e0, e1, e2, e3, e4⟩ := (HN.out.below HR.out.below).cells m (by omega)
                        cases heq
                        obtain ⟨q, hq⟩ : ∃ q, nd l m = q := ⟨_, rfl⟩
                        rw [hq] at e0 e1 e2 e3 e4
                        have HQ := Lib.hid hq
                        clear hq
                        obtain ⟨d0, d1, d2, d3⟩ := HR.out.nin
                        go_upto_region 18 with fail
                        go_cut [132] (fun s wx => s = .bool (matchB q n) ∧ RN 30 w0 N n u5 fs4 wx)
                        case first =>
                          by_cases hi0 : q.id = n.id
                          · have H1 : (q.id == n.id) = true := by simpa using hi0
                            have HX : Hid (matchB q n = true) := by show _ = _; simp [matchB, hi0]
                            clear hi0
                            go_quiet (fail)
                            go_wp2_with fail
                            go_meet
                            exact ⟨by rw [HX.out], HR.out.drewN _⟩
                          · have H1 : (q.id == n.id) = false := by simpa using hi0
                            by_cases hv : q.v = n.v
                            · have H2 : (q.v == n.v) = true := by simpa using hv
                              by_cases hl : q.lo = n.lo
                              · have H3 : (q.lo == n.lo) = true := by simpa using hl
                                have HX : Hid (matchB q n = (q.hi == n.hi)) := by show _ = _; simp [matchB, hi0, hv, hl]; exact decide_eq_decide.2 Iff.rfl
                                clear hi0 hv hl
                                go_quiet (fail)
                                go_wp2_with fail
                                go_meet
                                exact ⟨by rw [HX.out], HR.out.drewN _⟩
                              · have H3 : (q.lo == n.lo) = false := by simpa using hl
                                have HX : Hid (matchB q n = false) := by show _ = _; simp [matchB, hi0, hv, hl]
                                clear hi0 hv hl
                                go_quiet (fail)
                                go_wp2_with fail
                                go_meet
                                exact ⟨by rw [HX.out], HR.out.drewN _⟩
                            · have H2 : (q.v == n.v) = false := by simpa using hv
                              have HX : Hid (matchB q n = false) := by show _ = _; simp [matchB, hi0, hv]
                              clear hi0 hv
                              go_quiet (fail)
                              go_wp2_with fail
                              go_meet
                              exact ⟨by rw [HX.out], HR.out.drewN _⟩
                        case rest =>
                          obtain ⟨rfl, hrn⟩ := hcut
                          clear HR d0 d1 d2 d3 e0 e1 e2 e3 e4
                          have HR := Lib.hid hrn
                          clear hrn
                          obtain ⟨d0, d1, d2, d3⟩ := HR.out.nin
                          cases hc : matchB q n with
                          | true =>
                            have HC := Lib.hid hc
                            clear hc
                            go_wp2_with (at_builtin; refine wpList_appF 30 27 Try.underlying27 infoFR _ rfl _ _ rfl w0.heap.size w0 _ fs4 _ _ rfl rfl rfl rfl (by exact HR.out.own) (by have := HL.out; omega) (by exact HR.out.size) (by exact HR.out.below) ?_; intro v' w' h1 h2 h3 h4)
                            go_roundw
                            case rel => exact ⟨_, k + 1, rfl, by go_num, .inr ⟨rfl, HR.out.app h1 h2 h3 h4, m, hlt2, by rw [HQ.out, HC.out]⟩⟩
                            case measure => simp [intOf]; omega
                          | false =>
                            have HC := Lib.hid hc
                            clear hc
                            go_wp2_with fail
                            go_roundw
                            case rel => exact ⟨_, m + 1, rfl, by go_num, .inl ⟨by omega, HR.out, fun j hj => by
                              by_cases e : j = m
                              · subst e; rw [HQ.out, HC.out]
                              · exact HNO.out j (by omega)⟩⟩
                            case measure => simp [intOf]; omega
                      · have HCASE := Lib.hid hcase
                        clear hcase
                        have hmk : k ≤ m := by omega
                        go_wp2
                        have HF : ∃ fs', RN 30 w0 N n u5 fs' wr ∧ nodesF order l (k + 1) = fs' := by
                          refine ⟨fs4 ++ fl (twB l k) 2 n.id, ?_, ?_⟩
                          · rcases HCASE.out with ⟨h1, h2, h3⟩ | ⟨h1, h2, j, hj, h3⟩
                            · rw [twB_false (by rw [HND.out]; exact fun j hj => h3 j (by omega)), fl_false]; exact h2
                            · rw [twB_true hj (by rw [HND.out]; exact h3), fl_true]; exact h2
                          · rw [nodesF_succ, HFS.out, nodeF, HND.out, HF4.out, HF3.out, HF2.out, HF1.out]; simp only [List.append_assoc]
                        obtain ⟨fs', hr, hf⟩ := HF
                        go_roundw
                        case rel => exact ⟨k + 1, _, by omega, rfl, by go_num, hr.below, hr.size, by rw [hf]; exact hr.own⟩
                        case measure => simp [intOf]; omega
    · go_wp2
      obtain rfl : k = l.length := by omega
      go_ret
      exact ⟨_, rfl, HW.out, HB.out⟩
end Go.Proofs.Ytcembefhfadpbaa
