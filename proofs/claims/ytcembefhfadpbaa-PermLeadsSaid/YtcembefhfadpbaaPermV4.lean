/- The walks of Move, Inverse, Turn. -/
import Derived.Test.YtcembefhfadpbaaPermV3
import Derived.Test.YtcembefhfadpbaaPermM2
import Derived.Test.YtcembefhfadpbaaShelf
namespace Go.Proofs.Ytcembefhfadpbaa
open Go.RowKit

theorem refSwap_v {v : Value} {zs : List Int} {i : Int} {w : World} (h : SliceIs w v zs) (hlen : zs.length < 1000000) :
    Calls Try.prog 24 #[v, .int .i64 i] w fun e w' => ∃ v, e = .returned v ∧ OwnI w' w.heap.size v (swapZ zs i) ∧ Below w.heap.size w w' := by
  obtain ⟨a, c, rfl, h1, h2⟩ := h
  exact refSwap_any a c zs i w h1 h2 hlen

set_option maxHeartbeats 400000 in
theorem refMove_any (a : Option Addr) (c : Nat) (zs : List Int) (f t : Int) (w : World) (h : IntsAt w a zs) (hn : a = none → c = 0) (hlen : zs.length < 1000000) :
    Calls Try.prog 26 #[.slice a zs.length c, .int .i64 f, .int .i64 t] w fun e w' => ∃ v, e = .returned v ∧ SliceIs w' v (moveZ zs f t) ∧ Below w.heap.size w w' := by
  have HI := Lib.hid h
  have HN := Lib.hid hn
  clear h hn
  by_cases hf : 0 ≤ f ∧ f < zs.length
  · by_cases ht : 0 ≤ t ∧ t < zs.length
    · obtain ⟨f, rfl⟩ := Int.eq_ofNat_of_zero_le hf.1
      obtain ⟨t, rfl⟩ := Int.eq_ofNat_of_zero_le ht.1
      have hf2 : f < zs.length := by omega
      have ht2 : t < zs.length := by omega
      clear hf ht
      go_enter Try.func26, Try.ntmps26
      go_wp2_with (at_builtin; refine wpList_appAll rfl _ _ rfl w.heap.size w _ [] zs _ _ rfl rfl (ownI_new w w.heap.size (Nat.le_refl _)) (HI.out.below (below_new1 _ _)) (by simp; omega) (by simp) (below_new1 _ _) HN.out ?_; intro v1 w1 hown1 hbel1 hsz1 hkb1)
      refine (refIs_yes _ _ _ _ _ (by omega)).mono ?_
      rintro e w' ⟨rfl, n, rfl⟩
      go_wp2_with fail
      refine (refIs_yes _ _ _ _ _ (by omega)).mono ?_
      rintro e w' ⟨rfl, n2, rfl⟩
      have hst : SliceIs (w1.drewN (n + n2)) v1 (moveZ zs (f : Int) (f : Int)) := by
        rw [moveZ_self hf2]; exact (hown1.sliceIs (by simp; omega)).drewN _
      have hbs := below_drewN hbel1 (n + n2)
      have HST := Lib.hid hst
      clear hst
      go_wp2_with fail
      go_loopw [7, 8] (fun s7 s8 wr => ∃ k : Nat, s8 = .int .i64 k ∧ f ≤ k ∧ (k ≤ t ∨ k = f) ∧ SliceIs wr s7 (moveZ zs (f : Int) (k : Int)) ∧ Below w.heap.size w wr ∧ w.heap.size ≤ wr.heap.size) (fun _ s8 _ => (t - intOf s8).toNat)
      case atStart => exact ⟨f, rfl, by omega, by omega, HST.out, hbs, by simpa using hsz1⟩
      case round =>
        obtain ⟨k, rfl, hk1, hk2, hs, hb, hz⟩ := hrel
        have HS := Lib.hid hs
        clear hs
        by_cases hlt : k < t
        · go_wp2_with fail
          refine (refSwap_v HS.out (by rw [moveZ_length]; omega)).mono ?_
          rintro e w2 ⟨v2, rfl, hown2, hbel2⟩
          have hsl := hown2.sliceIs (by rw [swapZ_length, moveZ_length]; omega)
          rw [moveZ_up hk1 (by omega)] at hsl
          have hz2 := hbel2.size
          have hb2 := hb.trans (hbel2.mono hz)
          go_wp2_with fail
          go_roundw
          case rel => exact ⟨k + 1, by go_num, by omega, by omega, hsl, hb2, by omega⟩
          case measure => simp [intOf]; omega
        · go_wp2_with fail
          go_loopw [7, 9] (fun s7 s9 wi => ∃ l : Nat, s9 = .int .i64 l ∧ (l = f ∨ t ≤ l ∧ l ≤ f) ∧ SliceIs wi s7 (moveZ zs (f : Int) ((if l ≤ t then t else l : Nat) : Int)) ∧ Below w.heap.size w wi ∧ w.heap.size ≤ wi.heap.size) (fun _ s9 _ => (intOf s9).toNat)
          case atStart => exact ⟨f, rfl, .inl rfl, by rw [show (if f ≤ t then t else f) = k by split <;> omega]; exact HS.out, hb, hz⟩
          case round =>
            obtain ⟨l, rfl, hl1, hs, hb, hz⟩ := hrel
            have HS2 := Lib.hid hs
            clear hs
            by_cases hlt2 : t < l
            · obtain ⟨l, rfl⟩ : ∃ q, l = q + 1 := ⟨l - 1, by omega⟩
              have hx : ((l + 1 : Nat) : Int) = (l : Int) + 1 := by omega
              have hS3 : SliceIs wr u7 (moveZ zs (f : Int) ((l + 1 : Nat) : Int)) := by have := HS2.out; rw [if_neg (by omega)] at this; exact this
              have HS3 := Lib.hid hS3
              clear hS3
              go_wp2_with fail
              refine (refSwap_v HS3.out (by rw [moveZ_length]; omega)).mono ?_
              rintro e w2 ⟨v2, rfl, hown2, hbel2⟩
              have hsl := hown2.sliceIs (by rw [swapZ_length, moveZ_length]; omega)
              rw [moveZ_down (by omega) hf2] at hsl
              have hz2 := hbel2.size
              have hb2 := hb.trans (hbel2.mono hz)
              go_wp2_with fail
              go_roundw
              case rel => exact ⟨l, by go_num, by omega, by rw [show (if l ≤ t then t else l) = l by split <;> omega]; exact hsl, hb2, by omega⟩
              case measure => simp [intOf]
            · go_wp2_with fail
              go_ret
              exact ⟨_, rfl, by have := HS2.out; rw [if_pos (by omega)] at this; exact this, hb⟩
    · have HF := Lib.hid (moveZ_out (zs := zs) (f := f) (t := t) (fun hh => ht hh.2))
      have HT := Lib.hid ht
      clear ht
      go_enter Try.func26, Try.ntmps26
      go_wp2_with (at_builtin; refine wpList_appAll rfl _ _ rfl w.heap.size w _ [] zs _ _ rfl rfl (ownI_new w w.heap.size (Nat.le_refl _)) (HI.out.below (below_new1 _ _)) (by simp; omega) (by simp) (below_new1 _ _) HN.out ?_; intro v1 w1 hown1 hbel1 hsz1 hkb1)
      refine (refIs_yes _ _ _ _ _ (by omega)).mono ?_
      rintro e w' ⟨rfl, n, rfl⟩
      go_wp2_with fail
      refine (refIs_no _ _ _ _ _ HT.out).mono ?_
      rintro e w' ⟨rfl, n2, rfl⟩
      go_wp2_with fail
      go_ret
      exact ⟨_, rfl, by rw [HF.out]; exact (hown1.sliceIs (by simp; omega)).drewN _, below_drewN hbel1 _⟩
  · have HF := Lib.hid (moveZ_out (zs := zs) (f := f) (t := t) (fun hh => hf hh.1))
    have HT := Lib.hid hf
    clear hf
    go_enter Try.func26, Try.ntmps26
    go_wp2_with (at_builtin; refine wpList_appAll rfl _ _ rfl w.heap.size w _ [] zs _ _ rfl rfl (ownI_new w w.heap.size (Nat.le_refl _)) (HI.out.below (below_new1 _ _)) (by simp; omega) (by simp) (below_new1 _ _) HN.out ?_; intro v1 w1 hown1 hbel1 hsz1 hkb1)
    refine (refIs_no _ _ _ _ _ HT.out).mono ?_
    rintro e w' ⟨rfl, n, rfl⟩
    go_wp2_with fail
    go_ret
    exact ⟨_, rfl, by rw [HF.out]; exact (hown1.sliceIs (by simp; omega)).drewN _, below_drewN hbel1 _⟩


theorem OwnI.setCells {base g n c : Nat} (ys : List Int) : ∀ (w : World) (o : Nat) (zs : List Int), OwnI w base (.slice (some ⟨g, 0, none⟩) n c) zs → o + ys.length ≤ zs.length →
    OwnI (w.setCells g o (intsV ys)) base (.slice (some ⟨g, 0, none⟩) n c) (zs.take o ++ ys ++ zs.drop (o + ys.length)) := by
  induction ys with
  | nil => intro w o zs h _; simpa [intsV, World.setCells] using h
  | cons y ys ih =>
    intro w o zs h hl
    simp only [List.length_cons] at hl
    have h1 := ih (w.setCell ⟨g, o, none⟩ (.int .i64 y)) (o + 1) (zs.set o y) (h.stored o y) (by simp; omega)
    have e : (zs.set o y).take (o + 1) ++ ys ++ (zs.set o y).drop (o + 1 + ys.length) = zs.take o ++ (y :: ys) ++ zs.drop (o + (y :: ys).length) := by
      have e1 : (zs.set o y).take (o + 1) = zs.take o ++ [y] := by
        rw [List.set_eq_take_append_cons_drop, if_pos (by omega), List.take_append]
        simp
        have : min o zs.length = o := by omega
        rw [this]; simp
        exact List.take_of_length_le (by simp; omega)
      have e2 : (zs.set o y).drop (o + 1 + ys.length) = zs.drop (o + 1 + ys.length) := by
        rw [List.drop_set]; rw [if_pos (by omega)]
      rw [e1, e2]; simp [Nat.add_assoc, Nat.add_comm 1 ys.length]
    rw [e] at h1
    exact h1
theorem below_setCells {B g : Nat} {a : World} (hg : B ≤ g) (ys : List Value) : ∀ (w : World) (o : Nat), Below B a w → Below B a (w.setCells g o ys) := by
  induction ys with
  | nil => intro w o h; exact h
  | cons y ys ih => intro w o h; exact ih _ _ (h.setCell hg _)

theorem delete_own {w : World} {base g n f : Nat} {zs : List Int} (h : OwnI w base (.slice (some ⟨g, 0, none⟩) n n) zs) (hg : base ≤ g) (hf : f < n) (hn : n < 1000000) :
    Calls Try.prog 43 #[.slice (some ⟨g, 0, none⟩) n n, .int .i64 f, .int .i64 ((f : Int) + 1)] w fun e w' =>
      e = .returned (.slice (some ⟨g, 0, none⟩) (n - 1) n) ∧ OwnI w' base (.slice (some ⟨g, 0, none⟩) n n) (zs.take f ++ zs.drop (f + 1) ++ [0]) ∧ Below base w w' := by
  obtain rfl := h.len
  have hdel := Try.slices_Delete_int_cells g 0 zs.length zs.length f (f + 1) zs w (Nat.le_refl _) (Nat.le_refl _) (by omega) (by omega) (by omega) (fun j hj => by rw [Nat.zero_add]; exact h.cell j hj) (fun j hj => by rw [Nat.zero_add]; exact h.frozen j)
  rw [show ((f + 1 : Nat) : Int) = (f : Int) + 1 by omega, show f + 1 - f = 1 by omega, List.take_length] at hdel
  refine hdel.mono fun e w' ⟨he, q, hw⟩ => ⟨he, ?_, ?_⟩
  · subst hw
    have := OwnI.setCells (zs.take f ++ zs.drop (f + 1) ++ [0]) (w.drewN q) 0 zs (h.drewN q) (by simp; omega)
    have e : zs.drop (0 + (zs.take f ++ zs.drop (f + 1) ++ [0]).length) = [] := List.drop_of_length_le (by simp; omega)
    rw [e, List.take_zero, List.nil_append, List.append_nil] at this
    exact this
  · subst hw; exact below_setCells hg _ _ _ (below_drewN (Below.refl _ _) _)

theorem shape_of_own {w : World} {base g n c : Nat} {zs : List Int} (h : OwnI w base (.slice (some ⟨g, 0, none⟩) n c) zs) (hp : 0 < zs.length) : ∃ k, w.shape? g = some (3, k) ∧ k ≠ 0 := by
  rcases h.2 with ⟨hv, _⟩ | ⟨g', cap, cur, hv, hb, hg, hnc, hcm, hcs, _⟩
  · cases hv
  · simp only [Value.slice.injEq, Option.some.injEq, Addr.mk.injEq, and_true] at hv
    obtain ⟨rfl, _, rfl⟩ := hv
    exact ⟨cur.size, by simp [World.shape?, hg], by omega⟩

theorem insert_own {w : World} {base g n t vb : Nat} {m : List Int} {x z : Int} (h : OwnI w base (.slice (some ⟨g, 0, none⟩) n n) (m ++ [z])) (hg : base ≤ g) (ht : t < n) (hn : n < 1000000)
    (hvb : vb ≠ g) (hv : w.heap[vb]? = some (.cells #[.int .i64 x] 3 (0, 0))) :
    Calls Try.prog 42 #[.slice (some ⟨g, 0, none⟩) (n - 1) n, .int .i64 t, .slice (some ⟨vb, 0, none⟩) 1 1] w fun e w' =>
      e = .returned (.slice (some ⟨g, 0, none⟩) n n) ∧ OwnI w' base (.slice (some ⟨g, 0, none⟩) n n) (m.take t ++ [x] ++ m.drop t) ∧ Below base w w' := by
  have hl := h.len
  simp only [List.length_append, List.length_cons, List.length_nil] at hl
  have hvs : ∀ j v, [Value.int .i64 x][j]? = some v → w.cell? ⟨vb, 0 + j, none⟩ = some v := by
    intro j v hj
    cases j with
    | zero => simp at hj; subst hj; simp [World.cell?, hv]
    | succ j => simp at hj
  have hsome : ∀ j, j < n → (w.cell? ⟨g, 0 + j, none⟩).isSome = true := fun j hj => by rw [Nat.zero_add, h.cell j (by simp; omega)]; rfl
  have hfz : ∀ j, w.frozen? ⟨g, 0 + j, none⟩ = false := fun j => by rw [Nat.zero_add]; exact h.frozen j
  by_cases hend : t = n - 1
  · subst hend
    have hins := Any2.slices_Insert_int_end_room Try.laysNm221 g 0 (n - 1) n vb 0 1 1 [.int .i64 x] w (by omega) (by omega) (by omega) rfl
      (fun j hj => by have := hsome (n - 1 + j) (by omega); rwa [← Nat.add_assoc] at this) (fun j hj => by have := hfz (n - 1 + j); rwa [← Nat.add_assoc] at this) hvs (ints_oneCell .i64 [x])
    refine hins.mono fun e w' ⟨he, hw⟩ => ⟨?_, ?_, ?_⟩
    · rw [he, show n - 1 + 1 = n by omega]
    · subst hw
      have := OwnI.setCells [x] w (0 + (n - 1)) (m ++ [z]) h (by simp; omega)
      have e1 : (m ++ [z]).take (0 + (n - 1)) ++ [x] ++ (m ++ [z]).drop (0 + (n - 1) + [x].length) = m.take (n - 1) ++ [x] ++ m.drop (n - 1) := by
        have hm : m.length = n - 1 := by omega
        rw [Nat.zero_add, List.take_append_of_le_length (by omega), List.drop_of_length_le (by simp; omega), List.drop_of_length_le (by omega)]
      rw [e1] at this; exact this
    · subst hw; exact below_setCells hg _ _ _ (Below.refl _ _)
  · obtain ⟨kb, hsb, hkb⟩ := shape_of_own h (by simp)
    have hcs : ∀ j v, (intsV m)[j]? = some v → w.cell? ⟨g, 0 + j, none⟩ = some v := by
      intro j v hj
      have hjl : j < m.length := by
        rcases Nat.lt_or_ge j m.length with h' | h'
        · exact h'
        · simp [intsV, List.getElem?_eq_none h'] at hj
      simp [intsV, getElem?_at0 hjl] at hj
      subst hj
      rw [Nat.zero_add, h.cell j (by simp; omega)]
      simp [at0, List.getD, List.getElem?_append_left hjl]
    have hins := Any2.slices_Insert_int_shift Try.laysNm221 g 0 (n - 1) n t vb 0 1 1 (intsV m) [.int .i64 x] w (by omega) (by omega) (by omega) (by omega) hvb (by rw [intsV_length]; omega) rfl
      hcs (fun j hj => hsome j (by omega)) (fun j _ => hfz j) hvs (ints_oneCell .i64 m) (ints_oneCell .i64 [x]) 3 3 1 kb (by simp [World.shape?, hv]) hsb hkb (by simp [World.frozen?, hv]) (by simp [World.frozen?, hv])
    refine hins.mono fun e w' ⟨he, hw⟩ => ⟨?_, ?_, ?_⟩
    · rw [he, show n - 1 + 1 = n by omega]
    · subst hw
      have e0 : (intsV m).drop t = intsV (m.drop t) := by simp [intsV, List.map_drop]
      rw [e0]
      have h1 := OwnI.setCells (m.drop t) w.drew (0 + (t + 1)) (m ++ [z]) h (by simp; omega)
      have h2 := OwnI.setCells [x] _ (0 + t) _ h1 (by rw [← h1.len]; simp; omega)
      have e1 : ((m ++ [z]).take (0 + (t + 1)) ++ m.drop t ++ (m ++ [z]).drop (0 + (t + 1) + (m.drop t).length)).take (0 + t) ++ [x] ++ ((m ++ [z]).take (0 + (t + 1)) ++ m.drop t ++ (m ++ [z]).drop (0 + (t + 1) + (m.drop t).length)).drop (0 + t + [x].length) = m.take t ++ [x] ++ m.drop t := by
        have e3 : (m ++ [z]).take (t + 1) = m.take (t + 1) := List.take_append_of_le_length (by omega)
        have e4 : (m ++ [z]).drop (t + 1 + (m.drop t).length) = [] := List.drop_of_length_le (by simp; omega)
        rw [Nat.zero_add, Nat.zero_add, e3, e4, List.append_nil]
        have hlt : (m.take (t + 1)).length = t + 1 := by simp; omega
        have hd : (m.take (t + 1) ++ m.drop t).drop (t + [x].length) = m.drop t := by
          have := List.drop_left (l₁ := m.take (t + 1)) (l₂ := m.drop t)
          rw [hlt] at this; exact this
        rw [hd, List.take_append_of_le_length (by omega), List.take_take, show min t (t + 1) = t by omega]
      rw [e1] at h2; exact h2
    · subst hw; exact below_setCells hg _ _ _ (below_setCells hg _ _ _ (below_drewN (Below.refl _ _) 1))

set_option maxHeartbeats 800000 in
theorem permMove_any (a : Option Addr) (c : Nat) (zs : List Int) (f t : Int) (w : World) (h : IntsAt w a zs) (hlen : zs.length < 1000000) :
    Calls Try.prog 25 #[.slice a zs.length c, .int .i64 f, .int .i64 t] w fun e w' => ∃ v, e = .returned v ∧ SliceIs w' v (moveZ zs f t) ∧ Below w.heap.size w w' := by
  have HI := Lib.hid h
  clear h
  by_cases hin : (0 ≤ f ∧ f < zs.length) ∧ (0 ≤ t ∧ t < zs.length)
  · obtain ⟨⟨hf0, hf1⟩, ht0, ht1⟩ := hin
    obtain ⟨f, rfl⟩ := Int.eq_ofNat_of_zero_le hf0
    obtain ⟨t, rfl⟩ := Int.eq_ofNat_of_zero_le ht0
    have hf2 : f < zs.length := by omega
    have ht2 : t < zs.length := by omega
    have d1 : decide ((f : Int) < 0) = false := by simp
    have d2 : decide ((zs.length : Int) ≤ f) = false := by simp; omega
    have d3 : decide ((t : Int) < 0) = false := by simp
    have d4 : decide ((zs.length : Int) ≤ t) = false := by simp; omega
    have HF := Lib.hid (moveZ_cut hf2 ht2)
    go_enter Try.func25, Try.ntmps25
    go_wp2_with fail
    refine (clone_any _ _ zs _ HI.out hlen).mono ?_
    rintro e w1 ⟨g, rfl, hown, hbel⟩
    have hg : w.heap.size ≤ g := (hown.lt g rfl).1
    have q0 := hown.cell f (by omega)
    go_wp2_with fail
    refine (delete_own hown hg hf2 hlen).mono ?_
    rintro e w2 ⟨rfl, hown2, hbel2⟩
    have hb2 := hbel.trans hbel2
    have hlt2 := (hown2.lt g rfl).2
    go_wp2_with fail
    have hown3 := hown2.alloc (.cells #[.int .i64 (at0 zs f)] 3)
    refine (insert_own (vb := w2.heap.size) (x := at0 zs f) hown3 hg ht2 hlen (by omega) (heap_alloc_new w2 _)).mono ?_
    rintro e w3 ⟨rfl, hown4, hbel4⟩
    have hz2 := hb2.size
    go_wp2_with fail
    go_ret
    refine ⟨_, rfl, ?_, (hb2.alloc hz2 _).trans hbel4⟩
    rw [HF.out] at hown4
    exact hown4.sliceIs (by rw [moveZ_length]; omega)
  · have HF := Lib.hid (moveZ_out hin)
    have HX := Lib.hid hin
    clear hin
    by_cases c1 : f < 0
    · have d1 : decide (f < 0) = true := by simpa using c1
      go_enter Try.func25, Try.ntmps25
      go_wp2_with fail
      refine (clone_any _ _ zs _ HI.out hlen).mono ?_
      rintro e w1 ⟨g, rfl, hown, hbel⟩
      go_wp2_with fail
      go_ret
      exact ⟨_, rfl, by rw [HF.out]; exact hown.sliceIs (by omega), hbel⟩
    · have d1 : decide (f < 0) = false := by simpa using c1
      by_cases c2 : (zs.length : Int) ≤ f
      · have d2 : decide ((zs.length : Int) ≤ f) = true := by simpa using c2
        go_enter Try.func25, Try.ntmps25
        go_wp2_with fail
        refine (clone_any _ _ zs _ HI.out hlen).mono ?_
        rintro e w1 ⟨g, rfl, hown, hbel⟩
        go_wp2_with fail
        go_ret
        exact ⟨_, rfl, by rw [HF.out]; exact hown.sliceIs (by omega), hbel⟩
      · have d2 : decide ((zs.length : Int) ≤ f) = false := by simpa using c2
        by_cases c3 : t < 0
        · have d3 : decide (t < 0) = true := by simpa using c3
          go_enter Try.func25, Try.ntmps25
          go_wp2_with fail
          refine (clone_any _ _ zs _ HI.out hlen).mono ?_
          rintro e w1 ⟨g, rfl, hown, hbel⟩
          go_wp2_with fail
          go_ret
          exact ⟨_, rfl, by rw [HF.out]; exact hown.sliceIs (by omega), hbel⟩
        · have d3 : decide (t < 0) = false := by simpa using c3
          have c4 : (zs.length : Int) ≤ t := by have := HX.out; omega
          have d4 : decide ((zs.length : Int) ≤ t) = true := by simpa using c4
          go_enter Try.func25, Try.ntmps25
          go_wp2_with fail
          refine (clone_any _ _ zs _ HI.out hlen).mono ?_
          rintro e w1 ⟨g, rfl, hown, hbel⟩
          go_wp2_with fail
          go_ret
          exact ⟨_, rfl, by rw [HF.out]; exact hown.sliceIs (by omega), hbel⟩

end Go.Proofs.Ytcembefhfadpbaa
