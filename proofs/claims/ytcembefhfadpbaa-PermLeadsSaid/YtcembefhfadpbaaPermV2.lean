/- The walks of package perm: clone, Swap, Ident, slices.Index. -/
import Derived.Test.YtcembefhfadpbaaPermV
namespace Go.Proofs.Ytcembefhfadpbaa
open Go.RowKit

/-- 'copy(m, l)' into a new slice of l's length. -/
theorem wpList_copyFull {ops : Array Oper} {rest : List Oper} {o : Oper} {a : Act} {Q : Exit → Act → World → Prop} {wr : World} (hgd : o.guard = none) (d s : Operand)
    (ho : o.op = .call { callee := .builtin .copy, args := #[d, s], argTypes := #[22, 22] })
    (base g : Nat) (w0 : World) (zs : List Int) (xs : List Value) (ao : Option Addr) (c : Nat) (hd : a.eval d = .slice (some ⟨g, 0, none⟩) zs.length zs.length) (hs : a.eval s = .slice ao zs.length c)
    (hown : wr.ownsRow base 3 1 (.slice (some ⟨g, 0, none⟩) zs.length zs.length) zs.length xs) (hzs : IntsAt wr ao zs) (hb : Below base w0 wr)
    (h : ∀ v' w', OwnI w' base (.slice (some ⟨g, 0, none⟩) zs.length zs.length) zs → Below base w0 w' → base ≤ w'.heap.size → wpList Try.prog ops Q rest (a.put o.dst v') w') :
    wpList Try.prog ops Q (o :: rest) a wr := by
  obtain ⟨hxl, hx⟩ := hown
  rcases hx with ⟨hv, _⟩ | ⟨g', cap, cur, hv, hbg, hg, hnc, hcm, hcs, htake⟩
  · cases hv
  · simp only [Value.slice.injEq, Option.some.injEq, Addr.mk.injEq, and_true, true_and] at hv
    obtain ⟨rfl, rfl⟩ := hv
    refine wpList_copy_splice (w := wr) hgd d s 22 22 ho 3 Try.underlying22 (by obtain ⟨i, hi, _, hsz, _⟩ := info_parts infoInt; rw [hi]; simp [hsz])
      _ _ _ _ _ _ hd hs g 0 cur.toList 3 (by simpa using hg) (intsV zs) (by simp [intsV]) ?_ (by simp [intsV, hcs]) (ints_oneCell .i64 zs) base w0 hb hbg ?_
    · intro hp
      rw [intsV_length] at hp
      obtain ⟨b, off, rfl, _⟩ := hzs.cells 0 hp
      refine ⟨rfl, _, rfl, fun j v hj => ?_⟩
      have hlt : j < zs.length := by
        rcases Nat.lt_or_ge j zs.length with h' | h'
        · exact h'
        · simp [intsV, List.getElem?_eq_none h'] at hj
      obtain ⟨b', off', hab, hc⟩ := hzs.cells j hlt
      cases hab
      simp [intsV, getElem?_at0 hlt] at hj
      subst hj
      have hadd : (⟨b, off, none⟩ : Addr).add j = ⟨b, off + j, none⟩ := by unfold Addr.add; split <;> simp_all
      rw [hadd]; exact hc
    · intro w' hh hb'
      refine h _ w' ⟨by simp [intsV], .inr ⟨g, _, (intsV zs).toArray, rfl, hbg, ?_, Nat.le_refl _, hcm, by simp [intsV], by simp [intsV, List.take_of_length_le]⟩⟩ hb' ?_
      · have := hh.out
        rw [this]
        have hl : cur.toList.length = zs.length := by simp [hcs]
        simp [splice, intsV, List.drop_eq_nil_of_le, hl]
      · have h1 := hh.out
        have := (Array.getElem?_eq_some_iff.1 h1).1
        omega

set_option maxHeartbeats 400000 in
theorem clone_any (a : Option Addr) (c : Nat) (zs : List Int) (w : World) (h : IntsAt w a zs) (hlen : zs.length < 1000000) :
    Calls Try.prog 38 #[.slice a zs.length c] w fun e w' => ∃ g, e = .returned (.slice (some ⟨g, 0, none⟩) zs.length zs.length) ∧ OwnI w' w.heap.size (.slice (some ⟨g, 0, none⟩) zs.length zs.length) zs ∧ Below w.heap.size w w' := by
  obtain ⟨i, hi, hz, hsz, hby⟩ := info_parts infoInt
  have HI := Lib.hid h
  clear h
  go_enter Try.func38, Try.ntmps38
  go_wp2_with (first
    | (at_make; refine wpList_make_full _ rfl _ _ 22 rfl w.heap.size 3 i (.int .i64 0) 1 Try.underlying22 hi hz hsz .i64 .i64 _ _ zs.length rfl rfl rfl rfl (by rw [hby]; omega) (by unfold maxLen; omega) (Nat.le_refl _) ?_; intro w1 hown1 hg1)
    | (with_reducible refine wpList_copyFull rfl (.tmp 7) (.tmp 8) rfl w.heap.size w.heap.size w zs _ a c rfl rfl (by exact hown1) (HI.out.keep (keepBut_of_grown0 hg1) (by simp)) ((Below.refl _ _).grown hg1 (Nat.le_refl _) (by simp)) ?_; intro v2 w2 hown2 hb2 hs2))
  go_ret
  exact ⟨_, rfl, hown2, hb2⟩


set_option maxHeartbeats 800000 in
theorem permSwap_any (a : Option Addr) (c : Nat) (zs : List Int) (i : Int) (w : World) (h : IntsAt w a zs) (hlen : zs.length < 1000000) :
    Calls Try.prog 18 #[.slice a zs.length c, .int .i64 i] w fun e w' => ∃ v, e = .returned v ∧ OwnI w' w.heap.size v (swapZ zs i) ∧ Below w.heap.size w w' := by
  have HI := Lib.hid h
  clear h
  by_cases hin : 0 ≤ i ∧ i + 1 < zs.length
  · obtain ⟨h0, h1⟩ := hin
    obtain ⟨k, rfl⟩ := Int.eq_ofNat_of_zero_le h0
    have hk : k + 1 < zs.length := by omega
    have HF := Lib.hid (swapZ_in hk)
    have hd1 : decide ((k : Int) < (zs.length : Int) - 1) = true := by simp; omega
    go_enter Try.func18, Try.ntmps18
    go_wp2_with fail
    refine (clone_any _ _ zs _ HI.out hlen).mono ?_
    rintro e w1 ⟨g, rfl, hown, hbel⟩
    have hg : w.heap.size ≤ g := (hown.lt g rfl).1
    have q0 := hown.cell k (by omega)
    have q1 := hown.cell (k + 1) (by omega)
    have p0 := hown.frozen k
    have p1 := hown.frozen (k + 1)
    go_wp2_with fail
    go_region
    go_wp2
    go_ret
    refine ⟨_, rfl, ?_, ?_⟩
    · rw [HF.out]; exact (((hown.stored k _).stored (k + 1) _).drewN 1)
    · exact below_drewN ((hbel.setCell hg _).setCell hg _) 1
  · have HF := Lib.hid (swapZ_out hin)
    by_cases h0 : 0 ≤ i
    · have hd1 : decide (i < (zs.length : Int) - 1) = false := by simp; omega
      go_enter Try.func18, Try.ntmps18
      go_wp2_with fail
      refine (clone_any _ _ zs _ HI.out hlen).mono ?_
      rintro e w1 ⟨g, rfl, hown, hbel⟩
      go_wp2_with fail
      go_ret
      exact ⟨_, rfl, by rw [HF.out]; exact hown, hbel⟩
    · go_enter Try.func18, Try.ntmps18
      go_wp2_with fail
      refine (clone_any _ _ zs _ HI.out hlen).mono ?_
      rintro e w1 ⟨g, rfl, hown, hbel⟩
      go_wp2_with fail
      go_ret
      exact ⟨_, rfl, by rw [HF.out]; exact hown, hbel⟩

set_option maxHeartbeats 400000 in
theorem index_any (a : Option Addr) (c : Nat) (zs : List Int) (x : Int) (w : World) (h : IntsAt w a zs) :
    Calls Try.prog 39 #[.slice a zs.length c, .int .i64 x] w fun e w' => e = .returned (.int .i64 (placeZ zs x)) ∧ ∃ n, w' = w.drewN n := by
  obtain ⟨hl, hc⟩ := h
  have HC := Lib.hid hc
  clear hc
  go_enter Try.func39, Try.ntmps39
  go_wp2
  go_loop [8] (fun i => ∃ k : Nat, k ≤ zs.length ∧ i = .int .i64 k ∧ ∀ j, j < k → at0 zs j ≠ x) (fun i => zs.length - (intOf i).toNat)
  case atStart => exact ⟨0, Nat.zero_le _, rfl, by omega⟩
  case round =>
    obtain ⟨k, hk, rfl, hrel⟩ := hrel
    have HR := Lib.hid hrel
    clear hrel
    by_cases hlt : k < zs.length
    · obtain ⟨b, off, rfl, hcell⟩ := HC.out k hlt
      by_cases hx : at0 zs k = x
      · have H1 : (x == at0 zs k) = true := by simpa using hx.symm
        have HX := Lib.hid hx
        clear hx
        go_wp2
        go_ret
        exact ⟨ret_i64 (placeZ_found hlt HX.out HR.out).symm, 0, rfl⟩
      · have H1 : (x == at0 zs k) = false := by simpa using (fun e => hx e.symm)
        go_wp2
        go_round
        case rel => exact ⟨k + 1, by omega, by go_num, fun j hj => by
          by_cases e : j = k
          · subst e; exact hx
          · exact HR.out j (by omega)⟩
        case measure => simp [intOf]; omega
    · go_wp2
      go_ret
      exact ⟨ret_i64 (placeZ_none (fun j hj => HR.out j (by omega))).symm, 0, rfl⟩

/-- 'make([]int, n)'. -/
theorem wpList_makeI {ops : Array Oper} {rest : List Oper} {o : Oper} {a : Act} {Q : Exit → Act → World → Prop} {wr : World} (hgd : o.guard = none) (l c : Operand)
    (ho : o.op = .makeSlice 22 l c) (base : Nat) (w0 : World) (L : Int) (n : Nat) (hl : a.eval l = .int .i64 L) (hc : a.eval c = .int .i64 L) (hL : L = n) (hn : n < 1099511627776)
    (hbase : base ≤ wr.heap.size) (hb : Below base w0 wr)
    (h : ∀ g w', OwnI w' base (.slice (some ⟨g, 0, none⟩) n n) (List.replicate n 0) → Below base w0 w' → base ≤ w'.heap.size → KeepBut none wr w' → base ≤ g →
      wpList Try.prog ops Q rest (a.put o.dst (.slice (some ⟨g, 0, none⟩) n n)) w') :
    wpList Try.prog ops Q (o :: rest) a wr := by
  obtain ⟨i, hi, hz, hsz, hby⟩ := info_parts infoInt
  refine wpList_make_full wr hgd l c 22 ho base 3 i (.int .i64 0) 1 Try.underlying22 hi hz hsz .i64 .i64 L L n hl hc hL hL (by rw [hby]; omega) (by unfold maxLen; omega) hbase ?_
  intro w' h1 h2
  refine h wr.heap.size w' ?_ (hb.grown h2 hbase (by simp)) (by have := h2.size; omega) (keepBut_of_grown0 h2) hbase
  unfold OwnI
  have e1 : intsV (List.replicate n 0) = (madeCells (Value.int .i64 0).cells (n * 1)).toList := by
    simp [intsV, madeCells, Value.cells]
    apply List.ext_getElem
    · simp
    · intro j h3 h4; simp [Nat.mod_one]
  rw [List.length_replicate, e1]; exact h1

theorem set_iota_replicate (k n : Nat) (h : k < n) : (iota k ++ List.replicate (n - k) 0).set k (k : Int) = iota (k + 1) ++ List.replicate (n - (k + 1)) 0 := by
  have e : n - k = (n - (k + 1)) + 1 := by omega
  rw [e, List.replicate_succ, List.set_append_right _ _ (by simp [iota_length]), iota_length, Nat.sub_self, List.set_cons_zero, iota_succ, List.append_assoc]; rfl

set_option maxHeartbeats 400000 in
theorem permIdent_any (n : Int) (w : World) :
    Calls Try.prog 20 #[.int .i64 n] w fun e w' => ∃ v, e = .returned v ∧ OwnI w' w.heap.size v (identZ n) ∧ Below w.heap.size w w' := by
  obtain ⟨L, hL⟩ : ∃ L : Nat, L = min n.toNat 64 := ⟨_, rfl⟩
  have hL64 : L ≤ 64 := by omega
  have HF : Hid (identZ n = iota L) := by unfold identZ; rw [hL]; rfl
  have HL := Lib.hid hL
  clear hL
  go_enter Try.func20, Try.ntmps20
  go_wp2_with (at_make; refine wpList_makeI rfl _ _ rfl w.heap.size w _ L rfl rfl (by have := HL.out; omega) (by omega) (Nat.le_refl _) (Below.refl _ _) ?_; intro g w1 hown1 hb1 hs1 hk1 hg1)
  all_goals
    go_loopw [11] (fun i wr => ∃ k : Nat, k ≤ L ∧ i = .int .i64 k ∧ OwnI wr w.heap.size (.slice (some ⟨g, 0, none⟩) L L) (iota k ++ List.replicate (L - k) 0) ∧ Below w.heap.size w wr) (fun i _ => L - (intOf i).toNat)
    case atStart => exact ⟨0, by omega, rfl, by simpa [iota] using hown1, hb1⟩
    case round =>
      obtain ⟨k, hk, rfl, hown, hbel⟩ := hrel
      by_cases hlt : k < L
      · have q0 := hown.cell k (by simp [iota_length]; omega)
        have p0 := hown.frozen k
        go_wp2
        go_roundw
        case rel => exact ⟨k + 1, by omega, by go_num, by rw [← set_iota_replicate k L hlt]; exact hown.stored k _, hbel.setCell hg1 _⟩
        case measure => simp [intOf]; omega
      · obtain rfl : k = L := by omega
        go_wp2
        go_ret
        exact ⟨_, rfl, by rw [HF.out]; simpa using hown, hbel⟩

end Go.Proofs.Ytcembefhfadpbaa
