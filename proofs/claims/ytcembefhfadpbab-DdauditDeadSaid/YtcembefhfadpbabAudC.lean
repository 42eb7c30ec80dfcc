/- The closures of the audit. -/
import Derived.Test.YtcembefhfadpbabFind
import Derived.Test.YtcembefhfadpbabMap
import Derived.Test.YtcembefhfadpbabMix
namespace Go.Proofs.Ytcembefhfadpbab
open Go.RowKit
open Go.Maps

def varsOf (l : List Nd) (id : Int) : List Int := (l.filter (fun n => n.id == id)).map (·.v)
/-- Block b: the variables of each ID. -/
def Groups (w : World) (b : Nat) (l : List Nd) : Prop := ∃ m, MapIs w b (Value.int .i64) m ∧ (∀ id v, getL m id = some v → SliceIs w v (varsOf l id) ∧ varsOf l id ≠ []) ∧ (∀ id, getL m id = none → varsOf l id = [])
/-- Block b: the place of each variable. -/
def Places (w : World) (b : Nat) (order : List Int) : Prop := ∃ m, MapIs w b (Value.int .i64) m ∧ ∀ v, getL m v = if v ∈ order then some (.int .i64 (placeZ order v)) else none
theorem Groups.below {w w' : World} {b : Nat} {l : List Nd} (h : Groups w b l) (hb : Below w.heap.size w w') : Groups w' b l := by
  obtain ⟨m, h1, h2, h3⟩ := h
  exact ⟨m, h1.below hb, fun id v hv => ⟨(h2 id v hv).1.below hb, (h2 id v hv).2⟩, h3⟩
theorem Places.below {w w' : World} {b : Nat} {order : List Int} (h : Places w b order) (hb : Below w.heap.size w w') : Places w' b order := by
  obtain ⟨m, h1, h2⟩ := h
  exact ⟨m, h1.below hb, h2⟩
theorem kInt : KeyOk Try.prog 3 (Value.int .i64) := keyOk_int Try.underlying3

/-- What a lookup in the groups hands back. -/
theorem Groups.look {w : World} {b : Nat} {l : List Nd} (h : Groups w b l) (id : Int) :
    ∃ v, SliceIs w v (varsOf l id) ∧ (varsOf l id = [] → v = .slice none 0 0) ∧ (varsOf l id ≠ [] → ∃ a n c, v = .slice (some a) n c) ∧
      ∃ m, MapIs w b (Value.int .i64) m ∧ (getL m id).getD (.slice none 0 0) = v := by
  obtain ⟨m, h1, h2, h3⟩ := h
  cases hg : getL m id with
  | none => exact ⟨.slice none 0 0, by rw [h3 id hg]; exact sliceIs_nil w, fun _ => rfl, fun hne => absurd (h3 id hg) hne, m, h1, by rw [hg]; rfl⟩
  | some v =>
    obtain ⟨hs, hne⟩ := h2 id v hg
    refine ⟨v, hs, fun e => absurd e hne, fun _ => ?_, m, h1, by rw [hg]; rfl⟩
    obtain ⟨a, c, rfl, hi, _⟩ := hs
    have hp : 0 < (varsOf l id).length := List.length_pos_iff.2 hne
    obtain ⟨b', off, rfl, _⟩ := hi.cells 0 hp
    exact ⟨_, _, _, rfl⟩

theorem node_any (e : Int) (w : World) (h0 : 0 ≤ e) (he : e ≤ 9223372036854775807) :
    Calls Try.prog 21 #[.int .i64 e] w fun x w' => x = .returned (.int .i64 (e / 2)) ∧ w' = w := by
  have hm : max e 0 = e := by omega
  have hd : e.tdiv 2 = e / 2 := Int.tdiv_eq_ediv_of_nonneg h0
  go_enter Try.func21, Try.ntmps21
  go_wp2
  go_ret
  exact ⟨rfl, rfl⟩
theorem neg_any (e : Int) (w : World) (h0 : 0 ≤ e) (he : e ≤ 9223372036854775807) :
    Calls Try.prog 20 #[.int .i64 e] w fun x w' => x = .returned (.bool (negB e)) ∧ w' = w := by
  by_cases hp : 0 < e
  · have hm : e.tmod 2 = e % 2 := Int.tmod_eq_emod_of_nonneg h0
    by_cases h1 : e % 2 = 1
    · have H1 : (e % 2 == 1) = true := by simpa using h1
      have HX := Lib.hid (negB_odd h0 h1)
      clear h1
      go_enter Try.func20, Try.ntmps20
      go_wp2
      go_ret
      exact ⟨ret_bool HX.out.symm, rfl⟩
    · have H1 : (e % 2 == 1) = false := by simpa using h1
      have HX := Lib.hid (negB_even h1)
      clear h1
      go_enter Try.func20, Try.ntmps20
      go_wp2
      go_ret
      exact ⟨ret_bool HX.out.symm, rfl⟩
  · have HX : Hid (negB e = false) := by
      show _ = _
      have : e = 0 := by omega
      subst this; rfl
    go_enter Try.func20, Try.ntmps20
    go_wp2
    go_ret
    exact ⟨ret_bool HX.out.symm, rfl⟩
theorem leads_any (e : Int) (w : World) (he : e ≤ 9223372036854775807) :
    Calls Try.prog 11 #[.int .i64 e] w fun x w' => x = .returned (if e < 0 then .tuple #[.int .i64 0, .bool false] else .tuple #[.int .i64 (e / 2), .bool true]) ∧ w' = w := by
  by_cases h0 : e < 0
  · rw [if_pos h0]
    go_enter Try.func11, Try.ntmps11
    go_wp2
    go_ret2
    exact ⟨rfl, rfl⟩
  · rw [if_neg h0]
    go_enter Try.func11, Try.ntmps11
    go_wp2_with fail
    refine (node_any e _ (by omega) he).mono ?_
    rintro x w' ⟨rfl, rfl⟩
    go_wp2_with fail
    go_ret2
    exact ⟨rfl, rfl⟩

theorem Groups.lookRun {w : World} {b : Nat} {l : List Nd} (h : Groups w b l) (id : Int) :
    ∃ v, (Instr.lookup 47 (.map (some b)) (.int .i64 id) false).run Try.prog w = .ok v w ∧ SliceIs w v (varsOf l id) ∧ (varsOf l id = [] → v = .slice none 0 0) ∧ (varsOf l id ≠ [] → ∃ a n c, v = .slice (some a) n c) := by
  obtain ⟨v, h1, h2, h3, m, hm, hg⟩ := h.look id
  refine ⟨v, ?_, h1, h2, h3⟩
  have := hm.lookup kInt Try.underlying47 Try.zeroValue27 id false
  rw [this]
  simp [hg]
theorem Places.lookRun {w : World} {b : Nat} {order : List Int} (h : Places w b order) (v : Int) :
    (Instr.lookup 24 (.map (some b)) (.int .i64 v) true).run Try.prog w = .ok (if v ∈ order then .tuple #[.int .i64 (placeZ order v), .bool true] else .tuple #[.int .i64 0, .bool false]) w := by
  obtain ⟨m, hm, hg⟩ := h
  have := hm.lookup kInt Try.underlying24 Try.zeroValue3 v true
  rw [this, hg]
  by_cases hv : v ∈ order <;> simp [hv]
theorem lostB_groups {e : Int} {l : List Nd} (h0 : 0 ≤ e) (h1 : e / 2 ≠ 0) : lostB e l = decide (varsOf l (e / 2) = []) := by
  unfold lostB
  apply decide_eq_decide.2
  constructor
  · rintro (h | ⟨_, h⟩)
    · omega
    · unfold varsOf
      simp only [List.map_eq_nil_iff, List.filter_eq_nil_iff]
      intro n hn hh
      obtain ⟨k, hk, rfl⟩ := List.getElem_of_mem hn
      have := h k hk
      rw [nd_eq hk] at this
      simp only [leadsB, decide_eq_false_iff_not] at this
      simp only [beq_iff_eq] at hh
      exact this ⟨h0, hh.symm⟩
  · intro h
    refine .inr ⟨h1, fun k hk => ?_⟩
    unfold varsOf at h
    simp only [List.map_eq_nil_iff, List.filter_eq_nil_iff] at h
    have := h (nd l k) (by rw [nd_eq hk]; exact List.getElem_mem hk)
    simp only [leadsB, decide_eq_false_iff_not]
    rintro ⟨_, h3⟩
    exact this (by simp [h3])
theorem maxDepth_succ : ∃ d, Op.maxDepth = d + 1 := ⟨9999, rfl⟩
theorem eqNil_some (w : World) (a : Addr) (n c : Nat) : (binOp .eql 27 (.slice (some a) n c) (.slice none 0 0)).run Try.prog w = .ok (.bool false) w := by
  obtain ⟨d, hd⟩ := maxDepth_succ
  simp only [binOp, Op.equal, hd]
  simp [Op.equalIn, run_underlying Try.underlying27]
theorem eqNil_none (w : World) : (binOp .eql 27 (.slice none 0 0) (.slice none 0 0)).run Try.prog w = .ok (.bool true) w := by
  obtain ⟨d, hd⟩ := maxDepth_succ
  simp only [binOp, Op.equal, hd]
  simp [Op.equalIn, run_underlying Try.underlying27]
theorem lost_any (e : Int) (B b : Nat) (l : List Nd) (w : World) (he : e ≤ 9223372036854775807) (hB : w.cell? ⟨B, 0, none⟩ = some (.map (some b))) (hg : Groups w b l) :
    Calls Try.prog 16 #[.int .i64 e, .pointer (some ⟨B, 0, none⟩)] w fun x w' => x = .returned (.bool (lostB e l)) ∧ w' = w := by
  by_cases h0 : e < 0
  · have HX : Hid (lostB e l = true) := by show _ = _; simp [lostB, h0]
    go_enter Try.func16, Try.ntmps16
    go_wp2_with fail
    refine (leads_any e _ he).mono ?_
    rintro x w' ⟨rfl, rfl⟩
    rw [if_pos h0]
    go_wp2_with fail
    go_ret
    exact ⟨ret_bool HX.out.symm, rfl⟩
  · by_cases h1 : e / 2 = 0
    · have H1 : (e / 2 != 0) = false := by simp [h1]
      have HX : Hid (lostB e l = false) := by show _ = _; simp [lostB, h0, h1]
      have h0' : 0 ≤ e := by omega
      clear h1
      go_enter Try.func16, Try.ntmps16
      go_wp2_with fail
      refine (leads_any e _ he).mono ?_
      rintro x w' ⟨rfl, rfl⟩
      rw [if_neg (by omega)]
      go_wp2_with fail
      go_ret
      exact ⟨ret_bool HX.out.symm, rfl⟩
    · have H1 : (e / 2 != 0) = true := by simp [h1]
      obtain ⟨v, hrun, hs, hn, hm⟩ := hg.lookRun (e / 2)
      have h0' : 0 ≤ e := by omega
      by_cases h2 : varsOf l (e / 2) = []
      · have HX : Hid (lostB e l = true) := by show _ = _; rw [lostB_groups h0' h1, h2]; rfl
        obtain rfl := hn h2
        have E1 := eqNil_none w
        clear h1 h2 hn hm hs hg
        go_enter Try.func16, Try.ntmps16
        go_wp2_with fail
        refine (leads_any e _ he).mono ?_
        rintro x w' ⟨rfl, rfl⟩
        rw [if_neg (by omega)]
        go_wp2_with fail
        go_ret
        exact ⟨ret_bool HX.out.symm, rfl⟩
      · have HX : Hid (lostB e l = false) := by show _ = _; rw [lostB_groups h0' h1]; simp [h2]
        obtain ⟨a, n, c, rfl⟩ := hm h2
        have E1 := eqNil_some w a n c
        clear h1 h2 hn hm hs hg
        go_enter Try.func16, Try.ntmps16
        go_wp2_with fail
        refine (leads_any e _ he).mono ?_
        rintro x w' ⟨rfl, rfl⟩
        rw [if_neg (by omega)]
        go_wp2_with fail
        go_ret
        exact ⟨ret_bool HX.out.symm, rfl⟩

theorem placeZ_pos {order : List Int} {v : Int} (h : v ∈ order) : 0 ≤ placeZ order v := by
  unfold placeZ
  split
  · omega
  · rename_i hn; exact absurd h (List.idxOf?_eq_none_iff.1 hn)
theorem placeZ_neg {order : List Int} {v : Int} (h : v ∉ order) : placeZ order v = -1 := by
  unfold placeZ
  rw [List.idxOf?_eq_none_iff.2 h]
theorem test_any (v at_ : Int) (B b A : Nat) (order : List Int) (w : World) (hat : 0 ≤ at_) (hB : w.cell? ⟨B, 0, none⟩ = some (.map (some b))) (hA : w.cell? ⟨A, 0, none⟩ = some (.int .i64 at_)) (hp : Places w b order) :
    Calls Try.prog 19 #[.int .i64 v, .pointer (some ⟨B, 0, none⟩), .pointer (some ⟨A, 0, none⟩)] w fun x w' => x = .returned (.bool (decide (placeZ order v ≤ at_))) ∧ w' = w := by
  have hrun := hp.lookRun v
  clear hp
  by_cases hv : v ∈ order
  · rw [if_pos hv] at hrun
    clear hv
    go_enter Try.func19, Try.ntmps19
    go_wp2_with fail
    go_ret
    exact ⟨rfl, rfl⟩
  · rw [if_neg hv] at hrun
    have HX : Hid (decide (placeZ order v ≤ at_) = true) := by show _ = _; rw [placeZ_neg hv]; simp; omega
    clear hv
    go_enter Try.func19, Try.ntmps19
    go_wp2_with fail
    go_ret
    exact ⟨ret_bool HX.out.symm, rfl⟩
theorem wrongB_groups {at_ e : Int} {order : List Int} {l : List Nd} : wrongB at_ e order l = (decide (0 ≤ e) && (varsOf l (e / 2)).any (fun v => decide (placeZ order v ≤ at_))) := by
  unfold wrongB
  rw [Bool.eq_iff_iff]
  simp only [decide_eq_true_eq, Bool.and_eq_true, List.any_eq_true, varsOf, List.mem_map, List.mem_filter, beq_iff_eq]
  constructor
  · rintro ⟨k, hk, h1, h2⟩
    simp only [leadsB, decide_eq_true_eq] at h1
    exact ⟨h1.1, _, ⟨nd l k, ⟨by rw [nd_eq hk]; exact List.getElem_mem hk, h1.2.symm⟩, rfl⟩, h2⟩
  · rintro ⟨h0, v, ⟨n, ⟨hn, h1⟩, rfl⟩, h2⟩
    obtain ⟨k, hk, rfl⟩ := List.getElem_of_mem hn
    exact ⟨k, hk, by simp [leadsB, nd_eq hk, h0, h1], by rw [nd_eq hk]; exact h2⟩

def tst (P A : Nat) : Value := .func (Fn.func 19) #[] #[.pointer (some ⟨P, 0, none⟩), .pointer (some ⟨A, 0, none⟩)]
theorem index_tst (at_ : Int) (P p A : Nat) (order zs : List Int) (s : Value) (w : World) (hat : 0 ≤ at_) (hP : w.cell? ⟨P, 0, none⟩ = some (.map (some p))) (hA : w.cell? ⟨A, 0, none⟩ = some (.int .i64 at_))
    (hp : Places w p order) (hs : SliceIs w s zs) :
    Calls Try.prog 24 #[s, .func (Fn.func 19) #[] #[.pointer (some ⟨P, 0, none⟩), .pointer (some ⟨A, 0, none⟩)]] w fun x w' => (∃ r : Int, x = .returned (.int .i64 r) ∧ decide (0 ≤ r) = zs.any (fun v => decide (placeZ order v ≤ at_))) ∧ w' = w := by
  obtain ⟨a, c, rfl, ⟨hl, hc⟩, _⟩ := hs
  have HC := Lib.hid hc
  have HP := Lib.hid hp
  have HCP := Lib.hid hP
  have HCA := Lib.hid hA
  clear hc hp hP hA
  go_enter Try.func24, Try.ntmps24
  go_wp2
  go_loop [8] (fun i => ∃ k : Nat, k ≤ zs.length ∧ i = .int .i64 k ∧ ∀ j, j < k → decide (placeZ order (at0 zs j) ≤ at_) = false) (fun i => zs.length - (intOf i).toNat)
  case atStart => exact ⟨0, Nat.zero_le _, rfl, by omega⟩
  case round =>
    obtain ⟨k, hk, rfl, hrel⟩ := hrel
    have HR := Lib.hid hrel
    clear hrel
    by_cases hlt : k < zs.length
    · obtain ⟨b, off, rfl, hcell⟩ := HC.out k hlt
      obtain ⟨t, ht⟩ : ∃ t, decide (placeZ order (at0 zs k) ≤ at_) = t := ⟨_, rfl⟩
      have HT := Lib.hid ht
      clear ht
      cases t with
      | true =>
        go_wp2_with fail
        refine (test_any _ at_ P p A order _ hat HCP.out HCA.out HP.out).mono ?_
        rintro x w' ⟨rfl, rfl⟩
        rw [HT.out]
        go_wp2_with fail
        go_ret
        refine ⟨⟨k, rfl, ?_⟩, rfl⟩
        have : decide (0 ≤ (k : Int)) = true := by simp
        rw [this, eq_comm, List.any_eq_true]
        exact ⟨at0 zs k, by rw [at0_eq hlt]; exact List.getElem_mem hlt, HT.out⟩
      | false =>
        go_wp2_with fail
        refine (test_any _ at_ P p A order _ hat HCP.out HCA.out HP.out).mono ?_
        rintro x w' ⟨rfl, rfl⟩
        rw [HT.out]
        go_wp2_with fail
        go_round
        case rel => exact ⟨k + 1, by omega, by go_num, fun j hj => by
          by_cases e : j = k
          · subst e; exact HT.out
          · exact HR.out j (by omega)⟩
        case measure => simp [intOf]; omega
    · go_wp2
      go_ret
      refine ⟨⟨-1, rfl, ?_⟩, rfl⟩
      have : decide (0 ≤ (-1 : Int)) = false := by decide
      rw [this, eq_comm, List.any_eq_false]
      intro v hv
      obtain ⟨j, hj, rfl⟩ := List.getElem_of_mem hv
      have := HR.out j (by omega)
      rw [at0_eq hj] at this
      rw [this]; simp
theorem contains_tst (at_ : Int) (P p A : Nat) (order zs : List Int) (s : Value) (w : World) (hat : 0 ≤ at_) (hP : w.cell? ⟨P, 0, none⟩ = some (.map (some p))) (hA : w.cell? ⟨A, 0, none⟩ = some (.int .i64 at_))
    (hp : Places w p order) (hs : SliceIs w s zs) :
    Calls Try.prog 18 #[s, .func (Fn.func 19) #[] #[.pointer (some ⟨P, 0, none⟩), .pointer (some ⟨A, 0, none⟩)]] w fun x w' => x = .returned (.bool (zs.any (fun v => decide (placeZ order v ≤ at_)))) ∧ w' = w := by
  have HP := Lib.hid hp
  have HCP := Lib.hid hP
  have HCA := Lib.hid hA
  have HS := Lib.hid hs
  clear hp hP hA hs
  go_enter Try.func18, Try.ntmps18
  go_wp2_with fail
  refine (index_tst at_ P p A order zs s _ hat HCP.out HCA.out HP.out HS.out).mono ?_
  rintro x w' ⟨⟨r, rfl, hr⟩, rfl⟩
  have HR := Lib.hid hr
  clear hr
  go_wp2_with fail
  go_ret
  exact ⟨ret_bool HR.out, rfl⟩

theorem wrong_any (at_ e : Int) (V v P p : Nat) (order : List Int) (l : List Nd) (w : World) (hat : 0 ≤ at_) (he : e ≤ 9223372036854775807)
    (hV : w.cell? ⟨V, 0, none⟩ = some (.map (some v))) (hP : w.cell? ⟨P, 0, none⟩ = some (.map (some p))) (hg : Groups w v l) (hp : Places w p order) :
    Calls Try.prog 17 #[.int .i64 at_, .int .i64 e, .pointer (some ⟨V, 0, none⟩), .pointer (some ⟨P, 0, none⟩)] w fun x w' => x = .returned (.bool (wrongB at_ e order l)) ∧ Below w.heap.size w w' := by
  by_cases h0 : e < 0
  · have HX : Hid (wrongB at_ e order l = false) := by show _ = _; rw [wrongB_groups]; have : ¬ 0 ≤ e := by omega
                                                       simp [this]
    go_enter Try.func17, Try.ntmps17
    go_wp2_with fail
    refine (leads_any e _ he).mono ?_
    rintro x w' ⟨rfl, rfl⟩
    rw [if_pos h0]
    go_wp2_with fail
    go_ret
    exact ⟨ret_bool HX.out.symm, below_new1 _ _⟩
  · have hB1 := below_new1 w (.cells #[.int .i64 at_] 3)
    obtain ⟨s, hrun, hs, _, _⟩ := (hg.below hB1).lookRun (e / 2)
    have hV' : (w.alloc (.cells #[.int .i64 at_] 3)).cell? ⟨V, 0, none⟩ = some (.map (some v)) := (hB1.cell (p := ⟨V, 0, none⟩) (lt_of_cell hV)).trans hV
    have hP' : (w.alloc (.cells #[.int .i64 at_] 3)).cell? ⟨P, 0, none⟩ = some (.map (some p)) := (hB1.cell (p := ⟨P, 0, none⟩) (lt_of_cell hP)).trans hP
    have hB2 := Lib.hid hB1
    clear hB1 hV hP
    have HS := Lib.hid hs
    have HP := Lib.hid hp
    clear hs hp hg
    go_enter Try.func17, Try.ntmps17
    go_wp2_with fail
    refine (leads_any e _ he).mono ?_
    rintro x w' ⟨rfl, rfl⟩
    rw [if_neg (by omega)]
    go_wp2_with fail
    refine (contains_tst at_ P p w.heap.size order _ s _ hat hP' (by simp) (HP.out.below hB2.out) HS.out).mono ?_
    rintro x w' ⟨rfl, rfl⟩
    have HX : Hid (wrongB at_ e order l = ((varsOf l (e / 2)).any fun v => decide (placeZ order v ≤ at_))) := by
      show _ = _
      rw [wrongB_groups]; have : 0 ≤ e := by omega
      simp [this]
    go_wp2_with fail
    go_ret
    exact ⟨ret_bool HX.out.symm, hB2.out⟩
end Go.Proofs.Ytcembefhfadpbab
