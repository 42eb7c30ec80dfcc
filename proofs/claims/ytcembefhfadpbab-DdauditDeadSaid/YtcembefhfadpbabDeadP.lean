/- The program's Refs and Dead, over lists of nodes. -/
import Derived.Test.YtcembefhfadpbabDeadW
import Derived.Test.YtcembefhfadpbabAudC
namespace Go.Proofs.Ytcembefhfadpbab
open Go.RowKit
open Go.Maps

/-! Block b: a set of numbers (a map to bool). -/
def SetIs (w : World) (b : Nat) (R : Int → Bool) : Prop := ∃ m, MapIs w b (Value.int .i64) m ∧ ∀ x, (getL m x).getD (.bool false) = .bool (R x)
def setS (R : Int → Bool) (x : Int) (v : Bool) : Int → Bool := fun y => if y = x then v else R y
theorem SetIs.below {w w' : World} {b : Nat} {R : Int → Bool} (h : SetIs w b R) (hb : Below w.heap.size w w') : SetIs w' b R := by
  obtain ⟨m, h1, h2⟩ := h
  exact ⟨m, h1.below hb, h2⟩
theorem SetIs.drewN {w : World} {b : Nat} {R : Int → Bool} (h : SetIs w b R) (n : Nat) : SetIs (w.drewN n) b R := h.below (below_draw w n)
theorem SetIs.keep {row : Option Nat} {w w' : World} {b : Nat} {R : Int → Bool} (h : SetIs w b R) (hk : KeepBut row w w') (hne : some b ≠ row) : SetIs w' b R := by
  obtain ⟨m, h1, h2⟩ := h
  exact ⟨m, h1.keep hk hne, h2⟩
theorem SetIs.lt {w : World} {b : Nat} {R : Int → Bool} (h : SetIs w b R) : b < w.heap.size := h.elim fun _ h => h.1.lt
theorem setIs_new (w : World) : SetIs (w.alloc (.map #[] 0)) w.heap.size (fun _ => false) := ⟨[], mapIs_new w _, fun x => rfl⟩
theorem SetIs.look {w : World} {b : Nat} {R : Int → Bool} (h : SetIs w b R) (x : Int) : (Instr.lookup 38 (.map (some b)) (.int .i64 x) false).run Try.prog w = .ok (.bool (R x)) w := by
  obtain ⟨m, h1, h2⟩ := h
  have := h1.lookup kInt Try.underlying38 Try.zeroValue4 x false
  rw [this]
  simp [h2]
theorem SetIs.update {w : World} {b : Nat} {R : Int → Bool} (h : SetIs w b R) (x : Int) (v : Bool) :
    ∃ w', (Instr.mapUpdate 38 (.map (some b)) (.int .i64 x) (.bool v)).run Try.prog w = .ok () w' ∧ SetIs w' b (setS R x v) ∧ w.grownBy w' (some b) := by
  obtain ⟨m, h1, h2⟩ := h
  obtain ⟨w', hr, h3, h4⟩ := h1.update kInt Try.underlying38 x (.bool v)
  refine ⟨w', hr, ⟨_, h3, fun y => ?_⟩, h4⟩
  rw [getL_putL h1.nodup]
  unfold setS
  split
  · rfl
  · exact h2 y
theorem wpList_putSet {ops : Array Oper} {rest : List Oper} {o : Oper} {a : Act} {Q : Exit → Act → World → Prop} {w : World} {b : Nat} {R : Int → Bool}
    (hg : o.guard = none) (m x y : Operand) (hop : o.op = Op.mapUpdate 38 m x y) (k : Int) (v : Bool) (hm : a.eval m = .map (some b)) (hx : a.eval x = .int .i64 k) (hy : a.eval y = .bool v) (h : SetIs w b R)
    (hK : ∀ w', SetIs w' b (setS R k v) → w.grownBy w' (some b) → wpList Try.prog ops Q rest (a.put o.dst undef) w') : wpList Try.prog ops Q (o :: rest) a w := by
  refine wpList_plain hg fun K' hK' => ?_
  obtain ⟨w', hr, h1, h2⟩ := h.update k v
  unfold Oper.wp
  simp [execOp, hop, hm, hx, hy, hr, Result.andThen]
  exact hK' _ _ (hK w' h1 h2)

/-! Block b: how often (a map to int that holds no zero). -/
def CntIs (w : World) (b : Nat) (f : Int → Nat) : Prop := ∃ m, MapIs w b (Value.int .i64) m ∧ ∀ x, getL m x = if 0 < f x then some (.int .i64 (f x : Nat)) else none
def addC (f : Int → Nat) (x : Int) : Int → Nat := fun y => if y = x then f y + 1 else f y
theorem CntIs.below {w w' : World} {b : Nat} {f : Int → Nat} (h : CntIs w b f) (hb : Below w.heap.size w w') : CntIs w' b f := by
  obtain ⟨m, h1, h2⟩ := h
  exact ⟨m, h1.below hb, h2⟩
theorem CntIs.drewN {w : World} {b : Nat} {f : Int → Nat} (h : CntIs w b f) (n : Nat) : CntIs (w.drewN n) b f := h.below (below_draw w n)
theorem CntIs.keep {row : Option Nat} {w w' : World} {b : Nat} {f : Int → Nat} (h : CntIs w b f) (hk : KeepBut row w w') (hne : some b ≠ row) : CntIs w' b f := by
  obtain ⟨m, h1, h2⟩ := h
  exact ⟨m, h1.keep hk hne, h2⟩
theorem CntIs.lt {w : World} {b : Nat} {f : Int → Nat} (h : CntIs w b f) : b < w.heap.size := h.elim fun _ h => h.1.lt
theorem cntIs_new (w : World) : CntIs (w.alloc (.map #[] 0)) w.heap.size (fun _ => 0) := ⟨[], mapIs_new w _, fun x => rfl⟩
theorem CntIs.look {w : World} {b : Nat} {f : Int → Nat} (h : CntIs w b f) (x : Int) : (Instr.lookup 24 (.map (some b)) (.int .i64 x) false).run Try.prog w = .ok (.int .i64 (f x : Nat)) w := by
  obtain ⟨m, h1, h2⟩ := h
  have := h1.lookup kInt Try.underlying24 Try.zeroValue3 x false
  rw [this, h2]
  by_cases hn : 0 < f x
  · simp [hn]
  · have : f x = 0 := by omega
    simp [this]
theorem wpList_putCnt {ops : Array Oper} {rest : List Oper} {o : Oper} {a : Act} {Q : Exit → Act → World → Prop} {w : World} {b : Nat} {f : Int → Nat}
    (hg : o.guard = none) (m x y : Operand) (hop : o.op = Op.mapUpdate 24 m x y) (k : Int) (n : Nat) (hn : n = f k) (hm : a.eval m = .map (some b)) (hx : a.eval x = .int .i64 k) (hy : a.eval y = .int .i64 ((n : Nat) + 1)) (h : CntIs w b f)
    (hK : ∀ w', CntIs w' b (addC f k) → w.grownBy w' (some b) → wpList Try.prog ops Q rest (a.put o.dst undef) w') : wpList Try.prog ops Q (o :: rest) a w := by
  refine wpList_plain hg fun K' hK' => ?_
  subst hn
  obtain ⟨m', h1, h2⟩ := h
  obtain ⟨w', hr, h3, h4⟩ := h1.update kInt Try.underlying24 k (.int .i64 ((f k : Nat) + 1))
  unfold Oper.wp
  simp [execOp, hop, hm, hx, hy, hr, Result.andThen]
  refine hK' _ _ (hK w' ⟨_, h3, fun y => ?_⟩ h4)
  rw [getL_putL h1.nodup]
  unfold addC
  split
  · rename_i e; subst e; simp
  · exact h2 y
theorem CntIs.len {w : World} {b : Nat} {l : List Nd} (h : CntIs w b (fun x => if isId l x = true then refsN l x l.length else 0)) (ty : TypeId) :
    (Builtin.len_ #[24] ty #[.map (some b)]).run Try.prog w = .ok (.int .i64 ((firsts l l.length).length : Nat)) w := by
  obtain ⟨m, h1, h2⟩ := h
  dsimp only at h2
  rw [h1.size Try.underlying24 ty]
  have : m.length = (firsts l l.length).length := by
    rw [← firsts_len h1.nodup (fun x => ?_), List.length_map]
    constructor
    · intro hx
      have h3 := h2 x
      by_cases hc : 0 < (if isId l x = true then refsN l x l.length else 0)
      · by_cases hi : isId l x = true
        · rw [if_pos hi] at hc; exact ⟨hi, hc⟩
        · rw [if_neg hi] at hc; omega
      · rw [if_neg hc] at h3
        obtain ⟨p, hp, rfl⟩ := List.mem_map.1 hx
        exact absurd rfl (getL_none.1 h3 p hp)
    · rintro ⟨hi, hc⟩
      have h3 := h2 x
      rw [if_pos (by rw [if_pos hi]; exact hc)] at h3
      exact List.mem_map.2 ⟨_, mem_of_getL h3, rfl⟩
  rw [this]

/-- The counts when k nodes and j edges of the next one are done. -/
def cntJ (l : List Nd) (k j : Nat) (x : Int) : Nat :=
  if isId l x = true then refsN l x k + (if 1 ≤ j ∧ leadsB (nd l k).lo x = true then 1 else 0) + (if 2 ≤ j ∧ leadsB (nd l k).hi x = true then 1 else 0) else 0
def edgeJ (n : Nd) (j : Nat) : Int := if j = 0 then n.lo else n.hi
theorem cntJ_succ (l : List Nd) (k j : Nat) (hj : j < 2) (x : Int) : cntJ l k (j + 1) x = cntJ l k j x + (if isId l x = true ∧ leadsB (edgeJ (nd l k) j) x = true then 1 else 0) := by
  unfold cntJ edgeJ
  obtain rfl | rfl : j = 0 ∨ j = 1 := by omega
  · by_cases h : isId l x = true <;> simp [h]
  · by_cases h : isId l x = true <;> simp [h]
theorem cntJ_two (l : List Nd) (k : Nat) : cntJ l k 2 = cntJ l (k + 1) 0 := by
  funext x
  unfold cntJ
  by_cases h : isId l x = true <;> simp [h, refsN]
theorem leadsB_neg {e x : Int} (h : e < 0) : leadsB e x = false := by simp only [leadsB, decide_eq_false_iff_not]; omega
theorem leadsB_pos {e x : Int} (h : ¬ e < 0) : leadsB e x = decide (x = e / 2) := by
  unfold leadsB
  refine decide_eq_decide.2 ?_
  constructor
  · rintro ⟨_, h⟩; exact h.symm
  · rintro h'; exact ⟨by omega, h'.symm⟩
theorem cntJ_neg {l : List Nd} {k j : Nat} (hj : j < 2) (he : edgeJ (nd l k) j < 0) : cntJ l k (j + 1) = cntJ l k j := by
  funext x; rw [cntJ_succ l k j hj, leadsB_neg he]; simp
theorem cntJ_out {l : List Nd} {k j : Nat} (hj : j < 2) (he : ¬ edgeJ (nd l k) j < 0) (hi : isId l (edgeJ (nd l k) j / 2) = false) : cntJ l k (j + 1) = cntJ l k j := by
  funext x; rw [cntJ_succ l k j hj, leadsB_pos he]
  by_cases e : x = edgeJ (nd l k) j / 2
  · subst e; simp [hi]
  · simp [e]
theorem cntJ_in {l : List Nd} {k j : Nat} (hj : j < 2) (he : ¬ edgeJ (nd l k) j < 0) (hi : isId l (edgeJ (nd l k) j / 2) = true) : cntJ l k (j + 1) = addC (cntJ l k j) (edgeJ (nd l k) j / 2) := by
  funext x; rw [cntJ_succ l k j hj, leadsB_pos he]
  unfold addC
  by_cases e : x = edgeJ (nd l k) j / 2
  · subst e; simp [hi]
  · simp [e]
theorem cntJ_le (l : List Nd) (k j : Nat) (x : Int) : cntJ l k j x ≤ 2 * k + 2 := by
  have := refsN_le l x k
  unfold cntJ
  split
  · split <;> split <;> omega
  · omega
/-- The numbers of the first k nodes. -/
def isK (l : List Nd) (k : Nat) : Int → Bool := isId (l.take k)
theorem isK_succ {l : List Nd} {k : Nat} (hk : k < l.length) : isK l (k + 1) = setS (isK l k) (nd l k).id true := by
  funext x
  unfold isK isId setS
  rw [List.take_succ_eq_append_getElem hk, List.any_append, ← nd_eq hk]
  by_cases e : x = (nd l k).id
  · subst e; simp
  · have : ((nd l k).id == x) = false := by simpa using fun h => e h.symm
    simp [e, this]

set_option maxRecDepth 100000 in
set_option maxHeartbeats 1600000 in
theorem ddRefs_any (a : Option Addr) (c : Nat) (l : List Nd) (w : World) (h : NodesAt w a l) (hlen : l.length ≤ 1000) :
    Calls Try.prog 5 #[.slice a l.length c] w fun e w' => ∃ b, e = .returned (.map (some b)) ∧ CntIs w' b (fun x => if isId l x = true then refsN l x l.length else 0) ∧ Below w.heap.size w w' ∧ w.heap.size ≤ b := by
  have HN := Lib.hid h
  clear h
  have hmm := @run_makeMap Try.prog
  go_enter Try.func5, Try.ntmps5
  go_wp2_with fail
  have hs0 := setIs_new w
  go_loopw [16] (fun s16 wr => ∃ k : Nat, k ≤ l.length ∧ s16 = .int .i64 k ∧ SetIs wr w.heap.size (isK l k) ∧ Below w.heap.size w wr) (fun s16 _ => l.length - (intOf s16).toNat)
  case atStart => exact ⟨0, by omega, rfl, by have e : isK l 0 = fun _ => false := by { funext x; simp [isK, isId] }; rw [e]; exact hs0, below_new1 _ _⟩
  case round =>
    obtain ⟨k, hk, rfl, hs, hb⟩ := hrel
    have HS := Lib.hid hs
    have HB := Lib.hid hb
    clear hs hb
    by_cases hkt : k < l.length
    · obtain ⟨bb, off, rfl, c0, c1, c2, c3, c4⟩ := (HN.out.below HB.out).cells k hkt
      have HK := Lib.hid (isK_succ hkt)
      go_wp2_with (refine wpList_putSet (R := isK l k) rfl _ _ _ rfl (nd l k).id true rfl rfl rfl (by exact HS.out.below (below_new1 _ _)) ?_; intro w2 hs2 hg2)
      go_roundw
      case rel => exact ⟨k + 1, by omega, by go_num, by rw [HK.out]; exact hs2, (HB.out.alloc HB.out.size _).grown hg2 (by have := HB.out.size; simp; omega) (by simp)⟩
      case measure => simp [intOf]; omega
    · obtain rfl : k = l.length := by omega
      have hs1 := HS.out
      have eK : isK l l.length = isId l := by unfold isK; rw [List.take_length]
      rw [eK] at hs1
      clear HS eK
      have HS := Lib.hid hs1
      clear hs1
      go_wp2_with fail
      obtain ⟨ob, hob⟩ : ∃ ob, ob = wr.heap.size := ⟨_, rfl⟩
      obtain ⟨W1, hW1⟩ : ∃ W, W = wr.alloc (.map #[] 0) := ⟨_, rfl⟩
      have hc0 : CntIs W1 ob (fun _ => 0) := by rw [hW1, hob]; exact cntIs_new wr
      have hs1 : SetIs W1 w.heap.size (isId l) := by rw [hW1]; exact HS.out.below (below_new1 wr _)
      have hb1 : Below w.heap.size w W1 := by rw [hW1]; exact HB.out.alloc HB.out.size _
      have hob1 : w.heap.size < ob := by rw [hob]; exact HS.out.lt
      rw [← hob, ← hW1]
      clear hob hW1 HS HB
      go_loopw [27] (fun s27 wx => ∃ k : Nat, k ≤ l.length ∧ s27 = .int .i64 k ∧ SetIs wx w.heap.size (isId l) ∧ CntIs wx ob (cntJ l k 0) ∧ Below w.heap.size w wx) (fun s27 _ => l.length - (intOf s27).toNat)
      case atStart => exact ⟨0, by omega, rfl, hs1, by have e : cntJ l 0 0 = fun _ => 0 := by { funext x; simp [cntJ, refsN] }; rw [e]; exact hc0, hb1⟩
      case round =>
        obtain ⟨k, hk, rfl, hs, hc, hb⟩ := hrel
        have HS := Lib.hid hs
        have HC := Lib.hid hc
        have HB := Lib.hid hb
        clear hs hc hb hs1 hc0 hb1
        by_cases hkt : k < l.length
        · obtain ⟨bb, off, rfl, c0, c1, c2, c3, c4⟩ := (HN.out.below HB.out).cells k hkt
          obtain ⟨_, _, ⟨i5, i6⟩, ⟨i7, i8⟩⟩ := HN.out.ok k hkt
          go_wp2_with fail
          obtain ⟨W2, hW2⟩ : ∃ W, W = wr.alloc (.cells #[.int .i64 (nd l k).id, .int .i64 (nd l k).v, .int .i64 (nd l k).lo, .int .i64 (nd l k).hi, .int .i64 (nd l k).refs] 31) := ⟨_, rfl⟩
          have hs1 : SetIs W2 w.heap.size (isId l) := by rw [hW2]; exact HS.out.below (below_new1 _ _)
          have hc1 : CntIs W2 ob (cntJ l k 0) := by rw [hW2]; exact HC.out.below (below_new1 _ _)
          have hb1 : Below w.heap.size w W2 := by rw [hW2]; exact HB.out.alloc HB.out.size _
          rw [← hW2]
          clear hW2 HS HC HB c0 c1 c2 c3 c4
          go_loopw [36] (fun s36 wy => ∃ j : Nat, j ≤ 2 ∧ s36 = .int .i64 j ∧ SetIs wy w.heap.size (isId l) ∧ CntIs wy ob (cntJ l k j) ∧ Below w.heap.size w wy) (fun s36 _ => 2 - (intOf s36).toNat)
          case atStart => exact ⟨0, by omega, rfl, hs1, hc1, hb1⟩
          case round =>
            obtain ⟨j, hj, rfl, hs, hc, hb⟩ := hrel
            have HS := Lib.hid hs
            have HC := Lib.hid hc
            have HB := Lib.hid hb
            clear hs hc hb hs1 hc1 hb1
            by_cases hjt : j < 2
            · have hix : ∀ w, (Instr.index 39 (.agg #[.int .i64 (nd l k).lo, .int .i64 (nd l k).hi]) (.int .i64 j)).run Try.prog w = .ok (.int .i64 (edgeJ (nd l k) j)) w := by
                intro w
                obtain rfl | rfl : j = 0 ∨ j = 1 := by omega
                · kernel_rfl
                · kernel_rfl
              have he6 : edgeJ (nd l k) j ≤ 9223372036854775807 := by unfold edgeJ; split <;> assumption
              have HN1 := fun he => cntJ_neg (l := l) (k := k) hjt he
              have HN2 := fun he hi => cntJ_out (l := l) (k := k) hjt he hi
              have HN3 := fun he hi => cntJ_in (l := l) (k := k) hjt he hi
              have hcl := cntJ_le l k j (edgeJ (nd l k) j / 2)
              obtain ⟨e, he⟩ : ∃ e, e = edgeJ (nd l k) j := ⟨_, rfl⟩
              rw [← he] at hix he6 HN1 HN2 HN3 hcl
              have HN1 := Lib.hid HN1
              have HN2 := Lib.hid HN2
              have HN3 := Lib.hid HN3
              have hlk := HS.out.look (e / 2)
              have hlc := HC.out.look (e / 2)
              have HE := Lib.hid he
              clear he
              by_cases h0 : e < 0
              · go_wp2_with fail
                refine (leads_any e _ he6).mono ?_
                rintro x w' ⟨rfl, rfl⟩
                rw [if_pos h0]
                go_wp2_with fail
                go_roundw
                case rel => exact ⟨j + 1, by omega, by go_num, HS.out, by rw [HN1.out h0]; exact HC.out, HB.out⟩
                case measure => simp [intOf]; omega
              · obtain ⟨B, hB⟩ : ∃ B, B = isId l (e / 2) := ⟨_, rfl⟩
                obtain ⟨n, hn⟩ : ∃ n, n = cntJ l k j (e / 2) := ⟨_, rfl⟩
                rw [← hB] at hlk HN2 HN3
                rw [← hn] at hlc hcl
                have HNN := Lib.hid hn
                clear hB hn
                have h0' : 0 ≤ e := by omega
                cases B
                · go_wp2_with fail
                  refine (leads_any e _ he6).mono ?_
                  rintro x w' ⟨rfl, rfl⟩
                  rw [if_neg (by omega)]
                  go_wp2_with fail
                  go_roundw
                  case rel => exact ⟨j + 1, by omega, by go_num, HS.out, by rw [HN2.out (by omega) (by simp)]; exact HC.out, HB.out⟩
                  case measure => simp [intOf]; omega
                · go_wp2_with fail
                  refine (leads_any e _ he6).mono ?_
                  rintro x w' ⟨rfl, rfl⟩
                  rw [if_neg (by omega)]
                  go_wp2_with (refine wpList_putCnt rfl _ _ _ rfl (e / 2) n HNN.out rfl rfl rfl (by exact HC.out) ?_; intro w2 hc2 hg2)
                  go_roundw
                  case rel => exact ⟨j + 1, by omega, by go_num, HS.out.keep (keepBut_of_grown0 hg2) (by simp; omega), by rw [HN3.out (by omega) (by simp)]; exact hc2, HB.out.grown hg2 HB.out.size (by simp; omega)⟩
                  case measure => simp [intOf]; omega
            · obtain rfl : j = 2 := by omega
              have hc1 := HC.out
              rw [cntJ_two] at hc1
              have HC := Lib.hid hc1
              clear hc1
              go_wp2_with fail
              go_roundw
              case rel => exact ⟨k + 1, by omega, by go_num, HS.out, HC.out, HB.out⟩
              case measure => simp [intOf]; omega
        · obtain rfl : k = l.length := by omega
          have hc1 : CntIs wr ob (fun x => if isId l x = true then refsN l x l.length else 0) := by
            have e : (fun x => if isId l x = true then refsN l x l.length else 0) = cntJ l l.length 0 := by funext x; simp [cntJ]
            rw [e]; exact HC.out
          have HC := Lib.hid hc1
          clear hc1
          go_wp2_with fail
          go_ret
          exact ⟨_, rfl, HC.out, HB.out, by omega⟩
end Go.Proofs.Ytcembefhfadpbab
