/- The reference's Refs and Dead, over lists of nodes. -/
import Derived.Test.YtcembefhfadpbabDeadL
import Derived.Test.YtcembefhfadpbabFind
import Derived.Laws.MakeOwn
namespace Go.Proofs.Ytcembefhfadpbab
open Go.RowKit

set_option maxHeartbeats 400000 in
theorem refRefs_any (a : Option Addr) (c : Nat) (l : List Nd) (x : Int) (w : World) (h : NodesAt w a l) (hlen : l.length ≤ 1000) :
    Calls Try.prog 9 #[.slice a l.length c, .int .i64 x] w fun e w' => e = .returned (.int .i64 (refsN l x l.length : Nat)) ∧ w = w' := by
  have HN := Lib.hid h
  clear h
  go_enter Try.func9, Try.ntmps9
  go_wp2
  go_loop [5, 6] (fun s i => ∃ k : Nat, k ≤ l.length ∧ i = .int .i64 k ∧ s = .int .i64 (refsN l x k : Nat)) (fun _ i => l.length - (intOf i).toNat)
  case atStart => exact ⟨0, Nat.zero_le _, rfl, rfl⟩
  case round =>
    obtain ⟨k, hk, rfl, rfl⟩ := hrel
    have hb := refsN_le l x k
    by_cases hlt : k < l.length
    · obtain ⟨b, off, rfl, c0, c1, c2, c3, c4⟩ := HN.out.cells k hlt
      obtain ⟨_, _, ⟨i5, i6⟩, ⟨i7, i8⟩⟩ := HN.out.ok k hlt
      have HS : Hid (refsN l x (k + 1) = refsN l x k + (if leadsB (nd l k).lo x = true then 1 else 0) + (if leadsB (nd l k).hi x = true then 1 else 0)) := Lib.hid rfl
      obtain ⟨n, hn⟩ : ∃ n, n = refsN l x k := ⟨_, rfl⟩
      rw [← hn] at hb HS ⊢
      obtain ⟨p, hp⟩ : ∃ p, p = leadsB (nd l k).lo x := ⟨_, rfl⟩
      obtain ⟨q, hq⟩ : ∃ q, q = leadsB (nd l k).hi x := ⟨_, rfl⟩
      have HL := fun w => refLeads_any (nd l k).lo x w i6
      have HH := fun w => refLeads_any (nd l k).hi x w i8
      rw [← hp] at HL HS
      rw [← hq] at HH HS
      have HL := Lib.hid HL
      have HH := Lib.hid HH
      obtain ⟨lo, hlo⟩ : ∃ y, y = (nd l k).lo := ⟨_, rfl⟩
      obtain ⟨hi, hhi⟩ : ∃ y, y = (nd l k).hi := ⟨_, rfl⟩
      rw [← hlo] at c2 HL i5 i6
      rw [← hhi] at c3 HH i7 i8
      clear hn hp hq hlo hhi c0 c1 c4
      cases p <;> cases q
      all_goals
        go_wp2_with fail
        refine (HL.out _).mono ?_
        rintro e w' ⟨rfl, rfl⟩
        go_wp2_with fail
        refine (HH.out _).mono ?_
        rintro e w' ⟨rfl, rfl⟩
        go_wp2_with fail
        go_round
        case rel => exact ⟨k + 1, by omega, by go_num, by rw [HS.out]; go_num⟩
        case measure => simp [intOf]; omega
    · obtain rfl : k = l.length := by omega
      go_wp2
      go_ret
      exact ⟨rfl, rfl⟩

/-! A row of flags that the call itself made. -/
def boolsV (bs : List Bool) : List Value := bs.map Value.bool
def OwnB (w : World) (base : Nat) (v : Value) (bs : List Bool) : Prop := w.ownsRow base 4 1 v bs.length (boolsV bs)
theorem OwnB.drewN {w : World} {base : Nat} {v : Value} {bs : List Bool} (h : OwnB w base v bs) (n : Nat) : OwnB (w.drewN n) base v bs := h
theorem OwnB.lt {w : World} {base : Nat} {v : Value} {bs : List Bool} (h : OwnB w base v bs) : ∀ k, v.ownBlock = some k → base ≤ k ∧ k < w.heap.size := World.ownsRow.lt h
theorem OwnB.below {w w' : World} {base : Nat} {v : Value} {bs : List Bool} (h : OwnB w base v bs) (hb : Below w.heap.size w w') : OwnB w' base v bs := by
  refine World.ownsRow.kept (row := none) h ⟨hb.os, hb.tape, hb.output, hb.size, fun k hk _ => hb.block k hk⟩ ?_
  cases v.ownBlock <;> simp
theorem OwnB.keep {row : Option Nat} {w w' : World} {base : Nat} {v : Value} {bs : List Bool} (h : OwnB w base v bs) (hk : KeepBut row w w') (hne : ∀ k, v.ownBlock = some k → some k ≠ row) : OwnB w' base v bs := by
  refine ⟨h.1, ?_⟩
  rcases h.2 with hn | ⟨g, cap, cur, rfl, hb, hgg, rest⟩
  · exact .inl hn
  · refine .inr ⟨g, cap, cur, rfl, hb, ?_, rest⟩
    rw [hk g (Array.getElem?_eq_some_iff.1 hgg).1 (hne g rfl)]
    exact hgg
theorem OwnB.cell {w : World} {base g cap n : Nat} {bs : List Bool} (h : OwnB w base (.slice (some ⟨g, 0, none⟩) n cap) bs) (k : Nat) (hk : k < bs.length) :
    w.cell? ⟨g, k, none⟩ = some (.bool (bt bs k)) := by
  have hn : n = bs.length := by
    rcases h.2 with ⟨hv, _⟩ | ⟨_, _, _, hv, _⟩
    · cases hv
    · cases hv; rfl
  subst hn
  have := World.ownsRow.cellAt h k (by omega)
  rw [this, boolsV, List.getElem?_map, List.getElem?_eq_getElem hk]
  simp [bt, List.getD, hk]
theorem OwnB.frozen {w : World} {base g cap n : Nat} {bs : List Bool} (h : OwnB w base (.slice (some ⟨g, 0, none⟩) n cap) bs) (k : Nat) :
    w.frozen? ⟨g, k, none⟩ = false := by
  rcases h.2 with ⟨hv, _⟩ | ⟨_, _, _, hv, _⟩
  · cases hv
  · cases hv; exact World.ownsRow.frozenAt h k
theorem OwnB.stored {w : World} {base g cap n : Nat} {bs : List Bool} (h : OwnB w base (.slice (some ⟨g, 0, none⟩) n cap) bs) (k : Nat) (y : Bool) :
    OwnB (w.setCell ⟨g, k, none⟩ (.bool y)) base (.slice (some ⟨g, 0, none⟩) n cap) (bs.set k y) := by
  rcases h.2 with ⟨hv, _⟩ | ⟨_, _, _, hv, _⟩
  · cases hv
  · cases hv
    have := (World.ownsRow.stored h k (.bool y)).1
    unfold OwnB
    rw [List.length_set]
    have e : boolsV (bs.set k y) = (boolsV bs).set k (.bool y) := by simp [boolsV, List.map_set]
    rw [e]; exact this
theorem infoBool : (Try.prog.info? 4).map (fun i => (i.zero, i.size, i.bytes)) = some (some (.bool false), 1, 1) := by kernel_rfl
/-- 'make([]bool, n)'. -/
theorem wpList_makeB {ops : Array Oper} {rest : List Oper} {o : Oper} {a : Act} {Q : Exit → Act → World → Prop} {wr : World} (hgd : o.guard = none) (l c : Operand)
    (ho : o.op = .makeSlice 44 l c) (base : Nat) (w0 : World) (L : Int) (n : Nat) (hl : a.eval l = .int .i64 L) (hc : a.eval c = .int .i64 L) (hL : L = n) (hn : n < 1099511627776)
    (hbase : base ≤ wr.heap.size) (hb : Below base w0 wr)
    (h : ∀ g w', OwnB w' base (.slice (some ⟨g, 0, none⟩) n n) (List.replicate n false) → Below base w0 w' → base ≤ w'.heap.size → KeepBut none wr w' → base ≤ g →
      wpList Try.prog ops Q rest (a.put o.dst (.slice (some ⟨g, 0, none⟩) n n)) w') :
    wpList Try.prog ops Q (o :: rest) a wr := by
  obtain ⟨i, hi, hz, hsz, hby⟩ := info_parts infoBool
  refine wpList_make_full wr hgd l c 44 ho base 4 i (.bool false) 1 Try.underlying44 hi hz hsz .i64 .i64 L L n hl hc hL hL (by rw [hby]; omega) (by unfold maxLen; omega) hbase ?_
  intro w' h1 h2
  refine h wr.heap.size w' ?_ (hb.grown h2 hbase (by simp)) (by have := h2.size; omega) (keepBut_of_grown0 h2) hbase
  unfold OwnB
  have e1 : boolsV (List.replicate n false) = (madeCells (Value.bool false).cells (n * 1)).toList := by
    simp [boolsV, madeCells, Value.cells]
    apply List.ext_getElem
    · simp
    · intro j h3 h4; simp [Nat.mod_one]
  rw [List.length_replicate, e1]; exact h1
theorem quiet_of_eq {P : Program} {f : FuncId} {args : Array Value} {w : World} {n : Nat} {v : Value}
    (h : Calls P f args (w.drewN n) fun e w' => e = .returned v ∧ w.drewN n = w') : Calls P f args (w.drewN n) fun e w'' => e = .returned v ∧ ∃ m, w'' = w.drewN m :=
  h.mono fun _ _ ⟨he, hm⟩ => ⟨he, n, hm.symm⟩
/-- Two slices do not share a block. -/
def Apart (u v : Value) : Prop := ∀ g, u.ownBlock = some g → v.ownBlock ≠ some g

/-- What stands in the reference while it marks. -/
structure MarkRel (w : World) (base g : Nat) (l : List Nd) (b : List Bool) (wr : World) : Prop where
  own : OwnB wr base (.slice (some ⟨g, 0, none⟩) l.length l.length) b
  below : Below base w wr
  size : base ≤ wr.heap.size
theorem MarkRel.drewN {w : World} {base g : Nat} {l : List Nd} {b : List Bool} {wr : World} (h : MarkRel w base g l b wr) (n : Nat) : MarkRel w base g l b (wr.drewN n) := ⟨h.own, below_drewN h.below n, h.size⟩
theorem MarkRel.set {w : World} {base g : Nat} {l : List Nd} {b : List Bool} {wr : World} (h : MarkRel w base g l b wr) (hg : base ≤ g) (i n : Nat) : MarkRel w base g l (b.set i true) ((wr.drewN n).setCell ⟨g, i, none⟩ (.bool true)) :=
  ⟨h.own.stored i true, (below_drewN h.below n).setCell hg _, by simp [World.setCell]; exact h.size⟩

theorem placeZ_ge {zs : List Int} {x : Int} (h : x ∈ zs) : 0 ≤ placeZ zs x := by
  unfold placeZ
  split
  · omega
  · rename_i hn; exact absurd h (List.idxOf?_eq_none_iff.1 hn)
theorem placeZ_lt0 {zs : List Int} {x : Int} (h : x ∉ zs) : placeZ zs x < 0 := by
  unfold placeZ
  rw [List.idxOf?_eq_none_iff.2 h]; decide
/-- What stands in the reference while it splits the list at x. -/
structure Split (w : World) (base g : Nat) (v v9 v10 : Value) (out : List Int) (x : Int) (k : Nat) (wr : World) : Prop where
  own : OwnI wr base v out
  less : OwnI wr base v9 ((out.take k).filter (fun y => decide (y < x)))
  more : OwnI wr base v10 ((out.take k).filter (fun y => !decide (y < x)))
  ap : Apart v9 v
  aq : Apart v10 v
  ar : Apart v9 v10
  ng : v.ownBlock ≠ some g ∧ v9.ownBlock ≠ some g ∧ v10.ownBlock ≠ some g
  below : Below base w wr
  size : base ≤ wr.heap.size
theorem Split.drewN {w : World} {base g : Nat} {v v9 v10 : Value} {out : List Int} {x : Int} {k : Nat} {wr : World} (h : Split w base g v v9 v10 out x k wr) (n : Nat) : Split w base g v v9 v10 out x k (wr.drewN n) :=
  ⟨h.own, h.less, h.more, h.ap, h.aq, h.ar, h.ng, below_drewN h.below n, h.size⟩
theorem Apart.symm {u v : Value} (h : Apart u v) : Apart v u := fun g hv hu => h g hu hv
theorem Apart.keepL {u u' v : Value} {w w' : World} {base : Nat} {zs : List Int} (h : Apart u v) (hk : KeepApp u u' w w') (ho : OwnI w base v zs) : Apart u' v := by
  intro g hu hv
  rcases hk.loc with e | ⟨k, e, hk⟩
  · rw [e] at hu; exact h g hu hv
  · rw [e] at hu; cases hu; have := (ho.lt g hv).2; omega
theorem OwnI.app_other {u u' v : Value} {w w' : World} {base : Nat} {zs : List Int} (ho : OwnI w base v zs) (h : Apart u v) (hk : KeepApp u u' w w') : OwnI w' base v zs :=
  ho.keep hk.keep fun g hv hu => h g hu.symm hv
theorem take_filter {out : List Int} {k : Nat} (hk : k < out.length) (p : Int → Bool) : (out.take (k + 1)).filter p = (out.take k).filter p ++ (if p (at0 out k) = true then [at0 out k] else []) := by
  rw [List.take_succ_eq_append_getElem hk, List.filter_append, ← at0_eq hk]
  cases h : p (at0 out k) <;> simp [h]
theorem Split.lessS {w : World} {base g : Nat} {v v9 v10 : Value} {out : List Int} {x : Int} {k : Nat} {wr : World} (h : Split w base g v v9 v10 out x k wr) (hk : k < out.length) (hx : at0 out k < x) {v' : Value} {wy : World}
    (h1 : OwnI wy base v' ((out.take k).filter (fun y => decide (y < x)) ++ [at0 out k])) (h2 : Below base w wy) (h3 : base ≤ wy.heap.size) (h4 : KeepApp v9 v' wr wy) (hg : g < wr.heap.size) : Split w base g v v' v10 out x (k + 1) wy := by
  refine ⟨h.own.app_other h.ap h4, ?_, ?_, h.ap.keepL h4 h.own, h.aq, h.ar.keepL h4 h.more, ⟨h.ng.1, h4.ne h.ng.2.1 hg, h.ng.2.2⟩, h2, h3⟩
  · rw [take_filter hk]; simpa [hx] using h1
  · rw [take_filter hk]; simpa [hx] using h.more.app_other h.ar h4
theorem Split.moreS {w : World} {base g : Nat} {v v9 v10 : Value} {out : List Int} {x : Int} {k : Nat} {wr : World} (h : Split w base g v v9 v10 out x k wr) (hk : k < out.length) (hx : ¬ at0 out k < x) {v' : Value} {wy : World}
    (h1 : OwnI wy base v' ((out.take k).filter (fun y => !decide (y < x)) ++ [at0 out k])) (h2 : Below base w wy) (h3 : base ≤ wy.heap.size) (h4 : KeepApp v10 v' wr wy) (hg : g < wr.heap.size) : Split w base g v v9 v' out x (k + 1) wy := by
  refine ⟨h.own.app_other h.aq h4, ?_, ?_, h.ap, h.aq.keepL h4 h.own, (h.ar.symm.keepL h4 h.less).symm, ⟨h.ng.1, h.ng.2.1, h4.ne h.ng.2.2 hg⟩, h2, h3⟩
  · rw [take_filter hk]; simpa [hx] using h.less.app_other h.ar.symm h4
  · rw [take_filter hk]; simpa [hx] using h1

set_option maxRecDepth 100000 in
set_option maxHeartbeats 4000000 in
theorem refDead_mark (a : Option Addr) (c : Nat) (l : List Nd) (w : World) (h : NodesAt w a l) (hlen : l.length ≤ 1000) :
    Calls Try.prog 8 #[.slice a l.length c] w fun e w' => ∃ v, e = .returned v ∧ OwnI w' w.heap.size v (deadR l l.length) ∧ Below w.heap.size w w' := by
  have HN := Lib.hid h
  clear h
  go_enter Try.func8, Try.ntmps8
  go_wp2_with (at_make; refine wpList_makeB rfl _ _ rfl w.heap.size w _ l.length rfl rfl rfl (by omega) (Nat.le_refl _) (Below.refl _ _) ?_; intro g w1 hown1 hb1 hs1 hk1 hg1)
  have HM1 : Hid (MarkRel w w.heap.size g l (List.replicate l.length false) w1) := ⟨hown1, hb1, hs1⟩
  clear hown1 hb1 hs1 hk1
  obtain ⟨b0, hb0⟩ : ∃ b0, b0 = List.replicate l.length false := ⟨_, rfl⟩
  rw [← hb0] at HM1
  have hb0l : Hid (b0.length = l.length) := by show _ = _; rw [hb0]; simp
  have HB0 := Lib.hid hb0
  clear hb0
  go_loopw [4] (fun s4 wr => ∃ r : Nat, r ≤ l.length + 1 ∧ s4 = .int .i64 r ∧ MarkRel w w.heap.size g l (stA l b0 r) wr) (fun s4 _ => l.length + 1 - (intOf s4).toNat)
  case atStart => exact ⟨0, by omega, rfl, HM1.out⟩
  case round =>
    obtain ⟨r, hr, rfl, hm⟩ := hrel
    clear HM1
    have HM := Lib.hid hm
    clear hm
    obtain ⟨b, hbr⟩ : ∃ b, b = stA l b0 r := ⟨_, rfl⟩
    rw [← hbr] at HM
    have HBR := Lib.hid hbr
    have hbl : Hid (b.length = l.length) := by show _ = _; rw [hbr, stA_length, hb0l.out]
    clear hbr
    by_cases hlt : r < l.length + 1
    · have hlt' : (r : Int) ≤ l.length := by omega
      go_wp2_with fail
      go_loopw [5] (fun s5 wr => ∃ i : Nat, i ≤ l.length ∧ s5 = .int .i64 i ∧ MarkRel w w.heap.size g l (stR l b i) wr) (fun s5 _ => l.length - (intOf s5).toNat)
      case atStart => exact ⟨0, by omega, rfl, HM.out⟩
      case round =>
        obtain ⟨i, hi, rfl, hm⟩ := hrel
        have HM2 := Lib.hid hm
        clear hm
        obtain ⟨b2, hb2⟩ : ∃ b2, b2 = stR l b i := ⟨_, rfl⟩
        rw [← hb2] at HM2
        have HB2 := Lib.hid hb2
        have hb2l : Hid (b2.length = l.length) := by show _ = _; rw [hb2, stR_length, hbl.out]
        clear hb2
        by_cases hit : i < l.length
        · go_wp2_with fail
          go_loopw [6] (fun s6 wr => ∃ k : Nat, k ≤ l.length ∧ s6 = .int .i64 k ∧ MarkRel w w.heap.size g l (stI l i b2 k) wr) (fun s6 _ => l.length - (intOf s6).toNat)
          case atStart => exact ⟨0, by omega, rfl, HM2.out⟩
          case round =>
            obtain ⟨k, hk, rfl, hm⟩ := hrel
            have HST : Hid (stI l i b2 (k + 1) = if hitB l (stI l i b2 k) i k = true then (stI l i b2 k).set i true else stI l i b2 k) := Lib.hid rfl
            have HM3 := Lib.hid hm
            clear hm
            obtain ⟨b3, hb3⟩ : ∃ b3, b3 = stI l i b2 k := ⟨_, rfl⟩
            rw [← hb3] at HM3 HST
            have HB3 := Lib.hid hb3
            have hb3l : Hid (b3.length = l.length) := by show _ = _; rw [hb3, stI_length, hb2l.out]
            clear hb3
            by_cases hkt : k < l.length
            · obtain ⟨bb, off, rfl, c0, c1, c2, c3, c4⟩ := (HN.out.below HM3.out.below).cells k hkt
              obtain ⟨bb', off', he', d0, d1, d2, d3, d4⟩ := (HN.out.below HM3.out.below).cells i hit
              obtain ⟨rfl, rfl⟩ : bb = bb' ∧ off = off' := by cases he'; exact ⟨rfl, rfl⟩
              obtain ⟨_, _, ⟨i5, i6⟩, ⟨i7, i8⟩⟩ := HN.out.ok k hkt
              have cf := HM3.out.own.cell k (by rw [hb3l.out]; exact hkt)
              have fz := HM3.out.own.frozen i
              have cg := HM3.out.own.cell i (by rw [hb3l.out]; exact hit)
              have HL := fun w => refLeads_any (nd l k).lo (nd l i).id w i6
              have HH := fun w => refLeads_any (nd l k).hi (nd l i).id w i8
              have HIT : Hid (hitB l b3 i k = ((decide (0 < (nd l k).refs) && ((nd l k).id == (nd l i).id)) || (bt b3 k && (((nd l k).id == (nd l i).id) || (leadsB (nd l k).lo (nd l i).id || leadsB (nd l k).hi (nd l i).id))))) := Lib.hid rfl
              obtain ⟨A, hA⟩ : ∃ A, decide (0 < (nd l k).refs) = A := ⟨_, rfl⟩
              obtain ⟨B, hB⟩ : ∃ B, ((nd l k).id == (nd l i).id) = B := ⟨_, rfl⟩
              obtain ⟨C, hC⟩ : ∃ C, bt b3 k = C := ⟨_, rfl⟩
              obtain ⟨D, hD⟩ : ∃ D, leadsB (nd l k).lo (nd l i).id = D := ⟨_, rfl⟩
              obtain ⟨E, hE⟩ : ∃ E, leadsB (nd l k).hi (nd l i).id = E := ⟨_, rfl⟩
              rw [hA, hB, hC, hD, hE] at HIT
              rw [hD] at HL
              rw [hE] at HH
              rw [hC] at cf
              have HL := Lib.hid HL
              have HH := Lib.hid HH
              clear hC hD hE he' c1 d1 d2 d3 d4
              obtain ⟨x, hx⟩ : ∃ x, x = (nd l k).id := ⟨_, rfl⟩
              obtain ⟨y, hy⟩ : ∃ y, y = (nd l i).id := ⟨_, rfl⟩
              obtain ⟨lo, hlo⟩ : ∃ y, y = (nd l k).lo := ⟨_, rfl⟩
              obtain ⟨hi, hhi⟩ : ∃ y, y = (nd l k).hi := ⟨_, rfl⟩
              obtain ⟨rf, hrf⟩ : ∃ y, y = (nd l k).refs := ⟨_, rfl⟩
              rw [← hx] at c0 hB
              rw [← hy] at d0 hB HL HH
              rw [← hlo] at c2 HL i5 i6
              rw [← hhi] at c3 HH i7 i8
              rw [← hrf] at c4 hA
              clear hx hy hlo hhi hrf
              cases A
              · skip
                cases C
                · skip
                  go_wp2_with fail
                  go_quiet ((first | (with_reducible exact Calls.quiet_of_same (HL.out _)) | (with_reducible exact Calls.quiet_of_same (HH.out _))))
                  go_wp2_with fail
                  go_roundw
                  case rel => exact ⟨k + 1, by omega, by go_num, by rw [HST.out, HIT.out]; exact HM3.out.drewN _⟩
                  case measure => simp [intOf]; omega
                · skip
                  cases B
                  · skip
                    cases D
                    · skip
                      cases E
                      · skip
                        go_wp2_with fail
                        go_quiet ((first | (with_reducible exact Calls.quiet_of_same (HL.out _)) | (with_reducible exact Calls.quiet_of_same (HH.out _))))
                        go_wp2_with fail
                        go_roundw
                        case rel => exact ⟨k + 1, by omega, by go_num, by rw [HST.out, HIT.out]; exact HM3.out.drewN _⟩
                        case measure => simp [intOf]; omega
                      · skip
                        go_wp2_with fail
                        go_quiet ((first | (with_reducible exact Calls.quiet_of_same (HL.out _)) | (with_reducible exact Calls.quiet_of_same (HH.out _))))
                        go_wp2_with fail
                        go_roundw
                        case rel => exact ⟨k + 1, by omega, by go_num, by rw [HST.out, HIT.out]; exact HM3.out.set hg1 i _⟩
                        case measure => simp [intOf]; omega
                    · skip
                      go_wp2_with fail
                      go_quiet ((first | (with_reducible exact Calls.quiet_of_same (HL.out _)) | (with_reducible exact Calls.quiet_of_same (HH.out _))))
                      go_wp2_with fail
                      go_roundw
                      case rel => exact ⟨k + 1, by omega, by go_num, by rw [HST.out, HIT.out]; exact HM3.out.set hg1 i _⟩
                      case measure => simp [intOf]; omega
                  · skip
                    go_wp2_with fail
                    go_quiet ((first | (with_reducible exact Calls.quiet_of_same (HL.out _)) | (with_reducible exact Calls.quiet_of_same (HH.out _))))
                    go_wp2_with fail
                    go_roundw
                    case rel => exact ⟨k + 1, by omega, by go_num, by rw [HST.out, HIT.out]; exact HM3.out.set hg1 i _⟩
                    case measure => simp [intOf]; omega
              · skip
                cases B
                · skip
                  cases C
                  · skip
                    go_wp2_with fail
                    go_quiet ((first | (with_reducible exact Calls.quiet_of_same (HL.out _)) | (with_reducible exact Calls.quiet_of_same (HH.out _))))
                    go_wp2_with fail
                    go_roundw
                    case rel => exact ⟨k + 1, by omega, by go_num, by rw [HST.out, HIT.out]; exact HM3.out.drewN _⟩
                    case measure => simp [intOf]; omega
                  · skip
                    cases D
                    · skip
                      cases E
                      · skip
                        go_wp2_with fail
                        go_quiet ((first | (with_reducible exact Calls.quiet_of_same (HL.out _)) | (with_reducible exact Calls.quiet_of_same (HH.out _))))
                        go_wp2_with fail
                        go_roundw
                        case rel => exact ⟨k + 1, by omega, by go_num, by rw [HST.out, HIT.out]; exact HM3.out.drewN _⟩
                        case measure => simp [intOf]; omega
                      · skip
                        go_wp2_with fail
                        go_quiet ((first | (with_reducible exact Calls.quiet_of_same (HL.out _)) | (with_reducible exact Calls.quiet_of_same (HH.out _))))
                        go_wp2_with fail
                        go_roundw
                        case rel => exact ⟨k + 1, by omega, by go_num, by rw [HST.out, HIT.out]; exact HM3.out.set hg1 i _⟩
                        case measure => simp [intOf]; omega
                    · skip
                      go_wp2_with fail
                      go_quiet ((first | (with_reducible exact Calls.quiet_of_same (HL.out _)) | (with_reducible exact Calls.quiet_of_same (HH.out _))))
                      go_wp2_with fail
                      go_roundw
                      case rel => exact ⟨k + 1, by omega, by go_num, by rw [HST.out, HIT.out]; exact HM3.out.set hg1 i _⟩
                      case measure => simp [intOf]; omega
                · skip
                  go_wp2_with fail
                  go_quiet ((first | (with_reducible exact Calls.quiet_of_same (HL.out _)) | (with_reducible exact Calls.quiet_of_same (HH.out _))))
                  go_wp2_with fail
                  go_roundw
                  case rel => exact ⟨k + 1, by omega, by go_num, by rw [HST.out, HIT.out]; exact HM3.out.set hg1 i _⟩
                  case measure => simp [intOf]; omega
            · obtain rfl : k = l.length := by omega
              go_wp2_with fail
              go_roundw
              case rel => exact ⟨i + 1, by omega, by go_num, by show MarkRel _ _ _ _ (stI l i (stR l b i) l.length) _; rw [← HB2.out, ← HB3.out]; exact HM3.out⟩
              case measure => simp [intOf]; omega
        · obtain rfl : i = l.length := by omega
          go_wp2_with fail
          go_roundw
          case rel => exact ⟨r + 1, by omega, by go_num, by show MarkRel _ _ _ _ (stR l (stA l b0 r) l.length) _; rw [← HBR.out, ← HB2.out]; exact HM2.out⟩
          case measure => simp [intOf]; omega
    · obtain rfl : r = l.length + 1 := by omega
      have hlt' : ¬ (((l.length + 1 : Nat) : Int) ≤ l.length) := by omega
      go_wp2_with fail
      go_loopw [7, 8] (fun s7 s8 wr => ∃ (i : Nat), i ≤ l.length ∧ s8 = .int .i64 i ∧ OwnI wr w.heap.size s7 (deadR l i) ∧ s7.ownBlock ≠ some g ∧ MarkRel w w.heap.size g l b wr) (fun _ s8 _ => l.length - (intOf s8).toNat)
      case atStart => exact ⟨0, by omega, rfl, ownI_nil _ _, by simp [Value.ownBlock], HM.out⟩
      case round =>
        obtain ⟨i, hi, rfl, hown, hne, hm⟩ := hrel
        have HO := Lib.hid hown
        have HNE := Lib.hid hne
        have HM2 := Lib.hid hm
        clear hown hne hm HM
        obtain ⟨out, hout⟩ : ∃ out, out = deadR l i := ⟨_, rfl⟩
        have hol : out.length ≤ i := by rw [hout]; exact deadR_length l i
        have HDR : Hid (deadR l (i + 1) = if bt b i = true ∨ (nd l i).id ∈ out then out else putS out (nd l i).id) := by
          show _ = _
          rw [hout, HBR.out, HB0.out]; rfl
        by_cases hit : i < l.length
        · rw [← hout] at HO
          clear hout
          obtain ⟨bb, off, rfl, d0, _⟩ := (HN.out.below HM2.out.below).cells i hit
          have cg := HM2.out.own.cell i (by rw [hbl.out]; exact hit)
          obtain ⟨C, hC⟩ : ∃ C, bt b i = C := ⟨_, rfl⟩
          obtain ⟨x, hx⟩ : ∃ x, x = (nd l i).id := ⟨_, rfl⟩
          rw [hC] at cg HDR
          rw [← hx] at d0 HDR
          have HX := Lib.hid hx
          clear hC hx
          cases C
          · obtain ⟨ao, co, hsl, hia⟩ := HO.out.sliceOf (by omega)
            have HP := Lib.hid (fun W (hh : IntsAt W ao out) => refAPlace_any ao co out x W hh)
            have HIA := Lib.hid hia
            have HSL := Lib.hid hsl
            clear hia
            subst hsl
            by_cases hmem : x ∈ out
            · have hp := placeZ_ge hmem
              obtain ⟨q, hq⟩ : ∃ q, q = placeZ out x := ⟨_, rfl⟩
              rw [← hq] at HP hp
              have HMEM := Lib.hid hmem
              clear hq hmem
              go_wp2_with fail
              refine (HP.out _ HIA.out).mono ?_
              rintro e w' ⟨rfl, rfl⟩
              go_wp2_with fail
              go_roundw
              case rel => exact ⟨i + 1, by omega, by go_num, by rw [HDR.out, if_pos (.inr HMEM.out)]; exact HO.out, HNE.out, HM2.out⟩
              case measure => simp [intOf]; omega
            · have hp := placeZ_lt0 hmem
              obtain ⟨q, hq⟩ : ∃ q, q = placeZ out x := ⟨_, rfl⟩
              rw [← hq] at HP hp
              have HMEM := Lib.hid hmem
              clear hq hmem
              go_wp2_with fail
              refine (HP.out _ HIA.out).mono ?_
              rintro e w' ⟨rfl, rfl⟩
              go_wp2_with fail
              go_loopw [9, 10, 11] (fun s9 s10 s11 wr => ∃ (k : Nat), k ≤ out.length ∧ s11 = .int .i64 k ∧ Split w w.heap.size g (.slice ao out.length co) s9 s10 out x k wr ∧ MarkRel w w.heap.size g l b wr) (fun _ _ s11 _ => out.length - (intOf s11).toNat)
              case atStart => exact ⟨0, by omega, rfl, ⟨HO.out, ownI_nil _ _, ownI_nil _ _, by simp [Apart, Value.ownBlock], by simp [Apart, Value.ownBlock], by simp [Apart, Value.ownBlock], ⟨HNE.out, by simp [Value.ownBlock], by simp [Value.ownBlock]⟩, HM2.out.below, HM2.out.size⟩, HM2.out⟩
              case round =>
                obtain ⟨k, hk, rfl, hsp, hm⟩ := hrel
                have HSP := Lib.hid hsp
                have HM3 := Lib.hid hm
                clear hsp hm
                by_cases hkt : k < out.length
                · obtain ⟨gq, cap, he, _, _⟩ := HSP.out.own.shape (by omega)
                  cases he
                  have ce := HSP.out.own.cell k hkt
                  obtain ⟨bb', off', he', d1, _⟩ := (HN.out.below HSP.out.below).cells i hit
                  obtain ⟨rfl, rfl⟩ : bb = bb' ∧ off = off' := by cases he'; exact ⟨rfl, rfl⟩
                  rw [← HX.out] at d1
                  have hgz : Hid (g < _root_.Array.size _) := Lib.hid (HM3.out.own.lt g rfl).2
                  have LS := Lib.hid (fun (hh : at0 out k < x) v' wy => HSP.out.lessS hkt hh (v' := v') (wy := wy))
                  have MS := Lib.hid (fun (hh : ¬ at0 out k < x) v' wy => HSP.out.moreS hkt hh (v' := v') (wy := wy))
                  obtain ⟨y, hy⟩ : ∃ y, y = at0 out k := ⟨_, rfl⟩
                  rw [← hy] at ce LS MS
                  obtain ⟨lz, hlz⟩ : ∃ z, z = (out.take k).filter (fun y => decide (y < x)) := ⟨_, rfl⟩
                  obtain ⟨mz, hmz⟩ : ∃ z, z = (out.take k).filter (fun y => !decide (y < x)) := ⟨_, rfl⟩
                  have HLS := Lib.hid HSP.out.less
                  have HMO := Lib.hid HSP.out.more
                  rw [← hlz] at LS HLS
                  rw [← hmz] at MS HMO
                  have hlz1 : lz.length ≤ 1000 := by rw [hlz]; refine Nat.le_trans (List.length_filter_le _ _) ?_; simp; omega
                  have hmz1 : mz.length ≤ 1000 := by rw [hmz]; refine Nat.le_trans (List.length_filter_le _ _) ?_; simp; omega
                  clear hy hlz hmz he' d0
                  by_cases hyx : y < x
                  · go_wp2_with fail
                    go_quiet (fail)
                    go_wp2_with (at_builtin; refine wpList_app1 _ rfl _ _ rfl w.heap.size w u9 lz y rfl rfl rfl rfl (by exact HLS.out.drewN _) (by omega) (by exact HSP.out.size) (by exact below_drewN HSP.out.below _) ?_; intro v' wy h1 h2 h3 h4)
                    go_roundw
                    case rel => exact ⟨k + 1, by omega, by go_num, LS.out hyx _ _ h1 h2 h3 ⟨h4.keep, h4.loc⟩ hgz.out, ⟨HM3.out.own.keep h4.keep (fun q hq => by cases hq; exact fun e => HSP.out.ng.2.1 e.symm), h2, h3⟩⟩
                    case measure => simp [intOf]; omega
                  · go_wp2_with fail
                    go_quiet (fail)
                    go_wp2_with (at_builtin; refine wpList_app1 _ rfl _ _ rfl w.heap.size w u10 mz y rfl rfl rfl rfl (by exact HMO.out.drewN _) (by omega) (by exact HSP.out.size) (by exact below_drewN HSP.out.below _) ?_; intro v' wy h1 h2 h3 h4)
                    go_roundw
                    case rel => exact ⟨k + 1, by omega, by go_num, MS.out hyx _ _ h1 h2 h3 ⟨h4.keep, h4.loc⟩ hgz.out, ⟨HM3.out.own.keep h4.keep (fun q hq => by cases hq; exact fun e => HSP.out.ng.2.2 e.symm), h2, h3⟩⟩
                    case measure => simp [intOf]; omega
                · obtain rfl : k = out.length := by omega
                  have hls := HSP.out.less
                  have hmo := HSP.out.more
                  rw [List.take_length] at hls hmo
                  have HDR2 : Hid (deadR l (i + 1) = (out.filter (fun y => decide (y < x)) ++ [x]) ++ out.filter (fun y => !decide (y < x))) := by
                    show _ = _
                    rw [HDR.out, if_neg (by rintro (h | h); exact absurd h (by simp); exact HMEM.out h)]; rfl
                  obtain ⟨lz, hlz⟩ : ∃ z, z = out.filter (fun y => decide (y < x)) := ⟨_, rfl⟩
                  obtain ⟨mz, hmz⟩ : ∃ z, z = out.filter (fun y => !decide (y < x)) := ⟨_, rfl⟩
                  rw [← hlz] at hls HDR2
                  rw [← hmz] at hmo HDR2
                  have hlz1 : lz.length ≤ 1000 := by rw [hlz]; refine Nat.le_trans (List.length_filter_le _ _) ?_; omega
                  have hmz1 : mz.length ≤ 1000 := by rw [hmz]; refine Nat.le_trans (List.length_filter_le _ _) ?_; omega
                  have HLS := Lib.hid hls
                  have HMO := Lib.hid hmo
                  obtain ⟨bb', off', he', d1, _⟩ := (HN.out.below HSP.out.below).cells i hit
                  obtain ⟨rfl, rfl⟩ : bb = bb' ∧ off = off' := by cases he'; exact ⟨rfl, rfl⟩
                  rw [← HX.out] at d1
                  clear hlz hmz hls hmo he' d0
                  obtain ⟨am, cm, rfl, him, hnm⟩ := HMO.out.sliceIs (by omega)
                  have HIM := Lib.hid him
                  have HNM := Lib.hid hnm
                  have HAR := Lib.hid HSP.out.ar
                  have hgz : Hid (g < _root_.Array.size _) := Lib.hid (HM3.out.own.lt g rfl).2
                  clear him hnm
                  go_wp2_with (first | (at_builtin; have _t := h4; refine wpList_appAll rfl _ _ rfl w.heap.size w v' (lz ++ [x]) mz am cm rfl rfl (by exact h1) (by exact HIM.out.keep h4.keep (fun z hz e => HAR.out _ e.symm (by subst hz; rfl))) (by simp; omega) h3 h2 HNM.out ?_; intro v2 wz g1 g2 g3 g4) | (at_builtin; refine wpList_app1 _ rfl _ _ rfl w.heap.size w u9 lz x rfl rfl rfl rfl (by exact HLS.out) (by omega) (by exact HSP.out.size) (by exact HSP.out.below) ?_; intro v' wy h1 h2 h3 h4))
                  go_roundw
                  case rel =>
                    have hng := h4.ne HSP.out.ng.2.1 hgz.out
                    have hmk := HM3.out.own.keep h4.keep (fun q hq => by cases hq; exact fun e => HSP.out.ng.2.1 e.symm)
                    exact ⟨i + 1, by omega, by go_num, by rw [HDR2.out]; exact g1, g4.ne hng (hmk.lt g rfl).2, ⟨hmk.keep g4.keep (fun q hq => by cases hq; exact fun e => hng e.symm), g2, g3⟩⟩
                  case measure => simp [intOf]; omega
          · go_wp2_with fail
            go_roundw
            case rel => exact ⟨i + 1, by omega, by go_num, by rw [HDR.out, if_pos (.inl rfl)]; exact HO.out, HNE.out, HM2.out⟩
            case measure => simp [intOf]; omega
        · obtain rfl : i = l.length := by omega
          go_wp2_with fail
          go_ret
          exact ⟨_, rfl, HO.out, HM2.out.below⟩
end Go.Proofs.Ytcembefhfadpbab
