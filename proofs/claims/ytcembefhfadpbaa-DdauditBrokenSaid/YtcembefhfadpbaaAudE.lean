/- The law DdauditFinds. -/
import Derived.Test.YtcembefhfadpbaaAudD
namespace Go.Proofs.Ytcembefhfadpbaa
open Go.RowKit
open Go.Maps

theorem eqFD (w : World) (a1 a2 b1 b2 : Int) : (Op.equal 31 (.agg #[.int .i64 a1, .int .i64 a2]) (.agg #[.int .i64 b1, .int .i64 b2])).run Try.prog w = .ok (a1 == b1 && a2 == b2) w := by
  have h := run_equalIn_struct (P := Try.prog) w 9999 31 #[.int .i64 a1, .int .i64 a2] #[.int .i64 b1, .int .i64 b2] (by simp [Program.fieldsOf, Try.underlying31]) (by kernel_rfl)
  have hq := fun x y => run_equalIn_int w 9998 Try.underlying3 x y
  unfold Op.equal
  have hd : Op.maxDepth = 9999 + 1 := rfl
  rw [hd, h]
  simp only [Program.fieldsOf, Try.underlying31]
  simp [Op.eqFields, part, isAgg, run_underlying Try.underlying3, hq]
  by_cases h1 : a1 = b1 <;> by_cases h2 : a2 = b2 <;> simp [h1, h2]
theorem run_eqlFD (w : World) (a1 a2 b1 b2 : Int) : (binOp .eql 31 (.agg #[.int .i64 a1, .int .i64 a2]) (.agg #[.int .i64 b1, .int .i64 b2])).run Try.prog w = .ok (.bool (a1 == b1 && a2 == b2)) w := by
  simp only [binOp]
  simp [eqFD]
theorem run_neqFD (w : World) (a1 a2 b1 b2 : Int) : (binOp .neq 31 (.agg #[.int .i64 a1, .int .i64 a2]) (.agg #[.int .i64 b1, .int .i64 b2])).run Try.prog w = .ok (.bool (!(a1 == b1 && a2 == b2))) w := by
  simp only [binOp]
  simp [eqFD]
theorem eqFR (w : World) (a1 a2 b1 b2 : Int) : (Op.equal 30 (.agg #[.int .i64 a1, .int .i64 a2]) (.agg #[.int .i64 b1, .int .i64 b2])).run Try.prog w = .ok (a1 == b1 && a2 == b2) w := by
  have h := run_equalIn_struct (P := Try.prog) w 9999 30 #[.int .i64 a1, .int .i64 a2] #[.int .i64 b1, .int .i64 b2] (by simp [Program.fieldsOf, Try.underlying30]) (by kernel_rfl)
  have hq := fun x y => run_equalIn_int w 9998 Try.underlying3 x y
  unfold Op.equal
  have hd : Op.maxDepth = 9999 + 1 := rfl
  rw [hd, h]
  simp only [Program.fieldsOf, Try.underlying30]
  simp [Op.eqFields, part, isAgg, run_underlying Try.underlying3, hq]
  by_cases h1 : a1 = b1 <;> by_cases h2 : a2 = b2 <;> simp [h1, h2]
theorem run_eqlFR (w : World) (a1 a2 b1 b2 : Int) : (binOp .eql 30 (.agg #[.int .i64 a1, .int .i64 a2]) (.agg #[.int .i64 b1, .int .i64 b2])).run Try.prog w = .ok (.bool (a1 == b1 && a2 == b2)) w := by
  simp only [binOp]
  simp [eqFR]
theorem run_neqFR (w : World) (a1 a2 b1 b2 : Int) : (binOp .neq 30 (.agg #[.int .i64 a1, .int .i64 a2]) (.agg #[.int .i64 b1, .int .i64 b2])).run Try.prog w = .ok (.bool (!(a1 == b1 && a2 == b2))) w := by
  simp only [binOp]
  simp [eqFR]

theorem ints01 (w : World) (b : Nat) (ty : TypeId) (h : w.heap[b]? = some (.cells #[.int .i64 0, .int .i64 1] ty (0, 0))) : IntsAt w (some ⟨b, 0, none⟩) [0, 1] :=
  ⟨by simp, fun k hk => ⟨b, 0, rfl, by
    match k, hk with
    | 0, _ => simp [World.cell?, h, at0]
    | 1, _ => simp [World.cell?, h, at0]
    | k + 2, hk => simp at hk; omega⟩⟩
theorem nodes2 (w : World) (b : Nat) (ty : TypeId) (h : w.heap[b]? = some (.cells #[.int .i64 1, .int .i64 1, .int .i64 1, .int .i64 0, .int .i64 0, .int .i64 2, .int .i64 1, .int .i64 2, .int .i64 3, .int .i64 0] ty (0, 0))) :
    NodesAt w (some ⟨b, 0, none⟩) [⟨1, 1, 1, 0, 0⟩, ⟨2, 1, 2, 3, 0⟩] := by
  refine ⟨by simp, fun k hk => ?_, fun k hk => ⟨b, 0, rfl, ?_⟩⟩
  · match k, hk with
    | 0, _ => exact ⟨by simp [nd, in64], by simp [nd, in64], by simp [nd, in64], by simp [nd, in64]⟩
    | 1, _ => exact ⟨by simp [nd, in64], by simp [nd, in64], by simp [nd, in64], by simp [nd, in64]⟩
    | k + 2, hk => simp at hk; omega
  · match k, hk with
    | 0, _ => simp [World.cell?, h, nd]
    | 1, _ => simp [World.cell?, h, nd]
    | k + 2, hk => simp at hk; omega
theorem lives25F : nodesF [0, 1] [⟨1, 1, 1, 0, 0⟩, ⟨2, 1, 2, 3, 0⟩] 2 = [(4, 2), (1, 2)] := by decide

set_option maxRecDepth 100000 in
set_option maxHeartbeats 800000 in
theorem lives25 (w : World) : Calls Try.prog 9 #[] w fun e w' => e = .returned (.bool true) ∧ Below w.heap.size w w' := by
  have heq := run_eqlFD
  go_enter Try.func9, Try.ntmps9
  go_wp2_with fail
  obtain ⟨W, hW⟩ : ∃ W, W = ((w.alloc (.cells #[.int .i64 0, .int .i64 1] 3)).alloc (.cells #[.int .i64 1, .int .i64 1, .int .i64 1, .int .i64 0, .int .i64 0, .int .i64 2, .int .i64 1, .int .i64 2, .int .i64 3, .int .i64 0] 34)) := ⟨_, rfl⟩
  have hI := ints01 W w.heap.size 3 (by rw [hW, Go.heap_alloc_old _ _ (by simp)]; exact heap_alloc_new w _)
  have hN := nodes2 W (w.heap.size + 1) 34 (by rw [hW]; have := heap_alloc_new (w.alloc (.cells #[.int .i64 0, .int .i64 1] 3)) (.cells #[.int .i64 1, .int .i64 1, .int .i64 1, .int .i64 0, .int .i64 0, .int .i64 2, .int .i64 1, .int .i64 2, .int .i64 3, .int .i64 0] 34); rw [World.size_alloc] at this; exact this)
  have hbW : Below w.heap.size w W := by rw [hW]; exact (below_new1 w _).alloc (by simp) _
  rw [← hW]
  clear hW
  have h := nodes_any (some ⟨w.heap.size, 0, none⟩) (some ⟨w.heap.size + 1, 0, none⟩) 2 2 [0, 1] [⟨1, 1, 1, 0, 0⟩, ⟨2, 1, 2, 3, 0⟩] W hI hN (by simp)
  rw [show ([⟨1, 1, 1, 0, 0⟩, ⟨2, 1, 2, 3, 0⟩] : List Nd).length = 2 from rfl, lives25F] at h
  refine h.mono ?_
  rintro x w1 ⟨v, rfl, hown, hb⟩
  obtain ⟨g, cap, hv, _⟩ := hown.shape (by simp)
  simp only [List.length_cons, List.length_nil] at hv
  subst hv
  have c0 : w1.cell? ⟨g, 0, none⟩ = some (.int .i64 4) := (hown.cell 0 (by simp)).1
  have c1 : w1.cell? ⟨g, 1, none⟩ = some (.int .i64 2) := (hown.cell 0 (by simp)).2
  have c2 : w1.cell? ⟨g, 2, none⟩ = some (.int .i64 1) := (hown.cell 1 (by simp)).1
  have c3 : w1.cell? ⟨g, 3, none⟩ = some (.int .i64 2) := (hown.cell 1 (by simp)).2
  have HB := Lib.hid (hbW.trans (hb.mono hbW.size))
  clear hb hbW hown hI hN h
  go_wp2_with fail
  go_ret
  exact ⟨rfl, HB.out⟩

set_option maxRecDepth 100000 in
set_option maxHeartbeats 1600000 in
theorem finds_any (a a' : Option Addr) (c c' : Nat) (order : List Int) (l : List Nd) (w : World) (ho : IntsAt w a order) (hn : NodesAt w a' l) :
    Calls Try.prog 3 #[.slice a order.length c, .slice a' l.length c'] w fun e w' => e = .returned (.bool true) ∧ Below w.heap.size w w' := by
  have HO := Lib.hid ho
  have HN := Lib.hid hn
  have hol := ho.len
  have hnl := hn.len
  clear ho hn
  by_cases h1 : 30 < l.length
  · have h1' : (30 : Int) < l.length := by omega
    go_enter Try.func3, Try.ntmps3
    go_wp2_with fail
    refine (lives25 _).mono ?_
    rintro e w1 ⟨rfl, hb⟩
    go_wp2_with fail
    go_ret
    exact ⟨rfl, hb⟩
  · have h1' : ¬ (30 : Int) < l.length := by omega
    by_cases h2 : 30 < order.length
    · have h2' : (30 : Int) < order.length := by omega
      go_enter Try.func3, Try.ntmps3
      go_wp2_with fail
      refine (lives25 _).mono ?_
      rintro e w1 ⟨rfl, hb⟩
      go_wp2_with fail
      go_ret
      exact ⟨rfl, hb⟩
    · have h2' : ¬ (30 : Int) < order.length := by omega
      go_enter Try.func3, Try.ntmps3
      go_wp2_with fail
      refine (nodes_any a a' c c' order l _ HO.out HN.out (by omega)).mono ?_
      rintro x w1 ⟨v1, rfl, hown1, hb1⟩
      obtain ⟨fs, hfs⟩ : ∃ fs, nodesF order l l.length = fs := ⟨_, rfl⟩
      have hfl : fs.length ≤ 5 * l.length := by rw [← hfs]; exact nodesF_length order l l.length
      rw [hfs] at hown1
      have HB1 := Lib.hid hb1
      have HOW1 := Lib.hid hown1
      have HFS := Lib.hid hfs
      clear hb1 hown1 hfs
      go_wp2_with fail
      refine (refNodes_any a a' c c' order l _ (HO.out.below HB1.out) (HN.out.below HB1.out) (by omega)).mono ?_
      rintro x w2 ⟨v2, rfl, hown2, hb2⟩
      rw [HFS.out] at hown2
      have hs1 := HOW1.out.fslice.below hb2
      have hs2 := hown2.fslice
      have HB2 := Lib.hid (HB1.out.trans (hb2.mono HB1.out.size))
      clear hb2 hown2 HB1 HOW1
      obtain ⟨a1, c1, rfl, hc1⟩ := hs1
      obtain ⟨a2, c2, rfl, hc2⟩ := hs2
      have HS1 := Lib.hid hc1
      have HS2 := Lib.hid hc2
      clear hc1 hc2
      go_wp2_with fail
      go_loopw [30] (fun i wx => ∃ k : Nat, k ≤ fs.length ∧ i = .int .i64 k ∧ Below w2.heap.size w2 wx) (fun i _ => fs.length - (intOf i).toNat)
      case atStart => exact ⟨0, Nat.zero_le _, rfl, Below.refl _ _⟩
      case round =>
        obtain ⟨k, hk, rfl, hbr⟩ := hrel
        have HBR := Lib.hid hbr
        by_cases hlt : k < fs.length
        · obtain ⟨b1, rfl, p1, p2⟩ := HS1.out k hlt
          obtain ⟨b2, rfl, q1, q2⟩ := HS2.out k hlt
          obtain ⟨x, hx⟩ : ∃ x, f0 fs k = x := ⟨_, rfl⟩
          rw [hx] at p1 p2 q1 q2
          have e1 := (hbr.cell (p := ⟨b1, k * 2, none⟩) (lt_of_cell p1)).trans p1
          have e2 := (hbr.cell (p := ⟨b1, k * 2 + 1, none⟩) (lt_of_cell p2)).trans p2
          have e3 := (hbr.cell (p := ⟨b2, k * 2, none⟩) (lt_of_cell q1)).trans q1
          have e4 := (hbr.cell (p := ⟨b2, k * 2 + 1, none⟩) (lt_of_cell q2)).trans q2
          have hne : ∀ w, (binOp .neq 30 (.agg #[.int .i64 x.1, .int .i64 x.2]) (.agg #[.int .i64 x.1, .int .i64 x.2])).run Try.prog w = .ok (.bool false) w := fun w => by rw [run_neqFR]; simp
          have hk0 : (0 : Int) ≤ k := by omega
          have hk1 : (k : Int) < fs.length := by omega
          clear hx p1 p2 q1 q2 hbr
          go_wp2_with fail
          go_quiet (fail)
          go_wp2_with fail
          go_roundw
          case rel => exact ⟨k + 1, by omega, by go_num, below_drewN HBR.out _⟩
          case measure => simp [intOf]; omega
        · go_wp2_with fail
          refine (lives25 _).mono ?_
          rintro e w1 ⟨rfl, hb⟩
          go_wp2_with fail
          go_ret
          exact ⟨rfl, HB2.out.trans ((HBR.out.mono HB2.out.size).trans (hb.mono (by have := HB2.out.size; have := HBR.out.size; omega)))⟩
end Go.Proofs.Ytcembefhfadpbaa
