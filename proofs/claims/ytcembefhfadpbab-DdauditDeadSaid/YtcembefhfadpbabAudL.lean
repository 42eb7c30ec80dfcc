/- The example of the audit's laws. -/
import Derived.Test.YtcembefhfadpbabAudD
namespace Go.Proofs.Ytcembefhfadpbab
open Go.RowKit
open Go.Maps

theorem eqFD (w : World) (a1 a2 b1 b2 : Int) : (Op.equal 37 (.agg #[.int .i64 a1, .int .i64 a2]) (.agg #[.int .i64 b1, .int .i64 b2])).run Try.prog w = .ok (a1 == b1 && a2 == b2) w := by
  have h := run_equalIn_struct (P := Try.prog) w 9999 37 #[.int .i64 a1, .int .i64 a2] #[.int .i64 b1, .int .i64 b2] (by simp [Program.fieldsOf, Try.underlying37]) (by kernel_rfl)
  have hq := fun x y => run_equalIn_int w 9998 Try.underlying3 x y
  unfold Op.equal
  have hd : Op.maxDepth = 9999 + 1 := rfl
  rw [hd, h]
  simp only [Program.fieldsOf, Try.underlying37]
  simp [Op.eqFields, part, isAgg, run_underlying Try.underlying3, hq]
  by_cases h1 : a1 = b1 <;> by_cases h2 : a2 = b2 <;> simp [h1, h2]
theorem run_eqlFD (w : World) (a1 a2 b1 b2 : Int) : (binOp .eql 37 (.agg #[.int .i64 a1, .int .i64 a2]) (.agg #[.int .i64 b1, .int .i64 b2])).run Try.prog w = .ok (.bool (a1 == b1 && a2 == b2)) w := by
  simp only [binOp]
  simp [eqFD]
theorem run_neqFD (w : World) (a1 a2 b1 b2 : Int) : (binOp .neq 37 (.agg #[.int .i64 a1, .int .i64 a2]) (.agg #[.int .i64 b1, .int .i64 b2])).run Try.prog w = .ok (.bool (!(a1 == b1 && a2 == b2))) w := by
  simp only [binOp]
  simp [eqFD]
theorem ints01 (w : World) (b : Nat) (ty : TypeId) (h : w.heap[b]? = some (.cells #[.int .i64 0, .int .i64 1] ty (0, 0))) : IntsAt w (some ⟨b, 0, none⟩) [0, 1] :=
  ⟨by simp, fun k hk => ⟨b, 0, rfl, by
    match k, hk with
    | 0, _ => simp [World.cell?, h, at0]
    | 1, _ => simp [World.cell?, h, at0]
    | k + 2, hk => simp at hk; omega⟩⟩
theorem nodes2 (w : World) (b : Nat) (ty : TypeId) (h : w.heap[b]? = some (.cells #[.int .i64 1, .int .i64 1, .int .i64 1, .int .i64 0, .int .i64 0, .int .i64 2, .int .i64 1, .int .i64 2, .int .i64 3, .int .i64 0] ty (0, 0))) :
    NodesAt w (some ⟨b, 0, none⟩) [⟨1, 1, 1, 0, 0⟩, ⟨2, 1, 2, 3, 0⟩] := by
  refine ⟨by simp, fun k hk => ?_, fun k hk => ⟨b, 0, rfl, ?_⟩⟩
  · match k, hk with
    | 0, _ => exact ⟨by simp [nd, in64], by simp [nd, in64], by simp [nd, in64], by simp [nd, in64]⟩
    | 1, _ => exact ⟨by simp [nd, in64], by simp [nd, in64], by simp [nd, in64], by simp [nd, in64]⟩
    | k + 2, hk => simp at hk; omega
  · match k, hk with
    | 0, _ => simp [World.cell?, h, nd]
    | 1, _ => simp [World.cell?, h, nd]
    | k + 2, hk => simp at hk; omega
theorem lives25F : nodesF [0, 1] [⟨1, 1, 1, 0, 0⟩, ⟨2, 1, 2, 3, 0⟩] 2 = [(4, 2), (1, 2)] := by decide

set_option maxRecDepth 100000 in
set_option maxHeartbeats 800000 in
theorem lives25 (w : World) : Calls Try.prog 4 #[] w fun e w' => e = .returned (.bool true) ∧ Below w.heap.size w w' := by
  have heq := run_eqlFD
  go_enter Try.func4, Try.ntmps4
  go_wp2_with fail
  obtain ⟨W, hW⟩ : ∃ W, W = ((w.alloc (.cells #[.int .i64 0, .int .i64 1] 3)).alloc (.cells #[.int .i64 1, .int .i64 1, .int .i64 1, .int .i64 0, .int .i64 0, .int .i64 2, .int .i64 1, .int .i64 2, .int .i64 3, .int .i64 0] 31)) := ⟨_, rfl⟩
  have hI := ints01 W w.heap.size 3 (by rw [hW, Go.heap_alloc_old _ _ (by simp)]; exact heap_alloc_new w _)
  have hN := nodes2 W (w.heap.size + 1) 31 (by rw [hW]; have := heap_alloc_new (w.alloc (.cells #[.int .i64 0, .int .i64 1] 3)) (.cells #[.int .i64 1, .int .i64 1, .int .i64 1, .int .i64 0, .int .i64 0, .int .i64 2, .int .i64 1, .int .i64 2, .int .i64 3, .int .i64 0] 31); rw [World.size_alloc] at this; exact this)
  have hbW : Below w.heap.size w W := by rw [hW]; exact (below_new1 w _).alloc (by simp) _
  rw [← hW]
  clear hW
  have h := nodes_any (some ⟨w.heap.size, 0, none⟩) (some ⟨w.heap.size + 1, 0, none⟩) 2 2 [0, 1] [⟨1, 1, 1, 0, 0⟩, ⟨2, 1, 2, 3, 0⟩] W hI hN (by simp)
  rw [show ([⟨1, 1, 1, 0, 0⟩, ⟨2, 1, 2, 3, 0⟩] : List Nd).length = 2 from rfl, lives25F] at h
  refine h.mono ?_
  rintro x w1 ⟨v, rfl, hown, hb⟩
  obtain ⟨g, cap, hv, _⟩ := hown.shape (by simp)
  simp only [List.length_cons, List.length_nil] at hv
  subst hv
  have c0 : w1.cell? ⟨g, 0, none⟩ = some (.int .i64 4) := (hown.cell 0 (by simp)).1
  have c1 : w1.cell? ⟨g, 1, none⟩ = some (.int .i64 2) := (hown.cell 0 (by simp)).2
  have c2 : w1.cell? ⟨g, 2, none⟩ = some (.int .i64 1) := (hown.cell 1 (by simp)).1
  have c3 : w1.cell? ⟨g, 3, none⟩ = some (.int .i64 2) := (hown.cell 1 (by simp)).2
  have HB := Lib.hid (hbW.trans (hb.mono hbW.size))
  clear hb hbW hown hI hN h
  go_wp2_with fail
  go_ret
  exact ⟨rfl, HB.out⟩
end Go.Proofs.Ytcembefhfadpbab
