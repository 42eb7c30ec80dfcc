/- Lists of nodes in memory; the small functions of the audit packages. -/
import Derived.Test.YtcembefhfadpbabMap
import Derived.Test.YtcembefhfadpbabPermM
namespace Go.Proofs.Ytcembefhfadpbab
open Go.RowKit

structure Nd where
  id : Int
  v : Int
  lo : Int
  hi : Int
  refs : Int
instance : Inhabited Nd := ⟨⟨0, 0, 0, 0, 0⟩⟩
/-- The node at place k. -/
def nd (l : List Nd) (k : Nat) : Nd := l.getD k default
theorem nd_eq {l : List Nd} {k : Nat} (h : k < l.length) : nd l k = l[k] := by simp [nd, List.getD, h]

def in64 (x : Int) : Prop := -9223372036854775808 ≤ x ∧ x ≤ 9223372036854775807
/-- All numbers of a node are ints. -/
structure NdOk (n : Nd) : Prop where
  id : in64 n.id
  v : in64 n.v
  lo : in64 n.lo
  hi : in64 n.hi
structure NodesAt (w : World) (a : Option Addr) (l : List Nd) : Prop where
  len : l.length ≤ 9223372036854775807
  ok : ∀ k, k < l.length → NdOk (nd l k)
  cells : ∀ k, k < l.length → ∃ b off, a = some ⟨b, off, none⟩ ∧ w.cell? ⟨b, off + k * 5, none⟩ = some (.int .i64 (nd l k).id) ∧ w.cell? ⟨b, off + k * 5 + 1, none⟩ = some (.int .i64 (nd l k).v) ∧
    w.cell? ⟨b, off + k * 5 + 2, none⟩ = some (.int .i64 (nd l k).lo) ∧ w.cell? ⟨b, off + k * 5 + 3, none⟩ = some (.int .i64 (nd l k).hi) ∧ w.cell? ⟨b, off + k * 5 + 4, none⟩ = some (.int .i64 (nd l k).refs)

theorem NodesAt.below {w w' : World} {a : Option Addr} {l : List Nd} (h : NodesAt w a l) (hb : Below w.heap.size w w') : NodesAt w' a l :=
  ⟨h.len, h.ok, fun k hk => by
    obtain ⟨b, off, rfl, h0, h1, h2, h3, h4⟩ := h.cells k hk
    have hlt := lt_of_cell h0
    exact ⟨b, off, rfl, (hb.cell hlt).trans h0, (hb.cell (p := ⟨b, off + k * 5 + 1, none⟩) hlt).trans h1, (hb.cell (p := ⟨b, off + k * 5 + 2, none⟩) hlt).trans h2, (hb.cell (p := ⟨b, off + k * 5 + 3, none⟩) hlt).trans h3, (hb.cell (p := ⟨b, off + k * 5 + 4, none⟩) hlt).trans h4⟩⟩
theorem NodesAt.drewN {w : World} {a : Option Addr} {l : List Nd} (h : NodesAt w a l) (n : Nat) : NodesAt (w.drewN n) a l := ⟨h.len, h.ok, h.cells⟩

/-- Does the edge e lead to nodes of this number? -/
def leadsB (e id : Int) : Bool := decide (0 ≤ e ∧ e / 2 = id)

set_option maxHeartbeats 400000 in
theorem refLeads_any (e id : Int) (w : World) (he : e ≤ 9223372036854775807) :
    Calls Try.prog 14 #[.int .i64 e, .int .i64 id] w fun x w' => x = .returned (.bool (leadsB e id)) ∧ w' = w := by
  by_cases h0 : 0 ≤ e
  · by_cases h1 : e / 2 = id
    · have H1 : (e / 2 == id) = true := by simpa using h1
      have HX : Hid (leadsB e id = true) := by show _ = _; simp [leadsB, h0, h1]
      clear h1
      go_enter Try.func14, Try.ntmps14
      go_wp2
      go_ret
      exact ⟨ret_bool HX.out.symm, rfl⟩
    · have H1 : (e / 2 == id) = false := by simpa using h1
      have HX : Hid (leadsB e id = false) := by show _ = _; simp [leadsB, h1]
      clear h1
      go_enter Try.func14, Try.ntmps14
      go_wp2
      go_ret
      exact ⟨ret_bool HX.out.symm, rfl⟩
  · have HX : Hid (leadsB e id = false) := by show _ = _; simp [leadsB, h0]
    go_enter Try.func14, Try.ntmps14
    go_wp2
    go_ret
    exact ⟨ret_bool HX.out.symm, rfl⟩

set_option maxHeartbeats 400000 in
theorem refAPlace_any (a : Option Addr) (c : Nat) (zs : List Int) (x : Int) (w : World) (h : IntsAt w a zs) :
    Calls Try.prog 15 #[.slice a zs.length c, .int .i64 x] w fun e w' => e = .returned (.int .i64 (placeZ zs x)) ∧ w' = w := by
  obtain ⟨hl, hc⟩ := h
  have HC := Lib.hid hc
  clear hc
  go_enter Try.func15, Try.ntmps15
  go_wp2
  go_loop [5] (fun i => ∃ k : Nat, k ≤ zs.length ∧ i = .int .i64 k ∧ ∀ j, j < k → at0 zs j ≠ x) (fun i => zs.length - (intOf i).toNat)
  case atStart => exact ⟨0, Nat.zero_le _, rfl, by omega⟩
  case round =>
    obtain ⟨k, hk, rfl, hrel⟩ := hrel
    have HR := Lib.hid hrel
    clear hrel
    by_cases hlt : k < zs.length
    · obtain ⟨b, off, rfl, hcell⟩ := HC.out k hlt
      by_cases hx : at0 zs k = x
      · have H1 : (at0 zs k == x) = true := by simpa using hx
        have HX := Lib.hid hx
        clear hx
        go_wp2
        go_ret
        exact ⟨ret_i64 (placeZ_found hlt HX.out HR.out).symm, rfl⟩
      · have H1 : (at0 zs k == x) = false := by simpa using hx
        go_wp2
        go_round
        case rel => exact ⟨k + 1, by omega, by go_num, fun j hj => by
          by_cases e : j = k
          · subst e; exact hx
          · exact HR.out j (by omega)⟩
        case measure => simp [intOf]; omega
    · go_wp2
      go_ret
      exact ⟨ret_i64 (placeZ_none (fun j hj => HR.out j (by omega))).symm, rfl⟩
def lostB (e : Int) (l : List Nd) : Bool := decide (e < 0 ∨ (e / 2 ≠ 0 ∧ ∀ k, k < l.length → leadsB e (nd l k).id = false))
def wrongB (at_ e : Int) (order : List Int) (l : List Nd) : Bool := decide (∃ k, k < l.length ∧ leadsB e (nd l k).id = true ∧ placeZ order (nd l k).v ≤ at_)
end Go.Proofs.Ytcembefhfadpbab
