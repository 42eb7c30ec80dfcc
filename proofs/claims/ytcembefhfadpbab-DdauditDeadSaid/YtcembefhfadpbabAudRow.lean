/- A list of nodes that came in, as the row hands it over. -/
import Derived.Test.YtcembefhfadpbabAudB0
import Derived.Deep.Slices
namespace Go.Proofs.Ytcembefhfadpbab
open Go.RowKit Go.Deep Go.ChangeShapes Go.WideShapes

theorem wf64 {x : Int} (h : (Lit.int .i64 x).wf = true) : in64 x := by
  unfold in64
  simp only [Lit.wf, IntKind.min, IntKind.max, IntKind.signed, IntKind.bits, Bool.and_eq_true, decide_eq_true_eq, if_true] at h
  omega
theorem add_flat {b off : Nat} (k : Nat) : (⟨b, off, none⟩ : Addr).add k = ⟨b, off + k, none⟩ := by unfold Addr.add; split <;> simp_all
theorem add0 (a : Addr) : a.add 0 = a := by simp [Addr.add]
theorem open_nodes {H : Type} {enc : TypeId × Value → H} {w : World} {base : Nat} {spare : Nat → Bool} {held : Bool} {fuel : Nat} {cs : List Value} {x : DataW H × List MemPlace}
    (h : DataW.trod enc Try.prog w base spare held fuel 22 cs = some x) :
    ∃ (a : Option Addr) (l : List Nd) (cap : Nat), cs = [.slice a l.length cap] ∧ NodesAt w a l ∧ (a = none → cap = 0) ∧ l.length ≤ cap ∧ cap ≤ maxLen := by
  rcases open_slice Try.underlying22 h with ⟨rfl, _⟩ | ⟨a, len, cap, m, n, D, Pl, rfl, hb, hl, hm, hmm, rfl, hx⟩
  · exact ⟨none, [], 0, rfl, ⟨by simp, by simp, by simp⟩, by simp, by simp, by simp⟩
  have hc5 : Try.prog.cellsOf 31 = 5 := by kernel_rfl
  have hlm : len ≤ m := by rw [hmm]; split <;> omega
  have each : ∀ i, i < len → ∃ q : Nd, w.cell? (a.add (i * 5)) = some (.int .i64 q.id) ∧ w.cell? ((a.add (i * 5)).add 1) = some (.int .i64 q.v) ∧ w.cell? ((a.add (i * 5)).add 2) = some (.int .i64 q.lo) ∧
      w.cell? ((a.add (i * 5)).add 3) = some (.int .i64 q.hi) ∧ w.cell? ((a.add (i * 5)).add 4) = some (.int .i64 q.refs) ∧ NdOk q := by
    intro i hi
    obtain ⟨cs', h1, h2⟩ := hx i (by omega)
    rw [hc5] at h1
    obtain ⟨_, hlen, hcell⟩ := World.cells?_some h1
    obtain ⟨xs, k, hk, hxy, _, hxl, hf⟩ := DataW.trod_struct Try.underlying31 h2
    have c1 : Try.prog.cellsOf 3 = 1 := by kernel_rfl
    match xs, hxl, cs', hlen with
    | [y0, y1, y2, y3, y4], _, [v0, v1, v2, v3, v4], _ =>
      have g0 := hf 0 _ rfl
      have g1 := hf 1 _ rfl
      have g2 := hf 2 _ rfl
      have g3 := hf 3 _ rfl
      have g4 := hf 4 _ rfl
      simp [c1] at g0 g1 g2 g3 g4
      obtain ⟨n0, e0, _, w0⟩ := DataW.trod_int Try.underlying3 g0
      obtain ⟨n1, e1, _, w1⟩ := DataW.trod_int Try.underlying3 g1
      obtain ⟨n2, e2, _, w2⟩ := DataW.trod_int Try.underlying3 g2
      obtain ⟨n3, e3, _, w3⟩ := DataW.trod_int Try.underlying3 g3
      obtain ⟨n4, e4, _, w4⟩ := DataW.trod_int Try.underlying3 g4
      simp only [List.cons.injEq, and_true] at e0 e1 e2 e3 e4
      subst e0 e1 e2 e3 e4
      have f0 := hcell 0 (by omega)
      have f1 := hcell 1 (by omega)
      have f2 := hcell 2 (by omega)
      have f3 := hcell 3 (by omega)
      have f4 := hcell 4 (by omega)
      refine ⟨⟨n0, n1, n2, n3, n4⟩, by rw [add0] at f0; simpa using f0, by simpa using f1, by simpa using f2, by simpa using f3, by simpa using f4, ⟨wf64 w0, wf64 w1, wf64 w2, wf64 w3⟩⟩
  obtain ⟨q, hq⟩ := choose_lt each
  refine ⟨some a, (List.range len).map q, cap, by simp, ⟨by unfold maxLen at hm; simp; omega, ?_, ?_⟩, by simp, by simpa using hl, hm⟩
  · intro k hk
    have hk' : k < len := by simpa using hk
    have : nd ((List.range len).map q) k = q k := by rw [nd_eq (by simpa using hk')]; simp
    rw [this]; exact (hq k hk').2.2.2.2.2
  · intro k hk
    have hk' : k < len := by simpa using hk
    have : nd ((List.range len).map q) k = q k := by rw [nd_eq (by simpa using hk')]; simp
    rw [this]
    obtain ⟨h0, h1, h2, h3, h4, _⟩ := hq k hk'
    have h00 := (hq 0 (by omega)).1
    obtain ⟨b, off, spot⟩ := a
    have hsp : spot = none := by
      cases spot with
      | none => rfl
      | some s => simp [Addr.add, World.cell?] at h00; split at h00 <;> simp at h00
    subst hsp
    simp only [add_flat] at h0 h1 h2 h3 h4
    exact ⟨b, off, rfl, h0, h1, h2, h3, h4⟩
end Go.Proofs.Ytcembefhfadpbab
