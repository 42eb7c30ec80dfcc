/- Pieces that a law needs besides. -/
import Derived.Test.YtchliiaknmknhaaGreatW7
set_option linter.unusedSimpArgs false
set_option linter.unusedVariables false
set_option linter.unusedSectionVars false
set_option linter.unnecessarySimpa false
set_option maxRecDepth 100000
set_option maxHeartbeats 8000000
namespace Go.Proofs.YtchliiaknmknhaaGreat
open Go.RowKit
section
variable {n : Nat} {lev : Nat → Nat} {nodes : Nat → Option BN} {V : Nat → BF}
theorem Dag.ef1 (h : Dag n lev nodes V) : ef V 1 = fun _ => false := by funext ρ; simp [ef, h.one]
end
section
variable {F : Phi} {o : Own} {w : World} {mb : Nat} {m : ManD} {s : ManW}
theorem look_no (h : ManIn F o w mb m s) {k : Int} (hk : ∀ f, (k, f) ∉ m.hs) :
    (Instr.lookup 101 (.map (some s.hb)) (.int .i64 k) true).run Tryz.prog w = .ok (.tuple #[.int .i64 0, .bool false]) w := by
  have h1 := h.map.lookup kI Tryz.underlying101 zeroEdge k true
  have h2 : getL (encH m.hs) k = none := getL_none.2 (by
    rintro p hp rfl
    obtain ⟨q, hq, rfl⟩ := List.mem_map.1 hp
    exact hk q.2 hq)
  rw [h1, h2]; rfl
end
section
set_option maxRecDepth 100000 in
theorem ctxEdge_no {F : Phi} {o : Own} {w : World} {xb mb : Nat} {m : ManD} (h : ManAt F o w mb m) (hx : CtxAt o w xb mb) {k : Int} (hk : ∀ f, (k, f) ∉ m.hs) :
    Calls Tryz.prog 34 #[.pointer (some ⟨xb, 0, none⟩), .int .i64 k] w fun x w' => x = stopP 8 false ev0 ∧ w = w' := by
  obtain ⟨s, h⟩ := h
  obtain ⟨c0, c1, c2, c3, c4, c5, f0⟩ := cells6 h.blk
  have cx := hx.cell
  have hl := look_no h hk
  clear h hx hk
  go_enter Tryz.func34, Tryz.ntmps34
  go_wp2_with fail
  exact ⟨rfl, rfl, rfl⟩
end
section
variable {K : Law} {n : Nat} {Od : List Nat → Prop} {room : Nat} {w0 w w' : World} {mb : Nat} {fs : List (Int × BF)} {nx : Int} {o o' : Own} {m m' : ManD} {V V' : Nat → BF}
theorem SatE.nofind (h : SatE K n Od room w0 mb fs nx w o m V) {k : Int} (hk : ∀ p ∈ fs, p.1 ≠ k) : ∀ f, (k, f) ∉ m.hs := by
  intro f hf
  refine hk (k, ef V f) ?_ rfl
  rw [← h.hs]
  exact List.mem_map.2 ⟨(k, f), hf, rfl⟩
end
section
variable {K : Law} {n : Nat} {Od : List Nat → Prop} {room : Nat} {w0 w w' : World} {mb : Nat} {fs : List (Int × BF)} {nx : Int} {o o' : Own} {m m' : ManD} {V V' : Nat → BF}
set_option maxRecDepth 100000 in
theorem manIs_yes (h : SatE K n Od room w0 mb fs nx w o m V) {k : Int} {F : BF} (hk : (k, F) ∈ fs) :
    Calls Tryz.prog 50 #[.pointer (some ⟨mb, 0, none⟩), .int .i64 k] w fun x w' => x = .returned (.bool true) ∧ w = w' := by
  obtain ⟨f, hf, rfl⟩ := h.find hk
  obtain ⟨s, hs⟩ := h.is
  obtain ⟨c0, c1, c2, c3, c4, c5, f0⟩ := cells6 hs.blk
  have hl := look_yes hs h.ok.handles.nodup hf
  clear hs h hf hk
  go_enter Tryz.func50, Tryz.ntmps50
  go_wp2_with fail
  go_ret
  exact ⟨rfl, rfl⟩
end
section
variable {K : Law} {n : Nat} {Od : List Nat → Prop} {room : Nat} {w0 w w' : World} {mb : Nat} {fs : List (Int × BF)} {nx : Int} {o o' : Own} {m m' : ManD} {V V' : Nat → BF}
set_option maxRecDepth 100000 in
theorem manIs_no (h : SatE K n Od room w0 mb fs nx w o m V) {k : Int} (hk : ∀ p ∈ fs, p.1 ≠ k) :
    Calls Tryz.prog 50 #[.pointer (some ⟨mb, 0, none⟩), .int .i64 k] w fun x w' => x = .returned (.bool false) ∧ w = w' := by
  have hno := h.nofind hk
  obtain ⟨s, hs⟩ := h.is
  obtain ⟨c0, c1, c2, c3, c4, c5, f0⟩ := cells6 hs.blk
  have hl := look_no hs hno
  clear hs h hno hk
  go_enter Tryz.func50, Tryz.ntmps50
  go_wp2_with fail
  go_ret
  exact ⟨rfl, rfl⟩
end
section
variable {K : Law} {n : Nat} {Od : List Nat → Prop} {room : Nat} {w0 : World} {mb : Nat} {fs : List (Int × BF)} {nx : Int} {Wt : List Ev → Int → Prop} {hl hx hs : List (Int × BF)} {W W' w : World} {o o' : Own} {m m' : ManD} {V V' : Nat → BF} {vl vx v' v : Value} {p : Int × BF}
theorem LawT.withSt {Wt' : List Ev → Int → Prop} (h : LawT K n Od room w0 mb fs nx Wt hl hx W o m V vl vx) (hO : Wt' m.waits m.calls) : LawT K n Od room w0 mb fs nx Wt' hl hx W o m V vl vx := ⟨h.sat, h.b2, hO, h.l, h.x⟩
end
section
def LawE (K : Law) (n : Nat) (Od : List Nat → Prop) (room : Nat) (w0 : World) (mb : Nat) (fs : List (Int × BF)) (nx : Int) (Wt : List Ev → Int → Prop) (hl hx : List (Int × BF)) (W : World) (vl vx : Value) : Prop := ∃ o m V, LawT K n Od room w0 mb fs nx Wt hl hx W o m V vl vx
end
section
variable {K : Law} {n : Nat} {room : Nat} {w0 : World} {mb : Nat} {fs hs : List (Int × BF)} {nx : Int} {W w w' : World} {o o' : Own} {m m' : ManD} {V V' : Nat → BF} {vl vx : Value} {ws0 : List Ev}
abbrev SufW (ws0 : List Ev) : List Ev → Int → Prop := fun ws _ => ws <:+ ws0
end
end Go.Proofs.YtchliiaknmknhaaGreat
