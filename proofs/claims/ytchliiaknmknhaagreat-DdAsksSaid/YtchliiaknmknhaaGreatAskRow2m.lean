/- The walk of a law: AskRow2. -/
import Derived.Test.YtchliiaknmknhaaGreatW7
import Derived.Deep.Slices
import Derived.ChangeArms
import Derived.WideShapes
set_option linter.unusedSimpArgs false
set_option linter.unusedVariables false
set_option linter.unusedSectionVars false
set_option linter.unnecessarySimpa false
set_option maxRecDepth 100000
set_option maxHeartbeats 8000000
namespace Go.Proofs.YtchliiaknmknhaaGreat
open Go.RowKit Go.Deep Go.ChangeShapes Go.WideShapes
theorem sliceIs_of_rowA {w : World} {a : Option Addr} {len cap : Nat} {zs : List Int}
 (h : (a = none /\ len = 0 /\ cap = 0 /\ zs = []) \/ ∃ x, a = some x /\ len <= cap /\ cap <= maxLen /\ zs.length = cap /\ (∀ i, i < zs.length -> w.cell? (x.add i) = some (.int .i64 (zs.getD i 0))) /\ ∀ n ∈ zs, (Lit.int .i64 n).wf = true) :
 SliceIs w (.slice a len cap) (zs.take len) := by
 rcases h with ⟨rfl, rfl, rfl, rfl⟩ | ⟨x, rfl, hl, hm, hz, hc, _⟩
 ·
  exact sliceIs_nil w
 ·
  have hlen : (zs.take len).length = len := by simp; omega
  refine ⟨some x, cap, by rw [hlen], ⟨by rw [hlen]; unfold maxLen at hm; omega, fun k hk => ?_⟩, by simp⟩;rw [hlen] at hk;have h1 := hc k (by omega);obtain ⟨b, off, spot⟩ := x;have hadd : ∀ k, (⟨b, off, spot⟩ : Addr).add k = if k = 0 then ⟨b, off, spot⟩ else ⟨b, off + k, none⟩ := fun k => rfl
  have hsp : spot = none := by
   have h0 := hc 0 (by omega);rw [hadd, if_pos rfl] at h0;cases spot with
   | none => rfl
   | some s =>
     unfold World.cell? at h0;split at h0 <;> simp at h0
  subst hsp;refine ⟨b, off, rfl, ?_⟩;have e : at0 (zs.take len) k = zs.getD k 0 := by simp [at0, List.getD, hk]
  rw [e, <- h1, hadd]
  by_cases h0 : k = 0
  ·
   subst h0; rfl
  ·
   rw [if_neg h0]
theorem wfI {x : Int} (h : (Lit.int .i64 x).wf = true) : okI x := by
 unfold okI;simp only [Lit.wf, IntKind.min, IntKind.max, IntKind.signed, IntKind.bits, Bool.and_eq_true, decide_eq_true_eq, if_true] at h;omega
theorem add_flat {b off : Nat} (k : Nat) : (⟨b, off, none⟩ : Addr).add k = ⟨b, off + k, none⟩ := by unfold Addr.add; split <;> simp_all
theorem add0 (a : Addr) : a.add 0 = a := by simp [Addr.add]
theorem flat_of_cell {w : World} {a : Addr} {v : Value} (h : w.cell? a = some v) : a.spot = none := by
 obtain ⟨b, off, spot⟩ := a;cases spot with
 | none => rfl
 | some s => simp [World.cell?] at h; split at h <;> simp at h
theorem choose_ev {n : Nat} {p : Nat -> Ev -> Prop} (h : ∀ i, i < n -> ∃ x, p i x) : ∃ f : Nat -> Ev, ∀ i, i < n -> p i (f i) := by
 classical
 refine ⟨fun i => if hi : i < n then Classical.choose (h i hi) else ⟨0, 0, 0⟩, fun i hi => ?_⟩;simp only [dif_pos hi];exact Classical.choose_spec (h i hi)
theorem open_row {H : Type} {enc : TypeId × Value -> H} {P : Program} {w : World} {base : Nat} {spare : Nat -> Bool} {held : Bool} {t e : TypeId} {fuel : Nat} {cs : List Value} {x : DataW H × List MemPlace} (ht : P.underlying t = some (.slice e)) (h : DataW.trod enc P w base spare held fuel t cs = some x) :
 cs = [.slice none 0 0] \/ ∃ (a : Addr) (len cap n : Nat), cs = [.slice (some a) len cap] /\ len <= cap /\ cap <= maxLen /\ fuel = n + 1 /\ ∀ i, i < len -> ∃ cs' y, w.cells? base (a.add (i * P.cellsOf e)) (P.cellsOf e) = some cs' /\ DataW.trod enc P w base spare held n e cs' = some y := by
 rcases DataW.trod_slice ht h with ⟨h0, _⟩ | ⟨a, len, cap, elems, rest, n, hn, e1, _, _, hl, hm, hlen, hel, _⟩
 ·
  exact .inl h0
 ·
  refine .inr ⟨a, len, cap, n, e1, hl, hm, hn, fun i hi => ?_⟩;have := hel i hi;rw [List.getElem?_eq_getElem (by omega)] at this;obtain ⟨cs', h1, h2⟩ := Option.bind_eq_some_iff.1 this;exact ⟨cs', _, h1, h2⟩
theorem open_expr {H : Type} {enc : TypeId × Value -> H} {w : World} {base : Nat} {spare : Nat -> Bool} {held : Bool} : ∀ (fuel : Nat) {cs : List Value} {x : DataW H × List MemPlace},
 DataW.trod enc Tryz.prog w base spare held fuel 39 cs = some x -> ∃ e x0 x1 x2, cs = [x0, x1, x2] /\ ExprAt w e (.agg #[x0, x1, x2]) := by
 intro fuel
 induction fuel using Nat.strongRecOn with
 | _ fuel IH =>
   intro cs x h;obtain ⟨xs, k, hk, hxy, hcl, hxl, hf⟩ := DataW.trod_struct Tryz.underlying39 h;have c1 : Tryz.prog.cellsOf 3 = 1 := by kernel_rfl
   have c2 : Tryz.prog.cellsOf 23 = 1 := by kernel_rfl
   have c3 : Tryz.prog.cellsOf 39 = 3 := by kernel_rfl
   rw [c3] at hcl
   match xs, hxl, cs, hcl with
   | [y0, y1, y2], _, [v0, v1, v2], _ =>
     have g0 := hf 0 _ rfl;have g1 := hf 1 _ rfl;have g2 := hf 2 _ rfl;simp [c1, c2] at g0 g1 g2;obtain ⟨n0, e0, _, w0⟩ := DataW.trod_int Tryz.underlying3 g0;obtain ⟨n1, e1, _, w1⟩ := DataW.trod_int Tryz.underlying3 g1;simp only [List.cons.injEq, and_true] at e0 e1;subst e0 e1;rcases open_row Tryz.underlying23 g2 with e2 | ⟨a, len, cap, n, e2, hl, hm, hkn, hx⟩
     ·
      simp only [List.cons.injEq, and_true] at e2;subst e2;exact ⟨.mk n0 n1 0 (fun _ => .nil), _, _, _, rfl, by unfold ExprAt; exact ⟨none, 0, rfl, wfI w0, wfI w1, by omega, fun k hk => by omega⟩⟩
     ·
      simp only [List.cons.injEq, and_true] at e2;subst e2;have each : ∀ i, i < len -> ∃ q : ExT, ∃ x0 x1 x2, w.cell? (a.add (i * 3)) = some x0 /\ w.cell? ((a.add (i * 3)).add 1) = some x1 /\ w.cell? ((a.add (i * 3)).add 2) = some x2 /\ ExprAt w q (.agg #[x0, x1, x2]) := by
       intro i hi;obtain ⟨cs', y, h1, h2⟩ := hx i hi;rw [c3] at h1;obtain ⟨_, hlen, hcell⟩ := World.cells?_some h1;obtain ⟨e, x0, x1, x2, rfl, he⟩ := IH n (by omega) h2;have f0 := hcell 0 (by omega);have f1 := hcell 1 (by omega);have f2 := hcell 2 (by omega);rw [add0] at f0;exact ⟨e, x0, x1, x2, by simpa using f0, by simpa using f1, by simpa using f2, he⟩
      obtain ⟨q, hq⟩ := choose_lt each;refine ⟨.mk n0 n1 len q, _, _, _, rfl, ?_⟩;unfold ExprAt;refine ⟨some a, cap, rfl, wfI w0, wfI w1, by unfold maxLen at hm; omega, fun i hi => ?_⟩;obtain ⟨x0, x1, x2, f0, f1, f2, he⟩ := hq i hi;have hsp : a.spot = none := by
       obtain ⟨_, _, _, q0, _⟩ := hq 0 (by omega);have := flat_of_cell q0;simpa [Addr.add] using this
      obtain ⟨b, off, spot⟩ := a;dsimp only at hsp;subst hsp;simp only [add_flat] at f0 f1 f2;exact ⟨b, off, x0, x1, x2, rfl, f0, f1, f2, he⟩
theorem open_exprs {H : Type} {enc : TypeId × Value -> H} {w : World} {base : Nat} {spare : Nat -> Bool} {held : Bool} {fuel : Nat} {cs : List Value} {x : DataW H × List MemPlace}
 (h : DataW.trod enc Tryz.prog w base spare held fuel 23 cs = some x) : ∃ a l cap, cs = [.slice a l.length cap] /\ ExprsAt w a l := by
 have c3 : Tryz.prog.cellsOf 39 = 3 := by kernel_rfl
 rcases open_row Tryz.underlying23 h with e2 | ⟨a, len, cap, n, e2, hl, hm, hkn, hx⟩
 ·
  exact ⟨none, [], 0, e2, ⟨by simp, fun k hk => by simp at hk⟩⟩
 ·
  subst e2;have each : ∀ i, i < len -> ∃ q : ExT, ∃ x0 x1 x2, w.cell? (a.add (i * 3)) = some x0 /\ w.cell? ((a.add (i * 3)).add 1) = some x1 /\ w.cell? ((a.add (i * 3)).add 2) = some x2 /\ ExprAt w q (.agg #[x0, x1, x2]) := by
   intro i hi;obtain ⟨cs', y, h1, h2⟩ := hx i hi;rw [c3] at h1;obtain ⟨_, hlen, hcell⟩ := World.cells?_some h1;obtain ⟨e, x0, x1, x2, rfl, he⟩ := open_expr n h2;have f0 := hcell 0 (by omega);have f1 := hcell 1 (by omega);have f2 := hcell 2 (by omega);rw [add0] at f0;exact ⟨e, x0, x1, x2, by simpa using f0, by simpa using f1, by simpa using f2, he⟩
  obtain ⟨q, hq⟩ := choose_lt each;refine ⟨some a, (List.range len).map q, cap, by simp, ⟨by unfold maxLen at hm; simp; omega, fun i hi => ?_⟩⟩;have hi' : i < len := by simpa using hi
  obtain ⟨x0, x1, x2, f0, f1, f2, he⟩ := hq i hi';have hsp : a.spot = none := by
   obtain ⟨_, _, _, q0, _⟩ := hq 0 (by omega);have := flat_of_cell q0;simpa [Addr.add] using this
  obtain ⟨b, off, spot⟩ := a;dsimp only at hsp;subst hsp;simp only [add_flat] at f0 f1 f2;exact ⟨b, off, x0, x1, x2, rfl, f0, f1, f2, by simpa using he⟩
theorem open_evs {H : Type} {enc : TypeId × Value -> H} {w : World} {base : Nat} {spare : Nat -> Bool} {held : Bool} {fuel : Nat} {cs : List Value} {x : DataW H × List MemPlace}
 (h : DataW.trod enc Tryz.prog w base spare held fuel 24 cs = some x) : ∃ a l cap, cs = [.slice a l.length cap] /\ EvsAt w a l /\ (∀ ev ∈ l, okI ev.after /\ okI ev.kind /\ okI ev.level) /\ (a = none -> cap = 0) /\ l.length <= cap /\ cap <= maxLen := by
 have c1 : Tryz.prog.cellsOf 3 = 1 := by kernel_rfl
 have c3 : Tryz.prog.cellsOf 94 = 3 := by kernel_rfl
 rcases open_row Tryz.underlying24 h with e2 | ⟨a, len, cap, n, e2, hl, hm, hkn, hx⟩
 ·
  exact ⟨none, [], 0, e2, ⟨by simp, fun k hk => by simp at hk⟩, by simp, fun _ => rfl, by simp, by simp⟩
 ·
  subst e2;have each : ∀ i, i < len -> ∃ q : Ev, w.cell? (a.add (i * 3)) = some (.int .i64 q.after) /\ w.cell? ((a.add (i * 3)).add 1) = some (.int .i64 q.kind) /\ w.cell? ((a.add (i * 3)).add 2) = some (.int .i64 q.level) /\ okI q.after /\ okI q.kind /\ okI q.level := by
   intro i hi;obtain ⟨cs', y, h1, h2⟩ := hx i hi;rw [c3] at h1;obtain ⟨_, hlen, hcell⟩ := World.cells?_some h1;obtain ⟨xs, k, hk, hxy, _, hxl, hf⟩ := DataW.trod_struct Tryz.underlying94 h2
   match xs, hxl, cs', hlen with
   | [y0, y1, y2], _, [v0, v1, v2], _ =>
     have g0 := hf 0 _ rfl;have g1 := hf 1 _ rfl;have g2 := hf 2 _ rfl;simp [c1] at g0 g1 g2;obtain ⟨n0, e0, _, w0⟩ := DataW.trod_int Tryz.underlying3 g0;obtain ⟨n1, e1, _, w1⟩ := DataW.trod_int Tryz.underlying3 g1;obtain ⟨n2, e2, _, w2⟩ := DataW.trod_int Tryz.underlying3 g2;simp only [List.cons.injEq, and_true] at e0 e1 e2;subst e0 e1 e2;have f0 := hcell 0 (by omega);have f1 := hcell 1 (by omega);have f2 := hcell 2 (by omega);rw [add0] at f0;exact ⟨⟨n0, n1, n2⟩, by simpa using f0, by simpa using f1, by simpa using f2, wfI w0, wfI w1, wfI w2⟩
  obtain ⟨q, hq⟩ := choose_ev each;refine ⟨some a, (List.range len).map q, cap, by simp, ⟨by unfold maxLen at hm; simp; omega, fun i hi => ?_⟩, ?_, by simp, by simpa using hl, hm⟩
  ·
   have hi' : i < len := by simpa using hi
   obtain ⟨f0, f1, f2, _⟩ := hq i hi';have hsp : a.spot = none := by
    obtain ⟨q0, _⟩ := hq 0 (by omega);have := flat_of_cell q0;simpa [Addr.add] using this
   obtain ⟨b, off, spot⟩ := a;dsimp only at hsp;subst hsp;simp only [add_flat] at f0 f1 f2;exact ⟨b, off, rfl, by simpa using f0, by simpa using f1, by simpa using f2⟩
  ·
   intro ev hev;obtain ⟨i, hi, rfl⟩ := List.mem_map.1 hev;exact (hq i (by simpa using hi)).2.2.2
theorem open_ask {H : Type} {enc : TypeId × Value -> H} {w : World} {base : Nat} {held : Bool} {fuel : Nat} {v : Value} {cs : Array Value} {x : DataW H × List MemPlace} (hv : v = .agg cs)
 (h : DataW.trod enc Tryz.prog w base (fun _ => true) held fuel 26 v.cells.toList = some x) : ∃ q ao ae ap co ce cp, v = askV q ao ae ap co ce cp /\ AskAt w q ao ae ap /\ (∀ ev ∈ q.plan, okI ev.after /\ okI ev.kind /\ okI ev.level) /\ (ao = none -> co = 0) /\ (ap = none -> cp = 0) /\ q.plan.length <= cp /\ cp <= maxLen := by
 subst hv;obtain ⟨xs, k, hk, hxy, hcl, hxl, hf⟩ := DataW.trod_struct Tryz.underlying26 h;have c1 : Tryz.prog.cellsOf 3 = 1 := by kernel_rfl
 have c2 : Tryz.prog.cellsOf 22 = 1 := by kernel_rfl
 have c4 : Tryz.prog.cellsOf 23 = 1 := by kernel_rfl
 have c5 : Tryz.prog.cellsOf 24 = 1 := by kernel_rfl
 have c3 : Tryz.prog.cellsOf 26 = 4 := by kernel_rfl
 rw [c3] at hcl;obtain ⟨cl⟩ := cs;simp only [Value.cells] at hcl hf
 match xs, hxl, cl, hcl with
 | [y0, y1, y2, y3], _, [v0, v1, v2, v3], _ =>
   have g0 := hf 0 _ rfl;have g1 := hf 1 _ rfl;have g2 := hf 2 _ rfl;have g3 := hf 3 _ rfl;simp [c1, c2, c4, c5] at g0 g1 g2 g3;obtain ⟨n0, e0, _, w0⟩ := DataW.trod_int Tryz.underlying3 g0;simp only [List.cons.injEq, and_true] at e0;subst e0;obtain ⟨ao, zs, co, e1, hio, hno⟩ : ∃ a zs c, v1 = .slice a zs.length c /\ IntsAt w a zs /\ (a = none -> c = 0) := by
    rcases open_ints Tryz.underlying22 Tryz.underlying3 (by kernel_rfl) g1 with ⟨hcs, _⟩ | ⟨x, l, c, zs, hcs, _, hl, hm, hz, _, hcell, hwz⟩
    ·
     simp at hcs;subst hcs;obtain ⟨a, c, e, h1, h2⟩ := sliceIs_of_rowA (w := w) (a := none) (len := 0) (cap := 0) (.inl ⟨rfl, rfl, rfl, rfl⟩);exact ⟨a, _, c, e, h1, h2⟩
    ·
     simp at hcs;subst hcs;obtain ⟨a, c, e, h1, h2⟩ := sliceIs_of_rowA (w := w) (.inr ⟨_, rfl, hl, hm, by simpa using hz, hcell, hwz⟩);exact ⟨a, _, c, e, h1, h2⟩
   obtain ⟨ae, es, ce, e2, hes⟩ := open_exprs g2;obtain ⟨ap, evs, cp, e3, hev, hok, hnp, hlp, hmp⟩ := open_evs g3;simp only [List.cons.injEq, and_true] at e2 e3;subst e1 e2 e3;exact ⟨⟨n0, zs, es, evs⟩, ao, ae, ap, co, ce, cp, rfl, ⟨wfI w0, hio, hes, hev⟩, hok, hno, hnp, hlp, hmp⟩
end Go.Proofs.YtchliiaknmknhaaGreat
