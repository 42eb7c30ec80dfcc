/- Several texts in one file: contracts of the program's functions and what follows from them. -/
import Derived.Test.YtchliiaknmknhaaGreatU7
import Derived.Deep.Slices
import Derived.ChangeArms
import Derived.WideShapes
set_option linter.unusedSimpArgs false
set_option linter.unusedVariables false
set_option linter.unusedSectionVars false
set_option linter.unnecessarySimpa false
set_option maxRecDepth 100000
set_option maxHeartbeats 8000000
namespace Go.Proofs.YtchliiaknmknhaaGreat
open Go.RowKit Go.Deep Go.ChangeShapes Go.WideShapes
theorem wfI {x : Int} (h : (Lit.int .i64 x).wf = true) : okI x := by
 unfold okI;simp only [Lit.wf, IntKind.min, IntKind.max, IntKind.signed, IntKind.bits, Bool.and_eq_true, decide_eq_true_eq, if_true] at h;omega
theorem add_flat {b off : Nat} (k : Nat) : (⟨b, off, none⟩ : Addr).add k = ⟨b, off + k, none⟩ := by unfold Addr.add; split <;> simp_all
theorem add0 (a : Addr) : a.add 0 = a := by simp [Addr.add]
theorem flat_of_cell {w : World} {a : Addr} {v : Value} (h : w.cell? a = some v) : a.spot = none := by
 obtain ⟨b, off, spot⟩ := a;cases spot with
 | none => rfl
 | some s => simp [World.cell?] at h; split at h <;> simp at h
theorem choose_ev {n : Nat} {p : Nat -> Ev -> Prop} (h : ∀ i, i < n -> ∃ x, p i x) : ∃ f : Nat -> Ev, ∀ i, i < n -> p i (f i) := by
 classical
 refine ⟨fun i => if hi : i < n then Classical.choose (h i hi) else ⟨0, 0, 0⟩, fun i hi => ?_⟩;simp only [dif_pos hi];exact Classical.choose_spec (h i hi)
theorem open_row {H : Type} {enc : TypeId × Value -> H} {P : Program} {w : World} {base : Nat} {spare : Nat -> Bool} {held : Bool} {t e : TypeId} {fuel : Nat} {cs : List Value} {x : DataW H × List MemPlace} (ht : P.underlying t = some (.slice e)) (h : DataW.trod enc P w base spare held fuel t cs = some x) :
 cs = [.slice none 0 0] \/ ∃ (a : Addr) (len cap n : Nat), cs = [.slice (some a) len cap] /\ len <= cap /\ cap <= maxLen /\ fuel = n + 1 /\ ∀ i, i < len -> ∃ cs' y, w.cells? base (a.add (i * P.cellsOf e)) (P.cellsOf e) = some cs' /\ DataW.trod enc P w base spare held n e cs' = some y := by
 rcases DataW.trod_slice ht h with ⟨h0, _⟩ | ⟨a, len, cap, elems, rest, n, hn, e1, _, _, hl, hm, hlen, hel, _⟩
 ·
  exact .inl h0
 ·
  refine .inr ⟨a, len, cap, n, e1, hl, hm, hn, fun i hi => ?_⟩;have := hel i hi;rw [List.getElem?_eq_getElem (by omega)] at this;obtain ⟨cs', h1, h2⟩ := Option.bind_eq_some_iff.1 this;exact ⟨cs', _, h1, h2⟩
theorem open_expr {H : Type} {enc : TypeId × Value -> H} {w : World} {base : Nat} {spare : Nat -> Bool} {held : Bool} : ∀ (fuel : Nat) {cs : List Value} {x : DataW H × List MemPlace},
 DataW.trod enc Tryz.prog w base spare held fuel 39 cs = some x -> ∃ e x0 x1 x2, cs = [x0, x1, x2] /\ ExprAt w e (.agg #[x0, x1, x2]) := by
 intro fuel
 induction fuel using Nat.strongRecOn with
 | _ fuel IH =>
   intro cs x h;obtain ⟨xs, k, hk, hxy, hcl, hxl, hf⟩ := DataW.trod_struct Tryz.underlying39 h;have c1 : Tryz.prog.cellsOf 3 = 1 := by kernel_rfl
   have c2 : Tryz.prog.cellsOf 23 = 1 := by kernel_rfl
   have c3 : Tryz.prog.cellsOf 39 = 3 := by kernel_rfl
   rw [c3] at hcl
   match xs, hxl, cs, hcl with
   | [y0, y1, y2], _, [v0, v1, v2], _ =>
     have g0 := hf 0 _ rfl;have g1 := hf 1 _ rfl;have g2 := hf 2 _ rfl;simp [c1, c2] at g0 g1 g2;obtain ⟨n0, e0, _, w0⟩ := DataW.trod_int Tryz.underlying3 g0;obtain ⟨n1, e1, _, w1⟩ := DataW.trod_int Tryz.underlying3 g1;simp only [List.cons.injEq, and_true] at e0 e1;subst e0 e1;rcases open_row Tryz.underlying23 g2 with e2 | ⟨a, len, cap, n, e2, hl, hm, hkn, hx⟩
     ·
      simp only [List.cons.injEq, and_true] at e2;subst e2;exact ⟨.mk n0 n1 0 (fun _ => .nil), _, _, _, rfl, by unfold ExprAt; exact ⟨none, 0, rfl, wfI w0, wfI w1, by omega, fun k hk => by omega⟩⟩
     ·
      simp only [List.cons.injEq, and_true] at e2;subst e2;have each : ∀ i, i < len -> ∃ q : ExT, ∃ x0 x1 x2, w.cell? (a.add (i * 3)) = some x0 /\ w.cell? ((a.add (i * 3)).add 1) = some x1 /\ w.cell? ((a.add (i * 3)).add 2) = some x2 /\ ExprAt w q (.agg #[x0, x1, x2]) := by
       intro i hi;obtain ⟨cs', y, h1, h2⟩ := hx i hi;rw [c3] at h1;obtain ⟨_, hlen, hcell⟩ := World.cells?_some h1;obtain ⟨e, x0, x1, x2, rfl, he⟩ := IH n (by omega) h2;have f0 := hcell 0 (by omega);have f1 := hcell 1 (by omega);have f2 := hcell 2 (by omega);rw [add0] at f0;exact ⟨e, x0, x1, x2, by simpa using f0, by simpa using f1, by simpa using f2, he⟩
      obtain ⟨q, hq⟩ := choose_lt each;refine ⟨.mk n0 n1 len q, _, _, _, rfl, ?_⟩;unfold ExprAt;refine ⟨some a, cap, rfl, wfI w0, wfI w1, by unfold maxLen at hm; omega, fun i hi => ?_⟩;obtain ⟨x0, x1, x2, f0, f1, f2, he⟩ := hq i hi;have hsp : a.spot = none := by
       obtain ⟨_, _, _, q0, _⟩ := hq 0 (by omega);have := flat_of_cell q0;simpa [Addr.add] using this
      obtain ⟨b, off, spot⟩ := a;dsimp only at hsp;subst hsp;simp only [add_flat] at f0 f1 f2;exact ⟨b, off, x0, x1, x2, rfl, f0, f1, f2, he⟩
theorem open_exprs {H : Type} {enc : TypeId × Value -> H} {w : World} {base : Nat} {spare : Nat -> Bool} {held : Bool} {fuel : Nat} {cs : List Value} {x : DataW H × List MemPlace}
 (h : DataW.trod enc Tryz.prog w base spare held fuel 23 cs = some x) : ∃ a l cap, cs = [.slice a l.length cap] /\ ExprsAt w a l := by
 have c3 : Tryz.prog.cellsOf 39 = 3 := by kernel_rfl
 rcases open_row Tryz.underlying23 h with e2 | ⟨a, len, cap, n, e2, hl, hm, hkn, hx⟩
 ·
  exact ⟨none, [], 0, e2, ⟨by simp, fun k hk => by simp at hk⟩⟩
 ·
  subst e2;have each : ∀ i, i < len -> ∃ q : ExT, ∃ x0 x1 x2, w.cell? (a.add (i * 3)) = some x0 /\ w.cell? ((a.add (i * 3)).add 1) = some x1 /\ w.cell? ((a.add (i * 3)).add 2) = some x2 /\ ExprAt w q (.agg #[x0, x1, x2]) := by
   intro i hi;obtain ⟨cs', y, h1, h2⟩ := hx i hi;rw [c3] at h1;obtain ⟨_, hlen, hcell⟩ := World.cells?_some h1;obtain ⟨e, x0, x1, x2, rfl, he⟩ := open_expr n h2;have f0 := hcell 0 (by omega);have f1 := hcell 1 (by omega);have f2 := hcell 2 (by omega);rw [add0] at f0;exact ⟨e, x0, x1, x2, by simpa using f0, by simpa using f1, by simpa using f2, he⟩
  obtain ⟨q, hq⟩ := choose_lt each;refine ⟨some a, (List.range len).map q, cap, by simp, ⟨by unfold maxLen at hm; simp; omega, fun i hi => ?_⟩⟩;have hi' : i < len := by simpa using hi
  obtain ⟨x0, x1, x2, f0, f1, f2, he⟩ := hq i hi';have hsp : a.spot = none := by
   obtain ⟨_, _, _, q0, _⟩ := hq 0 (by omega);have := flat_of_cell q0;simpa [Addr.add] using this
  obtain ⟨b, off, spot⟩ := a;dsimp only at hsp;subst hsp;simp only [add_flat] at f0 f1 f2;exact ⟨b, off, x0, x1, x2, rfl, f0, f1, f2, by simpa using he⟩
theorem open_evs {H : Type} {enc : TypeId × Value -> H} {w : World} {base : Nat} {spare : Nat -> Bool} {held : Bool} {fuel : Nat} {cs : List Value} {x : DataW H × List MemPlace}
 (h : DataW.trod enc Tryz.prog w base spare held fuel 24 cs = some x) : ∃ a l cap, cs = [.slice a l.length cap] /\ EvsAt w a l /\ (∀ ev ∈ l, okI ev.after /\ okI ev.kind /\ okI ev.level) /\ (a = none -> cap = 0) /\ l.length <= cap /\ cap <= maxLen := by
 have c1 : Tryz.prog.cellsOf 3 = 1 := by kernel_rfl
 have c3 : Tryz.prog.cellsOf 94 = 3 := by kernel_rfl
 rcases open_row Tryz.underlying24 h with e2 | ⟨a, len, cap, n, e2, hl, hm, hkn, hx⟩
 ·
  exact ⟨none, [], 0, e2, ⟨by simp, fun k hk => by simp at hk⟩, by simp, fun _ => rfl, by simp, by simp⟩
 ·
  subst e2;have each : ∀ i, i < len -> ∃ q : Ev, w.cell? (a.add (i * 3)) = some (.int .i64 q.after) /\ w.cell? ((a.add (i * 3)).add 1) = some (.int .i64 q.kind) /\ w.cell? ((a.add (i * 3)).add 2) = some (.int .i64 q.level) /\ okI q.after /\ okI q.kind /\ okI q.level := by
   intro i hi;obtain ⟨cs', y, h1, h2⟩ := hx i hi;rw [c3] at h1;obtain ⟨_, hlen, hcell⟩ := World.cells?_some h1;obtain ⟨xs, k, hk, hxy, _, hxl, hf⟩ := DataW.trod_struct Tryz.underlying94 h2
   match xs, hxl, cs', hlen with
   | [y0, y1, y2], _, [v0, v1, v2], _ =>
     have g0 := hf 0 _ rfl;have g1 := hf 1 _ rfl;have g2 := hf 2 _ rfl;simp [c1] at g0 g1 g2;obtain ⟨n0, e0, _, w0⟩ := DataW.trod_int Tryz.underlying3 g0;obtain ⟨n1, e1, _, w1⟩ := DataW.trod_int Tryz.underlying3 g1;obtain ⟨n2, e2, _, w2⟩ := DataW.trod_int Tryz.underlying3 g2;simp only [List.cons.injEq, and_true] at e0 e1 e2;subst e0 e1 e2;have f0 := hcell 0 (by omega);have f1 := hcell 1 (by omega);have f2 := hcell 2 (by omega);rw [add0] at f0;exact ⟨⟨n0, n1, n2⟩, by simpa using f0, by simpa using f1, by simpa using f2, wfI w0, wfI w1, wfI w2⟩
  obtain ⟨q, hq⟩ := choose_ev each;refine ⟨some a, (List.range len).map q, cap, by simp, ⟨by unfold maxLen at hm; simp; omega, fun i hi => ?_⟩, ?_, by simp, by simpa using hl, hm⟩
  ·
   have hi' : i < len := by simpa using hi
   obtain ⟨f0, f1, f2, _⟩ := hq i hi';have hsp : a.spot = none := by
    obtain ⟨q0, _⟩ := hq 0 (by omega);have := flat_of_cell q0;simpa [Addr.add] using this
   obtain ⟨b, off, spot⟩ := a;dsimp only at hsp;subst hsp;simp only [add_flat] at f0 f1 f2;exact ⟨b, off, rfl, by simpa using f0, by simpa using f1, by simpa using f2⟩
  ·
   intro ev hev;obtain ⟨i, hi, rfl⟩ := List.mem_map.1 hev;exact (hq i (by simpa using hi)).2.2.2
theorem open_ask {H : Type} {enc : TypeId × Value -> H} {w : World} {base : Nat} {held : Bool} {fuel : Nat} {v : Value} {cs : Array Value} {x : DataW H × List MemPlace} (hv : v = .agg cs)
 (h : DataW.trod enc Tryz.prog w base (fun _ => true) held fuel 26 v.cells.toList = some x) : ∃ q ao ae ap co ce cp, v = askV q ao ae ap co ce cp /\ AskAt w q ao ae ap /\ (∀ ev ∈ q.plan, okI ev.after /\ okI ev.kind /\ okI ev.level) /\ (ao = none -> co = 0) /\ (ap = none -> cp = 0) /\ q.plan.length <= cp /\ cp <= maxLen := by
 subst hv;obtain ⟨xs, k, hk, hxy, hcl, hxl, hf⟩ := DataW.trod_struct Tryz.underlying26 h;have c1 : Tryz.prog.cellsOf 3 = 1 := by kernel_rfl
 have c2 : Tryz.prog.cellsOf 22 = 1 := by kernel_rfl
 have c4 : Tryz.prog.cellsOf 23 = 1 := by kernel_rfl
 have c5 : Tryz.prog.cellsOf 24 = 1 := by kernel_rfl
 have c3 : Tryz.prog.cellsOf 26 = 4 := by kernel_rfl
 rw [c3] at hcl;obtain ⟨cl⟩ := cs;simp only [Value.cells] at hcl hf
 match xs, hxl, cl, hcl with
 | [y0, y1, y2, y3], _, [v0, v1, v2, v3], _ =>
   have g0 := hf 0 _ rfl;have g1 := hf 1 _ rfl;have g2 := hf 2 _ rfl;have g3 := hf 3 _ rfl;simp [c1, c2, c4, c5] at g0 g1 g2 g3;obtain ⟨n0, e0, _, w0⟩ := DataW.trod_int Tryz.underlying3 g0;simp only [List.cons.injEq, and_true] at e0;subst e0;obtain ⟨ao, zs, co, e1, hio, hno⟩ : ∃ a zs c, v1 = .slice a zs.length c /\ IntsAt w a zs /\ (a = none -> c = 0) := by
    rcases open_ints Tryz.underlying22 Tryz.underlying3 (by kernel_rfl) g1 with ⟨hcs, _⟩ | ⟨x, l, c, zs, hcs, _, hl, hm, hz, _, hcell, hwz⟩
    ·
     simp at hcs;subst hcs;obtain ⟨a, c, e, h1, h2⟩ := sliceIs_of_row (w := w) (a := none) (len := 0) (cap := 0) (.inl ⟨rfl, rfl, rfl, rfl⟩);exact ⟨a, _, c, e, h1, h2⟩
    ·
     simp at hcs;subst hcs;obtain ⟨a, c, e, h1, h2⟩ := sliceIs_of_row (w := w) (.inr ⟨_, rfl, hl, hm, by simpa using hz, hcell, hwz⟩);exact ⟨a, _, c, e, h1, h2⟩
   obtain ⟨ae, es, ce, e2, hes⟩ := open_exprs g2;obtain ⟨ap, evs, cp, e3, hev, hok, hnp, hlp, hmp⟩ := open_evs g3;simp only [List.cons.injEq, and_true] at e2 e3;subst e1 e2 e3;exact ⟨⟨n0, zs, es, evs⟩, ao, ae, ap, co, ce, cp, rfl, ⟨wfI w0, hio, hes, hev⟩, hok, hno, hnp, hlp, hmp⟩
open Go.RowKit
theorem bools_new (W : World) (bs : List Bool) (hl : bs.length <= 1000) : BoolsIs (W.alloc (.cells (boolsV bs).toArray 4)) (.slice (some ⟨W.heap.size, 0, none⟩) bs.length bs.length) bs :=
 ⟨_, _, rfl, ⟨by omega, fun k hk => ⟨W.heap.size, 0, rfl, by
  rw [Nat.zero_add, cell_of_row _ _ k _ _ _ (heap_alloc_new _ _)];simp [boolsV, List.getD, hk]⟩⟩, by simp⟩
abbrev LvG (w : World) (mb : Nat) (o : Own) (w1 : World) (fs : List (Int × BF)) (nx : Int) (W : World) : Prop := Goes iteLaw 2 (fun _ => True) 100 w mb fs nx NoW o w1 W
def lvA : List (Int × BF) := two ++ [(2, varF 0)]
def lvB : List (Int × BF) := lvA ++ [(3, varF 1)]
def lvC : List (Int × BF) := lvB ++ [(4, iteFn (varF 0) (varF 1) fun _ => false)]
def lvD : List (Int × BF) := lvC ++ [(5, iteFn (varF 1) (varF 0) fun _ => false)]
theorem lv_eq : iteFn (varF 0) (varF 1) (fun _ => false) = iteFn (varF 1) (varF 0) (fun _ => false) := by
 funext ρ
 show iteB (ρ 0) (ρ 1) false = iteB (ρ 1) (ρ 0) false
 cases ρ 0 <;> cases ρ 1 <;> rfl
theorem lives13b (w : World) : Calls Tryz.prog 13 #[] w fun x w' => x = .returned (.bool true) /\ Below w.heap.size w w' := by
 have HNEW := Lib.hid (new_sat2 (K := iteLaw) 2 100 w (by omega) (by omega) (by omega));have HV0 : Hid (∀ mb o w1 W, LvG w mb o w1 two 2 W -> Calls Tryz.prog 15 #[.pointer (some ⟨mb, 0, none⟩), .int .i64 0] W fun x w'' => x = .returned (.tuple #[.int .i64 2, .int .i64 0]) /\ LvG w mb o w1 lvA 3 w'') :=
  Lib.hid fun mb o w1 W g => var_ok iteLaw_ok g (by omega) (by decide) (v := 0) (by omega)
 have HV1 : Hid (∀ mb o w1 W, LvG w mb o w1 lvA 3 W -> Calls Tryz.prog 15 #[.pointer (some ⟨mb, 0, none⟩), .int .i64 1] W fun x w'' => x = .returned (.tuple #[.int .i64 3, .int .i64 0]) /\ LvG w mb o w1 lvB 4 w'') :=
  Lib.hid fun mb o w1 W g => var_ok iteLaw_ok g (by omega) (by decide) (v := 1) (by omega)
 have HI0 : Hid (∀ mb o w1 W, LvG w mb o w1 lvB 4 W -> Calls Tryz.prog 18 #[.pointer (some ⟨mb, 0, none⟩), .int .i64 2, .int .i64 3, .int .i64 0] W fun x w'' => x = .returned (.tuple #[.int .i64 4, .int .i64 0]) /\ LvG w mb o w1 lvC 5 w'') :=
  Lib.hid fun mb o w1 W g => ite_ok iteLaw_ok (Wt := NoW) g (by omega) (by decide) (by simp [lvB, lvA]) (by simp [lvB]) (by simp [lvB, lvA, two])
 have HI1 : Hid (∀ mb o w1 W, LvG w mb o w1 lvC 5 W -> Calls Tryz.prog 18 #[.pointer (some ⟨mb, 0, none⟩), .int .i64 3, .int .i64 2, .int .i64 0] W fun x w'' => x = .returned (.tuple #[.int .i64 5, .int .i64 0]) /\ LvG w mb o w1 lvD 6 w'') :=
  Lib.hid fun mb o w1 W g => ite_ok iteLaw_ok (Wt := NoW) g (by omega) (by decide) (by simp [lvC, lvB]) (by simp [lvC, lvB, lvA]) (by simp [lvC, lvB, lvA, two])
 have HSM : Hid (∀ mb o w1 W, LvG w mb o w1 lvD 6 W -> Calls Tryz.prog 56 #[.pointer (some ⟨mb, 0, none⟩), .int .i64 4, .int .i64 5] W fun x w'' => x = .returned (.tuple #[.bool true, .int .i64 0]) /\ W = w'') :=
  Lib.hid fun mb o w1 W ⟨o', m', V', _, _, h⟩ => (manSame_any h (k := 4) (l := 5) (F := iteFn (varF 0) (varF 1) fun _ => false) (G := iteFn (varF 1) (varF 0) fun _ => false) (by simp [lvD, lvC]) (by simp [lvD])).mono fun x w'' ⟨b, h1, h2, h3⟩ => by
   rw [h1, h2.2 lv_eq];exact ⟨rfl, h3⟩
 have HEV : Hid (∀ mb o w1 W, LvG w mb o w1 lvD 6 W -> ∀ v bs, BoolsIs W v bs -> Calls Tryz.prog 58 #[.pointer (some ⟨mb, 0, none⟩), .int .i64 4, v] W fun x w'' => x = .returned (.tuple #[.bool (iteFn (varF 0) (varF 1) (fun _ => false) (envOf bs)), .int .i64 0]) /\ Below W.heap.size W w'') :=
  Lib.hid fun mb o w1 W ⟨o', m', V', _, _, h⟩ v bs hb => h.eval (by simp [lvD, lvC]) hb
 have HHN : Hid (∀ mb o w1 W, LvG w mb o w1 lvD 6 W -> Calls Tryz.prog 70 #[.pointer (some ⟨mb, 0, none⟩)] W fun x w'' => x = .returned (.int .i64 6) /\ W = w'') :=
  Lib.hid fun mb o w1 W ⟨o', m', V', _, _, h⟩ => h.handles_any
 go_enter Tryz.func13, Tryz.ntmps13
 go_wp2_with fail;refine HNEW.out.mono ?_;rintro x w1 ⟨mb, rfl, o, m, V, hst, hwt, _⟩;have H1 := Lib.hid (HV0.out mb o w1 w1 ⟨o, m, V, ChgX.of_below (Below.refl _ _) o NoB, hwt, hst⟩);clear hst hwt HNEW HV0;go_wp2_with fail;refine H1.out.mono ?_;rintro x w2 ⟨rfl, h2⟩;have H2 := Lib.hid (HV1.out _ _ _ _ h2);clear h2 H1 HV1;go_wp2_with fail;refine H2.out.mono ?_;rintro x w3 ⟨rfl, h3⟩;have H3 := Lib.hid (HI0.out _ _ _ _ h3);clear h3 H2 HI0;go_wp2_with fail;refine H3.out.mono ?_;rintro x w4 ⟨rfl, h4⟩;have H4 := Lib.hid (HI1.out _ _ _ _ h4);clear h4 H3 HI1;go_wp2_with fail;refine H4.out.mono ?_;rintro x w5 ⟨rfl, h5⟩;have H5 := Lib.hid (HSM.out _ _ _ _ h5);have H5' := Lib.hid h5;clear h5 H4 HSM;go_wp2_with fail;refine H5.out.mono ?_;rintro x w6 ⟨rfl, rfl⟩;obtain ⟨w6, hw6⟩ : ∃ w6, w6 = w5.alloc (.cells #[.bool true, .bool true] 4) := ⟨_, rfl⟩;have hb6 : Below w5.heap.size w5 w6 := by rw [hw6]; exact below_new1 _ _
 have H6' := Lib.hid (H5'.out.below hb6);have H6 := Lib.hid (HEV.out _ _ _ _ H6'.out _ [true, true] (by rw [hw6]; exact bools_new w5 [true, true] (by decide)));have HW6 : Hid (_ = w6) := Lib.hid hw6.symm;clear hb6 hw6 H5';go_wp2_with fail;rw [HW6.out];refine H6.out.mono ?_;rintro x w7 ⟨rfl, hb7⟩;have e7 : iteFn (varF 0) (varF 1) (fun _ => false) (envOf [true, true]) = true := rfl;rw [e7];have H7' := Lib.hid (H6'.out.below hb7);clear hb7 H6' HW6 e7;obtain ⟨w8, hw8⟩ : ∃ w8, w8 = w7.alloc (.cells #[.bool true] 4) := ⟨_, rfl⟩;have hb8 : Below w7.heap.size w7 w8 := by rw [hw8]; exact below_new1 _ _
 have H8' := Lib.hid (H7'.out.below hb8);have H8 := Lib.hid (HEV.out _ _ _ _ H8'.out _ [true] (by rw [hw8]; exact bools_new w7 [true] (by decide)));have HW8 : Hid (_ = w8) := Lib.hid hw8.symm;clear hb8 hw8 H7' HEV;go_wp2_with fail;rw [HW8.out];refine H8.out.mono ?_;rintro x w9 ⟨rfl, hb9⟩;have e9 : iteFn (varF 0) (varF 1) (fun _ => false) (envOf [true]) = false := rfl;rw [e9];have H9' := Lib.hid (H8'.out.below hb9);have H9 := Lib.hid (HHN.out _ _ _ _ H9'.out);clear hb9 H8' HW8 e9;go_wp2_with fail;refine H9.out.mono ?_;rintro x w10 ⟨rfl, rfl⟩;go_wp2_with fail;go_ret;exact ⟨rfl, H9'.out.below0⟩
end Go.Proofs.YtchliiaknmknhaaGreat
