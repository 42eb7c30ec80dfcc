/- Several texts in one file: contracts of the program's functions and what follows from them. -/
import Derived.Test.YtchliiaknmknhaaGreatW1
import Derived.Laws.MakeOwn
import Derived.Laws.IdiomCopy
set_option linter.unusedSimpArgs false
set_option linter.unusedVariables false
set_option linter.unusedSectionVars false
set_option linter.unnecessarySimpa false
set_option maxRecDepth 100000
set_option maxHeartbeats 8000000
namespace Go.Proofs.YtchliiaknmknhaaGreat
open Go.RowKit
theorem eqArr3 (d : Nat) (w : World) (a b c a' b' c' : Nat) : (Op.equalIn (d + 2) 169 (.agg #[.int .i64 a, .int .i64 b, .int .i64 c]) (.agg #[.int .i64 a', .int .i64 b', .int .i64 c'])).run Tryz.prog w = .ok (decide (a = a' /\ b = b' /\ c = c')) w := by
 have hq := fun (x y : Int) => run_equalIn_int (P := Tryz.prog) w d 52 .i64 .i64 x y Tryz.underlying52
 have s := sizeEdge;cases hi : Tryz.prog.info? 52 with
 | none => rw [hi] at s; cases s
 | some i =>
   have hs := run_sizeOf w hi;rw [show Tryz.prog.cellsOf 52 = 1 by kernel_rfl] at hs;have p0 := fun a b c : Nat => part_int w Tryz.underlying52 #[.int .i64 a, .int .i64 b, .int .i64 c] 0 _ rfl
   have p1 := fun a b c : Nat => part_int w Tryz.underlying52 #[.int .i64 a, .int .i64 b, .int .i64 c] 1 _ rfl
   have p2 := fun a b c : Nat => part_int w Tryz.underlying52 #[.int .i64 a, .int .i64 b, .int .i64 c] 2 _ rfl
   unfold Op.equalIn;simp only [Sem.run_bind, run_underlying Tryz.underlying169, Result.andThen_ok, hs];simp [List.range', p0, p1, p2, hq];have e1 : ((a : Int) = a') ↔ a = a' := by omega
   have e2 : ((b : Int) = b') ↔ b = b' := by omega
   have e3 : ((c : Int) = c') ↔ c = c' := by omega
   by_cases h1 : a = a' <;> by_cases h2 : b = b' <;> by_cases h3 : c = c' <;> simp [e1, e2, e3, h1, h2, h3]
theorem eqKey (w : World) (op op' : Int) (a b c a' b' c' : Nat) : (Op.equal 171 (keyV op a b c) (keyV op' a' b' c')).run Tryz.prog w = .ok (decide (op = op' /\ a = a' /\ b = b' /\ c = c')) w := by
 have hq := fun (x y : Int) => run_equalIn_int (P := Tryz.prog) w 9998 3 .i64 .i64 x y Tryz.underlying3
 have h := run_equalIn_struct (P := Tryz.prog) w 9999 171 #[.int .i64 op, .int .i64 a, .int .i64 b, .int .i64 c] #[.int .i64 op', .int .i64 a', .int .i64 b', .int .i64 c'] (by simp [Program.fieldsOf, Tryz.underlying171]) (by kernel_rfl);have h3 := eqArr3 9997 w a b c a' b' c';have hd : Op.maxDepth = 9999 + 1 := rfl;have hpk : ∀ op a b c : Value, (part 169 #[op, a, b, c] 1).run Tryz.prog w = .ok (.agg #[a, b, c]) w := by
  intro op a b c;cases hi : Tryz.prog.info? 169 with
  | none => have s : (Tryz.prog.info? 169).map (fun i => i.size) = some 3 := by kernel_rfl
            rw [hi] at s; cases s
  | some i =>
    have hs := run_sizeOf w hi;rw [show Tryz.prog.cellsOf 169 = 3 by kernel_rfl] at hs;simp [part, isAgg, run_underlying Tryz.underlying169]
 have hpi : ∀ op a b c : Value, (part 3 #[op, a, b, c] 0).run Tryz.prog w = .ok op w := fun op a b c => part_int w Tryz.underlying3 _ 0 _ rfl
 unfold Op.equal keyV;rw [hd, h];simp only [Program.fieldsOf, Tryz.underlying171];simp [Op.eqFields, hpk, hpi, hq, h3]
 by_cases h1 : op = op' <;> by_cases h2 : a = a' <;> by_cases h3 : b = b' <;> by_cases h4 : c = c' <;> simp [h1, h2, h3, h4]
theorem run_neqKey (w : World) (op op' : Int) (a b c a' b' c' : Nat) : (binOp .neq 171 (.agg #[.int .i64 op, .int .i64 a, .int .i64 b, .int .i64 c]) (.agg #[.int .i64 op', .int .i64 a', .int .i64 b', .int .i64 c'])).run Tryz.prog w = .ok (.bool (!decide (op = op' /\ a = a' /\ b = b' /\ c = c'))) w := by
 have h := eqKey w op op' a b c a' b' c';unfold keyV at h;simp only [binOp];simp [h]
structure EntD where
 op : Int
 a : Nat
 b : Nat
 c : Nat
 r : Nat
 full : Bool
def entV (e : EntD) : List Value := [.int .i64 e.op, .int .i64 e.a, .int .i64 e.b, .int .i64 e.c, .int .i64 e.r, .bool e.full]
theorem entV_length (e : EntD) : (entV e).length = 6 := rfl
def ent0 : EntD := ⟨0, 0, 0, 0, 0, false⟩
def entAt (l : List EntD) (i : Nat) : EntD := l.getD i ent0
abbrev Phi := Int -> Nat -> Nat -> Nat -> Nat -> Prop
def EntOk (F : Phi) (l : List EntD) : Prop := ∀ i, (entAt l i).full = true -> F (entAt l i).op (entAt l i).a (entAt l i).b (entAt l i).c (entAt l i).r
structure MemoAt (o : Own) (w : World) (mb : Nat) (F : Phi) : Prop where
 own : o mb = some .memo
 ex : ∃ ve asked found, w.heap[mb]? = some (.cells #[.int .i64 4096, ve, .int .i64 asked, .int .i64 found] 150 (0, 0)) /\
  (ve = .slice none 0 0 \/ ∃ ge cap l, ve = .slice (some ⟨ge, 0, none⟩) 4096 cap /\ l.length = 4096 /\ RowR o w .entries 175 6 ve 4096 (l.flatMap entV) /\ EntOk F l)
theorem MemoAt.keep {o o' : Own} {w w' : World} {mb : Nat} {F : Phi} (h : MemoAt o w mb F) (hk : ∀ g r, o g = some r -> (r = .memo \/ r = .entries) -> w'.heap[g]? = w.heap[g]?) (ho : ∀ g r, o g = some r -> o' g = some r) : MemoAt o' w' mb F := by
 obtain ⟨ve, a, f, h1, h2⟩ := h.ex;refine ⟨ho _ _ h.own, ve, a, f, (hk _ _ h.own (.inl rfl)).trans h1, h2.imp id ?_⟩;rintro ⟨ge, cap, l, e1, e2, e3, e4⟩;exact ⟨ge, cap, l, e1, e2, e3.keep (fun g hg => hk g _ hg (.inr rfl)) (fun g hg => ho g _ hg), e4⟩
theorem MemoAt.chg {R : Role -> Prop} {o o' : Own} {w w' : World} {mb : Nat} {F : Phi} (h : MemoAt o w mb F) (hc : Chg R o o' w w') (hlt : OwnLt o w) (h1 : ¬ R .memo) (h2 : ¬ R .entries) : MemoAt o' w' mb F :=
 h.keep (fun g r hg hr => hc.same hlt hg (by rcases hr with rfl | rfl <;> assumption)) hc.ext
theorem cells4 {w : World} {g : Nat} {a b c d : Value} {T : TypeId} (h : w.heap[g]? = some (.cells #[a, b, c, d] T (0, 0))) : w.cell? ⟨g, 0, none⟩ = some a /\ w.cell? ⟨g, 1, none⟩ = some b /\ w.cell? ⟨g, 2, none⟩ = some c /\ w.cell? ⟨g, 3, none⟩ = some d /\ (∀ k, w.frozen? ⟨g, k, none⟩ = false) :=
 ⟨by rw [cell_of_row w g 0 _ _ _ h]; rfl, by rw [cell_of_row w g 1 _ _ _ h]; rfl, by rw [cell_of_row w g 2 _ _ _ h]; rfl, by rw [cell_of_row w g 3 _ _ _ h]; rfl, fun k => by simp [World.frozen?, h]⟩
theorem entCells {o : Own} {w : World} {g cap m : Nat} {l : List EntD} (h : RowR o w .entries 175 6 (.slice (some ⟨g, 0, none⟩) m cap) 4096 (l.flatMap entV)) (hl : l.length = 4096) {k : Nat} (hk : k < 4096) :
 w.cell? ⟨g, k * 6, none⟩ = some (.int .i64 (entAt l k).op) /\ w.cell? ⟨g, k * 6 + 1, none⟩ = some (.int .i64 (entAt l k).a) /\ w.cell? ⟨g, k * 6 + 2, none⟩ = some (.int .i64 (entAt l k).b) /\ w.cell? ⟨g, k * 6 + 3, none⟩ = some (.int .i64 (entAt l k).c) /\
 w.cell? ⟨g, k * 6 + 4, none⟩ = some (.int .i64 (entAt l k).r) /\ w.cell? ⟨g, k * 6 + 5, none⟩ = some (.bool (entAt l k).full) := by
 have hx : l[k]? = some (entAt l k) := by simp [entAt, List.getD, hl, hk]
 have hlen : (l.flatMap entV).length = 4096 * 6 := by rw [flat_length entV 6 entV_length, hl]
 have e := fun j (hj : j < 6) => (h.cell (k * 6 + j) (by rw [hlen]; omega)).trans (flat_get entV 6 entV_length l k j _ hx hj)
 exact ⟨e 0 (by omega), e 1 (by omega), e 2 (by omega), e 3 (by omega), e 4 (by omega), e 5 (by omega)⟩
def GetSays (F : Phi) (op : Int) (a b c : Nat) (x : Ending) : Prop := x = .returned (.tuple #[.int .i64 0, .bool false]) \/ ∃ r : Nat, x = .returned (.tuple #[.int .i64 r, .bool true]) /\ F op a b c r
theorem get_any (o : Own) (mb : Nat) (F : Phi) (op : Int) (a b c : Nat) (w : World) (h : MemoAt o w mb F) (hlt : OwnLt o w) :
 Calls Tryz.prog 94 #[.pointer (some ⟨mb, 0, none⟩), .int .i64 op, .int .i64 a, .int .i64 b, .int .i64 c] w fun x w' => GetSays F op a b c x /\ MemoAt o w' mb F /\ Chg (· = .memo) o o w w' /\ OwnLt o w' := by
 obtain ⟨ve, asked, found, hmb, hv⟩ := h.ex;obtain ⟨c0, c1, c2, c3, f0⟩ := cells4 hmb;obtain ⟨W, hW⟩ : ∃ W, W = w.setCell ⟨mb, 2, none⟩ (.int .i64 (wrap64 (asked + 1))) := ⟨_, rfl⟩;have hmbW : W.heap[mb]? = some (.cells #[.int .i64 4096, ve, .int .i64 (wrap64 (asked + 1)), .int .i64 found] 150 (0, 0)) := by rw [hW]; exact heap_setCell_same hmb _
 have hcW : Chg (· = .memo) o o w W := by rw [hW]; exact Chg.setCell (R := (· = .memo)) (Chg.refl _ o w) (p := ⟨mb, 2, none⟩) h.own rfl _
 have hlW : OwnLt o W := hlt.mono hcW.size;rcases hv with rfl | ⟨ge, cap, l, rfl, hl, hrow, hok⟩
 ·
  have hfin : MemoAt o W mb F := ⟨h.own, _, _, _, hmbW, .inl rfl⟩;have HF := Lib.hid hfin;have HC := Lib.hid hcW;have HL := Lib.hid hlW;have HW := Lib.hid hW;obtain ⟨d0, d1, d2, d3, g0⟩ := cells4 hmbW;rw [hW] at d0 d1 d2 d3 g0;clear h hlt hmb hmbW hcW hlW hfin hW
  go_enter Tryz.func94, Tryz.ntmps94
  go_wp2_with fail
  go_ret2
  rw [<- HW.out];exact ⟨.inl rfl, HF.out, HC.out, HL.out⟩
 ·
  have hrW : RowR o W .entries 175 6 (.slice (some ⟨ge, 0, none⟩) 4096 cap) 4096 (l.flatMap entV) := hrow.chg hcW hlt (by simp);have hfin : MemoAt o W mb F := ⟨h.own, _, _, _, hmbW, .inr ⟨ge, cap, l, rfl, hl, hrW, hok⟩⟩;obtain ⟨d0, d1, d2, d3, g0⟩ := cells4 hmbW;have hB := (below_new1 W (.cells #[.int .i64 op, .int .i64 a, .int .i64 b, .int .i64 c] 171));have e1 := (hB.cell (p := ⟨mb, 1, none⟩) (lt_of_cell d1)).trans d1;have HPL := Lib.hid (place_any mb ge cap op a b c _ e1);have hz : W.heap.size = w.heap.size := by rw [hW]; simp [World.setCell]
  obtain ⟨bx, hbx⟩ : ∃ bx, bx = w.heap.size := ⟨_, rfl⟩;obtain ⟨WK, hWK⟩ : ∃ WK, WK = W.alloc (.cells #[.int .i64 op, .int .i64 a, .int .i64 b, .int .i64 c] 171) := ⟨_, rfl⟩;have hkb : WK.heap[bx]? = some (.cells #[.int .i64 op, .int .i64 a, .int .i64 b, .int .i64 c] 171 (0, 0)) := by rw [hWK, hbx, <- hz]; exact heap_alloc_new W _
  rw [<- hWK] at HPL hB;have HFIN := Lib.hid hfin;have HCW := Lib.hid hcW;have HLW := Lib.hid hlW;have HRW := Lib.hid hrW;have HL := Lib.hid hl;have HOK := Lib.hid hok;have HB := Lib.hid hB;have HKB := Lib.hid hkb;have HMB := Lib.hid hmbW;have HOWN := Lib.hid h.own;have HW := Lib.hid hW;have HWK := Lib.hid hWK;have HZ := Lib.hid hz;have HBX := Lib.hid hbx;rw [hW] at d0 d1 d2 d3 g0;have lmb : mb < w.heap.size := lt_of_cell c0;clear h hlt hmb hmbW hcW hlW hfin hW hrW hok hl hrow hB hkb hWK hbx hz e1
  go_enter Tryz.func94, Tryz.ntmps94
  go_wp2_with fail;rw [<- HW.out, <- HWK.out, <- HBX.out];refine HPL.out.mono ?_;rintro x w2 ⟨i, hi, rfl, hb2⟩;have hbW2 : Below W.heap.size W w2 := HB.out.trans (hb2.mono HB.out.size);have hrow2 := HRW.out.below HLW.out hbW2;have hmb2 := (hbW2.block mb (HLW.out _ _ HOWN.out)).trans HMB.out;have hkb2 := (hb2.block bx (Array.getElem?_eq_some_iff.1 HKB.out).1).trans HKB.out;have hc2 : Chg (· = .memo) o o w w2 := HCW.out.trans (Chg.of_below hbW2 _ _);have hl2 : OwnLt o w2 := HLW.out.mono hbW2.size;obtain ⟨E, hE⟩ : ∃ E, entAt (l := l) i = E := ⟨_, rfl⟩;obtain ⟨n0, n1, n2, n3, n4, n5⟩ := entCells hrow2 HL.out hi;rw [hE] at n0 n1 n2 n3 n4 n5;obtain ⟨k0, k1, k2, k3, fk⟩ := cells4 hkb2;clear d0 d1 d2 d3 g0 c0 c1 c2 c3 f0 lmb;obtain ⟨d0, d1, d2, d3, g0⟩ := cells4 hmb2;have hfin2 : MemoAt o w2 mb F := ⟨HOWN.out, _, _, _, hmb2, .inr ⟨ge, cap, l, rfl, HL.out, hrow2, HOK.out⟩⟩;have HF2 := Lib.hid hfin2;have HC2 := Lib.hid hc2;have HL2 := Lib.hid hl2;have HMB2 := Lib.hid hmb2;have HR2 := Lib.hid hrow2;have HEE := Lib.hid hE;clear hfin2 hc2 hl2 hb2 hbW2 hrow2 hmb2 hkb2 hE HPL;have hneq := run_neqKey
  by_cases hfull : E.full = true
  ·
   rw [hfull] at n5;have HFU := Lib.hid hfull
   by_cases hkey : E.op = op /\ E.a = a /\ E.b = b /\ E.c = c
   ·
    have hd : decide (E.op = op /\ E.a = a /\ E.b = b /\ E.c = c) = true := decide_eq_true hkey;have hne : ∀ w, (binOp .neq 171 (.agg #[.int .i64 E.op, .int .i64 E.a, .int .i64 E.b, .int .i64 E.c]) (.agg #[.int .i64 op, .int .i64 a, .int .i64 b, .int .i64 c])).run Tryz.prog w = .ok (.bool false) w := fun w => by rw [hneq, hd]; rfl
    have HK := Lib.hid hkey;clear hneq hd hkey hfull;go_wp2_with fail
    go_quiet (fail)
    go_wp2_with fail
    go_ret2
    have hphi := HOK.out i (by rw [HEE.out]; exact HFU.out);rw [HEE.out, HK.out.1, HK.out.2.1, HK.out.2.2.1, HK.out.2.2.2] at hphi;refine ⟨.inr ⟨E.r, rfl, hphi⟩, ⟨HOWN.out, _, _, _, heap_setCell_same (w := w2.drewN nq) HMB2.out _, .inr ⟨ge, cap, l, rfl, HL.out, ?_, HOK.out⟩⟩, Chg.setCell (R := (· = .memo)) (HC2.out.drewN nq) (p := ⟨mb, 3, none⟩) HOWN.out rfl _, HL2.out.mono (by simp [World.setCell])⟩;exact (HR2.out.keep (w' := w2.drewN nq) (fun _ _ => rfl) (fun _ h => h)).setCell_other (p := ⟨mb, 3, none⟩) (by rw [HOWN.out]; simp) _
   ·
    have hd : decide (E.op = op /\ E.a = a /\ E.b = b /\ E.c = c) = false := decide_eq_false hkey;have hne : ∀ w, (binOp .neq 171 (.agg #[.int .i64 E.op, .int .i64 E.a, .int .i64 E.b, .int .i64 E.c]) (.agg #[.int .i64 op, .int .i64 a, .int .i64 b, .int .i64 c])).run Tryz.prog w = .ok (.bool true) w := fun w => by rw [hneq, hd]; rfl
    clear hneq hd hkey hfull;go_wp2_with fail
    go_quiet (fail)
    go_wp2_with fail
    go_ret2
    exact ⟨.inl rfl, HF2.out.keep (fun _ _ _ _ => rfl) (fun _ _ h => h), HC2.out.drewN _, HL2.out⟩
  ·
   have hfull' : E.full = false := by simpa using hfull
   rw [hfull'] at n5;clear hneq hfull hfull';go_wp2_with fail
   go_quiet (fail)
   go_wp2_with fail
   go_ret2
   exact ⟨.inl rfl, HF2.out.keep (fun _ _ _ _ => rfl) (fun _ _ h => h), HC2.out.drewN _, HL2.out⟩
open Go.RowKit
theorem infoEntry : (Tryz.prog.info? 175).map (fun i => (i.zero, i.size, i.bytes)) = some (some (.agg #[.int .i64 0, .int .i64 0, .int .i64 0, .int .i64 0, .int .i64 0, .bool false]), 6, 48) := by kernel_rfl
theorem made_entries (n : Nat) : (madeCells #[.int .i64 0, .int .i64 0, .int .i64 0, .int .i64 0, .int .i64 0, .bool false] (n * 6)).toList = (List.replicate n ent0).flatMap entV := by
 apply List.ext_getElem?;intro i;simp only [madeCells, Array.toList_map, Array.toList_range, List.getElem?_map]
 by_cases hi : i < n * 6
 ·
  have e := flat_get entV 6 entV_length (List.replicate n ent0) (i / 6) (i % 6) ent0 (by rw [List.getElem?_replicate, if_pos (by omega)]) (by omega);rw [show i / 6 * 6 + i % 6 = i by omega] at e;rw [e, List.getElem?_range hi];have hm : i % 6 = 0 \/ i % 6 = 1 \/ i % 6 = 2 \/ i % 6 = 3 \/ i % 6 = 4 \/ i % 6 = 5 := by omega
  simp only [Option.map_some];rcases hm with h | h | h | h | h | h <;> simp [h, entV, ent0]
 ·
  have hl : ((List.replicate n ent0).flatMap entV).length = n * 6 := by rw [flat_length entV 6 entV_length]; simp
  rw [List.getElem?_eq_none (l := (List.replicate n ent0).flatMap entV) (by omega), List.getElem?_eq_none (by simp; omega)];rfl
theorem sizeEntry : (Tryz.prog.info? 175).map (fun i => i.size) = some 6 := by kernel_rfl
def set6 (w : World) (g k : Nat) (e : EntD) : World :=
 (((((w.setCell ⟨g, k * 6, none⟩ (.int .i64 e.op)).setCell ⟨g, k * 6 + 1, none⟩ (.int .i64 e.a)).setCell ⟨g, k * 6 + 2, none⟩ (.int .i64 e.b)).setCell ⟨g, k * 6 + 3, none⟩ (.int .i64 e.c)).setCell ⟨g, k * 6 + 4, none⟩ (.int .i64 e.r)).setCell ⟨g, k * 6 + 5, none⟩ (.bool e.full)
theorem run_storeEntry {w : World} {g k : Nat} (f : ∀ j, w.frozen? ⟨g, j, none⟩ = false) {u0 u1 u2 u3 u4 u5 : Value} (c0 : w.cell? ⟨g, k * 6, none⟩ = some u0) (c1 : w.cell? ⟨g, k * 6 + 1, none⟩ = some u1) (c2 : w.cell? ⟨g, k * 6 + 2, none⟩ = some u2) (c3 : w.cell? ⟨g, k * 6 + 3, none⟩ = some u3) (c4 : w.cell? ⟨g, k * 6 + 4, none⟩ = some u4) (c5 : w.cell? ⟨g, k * 6 + 5, none⟩ = some u5) (E : EntD) :
 (Instr.storeAt 175 (.pointer (some ⟨g, k * 6, none⟩)) (.agg #[.int .i64 E.op, .int .i64 E.a, .int .i64 E.b, .int .i64 E.c, .int .i64 E.r, .bool E.full])).run Tryz.prog w = .ok () (set6 w g k E) := by
 have s := sizeEntry;have hadd : ∀ j, (⟨g, k * 6, none⟩ : Addr).add j = ⟨g, k * 6 + j, none⟩ := fun j => by unfold Addr.add; split <;> simp_all
 have hsa : (Instr.sureAddr (Value.pointer (some ⟨g, k * 6, none⟩))).run Tryz.prog w = .ok ⟨g, k * 6, none⟩ w := rfl;cases hi : Tryz.prog.info? 175 with
 | none => rw [hi] at s; cases s
 | some i =>
   rw [hi] at s;simp only [Option.map_some, Option.some.injEq] at s;have fz : ∀ (w' : World) p v j, (w'.setCell p v).frozen? ⟨g, j, none⟩ = w'.frozen? ⟨g, j, none⟩ := fun w' p v j => World.frozen?_setCell _ _ _ _
   obtain ⟨v1, e1⟩ := cell_ex (p := ⟨g, k * 6, none⟩) (v := .int .i64 E.op) c1;obtain ⟨v2, e2⟩ := cell_ex (p := ⟨g, k * 6, none⟩) (v := .int .i64 E.op) c2;obtain ⟨v2, e2⟩ := cell_ex (p := ⟨g, k * 6 + 1, none⟩) (v := .int .i64 E.a) e2;obtain ⟨v3, e3⟩ := cell_ex (p := ⟨g, k * 6, none⟩) (v := .int .i64 E.op) c3;obtain ⟨v3, e3⟩ := cell_ex (p := ⟨g, k * 6 + 1, none⟩) (v := .int .i64 E.a) e3;obtain ⟨v3, e3⟩ := cell_ex (p := ⟨g, k * 6 + 2, none⟩) (v := .int .i64 E.b) e3;obtain ⟨v4, e4⟩ := cell_ex (p := ⟨g, k * 6, none⟩) (v := .int .i64 E.op) c4;obtain ⟨v4, e4⟩ := cell_ex (p := ⟨g, k * 6 + 1, none⟩) (v := .int .i64 E.a) e4;obtain ⟨v4, e4⟩ := cell_ex (p := ⟨g, k * 6 + 2, none⟩) (v := .int .i64 E.b) e4;obtain ⟨v4, e4⟩ := cell_ex (p := ⟨g, k * 6 + 3, none⟩) (v := .int .i64 E.c) e4;obtain ⟨v5, e5⟩ := cell_ex (p := ⟨g, k * 6, none⟩) (v := .int .i64 E.op) c5;obtain ⟨v5, e5⟩ := cell_ex (p := ⟨g, k * 6 + 1, none⟩) (v := .int .i64 E.a) e5;obtain ⟨v5, e5⟩ := cell_ex (p := ⟨g, k * 6 + 2, none⟩) (v := .int .i64 E.b) e5;obtain ⟨v5, e5⟩ := cell_ex (p := ⟨g, k * 6 + 3, none⟩) (v := .int .i64 E.c) e5;obtain ⟨v5, e5⟩ := cell_ex (p := ⟨g, k * 6 + 4, none⟩) (v := .int .i64 E.r) e5;have s0 := store_ok (P := Tryz.prog) (v := .int .i64 E.op) c0 (f _) rfl;have s1 := store_ok (P := Tryz.prog) (v := .int .i64 E.a) e1 (by rw [fz]; exact f _) rfl;have s2 := store_ok (P := Tryz.prog) (v := .int .i64 E.b) e2 (by rw [fz, fz]; exact f _) rfl;have s3 := store_ok (P := Tryz.prog) (v := .int .i64 E.c) e3 (by rw [fz, fz, fz]; exact f _) rfl;have s4 := store_ok (P := Tryz.prog) (v := .int .i64 E.r) e4 (by rw [fz, fz, fz, fz]; exact f _) rfl;have s5 := store_ok (P := Tryz.prog) (v := .bool E.full) e5 (by rw [fz, fz, fz, fz, fz]; exact f _) rfl;simp only [Instr.storeAt, Sem.run_bind, hsa, Result.andThen_ok];simp [storeVar, sizeOf, typeInfo, hi, s, Value.cells, storeCells, hadd, s0, s1, s2, s3, s4, s5, set6]
theorem set_six (xs : List Value) (k : Nat) (a b c d e f : Value) (h : k + 6 <= xs.length) : (((((xs.set k a).set (k + 1) b).set (k + 2) c).set (k + 3) d).set (k + 4) e).set (k + 5) f = xs.take k ++ [a, b, c, d, e, f] ++ xs.drop (k + 6) := by
 apply List.ext_getElem?;intro i;simp only [List.getElem?_set, List.length_set]
 by_cases h0 : i < k
 ·
  rw [List.getElem?_append_left (by simp; omega), List.getElem?_append_left (by simp; omega), List.getElem?_take, if_pos h0];rw [if_neg (by omega), if_neg (by omega), if_neg (by omega), if_neg (by omega), if_neg (by omega), if_neg (by omega)]
 ·
  by_cases h1 : i < k + 6
  ·
   rw [List.getElem?_append_left (by simp; omega), List.getElem?_append_right (by simp; omega)];have hl : (xs.take k).length = k := by simp; omega
   rw [hl];have : i = k \/ i = k + 1 \/ i = k + 2 \/ i = k + 3 \/ i = k + 4 \/ i = k + 5 := by omega
   rcases this with rfl | rfl | rfl | rfl | rfl | rfl <;> (simp; omega)
  ·
   rw [if_neg (by omega), if_neg (by omega), if_neg (by omega), if_neg (by omega), if_neg (by omega), if_neg (by omega)];rw [List.getElem?_append_right (by simp; omega)];simp only [List.length_append, List.length_take, List.length_cons, List.length_nil, List.getElem?_drop];congr 1; omega
theorem rowR_set6 {o : Own} {w : World} {g cap m : Nat} {l : List EntD} {k : Nat} (h : RowR o w .entries 175 6 (.slice (some ⟨g, 0, none⟩) m cap) l.length (l.flatMap entV)) (hk : k < l.length) (E : EntD) :
 RowR o (set6 w g k E) .entries 175 6 (.slice (some ⟨g, 0, none⟩) m cap) l.length ((l.set k E).flatMap entV) := by
 have h6 := (((((h.stored (k * 6) (.int .i64 E.op)).stored (k * 6 + 1) (.int .i64 E.a)).stored (k * 6 + 2) (.int .i64 E.b)).stored (k * 6 + 3) (.int .i64 E.c)).stored (k * 6 + 4) (.int .i64 E.r)).stored (k * 6 + 5) (.bool E.full);have hl : (l.flatMap entV).length = l.length * 6 := flat_length entV 6 entV_length _;rw [set_six _ _ _ _ _ _ _ _ (by rw [hl]; omega)] at h6;rw [flat_set entV 6 entV_length l k E hk];exact h6
theorem set6_heap {w : World} {g k : Nat} {E : EntD} {b : Nat} (hb : b ≠ g) : (set6 w g k E).heap[b]? = w.heap[b]? := by
 unfold set6;rw [heap_setCell_ne hb, heap_setCell_ne hb, heap_setCell_ne hb, heap_setCell_ne hb, heap_setCell_ne hb, heap_setCell_ne hb]
theorem set6_chg {R : Role -> Prop} {o o' : Own} {w0 w : World} {g k : Nat} {E : EntD} (h : Chg R o o' w0 w) (hg : o' g = some .entries) (hR : R .entries) : Chg R o o' w0 (set6 w g k E) :=
 (((((h.setCell (p := ⟨g, k * 6, none⟩) hg hR _).setCell (p := ⟨g, k * 6 + 1, none⟩) hg hR _).setCell (p := ⟨g, k * 6 + 2, none⟩) hg hR _).setCell (p := ⟨g, k * 6 + 3, none⟩) hg hR _).setCell (p := ⟨g, k * 6 + 4, none⟩) hg hR _).setCell (p := ⟨g, k * 6 + 5, none⟩) hg hR _
theorem entOk_set {F : Phi} {l : List EntD} (h : EntOk F l) (k : Nat) {E : EntD} (hE : F E.op E.a E.b E.c E.r) : EntOk F (l.set k E) := by
 intro i hi
 by_cases e : i = k /\ k < l.length
 ·
  obtain ⟨rfl, hk⟩ := e;have : entAt (l.set i E) i = E := by simp [entAt, List.getD, hk]
  rw [this]; exact hE
 ·
  have : entAt (l.set k E) i = entAt l i := by
   simp only [entAt, List.getD, List.getElem?_set]
   by_cases e1 : k = i
   ·
    rw [if_pos e1];have : ¬ k < l.length := fun h' => e ⟨e1.symm, h'⟩
    rw [if_neg this]; subst e1; rw [List.getElem?_eq_none (by omega)]
   ·
    rw [if_neg e1]
  rw [this] at hi ⊢; exact h i hi
open Go.RowKit
section
variable {P : Program} {ops : Array Oper} {S : World -> Prop} {Q : Exit -> Act -> World -> Prop} {last : Bool}
theorem mix_callR {o : Oper} {r : List (Option Oper × Bool)} {a : Act} {w : World} {f : FuncId} {args : Array Value} {R : Value -> World -> Prop} (hg : o.guard = none)
 (he : (execOp a.eval o).run P w = .ok (.enter f args) w) (hc : Calls P f args w fun e w' => ∃ v, e = .returned v /\ S w' /\ R v w')
 (h : ∀ v w', S w' -> R v w' -> wpMix P ops Q S last r (a.put o.dst v) w') : wpMix P ops Q S last ((some o, true) :: r) a w := by
 have hw : Region.wanted o (yielded ops a.tmps) = true := by simp [Region.wanted, hg]
 unfold wpMix;simp only [hw, if_true, Oper.wp, he, Oper.upon];exact hc.mono fun e w' ⟨v, h1, h2, h3⟩ => by subst h1; exact ⟨.inr h2, h v w' h2 h3⟩
end
theorem entries_made (o : Own) (w : World) (hlt : OwnLt o w) : RowR (ownAt o w.heap.size .entries) (w.alloc (.cells (madeCells #[.int .i64 0, .int .i64 0, .int .i64 0, .int .i64 0, .int .i64 0, .bool false] (4096 * 6)) 175)) .entries 175 6 (.slice (some ⟨w.heap.size, 0, none⟩) 4096 4096) 4096 ((List.replicate 4096 ent0).flatMap entV) := by
 refine ⟨by rw [flat_length entV 6 entV_length, List.length_replicate], .inr ⟨w.heap.size, 4096, _, rfl, ownAt_same _ _ _, heap_alloc_new w _, Nat.le_refl _, by decide, by rw [size_madeCells]; exact Nat.le_refl _, ?_⟩⟩;rw [made_entries, List.take_of_length_le];rw [flat_length entV 6 entV_length, List.length_replicate]; exact Nat.le_refl _
theorem entOk_zero (F : Phi) (n : Nat) : EntOk F (List.replicate n ent0) := by
 intro i hi;have : entAt (List.replicate n ent0) i = ent0 := by
  simp only [entAt, List.getD, List.getElem?_replicate];split <;> rfl
 rw [this] at hi; cases hi
theorem run_makeEnt (w : World) : (Instr.makeSlice 148 (.int .i64 4096) (.int .i64 4096)).run Tryz.prog w = .ok (.slice (some ⟨w.heap.size, 0, none⟩) 4096 4096) (w.alloc (.cells (madeCells #[.int .i64 0, .int .i64 0, .int .i64 0, .int .i64 0, .int .i64 0, .bool false] (4096 * 6)) 175)) := by
 have s := infoEntry;cases hi : Tryz.prog.info? 175 with
 | none => rw [hi] at s; cases s
 | some i =>
   rw [hi] at s;simp only [Option.map_some, Option.some.injEq, Prod.mk.injEq] at s;obtain ⟨hz, hs, hb⟩ := s;have := run_make (P := Tryz.prog) w 148 175 i _ Tryz.underlying148 hi hz .i64 .i64 4096 4096 (by decide) (by decide) (by rw [hb]; decide) (by decide);rw [hs] at this;exact this
structure MemoFull (o : Own) (w : World) (mb ge cap : Nat) (l : List EntD) (asked found : Int) (F : Phi) : Prop where
 own : o mb = some .memo
 blk : w.heap[mb]? = some (.cells #[.int .i64 4096, .slice (some ⟨ge, 0, none⟩) 4096 cap, .int .i64 asked, .int .i64 found] 150 (0, 0))
 len : l.length = 4096
 row : RowR o w .entries 175 6 (.slice (some ⟨ge, 0, none⟩) 4096 cap) 4096 (l.flatMap entV)
 ok : EntOk F l
theorem MemoFull.is {o : Own} {w : World} {mb ge cap : Nat} {l : List EntD} {asked found : Int} {F : Phi} (h : MemoFull o w mb ge cap l asked found F) : MemoAt o w mb F := ⟨h.own, _, _, _, h.blk, .inr ⟨ge, cap, l, rfl, h.len, h.row, h.ok⟩⟩
theorem memoFull_made {o : Own} {w : World} {mb : Nat} {asked found : Int} {F : Phi} (hown : o mb = some .memo) (hlt : OwnLt o w) (hmb : w.heap[mb]? = some (.cells #[.int .i64 4096, .slice none 0 0, .int .i64 asked, .int .i64 found] 150 (0, 0))) (W : World)
 (hW : W = (w.setCell ⟨mb, 1, none⟩ (.slice (some ⟨w.heap.size, 0, none⟩) 4096 4096)).alloc (.cells (madeCells #[.int .i64 0, .int .i64 0, .int .i64 0, .int .i64 0, .int .i64 0, .bool false] 24576) 175)) :
 ∃ o', MemoFull o' W mb w.heap.size 4096 (List.replicate 4096 ent0) asked found F /\ Chg (fun r => r = .memo \/ r = .entries) o o' w W /\ OwnLt o' W := by
 have hlm : mb < w.heap.size := hlt _ _ hown;obtain ⟨w1, h1⟩ : ∃ w1, w1 = w.setCell ⟨mb, 1, none⟩ (.slice (some ⟨w.heap.size, 0, none⟩) 4096 4096) := ⟨_, rfl⟩;have hz : w1.heap.size = w.heap.size := by rw [h1]; simp [World.setCell]
 have hc1 : Chg (fun r => r = .memo \/ r = .entries) o o w w1 := by rw [h1]; exact Chg.setCell (R := fun r => r = .memo \/ r = .entries) (p := ⟨mb, 1, none⟩) (Chg.refl _ o w) hown (.inl rfl) _
 have hl1 : OwnLt o w1 := hlt.mono hc1.size;have hm1 : w1.heap[mb]? = some (.cells #[.int .i64 4096, .slice (some ⟨w.heap.size, 0, none⟩) 4096 4096, .int .i64 asked, .int .i64 found] 150 (0, 0)) := by rw [h1]; exact heap_setCell_same hmb _
 have hr := entries_made o w1 hl1;rw [<- h1] at hW;rw [hz] at hr;subst hW;refine ⟨ownAt o w.heap.size .entries, ⟨ownAt_old hlt (Nat.le_refl _) hown, ?_, List.length_replicate, hr, entOk_zero F _⟩, ?_, ?_⟩
 ·
  exact (Go.heap_alloc_old w1 _ (by omega)).trans hm1
 ·
  rw [<- hz]; exact hc1.allocR hl1 _ (.inr rfl)
 ·
  rw [<- hz]; exact hl1.allocR _ _
theorem MemoFull.below {o : Own} {w w' : World} {mb ge cap : Nat} {l : List EntD} {asked found : Int} {F : Phi} (h : MemoFull o w mb ge cap l asked found F) (hlt : OwnLt o w) (hb : Below w.heap.size w w') : MemoFull o w' mb ge cap l asked found F :=
 ⟨h.own, (hb.block mb (hlt _ _ h.own)).trans h.blk, h.len, h.row.below hlt hb, h.ok⟩
theorem place_memo {o : Own} {w : World} {mb ge cap : Nat} {l : List EntD} {asked found : Int} {F : Phi} (h : MemoFull o w mb ge cap l asked found F) (op : Int) (a b c : Nat) :
 Calls Tryz.prog 133 #[.pointer (some ⟨mb, 0, none⟩), .agg #[.int .i64 op, .int .i64 a, .int .i64 b, .int .i64 c]] w.drew fun x w' => ∃ i, i < 4096 /\ x = .returned (.pointer (some ⟨ge, i * 6, none⟩)) /\ Below w.drew.heap.size w.drew w' :=
 place_any mb ge cap op a b c w.drew (cells4 (w := w.drew) h.blk).2.1
theorem MemoFull.stored {o : Own} {w : World} {mb ge cap : Nat} {l : List EntD} {asked found : Int} {F : Phi} (h : MemoFull o w mb ge cap l asked found F) {k : Nat} (hk : k < 4096) {E : EntD} (hE : F E.op E.a E.b E.c E.r) : MemoFull o (set6 w ge k E) mb ge cap (l.set k E) asked found F := by
 have hg := h.row.owner;have hne : mb ≠ ge := fun e => by subst e; have := h.own; rw [hg] at this; cases this
 refine ⟨h.own, (set6_heap hne).trans h.blk, by rw [List.length_set]; exact h.len, ?_, entOk_set h.ok k hE⟩;have hr := h.row;rw [show 4096 = l.length from h.len.symm] at hr;have := rowR_set6 (m := l.length) hr (by rw [h.len]; exact hk) E;rw [h.len] at this;exact this
theorem eqNil (w : World) (a : Option Addr) (n c : Nat) : (binOp .eql 148 (.slice a n c) (.slice none 0 0)).run Tryz.prog w = .ok (.bool a.isNone) w := by
 have hd : Op.maxDepth = 9999 + 1 := rfl;have h : (Op.equal 148 (.slice a n c) (.slice none 0 0)).run Tryz.prog w = .ok a.isNone w := by
  unfold Op.equal;rw [hd];unfold Op.equalIn;simp only [Sem.run_bind, run_underlying Tryz.underlying148, Result.andThen_ok];cases a <;> simp
 simp only [binOp];simp [h]
theorem put_memo (o : Own) (mb : Nat) (F : Phi) (op : Int) (a b c r : Nat) (w : World) (h : MemoAt o w mb F) (hlt : OwnLt o w) (hF : F op a b c r) :
 Calls Tryz.prog 95 #[.pointer (some ⟨mb, 0, none⟩), .int .i64 op, .int .i64 a, .int .i64 b, .int .i64 c, .int .i64 r] w fun x w' => x = .returned (.tuple #[]) /\ ∃ o', MemoAt o' w' mb F /\ Chg (fun r => r = .memo \/ r = .entries) o o' w w' /\ OwnLt o' w' := by
 obtain ⟨ve, asked, found, hmb, hv⟩ := h.ex;obtain ⟨c0, c1, c2, c3, f0⟩ := cells4 hmb;have lmb : mb < w.heap.size := lt_of_cell c0;have HLT := Lib.hid hlt;have HMB := Lib.hid hmb;have HOWN := Lib.hid h.own;have HV := Lib.hid hv;have HF := Lib.hid hF;have HMK := Lib.hid run_makeEnt;clear h hlt hmb hv hF;rcases HV.out with rfl | ⟨ge, cap, l, rfl, hl, hrow, hok⟩
 ·
  have hmm := run_makeEnt w;have hnil : (binOp .eql 148 (.slice none 0 0) (.slice none 0 0)).run Tryz.prog w = .ok (.bool true) w := eqNil w none 0 0;have HM := Lib.hid (memoFull_made (F := F) HOWN.out HLT.out HMB.out)
  go_enter Tryz.func95, Tryz.ntmps95
  go_upto_region 3 with fail;obtain ⟨W1, hW1⟩ : ∃ W1, W1 = (w.setCell ⟨mb, 1, none⟩ (.slice (some ⟨w.heap.size, 0, none⟩) 4096 4096)).alloc (.cells (madeCells #[.int .i64 0, .int .i64 0, .int .i64 0, .int .i64 0, .int .i64 0, .bool false] 24576) 175) := ⟨_, rfl⟩;rw [<- hW1];obtain ⟨o1, hm1, hc1, hl1⟩ := HM.out W1 hW1;have HM1 := Lib.hid hm1;have HC1 := Lib.hid hc1;have HL1 := Lib.hid hl1;clear hm1 hc1 hl1 hW1 HM hmm hnil c0 c1 c2 c3 f0 lmb HV HMB HOWN HMK;obtain ⟨d0, d1, d2, d3, g0⟩ := cells4 HM1.out.blk;have lmb1 : mb < W1.heap.size := lt_of_cell d0;go_upto_region 4 with fail;obtain ⟨bx, hbx⟩ : ∃ bx, bx = W1.heap.size := ⟨_, rfl⟩;obtain ⟨W2, hW2⟩ : ∃ W2, W2 = W1.alloc (.cells #[.int .i64 op, .int .i64 a, .int .i64 b, .int .i64 c] 171) := ⟨_, rfl⟩;have hb2 : Below W1.heap.size W1 W2 := by rw [hW2]; exact below_new1 _ _
  have hkb : W2.heap[bx]? = some (.cells #[.int .i64 op, .int .i64 a, .int .i64 b, .int .i64 c] 171 (0, 0)) := by rw [hW2, hbx]; exact heap_alloc_new W1 _
  rw [<- hW2, <- hbx];have hm2 := HM1.out.below HL1.out hb2;have hc2 := HC1.out.trans (Chg.of_below hb2 (fun r => r = .memo \/ r = .entries) _);have hl2 := HL1.out.mono hb2.size;have HM2 := Lib.hid hm2;have HC2 := Lib.hid hc2;have HL2 := Lib.hid hl2;have HKB := Lib.hid hkb;clear hm2 hc2 hl2 hb2 hW2 hbx HM1 HC1 HL1 d0 d1 d2 d3 g0 lmb1;obtain ⟨k0, k1, k2, k3, fk⟩ := cells4 hkb;clear hkb;refine wp_region_mix (fun W : World => W.cell? ⟨bx, 0, none⟩ = some (.int .i64 op) /\ W.cell? ⟨bx, 1, none⟩ = some (.int .i64 a) /\ W.cell? ⟨bx, 2, none⟩ = some (.int .i64 b) /\ W.cell? ⟨bx, 3, none⟩ = some (.int .i64 c)) true 7
   [(0, false), (1, false), (3, false), (4, false), (5, false), (2, true), (6, false), (7, true)] (by kernel_rfl) (by kernel_rfl) ⟨k0, k1, k2, k3⟩ ?_
  simp only [planned, plnLz]
  iterate 5
   refine mix_readE rfl ?_;apply Exists.intro;refine ⟨fun w' hw => ?_, ?_⟩
   ·
    obtain ⟨q0, q1, q2, q3⟩ := hw;go_simp;rfl
   simp only [putLz]
  refine mix_callR (R := fun v w' => ∃ i, i < 4096 /\ v = .pointer (some ⟨w.heap.size, i * 6, none⟩) /\ Below W2.drew.heap.size W2.drew w') rfl (by go_simp) ((place_memo HM2.out op a b c).mono (fun e w' he => ?_)) ?_
  ·
   obtain ⟨i, hi, rfl, hb⟩ := he;obtain ⟨j0, j1, j2, j3, _⟩ := cells4 ((hb.block bx (Array.getElem?_eq_some_iff.1 HKB.out).1).trans HKB.out);exact ⟨_, rfl, ⟨j0, j1, j2, j3⟩, i, hi, rfl, hb⟩
  rintro v w3 - ⟨i, hi, rfl, hb3⟩;simp only [putLz];have hb3 : Below W2.heap.size W2 w3 := (below_draw W2 1).trans hb3;have hm3 := HM2.out.below HL2.out hb3;have hc3 := HC2.out.trans (Chg.of_below hb3 (fun r => r = .memo \/ r = .entries) _);have hl3 := HL2.out.mono hb3.size;obtain ⟨n0, n1, n2, n3, n4, n5⟩ := entCells hm3.row hm3.len hi
  iterate 1
   refine mix_readE rfl ?_;apply Exists.intro;refine ⟨fun w' hw => ?_, ?_⟩
   ·
    obtain ⟨q0, q1, q2, q3⟩ := hw;go_simp;rfl
   simp only [putLz]
  refine mix_storeLast rfl rfl (run_storeEntry (fun j => by have := hm3.row.frozen j; exact this) n0 n1 n2 n3 n4 n5 ⟨op, a, b, c, r, true⟩) ?_;simp only [putLz];have hmf := (hm3.stored hi (E := ⟨op, a, b, c, r, true⟩) HF.out).is;have hcf := set6_chg (k := i) (E := ⟨op, a, b, c, r, true⟩) hc3 hm3.row.owner (.inr rfl);have hlf : OwnLt o1 (set6 w3 w.heap.size i ⟨op, a, b, c, r, true⟩) := hl3.mono (by simp [set6, World.setCell]);obtain ⟨WF, hWF⟩ : ∃ WF, WF = set6 w3 w.heap.size i ⟨op, a, b, c, r, true⟩ := ⟨_, rfl⟩;rw [<- hWF] at hmf hcf hlf ⊢;clear n0 n1 n2 n3 n4 n5 hm3 hc3 hl3 hb3 k0 k1 k2 k3 fk hWF;go_wp2_with fail;refine bodyPost_end (results_none rfl _ _ _) rfl ?_;exact ⟨rfl, o1, hmf, hcf, hlf⟩
 ·
  have HM1 : Hid (MemoFull o w mb ge cap l asked found F) := (Lib.hid ⟨HOWN.out, HMB.out, hl, hrow, hok⟩);have hnil : (binOp .eql 148 (.slice (some ⟨ge, 0, none⟩) 4096 cap) (.slice none 0 0)).run Tryz.prog w = .ok (.bool false) w := eqNil w _ _ _;clear hl hrow hok
  go_enter Tryz.func95, Tryz.ntmps95
  go_upto_region 3 with fail;obtain ⟨W1, hW1⟩ : ∃ W1, W1 = w := ⟨_, rfl⟩;have HC1 : Hid (Chg (fun r => r = .memo \/ r = .entries) o o w W1) := Lib.hid (hW1 ▸ Chg.refl _ _ _);have HL1 : Hid (OwnLt o W1) := Lib.hid (hW1 ▸ HLT.out);rw [<- hW1] at HM1;rw [<- hW1];obtain ⟨o1, ho1⟩ : ∃ o1, o1 = o := ⟨_, rfl⟩;rw [<- ho1] at HM1 HL1;have HC1 : Hid (Chg (fun r => r = .memo \/ r = .entries) o o1 w W1) := by rw [ho1]; exact HC1
  clear hW1 ho1 hnil c0 c1 c2 c3 f0 lmb HV HMB HOWN HMK;obtain ⟨d0, d1, d2, d3, g0⟩ := cells4 HM1.out.blk;have lmb1 : mb < W1.heap.size := lt_of_cell d0;go_upto_region 4 with fail;obtain ⟨bx, hbx⟩ : ∃ bx, bx = W1.heap.size := ⟨_, rfl⟩;obtain ⟨W2, hW2⟩ : ∃ W2, W2 = W1.alloc (.cells #[.int .i64 op, .int .i64 a, .int .i64 b, .int .i64 c] 171) := ⟨_, rfl⟩;have hb2 : Below W1.heap.size W1 W2 := by rw [hW2]; exact below_new1 _ _
  have hkb : W2.heap[bx]? = some (.cells #[.int .i64 op, .int .i64 a, .int .i64 b, .int .i64 c] 171 (0, 0)) := by rw [hW2, hbx]; exact heap_alloc_new W1 _
  rw [<- hW2, <- hbx];have hm2 := HM1.out.below HL1.out hb2;have hc2 := HC1.out.trans (Chg.of_below hb2 (fun r => r = .memo \/ r = .entries) _);have hl2 := HL1.out.mono hb2.size;have HM2 := Lib.hid hm2;have HC2 := Lib.hid hc2;have HL2 := Lib.hid hl2;have HKB := Lib.hid hkb;clear hm2 hc2 hl2 hb2 hW2 hbx HM1 HC1 HL1 d0 d1 d2 d3 g0 lmb1;obtain ⟨k0, k1, k2, k3, fk⟩ := cells4 hkb;clear hkb;refine wp_region_mix (fun W : World => W.cell? ⟨bx, 0, none⟩ = some (.int .i64 op) /\ W.cell? ⟨bx, 1, none⟩ = some (.int .i64 a) /\ W.cell? ⟨bx, 2, none⟩ = some (.int .i64 b) /\ W.cell? ⟨bx, 3, none⟩ = some (.int .i64 c)) true 7
   [(0, false), (1, false), (3, false), (4, false), (5, false), (2, true), (6, false), (7, true)] (by kernel_rfl) (by kernel_rfl) ⟨k0, k1, k2, k3⟩ ?_
  simp only [planned, plnLz]
  iterate 5
   refine mix_readE rfl ?_;apply Exists.intro;refine ⟨fun w' hw => ?_, ?_⟩
   ·
    obtain ⟨q0, q1, q2, q3⟩ := hw;go_simp;rfl
   simp only [putLz]
  refine mix_callR (R := fun v w' => ∃ i, i < 4096 /\ v = .pointer (some ⟨ge, i * 6, none⟩) /\ Below W2.drew.heap.size W2.drew w') rfl (by go_simp) ((place_memo HM2.out op a b c).mono (fun e w' he => ?_)) ?_
  ·
   obtain ⟨i, hi, rfl, hb⟩ := he;obtain ⟨j0, j1, j2, j3, _⟩ := cells4 ((hb.block bx (Array.getElem?_eq_some_iff.1 HKB.out).1).trans HKB.out);exact ⟨_, rfl, ⟨j0, j1, j2, j3⟩, i, hi, rfl, hb⟩
  rintro v w3 - ⟨i, hi, rfl, hb3⟩;simp only [putLz];have hb3 : Below W2.heap.size W2 w3 := (below_draw W2 1).trans hb3;have hm3 := HM2.out.below HL2.out hb3;have hc3 := HC2.out.trans (Chg.of_below hb3 (fun r => r = .memo \/ r = .entries) _);have hl3 := HL2.out.mono hb3.size;obtain ⟨n0, n1, n2, n3, n4, n5⟩ := entCells hm3.row hm3.len hi
  iterate 1
   refine mix_readE rfl ?_;apply Exists.intro;refine ⟨fun w' hw => ?_, ?_⟩
   ·
    obtain ⟨q0, q1, q2, q3⟩ := hw;go_simp;rfl
   simp only [putLz]
  refine mix_storeLast rfl rfl (run_storeEntry (fun j => by have := hm3.row.frozen j; exact this) n0 n1 n2 n3 n4 n5 ⟨op, a, b, c, r, true⟩) ?_;simp only [putLz];have hmf := (hm3.stored hi (E := ⟨op, a, b, c, r, true⟩) HF.out).is;have hcf := set6_chg (k := i) (E := ⟨op, a, b, c, r, true⟩) hc3 hm3.row.owner (.inr rfl);have hlf : OwnLt o1 (set6 w3 ge i ⟨op, a, b, c, r, true⟩) := hl3.mono (by simp [set6, World.setCell]);obtain ⟨WF, hWF⟩ : ∃ WF, WF = set6 w3 ge i ⟨op, a, b, c, r, true⟩ := ⟨_, rfl⟩;rw [<- hWF] at hmf hcf hlf ⊢;clear n0 n1 n2 n3 n4 n5 hm3 hc3 hl3 hb3 k0 k1 k2 k3 fk hWF;go_wp2_with fail;refine bodyPost_end (results_none rfl _ _ _) rfl ?_;exact ⟨rfl, o1, hmf, hcf, hlf⟩
open Go.RowKit
theorem RowR.setCells {o : Own} {r : Role} {e : TypeId} {size n g m cap : Nat} (ys : List Value) : ∀ (w : World) (k : Nat) (xs : List Value), RowR o w r e size (.slice (some ⟨g, 0, none⟩) m cap) n xs -> k + ys.length <= xs.length ->
 RowR o (w.setCells g k ys) r e size (.slice (some ⟨g, 0, none⟩) m cap) n (xs.take k ++ ys ++ xs.drop (k + ys.length)) := by
 induction ys with
 | nil => intro w k xs h _; simpa [World.setCells] using h
 | cons y ys ih =>
   intro w k xs h hl;simp only [List.length_cons] at hl;have h1 := ih (w.setCell ⟨g, k, none⟩ y) (k + 1) (xs.set k y) (h.stored k y) (by simp; omega);have e : (xs.set k y).take (k + 1) ++ ys ++ (xs.set k y).drop (k + 1 + ys.length) = xs.take k ++ (y :: ys) ++ xs.drop (k + (y :: ys).length) := by
    have e1 : (xs.set k y).take (k + 1) = xs.take k ++ [y] := by
     rw [List.set_eq_take_append_cons_drop, if_pos (by omega), List.take_append];simp;have : min k xs.length = k := by omega
     rw [this]; simp
     exact List.take_of_length_le (by simp; omega)
    have e2 : (xs.set k y).drop (k + 1 + ys.length) = xs.drop (k + 1 + ys.length) := by
     rw [List.drop_set]; rw [if_pos (by omega)]
    rw [e1, e2]; simp [Nat.add_assoc, Nat.add_comm 1 ys.length]
   rw [e] at h1;exact h1
theorem Chg.setCells {R : Role -> Prop} {o o' : Own} {w0 : World} {g : Nat} {r : Role} (hg : o' g = some r) (hR : R r) (ys : List Value) : ∀ (w : World) (k : Nat), Chg R o o' w0 w -> Chg R o o' w0 (w.setCells g k ys) := by
 induction ys with
 | nil => intro w k h; exact h
 | cons y ys ih => intro w k h; exact ih _ _ (h.setCell (p := ⟨g, k, none⟩) hg hR y)
theorem heap_setCells_ne {g b : Nat} (hb : b ≠ g) (ys : List Value) : ∀ (w : World) (k : Nat), (w.setCells g k ys).heap[b]? = w.heap[b]? := by
 induction ys with
 | nil => intro w k; rfl
 | cons y ys ih => intro w k; rw [World.setCells, ih]; exact heap_setCell_ne (p := ⟨g, k, none⟩) hb y
theorem zeroEnt (w : World) : (zeroValue 175).run Tryz.prog w = .ok (.agg #[.int .i64 0, .int .i64 0, .int .i64 0, .int .i64 0, .int .i64 0, .bool false]) w := by
 have s := infoEntry;cases hi : Tryz.prog.info? 175 with
 | none => rw [hi] at s; cases s
 | some i =>
   rw [hi] at s;simp only [Option.map_some, Option.some.injEq, Prod.mk.injEq] at s;obtain ⟨hz, hs, hb⟩ := s;simp [zeroValue, typeInfo, hi, hz]
theorem zeroEnts (n : Nat) : (Builtin.zeroCells (Value.cells (.agg #[.int .i64 0, .int .i64 0, .int .i64 0, .int .i64 0, .int .i64 0, .bool false])) n).toList = (List.replicate n ent0).flatMap entV := made_entries n
theorem run_clearEnts (w : World) (ty : TypeId) (ge cap n : Nat) (hc : ∀ j, j < (n + 1) * 6 -> (w.cell? ⟨ge, j, none⟩).isSome = true) (hf : ∀ j, w.frozen? ⟨ge, j, none⟩ = false) :
 (Builtin.clear_ #[148] ty #[.slice (some ⟨ge, 0, none⟩) (n + 1) cap]).run Tryz.prog w = .ok (.tuple #[]) (w.setCells ge 0 ((List.replicate (n + 1) ent0).flatMap entV)) := by
 have hlen : ((List.replicate (n + 1) ent0).flatMap entV).length = (n + 1) * 6 := by rw [flat_length entV 6 entV_length, List.length_replicate]
 have hst := run_storeCells_cells (P := Tryz.prog) ge 0 ((List.replicate (n + 1) ent0).flatMap entV) 0 w (fun j hj => by rw [hlen] at hj; simpa using hc j hj) (fun j _ => hf _) (fun v hv => by
  rw [List.mem_flatMap] at hv;obtain ⟨E, _, hv⟩ := hv;simp only [entV, List.mem_cons, List.not_mem_nil, or_false] at hv;rcases hv with rfl | rfl | rfl | rfl | rfl | rfl <;> rfl)
 unfold Builtin.clear_;simp only [List.getElem?_toArray, List.getElem?_cons_zero, Sem.run_bind, run_underlying Tryz.underlying148, Result.andThen_ok, zeroEnt, zeroEnts, hst];rfl
theorem run_clearEnt (w : World) (ty : TypeId) (ge cap : Nat) (hc : ∀ j, j < 4096 * 6 -> (w.cell? ⟨ge, j, none⟩).isSome = true) (hf : ∀ j, w.frozen? ⟨ge, j, none⟩ = false) :
 (Builtin.clear_ #[148] ty #[.slice (some ⟨ge, 0, none⟩) 4096 cap]).run Tryz.prog w = .ok (.tuple #[]) (w.setCells ge 0 ((List.replicate 4096 ent0).flatMap entV)) := run_clearEnts w ty ge cap 4095 hc hf
theorem run_clearNone (w : World) (ty : TypeId) : (Builtin.clear_ #[148] ty #[.slice none 0 0]).run Tryz.prog w = .ok (.tuple #[]) w := by
 unfold Builtin.clear_;simp only [List.getElem?_toArray, List.getElem?_cons_zero, Sem.run_bind, run_underlying Tryz.underlying148, Result.andThen_ok];rfl
theorem clear_memo (o : Own) (mb : Nat) (F G : Phi) (w : World) (h : MemoAt o w mb F) (hlt : OwnLt o w) :
 Calls Tryz.prog 99 #[.pointer (some ⟨mb, 0, none⟩)] w fun x w' => x = .returned (.tuple #[]) /\ MemoAt o w' mb G /\ Chg (· = .entries) o o w w' /\ OwnLt o w' := by
 obtain ⟨ve, asked, found, hmb, hv⟩ := h.ex;have hown := h.own;obtain ⟨c0, c1, c2, c3, f0⟩ := cells4 hmb;rcases hv with rfl | ⟨ge, cap, l, rfl, hl, hrow, hok⟩
 ·
  have hr := run_clearNone w 0;have HF := Lib.hid (show MemoAt o w mb G from ⟨h.own, _, _, _, hmb, .inl rfl⟩);have HL := Lib.hid hlt;clear h hlt hmb hown
  go_enter Tryz.func99, Tryz.ntmps99
  go_wp2_with fail;refine bodyPost_end (results_none rfl _ _ _) rfl ?_;exact ⟨rfl, HF.out, Chg.refl _ _ _, HL.out⟩
 ·
  have hg := hrow.owner;have hne : mb ≠ ge := fun e => by subst e; rw [hg] at hown; cases hown
  have hxl : (l.flatMap entV).length = 4096 * 6 := by rw [flat_length entV 6 entV_length, hl]
  have hr := run_clearEnt w 0 ge cap (fun j hj => by rw [hrow.cell j (by rw [hxl]; exact hj), List.getElem?_eq_getElem (by rw [hxl]; exact hj)]; rfl) hrow.frozen;obtain ⟨W, hW⟩ : ∃ W, W = w.setCells ge 0 ((List.replicate 4096 ent0).flatMap entV) := ⟨_, rfl⟩;rw [<- hW] at hr;have hrl : ((List.replicate 4096 ent0).flatMap entV).length = 4096 * 6 := by rw [flat_length entV 6 entV_length, List.length_replicate]
  have hrow2 : RowR o W .entries 175 6 (.slice (some ⟨ge, 0, none⟩) 4096 cap) 4096 ((List.replicate 4096 ent0).flatMap entV) := by
   have := RowR.setCells ((List.replicate 4096 ent0).flatMap entV) w 0 _ hrow (by rw [hrl, hxl]; omega);rw [List.take_zero, List.nil_append, Nat.zero_add, List.drop_of_length_le (by rw [hrl, hxl]; exact Nat.le_refl _), List.append_nil, <- hW] at this;exact this
  have hcW : Chg (· = .entries) o o w W := by rw [hW]; exact Chg.setCells (R := (· = .entries)) hg rfl _ _ _ (Chg.refl _ _ _)
  have HF := Lib.hid (show MemoAt o W mb G from ⟨hown, _, _, _, (by rw [hW]; exact (heap_setCells_ne hne _ _ _).trans hmb), .inr ⟨ge, cap, _, rfl, List.length_replicate, hrow2, entOk_zero G _⟩⟩);have HL := Lib.hid (hlt.mono hcW.size);have HC := Lib.hid hcW;clear h hlt hmb hown hl hrow hok hg hxl hrl hrow2 hcW hW hne
  go_enter Tryz.func99, Tryz.ntmps99
  go_wp2_with fail;refine bodyPost_end (results_none rfl _ _ _) rfl ?_;exact ⟨rfl, HF.out, HC.out, HL.out⟩
open Go.RowKit
theorem new_memo (o : Own) (F : Phi) (w : World) (hlt : OwnLt o w) :
 Calls Tryz.prog 76 #[.int .i64 4096] w fun x w' => ∃ mb o', x = .returned (.pointer (some ⟨mb, 0, none⟩)) /\ MemoAt o' w' mb F /\ Chg (· = .memo) o o' w w' /\ OwnLt o' w' /\ w.heap.size <= mb := by
 have HL := Lib.hid hlt;clear hlt
 go_enter Tryz.func76, Tryz.ntmps76
 go_wp2_with fail;go_ret;exact ⟨w.heap.size, ownAt o w.heap.size .memo, rfl, ⟨ownAt_same _ _ _, _, _, _, heap_alloc_new w _, .inl rfl⟩, (Chg.refl _ o w).allocR HL.out _ rfl, HL.out.allocR _ _, Nat.le_refl _⟩
theorem makeMap_run {P : Program} (w : World) (T : TypeId) : (Instr.makeMap T none).run P w = .ok (.map (some w.heap.size)) (w.alloc (.map #[] 0)) := rfl
theorem new_uniq (o : Own) (v : Nat) (w : World) (hlt : OwnLt o w) :
 Calls Tryz.prog 115 #[] w fun x w' => ∃ t o', x = .returned (.pointer (some ⟨t, 0, none⟩)) /\ TabIs o' w' v t (fun _ => none) /\ Chg (fun r => r = .tab v \/ r = .tmap v) o o' w w' /\ OwnLt o' w' /\ w.heap.size <= t := by
 have HL := Lib.hid hlt;have hm := makeMap_run (P := Tryz.prog) w 191;clear hlt
 go_enter Tryz.func115, Tryz.ntmps115
 go_wp2_with fail;go_ret;have hl1 := HL.out.allocR (.map #[] 0) (.tmap v);have hc1 := ((Chg.refl (fun r => r = .tab v \/ r = .tmap v) o w).allocR (r := .tmap v) HL.out (.map #[] 0) (.inr rfl));have hl2 := hl1.allocR (.cells #[.map (some w.heap.size)] 193) (.tab v);have hc2 := hc1.allocR (r := .tab v) hl1 (.cells #[.map (some w.heap.size)] 193) (.inl rfl);have hz : (w.alloc (.map #[] 0)).heap.size = w.heap.size + 1 := by simp
 have hlt1 : w.heap.size < (w.alloc (.map #[] 0)).heap.size := by rw [hz]; omega
 refine ⟨w.heap.size + 1, _, rfl, ⟨by rw [<- hz]; exact ownAt_same _ _ _, w.heap.size, [], by rw [<- hz]; exact heap_alloc_new _ _, ownAt_old hl1 (Nat.le_refl _) (ownAt_same _ _ _), ⟨⟨#[], 0, (Go.heap_alloc_old _ _ hlt1).trans (heap_alloc_new w _), rfl, by simp, by simp⟩, by simp⟩, fun k => rfl⟩, hc2, hl2, by omega⟩
open Go.RowKit
section
variable {P : Program} {S : World -> Prop} {Q : Exit -> Act -> World -> Prop} {m : Nat}
structure Left (P : Program) (l : List Oper) (Q : Exit -> Act -> World -> Prop) (S : World -> Prop) (m f : Nat) (L : Array Bool) (a : Act) (w : World) : Prop where
 goes : Closed l.toArray L -> S w -> wpAnyS P l.toArray (NP Q) S m f L a w
theorem wp_region_left {id : Nat} {a : Act} {w : World} {l : List Oper} (S : World -> Prop) (m : Nat) (hm : P.follows .mixedOrders = true) (hS : S w.drew)
 (h : Left P l Q S m l.length (Array.replicate l.toArray.size false) a w.drew) : (Code.region id l.toArray true).wp P Q a w :=
 wp_of_np (wp_region_any hm (wpAny_of_S _ _ _ _ (h.goes (closed_start _) hS)))
theorem left_read {l : List Oper} {f : Nat} {L : Array Bool} {a : Act} {w : World} (i : Nat) (o : Oper) (v : Value) (hi : l[i]? = some o)
 (hB : (Region.noSelect l.toArray && (Region.ready .any l.toArray L).contains i && Region.free .any l.toArray L i && (decide (l.toArray.size <= m) || reaches l.toArray l.toArray.size i m)) = true)
 (hy : ∀ w, S w -> YieldsIf P l.toArray S o v a) (h : Left P l Q S m f (L.setIfInBounds i true) (a.put o.dst v) w) : Left P l Q S m (f + 1) L a w := by
 refine ⟨fun hc hS => ?_⟩;simp only [Bool.and_eq_true] at hB;obtain ⟨⟨⟨hs, hr⟩, hf⟩, hm⟩ := hB;have hi' : l.toArray[i]? = some o := by simpa using hi
 have hr' : i ∈ Region.ready .any l.toArray L := by simpa using hr
 exact wpAnyS_first hi' hs (fun _ _ _ _ _ h => h) hm f L a w hc (Region.free_spec hi' hf) hr' (hy w hS) hS (h.goes (hc.set hr') hS)
theorem left_readE {l : List Oper} {f : Nat} {L : Array Bool} {a : Act} {w : World} (i : Nat) {o : Oper} (hi : l[i]? = some o) (hg : o.guard = none)
 (hB : (Region.noSelect l.toArray && (Region.ready .any l.toArray L).contains i && Region.free .any l.toArray L i && (decide (l.toArray.size <= m) || reaches l.toArray l.toArray.size i m)) = true)
 (h : ∃ v, (∀ w, S w -> (execOp a.eval o).run P w = .ok (.value v) w) /\ Left P l Q S m f (L.setIfInBounds i true) (a.put o.dst v) w) : Left P l Q S m (f + 1) L a w := by
 obtain ⟨v, h1, h2⟩ := h;exact left_read i o v hi hB (fun w _ => .inl ⟨by simp [Region.wanted, hg], h1⟩) h2
theorem left_alts {l : List Oper} {f : Nat} {L : Array Bool} {a : Act} {w : World} (is : List Nat) (hr : (decide (Region.ready .any l.toArray L = is) && !is.isEmpty) = true)
 (h : ∀ i ∈ is, S w -> ∀ o, l[i]? = some o -> Region.wanted o (yielded l.toArray a.tmps) = true /\ o.wp P a w (fun a' w' => S w' /\ Left P l Q S m f (L.setIfInBounds i true) a' w') (NP Q)) : Left P l Q S m (f + 1) L a w := by
 refine ⟨fun hc hS => ?_⟩;simp only [Bool.and_eq_true, decide_eq_true_eq] at hr;obtain ⟨hr, hne⟩ := hr;refine ⟨fun h0 => (by rw [h0] at hr; subst hr; simp at hne), fun i hi => ?_⟩;have hi2 : i ∈ is := by rw [<- hr]; exact hi
 obtain ⟨_, o, ho, _⟩ := mem_ready.1 hi;obtain ⟨hw, hwp⟩ := h i hi2 hS o (by simpa using ho);unfold wpOp;rw [ho];simp only [hw, if_true];left;refine Oper.wp_mono ?_ hwp;intro a' w' ⟨h1, h2⟩;exact ⟨.inr h1, h2.goes (hc.set hi) h1⟩
theorem left_end {l : List Oper} {L : Array Bool} {a : Act} {w : World} (hr : (Region.ready .any l.toArray L).isEmpty = true) (h : Q .normal a w) : Left P l Q S m 0 L a w :=
 ⟨fun _ _ => ⟨by simpa [List.isEmpty_iff] using hr, h⟩⟩
theorem oper_value {o : Oper} {a : Act} {w w' : World} {v : Value} {K : Act -> World -> Prop} {Q : Exit -> Act -> World -> Prop} (he : (execOp a.eval o).run P w = .ok (.value v) w') (h : K (a.put o.dst v) w') : o.wp P a w K Q := by
 unfold Oper.wp;rw [he]; exact h
end
open Go.RowKit
def pool0 (room : Nat) : PoolD := ⟨room, [rn0], [false], [], 0⟩
abbrev slotsObj : Obj := .cells #[.int .i64 0, .int .i64 0, .int .i64 0, .int .i64 0, .int .i64 0] 157
abbrev takenObj : Obj := .cells #[.bool false] 4
theorem pool0_at {o : Own} {w : World} {pb gs gt room : Nat} (hr : room <= 1048576) (hop : o pb = some .pool) (hos : o gs = some .slots) (hot : o gt = some .taken)
 (hpb : w.heap[pb]? = some (.cells #[.int .i64 room, .slice (some ⟨gs, 0, none⟩) 1 1, .slice (some ⟨gt, 0, none⟩) 1 1, .slice none 0 0, .int .i64 0] 190 (0, 0)))
 (hs : w.heap[gs]? = some slotsObj) (ht : w.heap[gt]? = some takenObj) : PoolAt o w pb (pool0 room) := by
 refine ⟨hop, ⟨_, _, _, hpb, ⟨rfl, .inr ⟨gs, 1, _, rfl, hos, hs, Nat.le_refl _, by decide, by decide, rfl⟩⟩, ⟨rfl, .inr ⟨gt, 1, _, rfl, hot, ht, Nat.le_refl _, by decide, by decide, rfl⟩⟩, RowR.nil _ _ _ _ _⟩, rfl, hr, by simp [pool0], rfl, by simp [pool0], ?_, rfl, by simp [pool0], by simp [pool0], ?_⟩
 ·
  intro i hi;have : (pool0 room).tk i = false := by
   cases i <;> rfl
  rw [this] at hi; cases hi
 ·
  simp [pool0, sumTo, PoolD.tk]
theorem made_slots : madeCells (Value.cells (.agg #[.int .i64 0, .int .i64 0, .int .i64 0, .int .i64 0, .int .i64 0])) (Int.toNat 1 * 5) = #[.int .i64 0, .int .i64 0, .int .i64 0, .int .i64 0, .int .i64 0] := by kernel_rfl
theorem made_taken : madeCells (Value.cells (.bool false)) (Int.toNat 1 * 1) = #[.bool false] := by kernel_rfl
theorem run_makeSlots (w : World) : (Instr.makeSlice 186 (.int .i64 1) (.int .i64 1)).run Tryz.prog w = .ok (.slice (some ⟨w.heap.size, 0, none⟩) 1 1) (w.alloc slotsObj) := by
 have s := infoNode;cases hi : Tryz.prog.info? 157 with
 | none => rw [hi] at s; cases s
 | some i =>
   rw [hi] at s;simp only [Option.map_some, Option.some.injEq, Prod.mk.injEq] at s;obtain ⟨hz, hs, hb⟩ := s;have := run_make (P := Tryz.prog) w 186 157 i _ Tryz.underlying186 hi hz .i64 .i64 1 1 (by decide) (by decide) (by rw [hb]; decide) (by decide);rw [hs, made_slots] at this;exact this
theorem run_makeTaken (w : World) : (Instr.makeSlice 36 (.int .i64 1) (.int .i64 1)).run Tryz.prog w = .ok (.slice (some ⟨w.heap.size, 0, none⟩) 1 1) (w.alloc takenObj) := by
 have s := infoBool;cases hi : Tryz.prog.info? 4 with
 | none => rw [hi] at s; cases s
 | some i =>
   rw [hi] at s;simp only [Option.map_some, Option.some.injEq, Prod.mk.injEq] at s;obtain ⟨hz, hs, hb⟩ := s;have := run_make (P := Tryz.prog) w 36 4 i _ Tryz.underlying36 hi hz .i64 .i64 1 1 (by decide) (by decide) (by rw [hb]; decide) (by decide);rw [hs, made_taken] at this;exact this
abbrev NewR (r : Role) : Prop := r = .pool \/ r = .slots \/ r = .taken
theorem made2 {o : Own} {w : World} (hlt : OwnLt o w) (A B C : Obj) (ra rb : Role) (h1 : NewR ra) (h2 : NewR rb) :
 ∃ o', o' w.heap.size = some ra /\ o' (w.heap.size + 1) = some rb /\ o' (w.heap.size + 2) = some .pool /\ Chg NewR o o' w (((w.alloc A).alloc B).alloc C) /\ OwnLt o' (((w.alloc A).alloc B).alloc C) /\
  (((w.alloc A).alloc B).alloc C).heap[w.heap.size]? = some A /\ (((w.alloc A).alloc B).alloc C).heap[w.heap.size + 1]? = some B /\ (((w.alloc A).alloc B).alloc C).heap[w.heap.size + 2]? = some C := by
 have z1 : (w.alloc A).heap.size = w.heap.size + 1 := by simp
 have z2 : ((w.alloc A).alloc B).heap.size = w.heap.size + 2 := by simp
 have l1 := hlt.allocR A ra;have c1 := (Chg.refl NewR o w).allocR hlt A h1;have l2 := l1.allocR B rb;have c2 := c1.allocR l1 B h2;have l3 := l2.allocR C .pool;have c3 := c2.allocR l2 C (show NewR .pool from .inl rfl);refine ⟨_, ?_, ?_, ?_, c3, l3, ?_, ?_, ?_⟩
 ·
  exact ownAt_old l2 (Nat.le_refl _) (ownAt_old l1 (Nat.le_refl _) (ownAt_same _ _ _))
 ·
  rw [<- z1]; exact ownAt_old l2 (Nat.le_refl _) (ownAt_same _ _ _)
 ·
  rw [<- z2]; exact ownAt_same _ _ _
 ·
  rw [Go.heap_alloc_old _ _ (by omega), Go.heap_alloc_old _ _ (by omega)]; exact heap_alloc_new w A
 ·
  rw [Go.heap_alloc_old _ _ (by omega), <- z1]; exact heap_alloc_new _ B
 ·
  rw [<- z2]; exact heap_alloc_new _ C
theorem new_pool (o : Own) (room : Nat) (w : World) (hlt : OwnLt o w) (h1 : 1 <= room) (h2 : room <= 1048576) :
 Calls Tryz.prog 113 #[.int .i64 room] w fun x w' => ∃ pb o', x = .returned (.tuple #[.pointer (some ⟨pb, 0, none⟩), .int .i64 0]) /\ PoolAt o' w' pb (pool0 room) /\ Chg NewR o o' w w' /\ OwnLt o' w' /\ w.heap.size <= pb := by
 have HL := Lib.hid hlt;have b1 : (1 : Int) <= room := by omega
 have b2 : (room : Int) <= 1048576 := by omega
 have HMS := Lib.hid run_makeSlots;have HMT := Lib.hid run_makeTaken;clear hlt
 go_enter Tryz.func113, Tryz.ntmps113
 go_upto_region 3 with fail;refine wp_region_left (fun W => True) 7 (by kernel_rfl) trivial ?_;refine left_readE 0 rfl rfl (by kernel_rfl) ?_;apply Exists.intro;refine ⟨fun w' hw => ?_, ?_⟩
 ·
  go_simp;rfl
 simp only [putLz];refine left_alts [1, 2] (by kernel_rfl) (fun i hi hS o ho => ?_);simp only [memLz] at hi;rcases hi with rfl | rfl
 ·
  simp only [altLz] at ho;subst ho;refine ⟨rfl, ?_⟩;have hm := HMS.out w.drew;rw [show w.drew.heap.size = w.heap.size from rfl] at hm;refine oper_value (v := .slice (some ⟨w.heap.size, 0, none⟩) 1 1) (w' := w.drew.alloc slotsObj) (by go_simp) ⟨trivial, ?_⟩;simp only [putLz];refine left_alts [2] (by kernel_rfl) (fun i hi hS o ho => ?_);simp only [memLz] at hi;subst hi;simp only [altLz] at ho;subst ho;refine ⟨rfl, ?_⟩;have hm : (Instr.makeSlice 36 (.int .i64 1) (.int .i64 1)).run Tryz.prog (w.alloc slotsObj).drew = .ok (.slice (some ⟨w.heap.size + 1, 0, none⟩) 1 1) ((w.alloc slotsObj).alloc takenObj).drew := by
   have := HMT.out (w.alloc slotsObj).drew;rw [show (w.alloc slotsObj).drew.heap.size = w.heap.size + 1 from World.size_alloc w _] at this;exact this
  refine oper_value (v := .slice (some ⟨w.heap.size + 1, 0, none⟩) 1 1) (w' := ((w.alloc slotsObj).alloc takenObj).drew) (by go_simp) ⟨trivial, ?_⟩;simp only [putLz];refine left_readE 3 rfl rfl (by kernel_rfl) ?_;apply Exists.intro;refine ⟨fun w' hw => ?_, ?_⟩
  ·
   go_simp;rfl
  simp only [putLz];refine left_alts [4] (by kernel_rfl) (fun i hi hS o ho => ?_);simp only [memLz] at hi;subst hi;simp only [altLz] at ho;subst ho;refine ⟨rfl, ?_⟩;have hz : ((w.alloc slotsObj).alloc takenObj).heap.size = w.heap.size + 2 := by simp
  refine oper_value (v := .pointer (some ⟨w.heap.size + 2, 0, none⟩)) (w' := (((w.alloc slotsObj).alloc takenObj).alloc (.cells #[.int .i64 room, .slice (some ⟨w.heap.size, 0, none⟩) 1 1, .slice (some ⟨(w.heap.size + 1), 0, none⟩) 1 1, .slice none 0 0, .int .i64 0] 190)).drew) (by go_simp) ⟨trivial, ?_⟩;simp only [putLz];refine left_readE 5 rfl rfl (by kernel_rfl) ?_;apply Exists.intro;refine ⟨fun w' hw => ?_, ?_⟩
  ·
   go_simp;rfl
  simp only [putLz];refine left_readE 6 rfl rfl (by kernel_rfl) ?_;apply Exists.intro;refine ⟨fun w' hw => ?_, ?_⟩
  ·
   go_simp;rfl
  simp only [putLz];refine left_end (by kernel_rfl) ?_;obtain ⟨o', q1, q2, q3, q4, q5, q6, q7, q8⟩ := made2 HL.out slotsObj takenObj (.cells #[.int .i64 room, .slice (some ⟨w.heap.size, 0, none⟩) 1 1, .slice (some ⟨(w.heap.size + 1), 0, none⟩) 1 1, .slice none 0 0, .int .i64 0] 190) .slots .taken (.inr (.inl rfl)) (.inr (.inr rfl));have hfin : PoolAt o' (((w.alloc slotsObj).alloc takenObj).alloc (.cells #[.int .i64 room, .slice (some ⟨w.heap.size, 0, none⟩) 1 1, .slice (some ⟨(w.heap.size + 1), 0, none⟩) 1 1, .slice none 0 0, .int .i64 0] 190)).drew (w.heap.size + 2) (pool0 room) := pool0_at h2 q3 q1 q2 q8 q6 q7;have q4' := q4.drew;have q5' : OwnLt o' (((w.alloc slotsObj).alloc takenObj).alloc (.cells #[.int .i64 room, .slice (some ⟨w.heap.size, 0, none⟩) 1 1, .slice (some ⟨(w.heap.size + 1), 0, none⟩) 1 1, .slice none 0 0, .int .i64 0] 190)).drew := q5;clear q1 q2 q3 q4 q5 q6 q7 q8 hm hz;go_wp2_with fail
  go_ret2
  exact ⟨w.heap.size + 2, o', rfl, hfin, q4', q5', by omega⟩
 ·
  simp only [altLz] at ho;subst ho;refine ⟨rfl, ?_⟩;have hm := HMT.out w.drew;rw [show w.drew.heap.size = w.heap.size from rfl] at hm;refine oper_value (v := .slice (some ⟨w.heap.size, 0, none⟩) 1 1) (w' := w.drew.alloc takenObj) (by go_simp) ⟨trivial, ?_⟩;simp only [putLz];refine left_alts [1] (by kernel_rfl) (fun i hi hS o ho => ?_);simp only [memLz] at hi;subst hi;simp only [altLz] at ho;subst ho;refine ⟨rfl, ?_⟩;have hm : (Instr.makeSlice 186 (.int .i64 1) (.int .i64 1)).run Tryz.prog (w.alloc takenObj).drew = .ok (.slice (some ⟨w.heap.size + 1, 0, none⟩) 1 1) ((w.alloc takenObj).alloc slotsObj).drew := by
   have := HMS.out (w.alloc takenObj).drew;rw [show (w.alloc takenObj).drew.heap.size = w.heap.size + 1 from World.size_alloc w _] at this;exact this
  refine oper_value (v := .slice (some ⟨w.heap.size + 1, 0, none⟩) 1 1) (w' := ((w.alloc takenObj).alloc slotsObj).drew) (by go_simp) ⟨trivial, ?_⟩;simp only [putLz];refine left_readE 3 rfl rfl (by kernel_rfl) ?_;apply Exists.intro;refine ⟨fun w' hw => ?_, ?_⟩
  ·
   go_simp;rfl
  simp only [putLz];refine left_alts [4] (by kernel_rfl) (fun i hi hS o ho => ?_);simp only [memLz] at hi;subst hi;simp only [altLz] at ho;subst ho;refine ⟨rfl, ?_⟩;have hz : ((w.alloc takenObj).alloc slotsObj).heap.size = w.heap.size + 2 := by simp
  refine oper_value (v := .pointer (some ⟨w.heap.size + 2, 0, none⟩)) (w' := (((w.alloc takenObj).alloc slotsObj).alloc (.cells #[.int .i64 room, .slice (some ⟨(w.heap.size + 1), 0, none⟩) 1 1, .slice (some ⟨w.heap.size, 0, none⟩) 1 1, .slice none 0 0, .int .i64 0] 190)).drew) (by go_simp) ⟨trivial, ?_⟩;simp only [putLz];refine left_readE 5 rfl rfl (by kernel_rfl) ?_;apply Exists.intro;refine ⟨fun w' hw => ?_, ?_⟩
  ·
   go_simp;rfl
  simp only [putLz];refine left_readE 6 rfl rfl (by kernel_rfl) ?_;apply Exists.intro;refine ⟨fun w' hw => ?_, ?_⟩
  ·
   go_simp;rfl
  simp only [putLz];refine left_end (by kernel_rfl) ?_;obtain ⟨o', q1, q2, q3, q4, q5, q6, q7, q8⟩ := made2 HL.out takenObj slotsObj (.cells #[.int .i64 room, .slice (some ⟨(w.heap.size + 1), 0, none⟩) 1 1, .slice (some ⟨w.heap.size, 0, none⟩) 1 1, .slice none 0 0, .int .i64 0] 190) .taken .slots (.inr (.inr rfl)) (.inr (.inl rfl));have hfin : PoolAt o' (((w.alloc takenObj).alloc slotsObj).alloc (.cells #[.int .i64 room, .slice (some ⟨(w.heap.size + 1), 0, none⟩) 1 1, .slice (some ⟨w.heap.size, 0, none⟩) 1 1, .slice none 0 0, .int .i64 0] 190)).drew (w.heap.size + 2) (pool0 room) := pool0_at h2 q3 q2 q1 q8 q7 q6;have q4' := q4.drew;have q5' : OwnLt o' (((w.alloc takenObj).alloc slotsObj).alloc (.cells #[.int .i64 room, .slice (some ⟨(w.heap.size + 1), 0, none⟩) 1 1, .slice (some ⟨w.heap.size, 0, none⟩) 1 1, .slice none 0 0, .int .i64 0] 190)).drew := q5;clear q1 q2 q3 q4 q5 q6 q7 q8 hm hz;go_wp2_with fail
  go_ret2
  exact ⟨w.heap.size + 2, o', rfl, hfin, q4', q5', by omega⟩
open Go.RowKit
structure StoreD where
 vars : List Nat
 level : List Nat
 pool : PoolD
 tab : Nat -> Nat × Nat -> Option Nat
 counts : List Nat
 dead : Nat
structure StoreW where
 lb : Nat
 pb : Nat
 vv : Value
 vl : Value
 vt : Value
 vc : Value
 ts : List Nat
def ptrV (b : Nat) : Value := .pointer (some ⟨b, 0, none⟩)
structure StoreIn (o : Own) (w : World) (sb : Nat) (d : StoreD) (s : StoreW) : Prop where
 own : o sb = some .store
 ownl : o s.lb = some .levels
 blk : w.heap[sb]? = some (.cells #[.pointer (some ⟨s.lb, 0, none⟩), .pointer (some ⟨s.pb, 0, none⟩), s.vt, s.vc, .int .i64 d.dead] 145 (0, 0))
 lev : w.heap[s.lb]? = some (.cells #[s.vv, s.vl] 142 (0, 0))
 vars : RowR o w .vars 3 1 s.vv d.vars.length (d.vars.map nat64)
 level : RowR o w .level 3 1 s.vl d.level.length (d.level.map nat64)
 pool : PoolAt o w s.pb d.pool
 tabs : RowR o w .tabs 146 1 s.vt s.ts.length (s.ts.map ptrV)
 tab : ∀ v, v < s.ts.length -> TabIs o w v (s.ts.getD v 0) (d.tab v)
 counts : RowR o w .counts 3 1 s.vc d.counts.length (d.counts.map nat64)
 len : d.level.length = d.vars.length
 tlen : s.ts.length = d.vars.length
def StoreAt (o : Own) (w : World) (sb : Nat) (d : StoreD) : Prop := ∃ s, StoreIn o w sb d s
theorem StoreIn.below {o : Own} {w w' : World} {sb : Nat} {d : StoreD} {s : StoreW} (h : StoreIn o w sb d s) (hlt : OwnLt o w) (hb : Below w.heap.size w w') : StoreIn o w' sb d s :=
 ⟨h.own, h.ownl, (hb.block sb (hlt _ _ h.own)).trans h.blk, (hb.block s.lb (hlt _ _ h.ownl)).trans h.lev, h.vars.below hlt hb, h.level.below hlt hb, h.pool.below hb hlt, h.tabs.below hlt hb, fun v hv => (h.tab v hv).below hb hlt, h.counts.below hlt hb, h.len, h.tlen⟩
def StoreD.levelOf (d : StoreD) (v : Nat) : Int := if v < d.level.length then (d.level.getD v 0 : Nat) else -1
theorem cells2 {w : World} {g : Nat} {a b : Value} {T : TypeId} (h : w.heap[g]? = some (.cells #[a, b] T (0, 0))) : w.cell? ⟨g, 0, none⟩ = some a /\ w.cell? ⟨g, 1, none⟩ = some b /\ (∀ k, w.frozen? ⟨g, k, none⟩ = false) :=
 ⟨by rw [cell_of_row w g 0 _ _ _ h]; rfl, by rw [cell_of_row w g 1 _ _ _ h]; rfl, fun k => by simp [World.frozen?, h]⟩
theorem levelsLevel_any {o : Own} {w : World} {sb : Nat} {d : StoreD} {s : StoreW} (h : StoreIn o w sb d s) (v : Nat) (hbig : d.level.length < 1000000) :
 Calls Tryz.prog 116 #[.pointer (some ⟨s.lb, 0, none⟩), .int .i64 v] w fun x w' => x = .returned (.int .i64 (d.levelOf v)) /\ w = w' := by
 obtain ⟨c0, c1, _⟩ := cells2 h.lev;obtain ⟨a, cap, hvl, _⟩ := h.level.slice;rw [hvl] at c1;have hrow := h.level;rw [hvl] at hrow
 by_cases hv : v < d.level.length
 ·
  obtain ⟨g, cap', he, _⟩ := hrow.shape (by omega);cases he;have hx := hrow.cell v (by simpa using hv);have hval : (d.level.map nat64)[v]? = some (.int .i64 ((d.level.getD v 0 : Nat) : Int)) := by
   rw [List.getElem?_map, List.getElem?_eq_getElem hv]; simp [nat64, List.getD, hv]
  rw [hval] at hx;have hv' : (v : Int) < d.level.length := by omega
  have hr : d.levelOf v = ((d.level.getD v 0 : Nat) : Int) := by simp [StoreD.levelOf, hv]
  rw [hr];obtain ⟨L, hL⟩ : ∃ L : Int, L = ((d.level.getD v 0 : Nat) : Int) := ⟨_, rfl⟩;rw [<- hL] at hx ⊢;clear h hrow hvl hval hr hL
  go_enter Tryz.func116, Tryz.ntmps116
  go_wp2_with fail;go_ret;exact ⟨rfl, rfl⟩
 ·
  have hv' : (d.level.length : Int) <= v := by omega
  have hr : d.levelOf v = -1 := by simp [StoreD.levelOf, hv]
  rw [hr];clear h hrow hvl hr
  go_enter Tryz.func116, Tryz.ntmps116
  go_wp2_with fail;go_ret;exact ⟨rfl, rfl⟩
theorem storeLevel_any {o : Own} {w : World} {sb : Nat} {d : StoreD} {s : StoreW} (h : StoreIn o w sb d s) (v : Nat) (hbig : d.level.length < 1000000) :
 Calls Tryz.prog 77 #[.pointer (some ⟨sb, 0, none⟩), .int .i64 v] w fun x w' => x = .returned (.int .i64 (d.levelOf v)) /\ w = w' := by
 obtain ⟨c0, c1, c2, c3, c4, f0⟩ := cells5 h.blk;have HC := Lib.hid (levelsLevel_any h v hbig);clear h
 go_enter Tryz.func77, Tryz.ntmps77
 go_wp2_with fail;refine HC.out.mono ?_;rintro x w' ⟨rfl, rfl⟩;go_wp2_with fail;go_ret;exact ⟨rfl, rfl⟩
open Go.RowKit
def PoolD.has (p : PoolD) (i : Nat) : RN := if p.tk i = true then p.nd i else rn0
theorem poolAt_any (o : Own) (pb : Nat) (p : PoolD) (i : Nat) (w : World) (h : PoolAt o w pb p) (hlt : OwnLt o w) :
 Calls Tryz.prog 123 #[.pointer (some ⟨pb, 0, none⟩), .int .i64 i] w fun x w' => x = .returned (.tuple #[rnAgg (p.has i), .bool (p.tk i)]) /\ Below w.heap.size w w' := by
 by_cases hi : p.tk i = true
 ·
  have := poolAt_yes o pb p i w h hlt hi;unfold PoolD.has;rw [if_pos hi, hi]; exact this
 ·
  have hi' : p.tk i = false := by simpa using hi
  have := poolAt_no o pb p i w h hlt hi';unfold PoolD.has;rw [if_neg hi, hi']; exact this
theorem k0_eq (k : Nat) : (((k : Nat) : Int) == 0) = decide (k = 0) := by
 cases k with
 | zero => rfl
 | succ n => simp; omega
theorem oper_call {P : Program} {o : Oper} {a : Act} {w : World} {v : Value} {f : FuncId} {args : Array Value} {K : Act -> World -> Prop} {Q : Exit -> Act -> World -> Prop} {R : World -> Prop} (he : (execOp a.eval o).run P w = .ok (.enter f args) w)
 (hc : Calls P f args w fun e w' => e = .returned v /\ R w') (h : ∀ w', R w' -> K (a.put o.dst v) w') : o.wp P a w K Q := by
 unfold Oper.wp;simp only [he, Oper.upon];exact hc.mono fun e w' ⟨h1, h2⟩ => by subst h1; exact h w' h2
theorem oper_store {P : Program} {o : Oper} {a : Act} {w w' : World} {t : TypeId} {s x : Operand} {K : Act -> World -> Prop} {Q : Exit -> Act -> World -> Prop} (ho : o.op = .store t s x)
 (hr : (Instr.storeAt t (a.eval s) (a.eval x)).run P w = .ok () w') (h : K (a.put o.dst undef) w') : o.wp P a w K Q := by
 unfold Oper.wp;rw [exec_store ho hr];exact h
theorem below_set5 {w W : World} {bx : Nat} (hb : Below w.heap.size w W) (hge : w.heap.size <= bx) (n : RN) : Below w.heap.size w (set5 W bx 0 n) :=
 ((((hb.setCell (p := ⟨bx, 0, none⟩) hge _).setCell (p := ⟨bx, 1, none⟩) hge _).setCell (p := ⟨bx, 2, none⟩) hge _).setCell (p := ⟨bx, 3, none⟩) hge _).setCell (p := ⟨bx, 4, none⟩) hge _
theorem set5_new {W : World} {bx : Nat} (h : W.heap[bx]? = some (.cells #[.int .i64 0, .int .i64 0, .int .i64 0, .int .i64 0, .int .i64 0] 157 (0, 0))) (n : RN) :
 (set5 W bx 0 n).heap[bx]? = some (.cells #[.int .i64 n.id, .int .i64 n.v, .int .i64 n.lo, .int .i64 n.hi, .int .i64 n.refs] 157 (0, 0)) :=
 heap_setCell_same (k := 4) (heap_setCell_same (k := 3) (heap_setCell_same (k := 2) (heap_setCell_same (k := 1) (heap_setCell_same (k := 0) h _) _) _) _) _
theorem storeIs_any {o : Own} {w : World} {sb : Nat} {d : StoreD} {s : StoreW} (h : StoreIn o w sb d s) (hlt : OwnLt o w) (f : Nat) (hf : f < eMax) :
 Calls Tryz.prog 87 #[.pointer (some ⟨sb, 0, none⟩), .int .i64 f] w fun x w' => x = .returned (.bool (decide (enode f = 0) || d.pool.tk (enode f))) /\ Below w.heap.size w w' := by
 obtain ⟨c0, c1, c2, c3, c4, f0⟩ := cells5 h.blk;have lsb : sb < w.heap.size := lt_of_cell c0;have hz : (0 : Int) <= f := by omega
 have HC1 : Hid (∀ W : World, Below w.heap.size w W -> W.cell? ⟨sb, 1, none⟩ = some (.pointer (some ⟨s.pb, 0, none⟩))) := Lib.hid (fun W hb => (hb.cell (p := ⟨sb, 1, none⟩) lsb).trans c1);have HPA : Hid (∀ W : World, Below w.heap.size w W -> Calls Tryz.prog 123 #[.pointer (some ⟨s.pb, 0, none⟩), .int .i64 (enode f : Nat)] W fun x w' => x = .returned (.tuple #[rnAgg (d.pool.has (enode f)), .bool (d.pool.tk (enode f))]) /\ Below W.heap.size W w') :=
  Lib.hid (fun W hb => poolAt_any o s.pb d.pool (enode f) W (h.pool.below hb hlt) (hlt.mono hb.size))
 have HN := Lib.hid (fun W => node_any f W hf);obtain ⟨N, hN⟩ : ∃ N, N = d.pool.has (enode f) := ⟨_, rfl⟩;obtain ⟨B, hB⟩ : ∃ B, B = d.pool.tk (enode f) := ⟨_, rfl⟩;obtain ⟨k, hk⟩ : ∃ k, k = enode f := ⟨_, rfl⟩;rw [<- hN, <- hB, <- hk] at HPA;rw [<- hk] at HN;rw [<- hB, <- hk];obtain ⟨z, hz0⟩ : ∃ z : Bool, z = decide (k = 0) := ⟨_, rfl⟩;have hk0 : (((k : Nat) : Int) == 0) = z := by rw [hz0]; exact k0_eq k
 rw [<- hz0];clear h hlt c0 c1 c2 c3 c4 f0 hN hB hk hf hz0
 go_enter Tryz.func87, Tryz.ntmps87
 go_upto_region 3 with fail;refine wp_region_left (fun W : World => Below w.heap.size w W) 13 (by kernel_rfl) (below_draw w 1) ?_;refine left_readE 0 rfl rfl (by kernel_rfl) ?_;apply Exists.intro;refine ⟨fun w' hw => ?_, ?_⟩
 ·
  have hc1 := HC1.out w' hw;go_simp;rfl
 simp only [putLz];refine left_readE 1 rfl rfl (by kernel_rfl) ?_;apply Exists.intro;refine ⟨fun w' hw => ?_, ?_⟩
 ·
  have hc1 := HC1.out w' hw;go_simp;rfl
 simp only [putLz];refine left_readE 2 rfl rfl (by kernel_rfl) ?_;apply Exists.intro;refine ⟨fun w' hw => ?_, ?_⟩
 ·
  have hc1 := HC1.out w' hw;go_simp;rfl
 simp only [putLz];refine left_readE 3 rfl rfl (by kernel_rfl) ?_;apply Exists.intro;refine ⟨fun w' hw => ?_, ?_⟩
 ·
  have hc1 := HC1.out w' hw;go_simp;rfl
 simp only [putLz];refine left_readE 4 rfl rfl (by kernel_rfl) ?_;apply Exists.intro;refine ⟨fun w' hw => ?_, ?_⟩
 ·
  have hc1 := HC1.out w' hw;go_simp;rfl
 simp only [putLz];refine left_alts [5, 10] (by kernel_rfl) (fun i hi hS o ho => ?_);simp only [memLz] at hi;rcases hi with rfl | rfl
 ·
  skip
  simp only [altLz] at ho;subst ho;refine ⟨rfl, ?_⟩;refine oper_call (v := (.int .i64 k)) (R := fun w' => w.drew = w') (by go_simp) (HN.out _) ?_;rintro w' rfl;refine ⟨(below_draw w 1), ?_⟩;simp only [putLz];refine left_alts [6, 10] (by kernel_rfl) (fun i hi hS o ho => ?_);simp only [memLz] at hi;rcases hi with rfl | rfl
  ·
   skip
   simp only [altLz] at ho;subst ho;refine ⟨rfl, ?_⟩;refine oper_call (v := (.tuple #[rnAgg N, .bool B])) (R := fun w' => Below (w.drew).heap.size (w.drew) w') (by go_simp) (HPA.out _ (below_draw w 1)) ?_;intro v2 hv2;have hb2 := (below_draw w 1).trans (hv2.mono (below_draw w 1).size);refine ⟨hb2, ?_⟩;simp only [putLz];unfold rnAgg;refine left_readE 7 rfl rfl (by kernel_rfl) ?_;apply Exists.intro;refine ⟨fun w' hw => ?_, ?_⟩
   ·
    clear hw;go_simp;rfl
   simp only [putLz];refine left_readE 8 rfl rfl (by kernel_rfl) ?_;apply Exists.intro;refine ⟨fun w' hw => ?_, ?_⟩
   ·
    clear hw;go_simp;rfl
   simp only [putLz];refine left_readE 9 rfl rfl (by kernel_rfl) ?_;apply Exists.intro;refine ⟨fun w' hw => ?_, ?_⟩
   ·
    clear hw;go_simp;rfl
   simp only [putLz];refine left_alts [10] (by kernel_rfl) (fun i hi hS o ho => ?_);simp only [memLz] at hi;subst hi;simp only [altLz] at ho;subst ho;refine ⟨rfl, ?_⟩;have hb3 := hb2.trans ((below_new1 (v2) (.cells #[.int .i64 0, .int .i64 0, .int .i64 0, .int .i64 0, .int .i64 0] 157)).mono hb2.size);have hx3 := heap_alloc_new (v2) (.cells #[.int .i64 0, .int .i64 0, .int .i64 0, .int .i64 0, .int .i64 0] 157);have hge : w.heap.size <= (v2).heap.size := hb2.size;refine oper_value (v := .pointer (some ⟨(v2).heap.size, 0, none⟩)) (w' := (v2).alloc (.cells #[.int .i64 0, .int .i64 0, .int .i64 0, .int .i64 0, .int .i64 0] 157)) (by go_simp) ⟨hb3, ?_⟩;simp only [putLz];obtain ⟨bx, hbx⟩ : ∃ bx, bx = (v2).heap.size := ⟨_, rfl⟩;rw [<- hbx] at hx3 hge ⊢;obtain ⟨u3, hu3⟩ : ∃ u, u = (v2).alloc (.cells #[.int .i64 0, .int .i64 0, .int .i64 0, .int .i64 0, .int .i64 0] 157) := ⟨_, rfl⟩;rw [<- hu3] at hx3 hb3 ⊢;clear hu3 hbx;refine left_alts [11] (by kernel_rfl) (fun i hi hS o ho => ?_);simp only [memLz] at hi;subst hi;simp only [altLz] at ho;subst ho;refine ⟨rfl, ?_⟩;obtain ⟨e0, e1, e2, e3, e4, fz⟩ := cells5 hx3;refine oper_store (w' := set5 u3 bx 0 N) rfl (run_storeNode (k := 0) fz e0 e1 e2 e3 e4 _ _ _ _ _) ?_;have hbf : Below w.heap.size w (set5 u3 bx 0 N) := below_set5 hb3 hge N;have hxf := set5_new hx3 N;refine ⟨hbf, ?_⟩;simp only [putLz];clear e0 e1 e2 e3 e4 fz;refine left_readE 12 rfl rfl (by kernel_rfl) ?_;apply Exists.intro;refine ⟨fun w' hw => ?_, ?_⟩
   ·
    clear hw;go_simp;rfl
   simp only [putLz];refine left_end (by kernel_rfl) ?_;go_wp2_with fail;refine (HN.out _).mono ?_;rintro x w' ⟨rfl, rfl⟩;cases z
   all_goals go_wp2_with fail
   all_goals go_ret
   all_goals exact ⟨rfl, hbf⟩
  ·
   skip
   simp only [altLz] at ho;subst ho;refine ⟨rfl, ?_⟩;have hb4 := (below_draw w 1).trans ((below_new1 (w.drew) (.cells #[.int .i64 0, .int .i64 0, .int .i64 0, .int .i64 0, .int .i64 0] 157)).mono (below_draw w 1).size);have hx4 := heap_alloc_new (w.drew) (.cells #[.int .i64 0, .int .i64 0, .int .i64 0, .int .i64 0, .int .i64 0] 157);have hge : w.heap.size <= (w.drew).heap.size := (below_draw w 1).size;refine oper_value (v := .pointer (some ⟨(w.drew).heap.size, 0, none⟩)) (w' := (w.drew).alloc (.cells #[.int .i64 0, .int .i64 0, .int .i64 0, .int .i64 0, .int .i64 0] 157)) (by go_simp) ⟨hb4, ?_⟩;simp only [putLz];obtain ⟨bx, hbx⟩ : ∃ bx, bx = (w.drew).heap.size := ⟨_, rfl⟩;rw [<- hbx] at hx4 hge ⊢;obtain ⟨u4, hu4⟩ : ∃ u, u = (w.drew).alloc (.cells #[.int .i64 0, .int .i64 0, .int .i64 0, .int .i64 0, .int .i64 0] 157) := ⟨_, rfl⟩;rw [<- hu4] at hx4 hb4 ⊢;clear hu4 hbx;refine left_alts [6] (by kernel_rfl) (fun i hi hS o ho => ?_);simp only [memLz] at hi;subst hi;simp only [altLz] at ho;subst ho;refine ⟨rfl, ?_⟩;refine oper_call (v := (.tuple #[rnAgg N, .bool B])) (R := fun w' => Below (u4).heap.size (u4) w') (by go_simp) (HPA.out _ hb4) ?_;intro v5 hv5;have hb5 := hb4.trans (hv5.mono hb4.size);refine ⟨hb5, ?_⟩;simp only [putLz];unfold rnAgg;have hx5 := (hv5.block _ (Array.getElem?_eq_some_iff.1 hx4).1).trans hx4;refine left_readE 7 rfl rfl (by kernel_rfl) ?_;apply Exists.intro;refine ⟨fun w' hw => ?_, ?_⟩
   ·
    clear hw;go_simp;rfl
   simp only [putLz];refine left_readE 8 rfl rfl (by kernel_rfl) ?_;apply Exists.intro;refine ⟨fun w' hw => ?_, ?_⟩
   ·
    clear hw;go_simp;rfl
   simp only [putLz];refine left_readE 9 rfl rfl (by kernel_rfl) ?_;apply Exists.intro;refine ⟨fun w' hw => ?_, ?_⟩
   ·
    clear hw;go_simp;rfl
   simp only [putLz];refine left_alts [11] (by kernel_rfl) (fun i hi hS o ho => ?_);simp only [memLz] at hi;subst hi;simp only [altLz] at ho;subst ho;refine ⟨rfl, ?_⟩;obtain ⟨e0, e1, e2, e3, e4, fz⟩ := cells5 hx5;refine oper_store (w' := set5 v5 bx 0 N) rfl (run_storeNode (k := 0) fz e0 e1 e2 e3 e4 _ _ _ _ _) ?_;have hbf : Below w.heap.size w (set5 v5 bx 0 N) := below_set5 hb5 hge N;have hxf := set5_new hx5 N;refine ⟨hbf, ?_⟩;simp only [putLz];clear e0 e1 e2 e3 e4 fz;refine left_readE 12 rfl rfl (by kernel_rfl) ?_;apply Exists.intro;refine ⟨fun w' hw => ?_, ?_⟩
   ·
    clear hw;go_simp;rfl
   simp only [putLz];refine left_end (by kernel_rfl) ?_;go_wp2_with fail;refine (HN.out _).mono ?_;rintro x w' ⟨rfl, rfl⟩;cases z
   all_goals go_wp2_with fail
   all_goals go_ret
   all_goals exact ⟨rfl, hbf⟩
 ·
  skip
  simp only [altLz] at ho;subst ho;refine ⟨rfl, ?_⟩;have hb6 := (below_draw w 1).trans ((below_new1 (w.drew) (.cells #[.int .i64 0, .int .i64 0, .int .i64 0, .int .i64 0, .int .i64 0] 157)).mono (below_draw w 1).size);have hx6 := heap_alloc_new (w.drew) (.cells #[.int .i64 0, .int .i64 0, .int .i64 0, .int .i64 0, .int .i64 0] 157);have hge : w.heap.size <= (w.drew).heap.size := (below_draw w 1).size;refine oper_value (v := .pointer (some ⟨(w.drew).heap.size, 0, none⟩)) (w' := (w.drew).alloc (.cells #[.int .i64 0, .int .i64 0, .int .i64 0, .int .i64 0, .int .i64 0] 157)) (by go_simp) ⟨hb6, ?_⟩;simp only [putLz];obtain ⟨bx, hbx⟩ : ∃ bx, bx = (w.drew).heap.size := ⟨_, rfl⟩;rw [<- hbx] at hx6 hge ⊢;obtain ⟨u6, hu6⟩ : ∃ u, u = (w.drew).alloc (.cells #[.int .i64 0, .int .i64 0, .int .i64 0, .int .i64 0, .int .i64 0] 157) := ⟨_, rfl⟩;rw [<- hu6] at hx6 hb6 ⊢;clear hu6 hbx;refine left_alts [5] (by kernel_rfl) (fun i hi hS o ho => ?_);simp only [memLz] at hi;subst hi;simp only [altLz] at ho;subst ho;refine ⟨rfl, ?_⟩;refine oper_call (v := (.int .i64 k)) (R := fun w' => u6 = w') (by go_simp) (HN.out _) ?_;rintro w' rfl;refine ⟨hb6, ?_⟩;simp only [putLz];refine left_alts [6] (by kernel_rfl) (fun i hi hS o ho => ?_);simp only [memLz] at hi;subst hi;simp only [altLz] at ho;subst ho;refine ⟨rfl, ?_⟩;refine oper_call (v := (.tuple #[rnAgg N, .bool B])) (R := fun w' => Below (u6).heap.size (u6) w') (by go_simp) (HPA.out _ hb6) ?_;intro v8 hv8;have hb8 := hb6.trans (hv8.mono hb6.size);refine ⟨hb8, ?_⟩;simp only [putLz];unfold rnAgg;have hx8 := (hv8.block _ (Array.getElem?_eq_some_iff.1 hx6).1).trans hx6;refine left_readE 7 rfl rfl (by kernel_rfl) ?_;apply Exists.intro;refine ⟨fun w' hw => ?_, ?_⟩
  ·
   clear hw;go_simp;rfl
  simp only [putLz];refine left_readE 8 rfl rfl (by kernel_rfl) ?_;apply Exists.intro;refine ⟨fun w' hw => ?_, ?_⟩
  ·
   clear hw;go_simp;rfl
  simp only [putLz];refine left_readE 9 rfl rfl (by kernel_rfl) ?_;apply Exists.intro;refine ⟨fun w' hw => ?_, ?_⟩
  ·
   clear hw;go_simp;rfl
  simp only [putLz];refine left_alts [11] (by kernel_rfl) (fun i hi hS o ho => ?_);simp only [memLz] at hi;subst hi;simp only [altLz] at ho;subst ho;refine ⟨rfl, ?_⟩;obtain ⟨e0, e1, e2, e3, e4, fz⟩ := cells5 hx8;refine oper_store (w' := set5 v8 bx 0 N) rfl (run_storeNode (k := 0) fz e0 e1 e2 e3 e4 _ _ _ _ _) ?_;have hbf : Below w.heap.size w (set5 v8 bx 0 N) := below_set5 hb8 hge N;have hxf := set5_new hx8 N;refine ⟨hbf, ?_⟩;simp only [putLz];clear e0 e1 e2 e3 e4 fz;refine left_readE 12 rfl rfl (by kernel_rfl) ?_;apply Exists.intro;refine ⟨fun w' hw => ?_, ?_⟩
  ·
   clear hw;go_simp;rfl
  simp only [putLz];refine left_end (by kernel_rfl) ?_;go_wp2_with fail;refine (HN.out _).mono ?_;rintro x w' ⟨rfl, rfl⟩;cases z
  all_goals go_wp2_with fail
  all_goals go_ret
  all_goals exact ⟨rfl, hbf⟩
open Go.RowKit
theorem storeUnder_any {o : Own} {w : World} {sb : Nat} {d : StoreD} {s : StoreW} (h : StoreIn o w sb d s) (hlt : OwnLt o w) (f : Nat) (hf : f < eMax) (lv : Int) (hbig : d.level.length < 1000000) :
 Calls Tryz.prog 126 #[.pointer (some ⟨sb, 0, none⟩), .int .i64 f, .int .i64 lv] w fun x w' => x = .returned (.bool (decide (enode f = 0) || (d.pool.tk (enode f) && decide (lv < d.levelOf (d.pool.has (enode f)).v)))) /\ Below w.heap.size w w' := by
 obtain ⟨c0, c1, c2, c3, c4, f0⟩ := cells5 h.blk;have lsb : sb < w.heap.size := lt_of_cell c0;have HC1 : Hid (∀ W : World, Below w.heap.size w W -> W.cell? ⟨sb, 1, none⟩ = some (.pointer (some ⟨s.pb, 0, none⟩))) := Lib.hid (fun W hb => (hb.cell (p := ⟨sb, 1, none⟩) lsb).trans c1);have HPA : Hid (∀ W : World, Below w.heap.size w W -> Calls Tryz.prog 123 #[.pointer (some ⟨s.pb, 0, none⟩), .int .i64 (enode f : Nat)] W fun x w' => x = .returned (.tuple #[rnAgg (d.pool.has (enode f)), .bool (d.pool.tk (enode f))]) /\ Below W.heap.size W w') :=
  Lib.hid (fun W hb => poolAt_any o s.pb d.pool (enode f) W (h.pool.below hb hlt) (hlt.mono hb.size))
 have HLV : Hid (∀ W : World, Below w.heap.size w W -> Calls Tryz.prog 77 #[.pointer (some ⟨sb, 0, none⟩), .int .i64 ((d.pool.has (enode f)).v : Nat)] W fun x w' => x = .returned (.int .i64 (d.levelOf (d.pool.has (enode f)).v)) /\ W = w') :=
  Lib.hid (fun W hb => storeLevel_any (h.below hlt hb) _ hbig)
 have HN := Lib.hid (fun W => node_any f W hf);obtain ⟨N, hN⟩ : ∃ N, N = d.pool.has (enode f) := ⟨_, rfl⟩;obtain ⟨B, hB⟩ : ∃ B, B = d.pool.tk (enode f) := ⟨_, rfl⟩;obtain ⟨k, hk⟩ : ∃ k, k = enode f := ⟨_, rfl⟩;rw [<- hN] at HPA HLV;rw [<- hB, <- hk] at HPA;rw [<- hk] at HN;rw [<- hB, <- hN, <- hk];obtain ⟨M, hM⟩ : ∃ M, M = d.levelOf N.v := ⟨_, rfl⟩;rw [<- hM] at HLV ⊢;obtain ⟨z, hz0⟩ : ∃ z : Bool, z = decide (k = 0) := ⟨_, rfl⟩;have hk0 : (((k : Nat) : Int) == 0) = z := by rw [hz0]; exact k0_eq k
 rw [<- hz0];clear h hlt c0 c1 c2 c3 c4 f0 hN hB hk hf hz0 hM
 go_enter Tryz.func126, Tryz.ntmps126
 go_upto_region 1 with fail;refine wp_region_left (fun W : World => Below w.heap.size w W) 13 (by kernel_rfl) (below_draw w 1) ?_;refine left_readE 0 rfl rfl (by kernel_rfl) ?_;apply Exists.intro;refine ⟨fun w' hw => ?_, ?_⟩
 ·
  have hc1 := HC1.out w' hw;go_simp;rfl
 simp only [putLz];refine left_readE 1 rfl rfl (by kernel_rfl) ?_;apply Exists.intro;refine ⟨fun w' hw => ?_, ?_⟩
 ·
  have hc1 := HC1.out w' hw;go_simp;rfl
 simp only [putLz];refine left_readE 2 rfl rfl (by kernel_rfl) ?_;apply Exists.intro;refine ⟨fun w' hw => ?_, ?_⟩
 ·
  have hc1 := HC1.out w' hw;go_simp;rfl
 simp only [putLz];refine left_readE 3 rfl rfl (by kernel_rfl) ?_;apply Exists.intro;refine ⟨fun w' hw => ?_, ?_⟩
 ·
  have hc1 := HC1.out w' hw;go_simp;rfl
 simp only [putLz];refine left_readE 4 rfl rfl (by kernel_rfl) ?_;apply Exists.intro;refine ⟨fun w' hw => ?_, ?_⟩
 ·
  have hc1 := HC1.out w' hw;go_simp;rfl
 simp only [putLz];refine left_alts [5, 10] (by kernel_rfl) (fun i hi hS o ho => ?_);simp only [memLz] at hi;rcases hi with rfl | rfl
 ·
  skip
  simp only [altLz] at ho;subst ho;refine ⟨rfl, ?_⟩;refine oper_call (v := (.int .i64 k)) (R := fun w' => w.drew = w') (by go_simp) (HN.out _) ?_;rintro w' rfl;refine ⟨(below_draw w 1), ?_⟩;simp only [putLz];refine left_alts [6, 10] (by kernel_rfl) (fun i hi hS o ho => ?_);simp only [memLz] at hi;rcases hi with rfl | rfl
  ·
   skip
   simp only [altLz] at ho;subst ho;refine ⟨rfl, ?_⟩;refine oper_call (v := (.tuple #[rnAgg N, .bool B])) (R := fun w' => Below (w.drew).heap.size (w.drew) w') (by go_simp) (HPA.out _ (below_draw w 1)) ?_;intro v2 hv2;have hb2 := (below_draw w 1).trans (hv2.mono (below_draw w 1).size);refine ⟨hb2, ?_⟩;simp only [putLz];unfold rnAgg;refine left_readE 7 rfl rfl (by kernel_rfl) ?_;apply Exists.intro;refine ⟨fun w' hw => ?_, ?_⟩
   ·
    clear hw;go_simp;rfl
   simp only [putLz];refine left_readE 8 rfl rfl (by kernel_rfl) ?_;apply Exists.intro;refine ⟨fun w' hw => ?_, ?_⟩
   ·
    clear hw;go_simp;rfl
   simp only [putLz];refine left_readE 9 rfl rfl (by kernel_rfl) ?_;apply Exists.intro;refine ⟨fun w' hw => ?_, ?_⟩
   ·
    clear hw;go_simp;rfl
   simp only [putLz];refine left_alts [10] (by kernel_rfl) (fun i hi hS o ho => ?_);simp only [memLz] at hi;subst hi;simp only [altLz] at ho;subst ho;refine ⟨rfl, ?_⟩;have hb3 := hb2.trans ((below_new1 (v2) (.cells #[.int .i64 0, .int .i64 0, .int .i64 0, .int .i64 0, .int .i64 0] 157)).mono hb2.size);have hx3 := heap_alloc_new (v2) (.cells #[.int .i64 0, .int .i64 0, .int .i64 0, .int .i64 0, .int .i64 0] 157);have hge : w.heap.size <= (v2).heap.size := hb2.size;refine oper_value (v := .pointer (some ⟨(v2).heap.size, 0, none⟩)) (w' := (v2).alloc (.cells #[.int .i64 0, .int .i64 0, .int .i64 0, .int .i64 0, .int .i64 0] 157)) (by go_simp) ⟨hb3, ?_⟩;simp only [putLz];obtain ⟨bx, hbx⟩ : ∃ bx, bx = (v2).heap.size := ⟨_, rfl⟩;rw [<- hbx] at hx3 hge ⊢;obtain ⟨u3, hu3⟩ : ∃ u, u = (v2).alloc (.cells #[.int .i64 0, .int .i64 0, .int .i64 0, .int .i64 0, .int .i64 0] 157) := ⟨_, rfl⟩;rw [<- hu3] at hx3 hb3 ⊢;clear hu3 hbx;refine left_alts [11] (by kernel_rfl) (fun i hi hS o ho => ?_);simp only [memLz] at hi;subst hi;simp only [altLz] at ho;subst ho;refine ⟨rfl, ?_⟩;obtain ⟨e0, e1, e2, e3, e4, fz⟩ := cells5 hx3;refine oper_store (w' := set5 u3 bx 0 N) rfl (run_storeNode (k := 0) fz e0 e1 e2 e3 e4 _ _ _ _ _) ?_;have hbf : Below w.heap.size w (set5 u3 bx 0 N) := below_set5 hb3 hge N;have hxf := set5_new hx3 N;refine ⟨hbf, ?_⟩;simp only [putLz];clear e0 e1 e2 e3 e4 fz;refine left_readE 12 rfl rfl (by kernel_rfl) ?_;apply Exists.intro;refine ⟨fun w' hw => ?_, ?_⟩
   ·
    clear hw;go_simp;rfl
   simp only [putLz];refine left_end (by kernel_rfl) ?_;obtain ⟨y0, y1, y2, y3, y4, yz⟩ := cells5 hxf;go_wp2_with fail;refine (HN.out _).mono ?_;rintro x w' ⟨rfl, rfl⟩;cases z
   ·
    cases B
    ·
     go_wp2_with fail;go_ret;exact ⟨rfl, hbf⟩
    ·
     go_wp2_with fail;refine (HLV.out _ hbf).mono ?_;rintro x w' ⟨rfl, rfl⟩;go_wp2_with fail;go_ret;exact ⟨rfl, hbf⟩
   ·
    go_wp2_with fail;go_ret;exact ⟨rfl, hbf⟩
  ·
   skip
   simp only [altLz] at ho;subst ho;refine ⟨rfl, ?_⟩;have hb4 := (below_draw w 1).trans ((below_new1 (w.drew) (.cells #[.int .i64 0, .int .i64 0, .int .i64 0, .int .i64 0, .int .i64 0] 157)).mono (below_draw w 1).size);have hx4 := heap_alloc_new (w.drew) (.cells #[.int .i64 0, .int .i64 0, .int .i64 0, .int .i64 0, .int .i64 0] 157);have hge : w.heap.size <= (w.drew).heap.size := (below_draw w 1).size;refine oper_value (v := .pointer (some ⟨(w.drew).heap.size, 0, none⟩)) (w' := (w.drew).alloc (.cells #[.int .i64 0, .int .i64 0, .int .i64 0, .int .i64 0, .int .i64 0] 157)) (by go_simp) ⟨hb4, ?_⟩;simp only [putLz];obtain ⟨bx, hbx⟩ : ∃ bx, bx = (w.drew).heap.size := ⟨_, rfl⟩;rw [<- hbx] at hx4 hge ⊢;obtain ⟨u4, hu4⟩ : ∃ u, u = (w.drew).alloc (.cells #[.int .i64 0, .int .i64 0, .int .i64 0, .int .i64 0, .int .i64 0] 157) := ⟨_, rfl⟩;rw [<- hu4] at hx4 hb4 ⊢;clear hu4 hbx;refine left_alts [6] (by kernel_rfl) (fun i hi hS o ho => ?_);simp only [memLz] at hi;subst hi;simp only [altLz] at ho;subst ho;refine ⟨rfl, ?_⟩;refine oper_call (v := (.tuple #[rnAgg N, .bool B])) (R := fun w' => Below (u4).heap.size (u4) w') (by go_simp) (HPA.out _ hb4) ?_;intro v5 hv5;have hb5 := hb4.trans (hv5.mono hb4.size);refine ⟨hb5, ?_⟩;simp only [putLz];unfold rnAgg;have hx5 := (hv5.block _ (Array.getElem?_eq_some_iff.1 hx4).1).trans hx4;refine left_readE 7 rfl rfl (by kernel_rfl) ?_;apply Exists.intro;refine ⟨fun w' hw => ?_, ?_⟩
   ·
    clear hw;go_simp;rfl
   simp only [putLz];refine left_readE 8 rfl rfl (by kernel_rfl) ?_;apply Exists.intro;refine ⟨fun w' hw => ?_, ?_⟩
   ·
    clear hw;go_simp;rfl
   simp only [putLz];refine left_readE 9 rfl rfl (by kernel_rfl) ?_;apply Exists.intro;refine ⟨fun w' hw => ?_, ?_⟩
   ·
    clear hw;go_simp;rfl
   simp only [putLz];refine left_alts [11] (by kernel_rfl) (fun i hi hS o ho => ?_);simp only [memLz] at hi;subst hi;simp only [altLz] at ho;subst ho;refine ⟨rfl, ?_⟩;obtain ⟨e0, e1, e2, e3, e4, fz⟩ := cells5 hx5;refine oper_store (w' := set5 v5 bx 0 N) rfl (run_storeNode (k := 0) fz e0 e1 e2 e3 e4 _ _ _ _ _) ?_;have hbf : Below w.heap.size w (set5 v5 bx 0 N) := below_set5 hb5 hge N;have hxf := set5_new hx5 N;refine ⟨hbf, ?_⟩;simp only [putLz];clear e0 e1 e2 e3 e4 fz;refine left_readE 12 rfl rfl (by kernel_rfl) ?_;apply Exists.intro;refine ⟨fun w' hw => ?_, ?_⟩
   ·
    clear hw;go_simp;rfl
   simp only [putLz];refine left_end (by kernel_rfl) ?_;obtain ⟨y0, y1, y2, y3, y4, yz⟩ := cells5 hxf;go_wp2_with fail;refine (HN.out _).mono ?_;rintro x w' ⟨rfl, rfl⟩;cases z
   ·
    cases B
    ·
     go_wp2_with fail;go_ret;exact ⟨rfl, hbf⟩
    ·
     go_wp2_with fail;refine (HLV.out _ hbf).mono ?_;rintro x w' ⟨rfl, rfl⟩;go_wp2_with fail;go_ret;exact ⟨rfl, hbf⟩
   ·
    go_wp2_with fail;go_ret;exact ⟨rfl, hbf⟩
 ·
  skip
  simp only [altLz] at ho;subst ho;refine ⟨rfl, ?_⟩;have hb6 := (below_draw w 1).trans ((below_new1 (w.drew) (.cells #[.int .i64 0, .int .i64 0, .int .i64 0, .int .i64 0, .int .i64 0] 157)).mono (below_draw w 1).size);have hx6 := heap_alloc_new (w.drew) (.cells #[.int .i64 0, .int .i64 0, .int .i64 0, .int .i64 0, .int .i64 0] 157);have hge : w.heap.size <= (w.drew).heap.size := (below_draw w 1).size;refine oper_value (v := .pointer (some ⟨(w.drew).heap.size, 0, none⟩)) (w' := (w.drew).alloc (.cells #[.int .i64 0, .int .i64 0, .int .i64 0, .int .i64 0, .int .i64 0] 157)) (by go_simp) ⟨hb6, ?_⟩;simp only [putLz];obtain ⟨bx, hbx⟩ : ∃ bx, bx = (w.drew).heap.size := ⟨_, rfl⟩;rw [<- hbx] at hx6 hge ⊢;obtain ⟨u6, hu6⟩ : ∃ u, u = (w.drew).alloc (.cells #[.int .i64 0, .int .i64 0, .int .i64 0, .int .i64 0, .int .i64 0] 157) := ⟨_, rfl⟩;rw [<- hu6] at hx6 hb6 ⊢;clear hu6 hbx;refine left_alts [5] (by kernel_rfl) (fun i hi hS o ho => ?_);simp only [memLz] at hi;subst hi;simp only [altLz] at ho;subst ho;refine ⟨rfl, ?_⟩;refine oper_call (v := (.int .i64 k)) (R := fun w' => u6 = w') (by go_simp) (HN.out _) ?_;rintro w' rfl;refine ⟨hb6, ?_⟩;simp only [putLz];refine left_alts [6] (by kernel_rfl) (fun i hi hS o ho => ?_);simp only [memLz] at hi;subst hi;simp only [altLz] at ho;subst ho;refine ⟨rfl, ?_⟩;refine oper_call (v := (.tuple #[rnAgg N, .bool B])) (R := fun w' => Below (u6).heap.size (u6) w') (by go_simp) (HPA.out _ hb6) ?_;intro v8 hv8;have hb8 := hb6.trans (hv8.mono hb6.size);refine ⟨hb8, ?_⟩;simp only [putLz];unfold rnAgg;have hx8 := (hv8.block _ (Array.getElem?_eq_some_iff.1 hx6).1).trans hx6;refine left_readE 7 rfl rfl (by kernel_rfl) ?_;apply Exists.intro;refine ⟨fun w' hw => ?_, ?_⟩
  ·
   clear hw;go_simp;rfl
  simp only [putLz];refine left_readE 8 rfl rfl (by kernel_rfl) ?_;apply Exists.intro;refine ⟨fun w' hw => ?_, ?_⟩
  ·
   clear hw;go_simp;rfl
  simp only [putLz];refine left_readE 9 rfl rfl (by kernel_rfl) ?_;apply Exists.intro;refine ⟨fun w' hw => ?_, ?_⟩
  ·
   clear hw;go_simp;rfl
  simp only [putLz];refine left_alts [11] (by kernel_rfl) (fun i hi hS o ho => ?_);simp only [memLz] at hi;subst hi;simp only [altLz] at ho;subst ho;refine ⟨rfl, ?_⟩;obtain ⟨e0, e1, e2, e3, e4, fz⟩ := cells5 hx8;refine oper_store (w' := set5 v8 bx 0 N) rfl (run_storeNode (k := 0) fz e0 e1 e2 e3 e4 _ _ _ _ _) ?_;have hbf : Below w.heap.size w (set5 v8 bx 0 N) := below_set5 hb8 hge N;have hxf := set5_new hx8 N;refine ⟨hbf, ?_⟩;simp only [putLz];clear e0 e1 e2 e3 e4 fz;refine left_readE 12 rfl rfl (by kernel_rfl) ?_;apply Exists.intro;refine ⟨fun w' hw => ?_, ?_⟩
  ·
   clear hw;go_simp;rfl
  simp only [putLz];refine left_end (by kernel_rfl) ?_;obtain ⟨y0, y1, y2, y3, y4, yz⟩ := cells5 hxf;go_wp2_with fail;refine (HN.out _).mono ?_;rintro x w' ⟨rfl, rfl⟩;cases z
  ·
   cases B
   ·
    go_wp2_with fail;go_ret;exact ⟨rfl, hbf⟩
   ·
    go_wp2_with fail;refine (HLV.out _ hbf).mono ?_;rintro x w' ⟨rfl, rfl⟩;go_wp2_with fail;go_ret;exact ⟨rfl, hbf⟩
  ·
   go_wp2_with fail;go_ret;exact ⟨rfl, hbf⟩
open Go.RowKit
theorem quiet_of_eq {P : Program} {f : FuncId} {args : Array Value} {w : World} {n : Nat} {v : Value}
 (h : Calls P f args (w.drewN n) fun e w' => e = .returned v /\ w.drewN n = w') : Calls P f args (w.drewN n) fun e w'' => e = .returned v /\ ∃ m, w'' = w.drewN m :=
 h.mono fun _ _ ⟨he, hm⟩ => ⟨he, n, hm.symm⟩
theorem results_tmp4 {fn : Func} {t u v x : Tmp} (h : fn.results = #[.tmp t, .tmp u, .tmp v, .tmp x]) (tmps : Array Value) (P : Program) (w : World) :
 (results fn tmps).run P w = .ok (.tuple #[tmps.getD t undef, tmps.getD u undef, tmps.getD v undef, tmps.getD x undef]) w := by
 simp [results, h]
theorem storeAt_any {o : Own} {w : World} {sb : Nat} {d : StoreD} {s : StoreW} (h : StoreIn o w sb d s) (hlt : OwnLt o w) (f : Nat) (hf : f < eMax) (hlo : (d.pool.has (enode f)).lo < eMax) (hhi : (d.pool.has (enode f)).hi < eMax) :
 Calls Tryz.prog 91 #[.pointer (some ⟨sb, 0, none⟩), .int .i64 f] w fun x w' => x = .returned (if d.pool.tk (enode f) = true then .tuple #[.int .i64 (d.pool.has (enode f)).v, .int .i64 (eflip (d.pool.has (enode f)).lo (eneg f) : Nat), .int .i64 (eflip (d.pool.has (enode f)).hi (eneg f) : Nat), .bool true] else .tuple #[.int .i64 (-1), .int .i64 0, .int .i64 0, .bool false]) /\ Below w.heap.size w w' := by
 obtain ⟨c0, c1, c2, c3, c4, f0⟩ := cells5 h.blk;have lsb : sb < w.heap.size := lt_of_cell c0;have HC1 : Hid (∀ W : World, Below w.heap.size w W -> W.cell? ⟨sb, 1, none⟩ = some (.pointer (some ⟨s.pb, 0, none⟩))) := Lib.hid (fun W hb => (hb.cell (p := ⟨sb, 1, none⟩) lsb).trans c1);have HPA : Hid (∀ W : World, Below w.heap.size w W -> Calls Tryz.prog 123 #[.pointer (some ⟨s.pb, 0, none⟩), .int .i64 (enode f : Nat)] W fun x w' => x = .returned (.tuple #[rnAgg (d.pool.has (enode f)), .bool (d.pool.tk (enode f))]) /\ Below W.heap.size W w') :=
  Lib.hid (fun W hb => poolAt_any o s.pb d.pool (enode f) W (h.pool.below hb hlt) (hlt.mono hb.size))
 have hz : (0 : Int) <= f := by omega
 have HG := Lib.hid (fun W => neg_any f W hf);have HFL := Lib.hid (fun W b => flip_any (d.pool.has (enode f)).lo b W hlo);have HFH := Lib.hid (fun W b => flip_any (d.pool.has (enode f)).hi b W hhi);have HN := Lib.hid (fun W => node_any f W hf);obtain ⟨N, hN⟩ : ∃ N, N = d.pool.has (enode f) := ⟨_, rfl⟩;obtain ⟨B, hB⟩ : ∃ B, B = d.pool.tk (enode f) := ⟨_, rfl⟩;obtain ⟨k, hk⟩ : ∃ k, k = enode f := ⟨_, rfl⟩;rw [<- hN] at HPA HFL HFH;rw [<- hB, <- hk] at HPA;rw [<- hk] at HN;rw [<- hB, <- hN];obtain ⟨g, hg⟩ : ∃ g : Bool, g = eneg f := ⟨_, rfl⟩;rw [<- hg] at HG ⊢;have HFL := Lib.hid (fun W => HFL.out W g);have HFH := Lib.hid (fun W => HFH.out W g);obtain ⟨A, hA⟩ : ∃ A, A = eflip N.lo g := ⟨_, rfl⟩;obtain ⟨C, hC⟩ : ∃ C, C = eflip N.hi g := ⟨_, rfl⟩;rw [<- hA] at HFL ⊢;rw [<- hC] at HFH ⊢;obtain ⟨RV, hRV⟩ : ∃ RV : Value, RV = (if B = true then .tuple #[.int .i64 N.v, .int .i64 (A : Nat), .int .i64 (C : Nat), .bool true] else .tuple #[.int .i64 (-1), .int .i64 0, .int .i64 0, .bool false]) := ⟨_, rfl⟩;rw [<- hRV];have HRV := Lib.hid hRV;clear h hlt c0 c1 c2 c3 c4 f0 hN hB hk hf hg hA hC hlo hhi hRV
 go_enter Tryz.func91, Tryz.ntmps91
 go_upto_region 3 with fail;refine wp_region_left (fun W : World => Below w.heap.size w W) 13 (by kernel_rfl) (below_draw w 1) ?_;refine left_readE 0 rfl rfl (by kernel_rfl) ?_;apply Exists.intro;refine ⟨fun w' hw => ?_, ?_⟩
 ·
  have hc1 := HC1.out w' hw;go_simp;rfl
 simp only [putLz];refine left_readE 1 rfl rfl (by kernel_rfl) ?_;apply Exists.intro;refine ⟨fun w' hw => ?_, ?_⟩
 ·
  have hc1 := HC1.out w' hw;go_simp;rfl
 simp only [putLz];refine left_readE 2 rfl rfl (by kernel_rfl) ?_;apply Exists.intro;refine ⟨fun w' hw => ?_, ?_⟩
 ·
  have hc1 := HC1.out w' hw;go_simp;rfl
 simp only [putLz];refine left_readE 3 rfl rfl (by kernel_rfl) ?_;apply Exists.intro;refine ⟨fun w' hw => ?_, ?_⟩
 ·
  have hc1 := HC1.out w' hw;go_simp;rfl
 simp only [putLz];refine left_readE 4 rfl rfl (by kernel_rfl) ?_;apply Exists.intro;refine ⟨fun w' hw => ?_, ?_⟩
 ·
  have hc1 := HC1.out w' hw;go_simp;rfl
 simp only [putLz];refine left_alts [5, 10] (by kernel_rfl) (fun i hi hS o ho => ?_);simp only [memLz] at hi;rcases hi with rfl | rfl
 ·
  skip
  simp only [altLz] at ho;subst ho;refine ⟨rfl, ?_⟩;refine oper_call (v := (.int .i64 k)) (R := fun w' => w.drew = w') (by go_simp) (HN.out _) ?_;rintro w' rfl;refine ⟨(below_draw w 1), ?_⟩;simp only [putLz];refine left_alts [6, 10] (by kernel_rfl) (fun i hi hS o ho => ?_);simp only [memLz] at hi;rcases hi with rfl | rfl
  ·
   skip
   simp only [altLz] at ho;subst ho;refine ⟨rfl, ?_⟩;refine oper_call (v := (.tuple #[rnAgg N, .bool B])) (R := fun w' => Below (w.drew).heap.size (w.drew) w') (by go_simp) (HPA.out _ (below_draw w 1)) ?_;intro v2 hv2;have hb2 := (below_draw w 1).trans (hv2.mono (below_draw w 1).size);refine ⟨hb2, ?_⟩;simp only [putLz];unfold rnAgg;refine left_readE 7 rfl rfl (by kernel_rfl) ?_;apply Exists.intro;refine ⟨fun w' hw => ?_, ?_⟩
   ·
    clear hw;go_simp;rfl
   simp only [putLz];refine left_readE 8 rfl rfl (by kernel_rfl) ?_;apply Exists.intro;refine ⟨fun w' hw => ?_, ?_⟩
   ·
    clear hw;go_simp;rfl
   simp only [putLz];refine left_readE 9 rfl rfl (by kernel_rfl) ?_;apply Exists.intro;refine ⟨fun w' hw => ?_, ?_⟩
   ·
    clear hw;go_simp;rfl
   simp only [putLz];refine left_alts [10] (by kernel_rfl) (fun i hi hS o ho => ?_);simp only [memLz] at hi;subst hi;simp only [altLz] at ho;subst ho;refine ⟨rfl, ?_⟩;have hb3 := hb2.trans ((below_new1 (v2) (.cells #[.int .i64 0, .int .i64 0, .int .i64 0, .int .i64 0, .int .i64 0] 157)).mono hb2.size);have hx3 := heap_alloc_new (v2) (.cells #[.int .i64 0, .int .i64 0, .int .i64 0, .int .i64 0, .int .i64 0] 157);have hge : w.heap.size <= (v2).heap.size := hb2.size;refine oper_value (v := .pointer (some ⟨(v2).heap.size, 0, none⟩)) (w' := (v2).alloc (.cells #[.int .i64 0, .int .i64 0, .int .i64 0, .int .i64 0, .int .i64 0] 157)) (by go_simp) ⟨hb3, ?_⟩;simp only [putLz];obtain ⟨bx, hbx⟩ : ∃ bx, bx = (v2).heap.size := ⟨_, rfl⟩;rw [<- hbx] at hx3 hge ⊢;obtain ⟨u3, hu3⟩ : ∃ u, u = (v2).alloc (.cells #[.int .i64 0, .int .i64 0, .int .i64 0, .int .i64 0, .int .i64 0] 157) := ⟨_, rfl⟩;rw [<- hu3] at hx3 hb3 ⊢;clear hu3 hbx;refine left_alts [11] (by kernel_rfl) (fun i hi hS o ho => ?_);simp only [memLz] at hi;subst hi;simp only [altLz] at ho;subst ho;refine ⟨rfl, ?_⟩;obtain ⟨e0, e1, e2, e3, e4, fz⟩ := cells5 hx3;refine oper_store (w' := set5 u3 bx 0 N) rfl (run_storeNode (k := 0) fz e0 e1 e2 e3 e4 _ _ _ _ _) ?_;have hbf : Below w.heap.size w (set5 u3 bx 0 N) := below_set5 hb3 hge N;have hxf := set5_new hx3 N;refine ⟨hbf, ?_⟩;simp only [putLz];clear e0 e1 e2 e3 e4 fz;refine left_readE 12 rfl rfl (by kernel_rfl) ?_;apply Exists.intro;refine ⟨fun w' hw => ?_, ?_⟩
   ·
    clear hw;go_simp;rfl
   simp only [putLz];refine left_end (by kernel_rfl) ?_;obtain ⟨y0, y1, y2, y3, y4, yz⟩ := cells5 hxf;clear HN HPA HC1;cases B
   ·
    go_wp2_with fail;refine bodyPost_ret (results_tmp4 rfl _ _ _) rfl ⟨?_, hbf⟩;rw [HRV.out];rfl
   ·
    go_upto_region 6 with fail
    go_quiet ((first | (with_reducible exact quiet_of_eq (HG.out _)) | (with_reducible exact quiet_of_eq (HFL.out _)) | (with_reducible exact quiet_of_eq (HFH.out _))))
    go_wp2_with fail;refine bodyPost_ret (results_tmp4 rfl _ _ _) rfl ⟨?_, below_drewN hbf _⟩;rw [HRV.out];rfl
  ·
   skip
   simp only [altLz] at ho;subst ho;refine ⟨rfl, ?_⟩;have hb4 := (below_draw w 1).trans ((below_new1 (w.drew) (.cells #[.int .i64 0, .int .i64 0, .int .i64 0, .int .i64 0, .int .i64 0] 157)).mono (below_draw w 1).size);have hx4 := heap_alloc_new (w.drew) (.cells #[.int .i64 0, .int .i64 0, .int .i64 0, .int .i64 0, .int .i64 0] 157);have hge : w.heap.size <= (w.drew).heap.size := (below_draw w 1).size;refine oper_value (v := .pointer (some ⟨(w.drew).heap.size, 0, none⟩)) (w' := (w.drew).alloc (.cells #[.int .i64 0, .int .i64 0, .int .i64 0, .int .i64 0, .int .i64 0] 157)) (by go_simp) ⟨hb4, ?_⟩;simp only [putLz];obtain ⟨bx, hbx⟩ : ∃ bx, bx = (w.drew).heap.size := ⟨_, rfl⟩;rw [<- hbx] at hx4 hge ⊢;obtain ⟨u4, hu4⟩ : ∃ u, u = (w.drew).alloc (.cells #[.int .i64 0, .int .i64 0, .int .i64 0, .int .i64 0, .int .i64 0] 157) := ⟨_, rfl⟩;rw [<- hu4] at hx4 hb4 ⊢;clear hu4 hbx;refine left_alts [6] (by kernel_rfl) (fun i hi hS o ho => ?_);simp only [memLz] at hi;subst hi;simp only [altLz] at ho;subst ho;refine ⟨rfl, ?_⟩;refine oper_call (v := (.tuple #[rnAgg N, .bool B])) (R := fun w' => Below (u4).heap.size (u4) w') (by go_simp) (HPA.out _ hb4) ?_;intro v5 hv5;have hb5 := hb4.trans (hv5.mono hb4.size);refine ⟨hb5, ?_⟩;simp only [putLz];unfold rnAgg;have hx5 := (hv5.block _ (Array.getElem?_eq_some_iff.1 hx4).1).trans hx4;refine left_readE 7 rfl rfl (by kernel_rfl) ?_;apply Exists.intro;refine ⟨fun w' hw => ?_, ?_⟩
   ·
    clear hw;go_simp;rfl
   simp only [putLz];refine left_readE 8 rfl rfl (by kernel_rfl) ?_;apply Exists.intro;refine ⟨fun w' hw => ?_, ?_⟩
   ·
    clear hw;go_simp;rfl
   simp only [putLz];refine left_readE 9 rfl rfl (by kernel_rfl) ?_;apply Exists.intro;refine ⟨fun w' hw => ?_, ?_⟩
   ·
    clear hw;go_simp;rfl
   simp only [putLz];refine left_alts [11] (by kernel_rfl) (fun i hi hS o ho => ?_);simp only [memLz] at hi;subst hi;simp only [altLz] at ho;subst ho;refine ⟨rfl, ?_⟩;obtain ⟨e0, e1, e2, e3, e4, fz⟩ := cells5 hx5;refine oper_store (w' := set5 v5 bx 0 N) rfl (run_storeNode (k := 0) fz e0 e1 e2 e3 e4 _ _ _ _ _) ?_;have hbf : Below w.heap.size w (set5 v5 bx 0 N) := below_set5 hb5 hge N;have hxf := set5_new hx5 N;refine ⟨hbf, ?_⟩;simp only [putLz];clear e0 e1 e2 e3 e4 fz;refine left_readE 12 rfl rfl (by kernel_rfl) ?_;apply Exists.intro;refine ⟨fun w' hw => ?_, ?_⟩
   ·
    clear hw;go_simp;rfl
   simp only [putLz];refine left_end (by kernel_rfl) ?_;obtain ⟨y0, y1, y2, y3, y4, yz⟩ := cells5 hxf;clear HN HPA HC1;cases B
   ·
    go_wp2_with fail;refine bodyPost_ret (results_tmp4 rfl _ _ _) rfl ⟨?_, hbf⟩;rw [HRV.out];rfl
   ·
    go_upto_region 6 with fail
    go_quiet ((first | (with_reducible exact quiet_of_eq (HG.out _)) | (with_reducible exact quiet_of_eq (HFL.out _)) | (with_reducible exact quiet_of_eq (HFH.out _))))
    go_wp2_with fail;refine bodyPost_ret (results_tmp4 rfl _ _ _) rfl ⟨?_, below_drewN hbf _⟩;rw [HRV.out];rfl
 ·
  skip
  simp only [altLz] at ho;subst ho;refine ⟨rfl, ?_⟩;have hb6 := (below_draw w 1).trans ((below_new1 (w.drew) (.cells #[.int .i64 0, .int .i64 0, .int .i64 0, .int .i64 0, .int .i64 0] 157)).mono (below_draw w 1).size);have hx6 := heap_alloc_new (w.drew) (.cells #[.int .i64 0, .int .i64 0, .int .i64 0, .int .i64 0, .int .i64 0] 157);have hge : w.heap.size <= (w.drew).heap.size := (below_draw w 1).size;refine oper_value (v := .pointer (some ⟨(w.drew).heap.size, 0, none⟩)) (w' := (w.drew).alloc (.cells #[.int .i64 0, .int .i64 0, .int .i64 0, .int .i64 0, .int .i64 0] 157)) (by go_simp) ⟨hb6, ?_⟩;simp only [putLz];obtain ⟨bx, hbx⟩ : ∃ bx, bx = (w.drew).heap.size := ⟨_, rfl⟩;rw [<- hbx] at hx6 hge ⊢;obtain ⟨u6, hu6⟩ : ∃ u, u = (w.drew).alloc (.cells #[.int .i64 0, .int .i64 0, .int .i64 0, .int .i64 0, .int .i64 0] 157) := ⟨_, rfl⟩;rw [<- hu6] at hx6 hb6 ⊢;clear hu6 hbx;refine left_alts [5] (by kernel_rfl) (fun i hi hS o ho => ?_);simp only [memLz] at hi;subst hi;simp only [altLz] at ho;subst ho;refine ⟨rfl, ?_⟩;refine oper_call (v := (.int .i64 k)) (R := fun w' => u6 = w') (by go_simp) (HN.out _) ?_;rintro w' rfl;refine ⟨hb6, ?_⟩;simp only [putLz];refine left_alts [6] (by kernel_rfl) (fun i hi hS o ho => ?_);simp only [memLz] at hi;subst hi;simp only [altLz] at ho;subst ho;refine ⟨rfl, ?_⟩;refine oper_call (v := (.tuple #[rnAgg N, .bool B])) (R := fun w' => Below (u6).heap.size (u6) w') (by go_simp) (HPA.out _ hb6) ?_;intro v8 hv8;have hb8 := hb6.trans (hv8.mono hb6.size);refine ⟨hb8, ?_⟩;simp only [putLz];unfold rnAgg;have hx8 := (hv8.block _ (Array.getElem?_eq_some_iff.1 hx6).1).trans hx6;refine left_readE 7 rfl rfl (by kernel_rfl) ?_;apply Exists.intro;refine ⟨fun w' hw => ?_, ?_⟩
  ·
   clear hw;go_simp;rfl
  simp only [putLz];refine left_readE 8 rfl rfl (by kernel_rfl) ?_;apply Exists.intro;refine ⟨fun w' hw => ?_, ?_⟩
  ·
   clear hw;go_simp;rfl
  simp only [putLz];refine left_readE 9 rfl rfl (by kernel_rfl) ?_;apply Exists.intro;refine ⟨fun w' hw => ?_, ?_⟩
  ·
   clear hw;go_simp;rfl
  simp only [putLz];refine left_alts [11] (by kernel_rfl) (fun i hi hS o ho => ?_);simp only [memLz] at hi;subst hi;simp only [altLz] at ho;subst ho;refine ⟨rfl, ?_⟩;obtain ⟨e0, e1, e2, e3, e4, fz⟩ := cells5 hx8;refine oper_store (w' := set5 v8 bx 0 N) rfl (run_storeNode (k := 0) fz e0 e1 e2 e3 e4 _ _ _ _ _) ?_;have hbf : Below w.heap.size w (set5 v8 bx 0 N) := below_set5 hb8 hge N;have hxf := set5_new hx8 N;refine ⟨hbf, ?_⟩;simp only [putLz];clear e0 e1 e2 e3 e4 fz;refine left_readE 12 rfl rfl (by kernel_rfl) ?_;apply Exists.intro;refine ⟨fun w' hw => ?_, ?_⟩
  ·
   clear hw;go_simp;rfl
  simp only [putLz];refine left_end (by kernel_rfl) ?_;obtain ⟨y0, y1, y2, y3, y4, yz⟩ := cells5 hxf;clear HN HPA HC1;cases B
  ·
   go_wp2_with fail;refine bodyPost_ret (results_tmp4 rfl _ _ _) rfl ⟨?_, hbf⟩;rw [HRV.out];rfl
  ·
   go_upto_region 6 with fail
   go_quiet ((first | (with_reducible exact quiet_of_eq (HG.out _)) | (with_reducible exact quiet_of_eq (HFL.out _)) | (with_reducible exact quiet_of_eq (HFH.out _))))
   go_wp2_with fail;refine bodyPost_ret (results_tmp4 rfl _ _ _) rfl ⟨?_, below_drewN hbf _⟩;rw [HRV.out];rfl
open Go.RowKit
def bnOf (r : RN) : BN := ⟨r.v, r.lo, r.hi⟩
def nodesOf (d : StoreD) : Nat -> Option BN := fun i => (d.pool.get i).map bnOf
def cntOf (d : StoreD) : Nat -> Nat := fun i => d.counts.getD i 0
def StoreD.cd (d : StoreD) (cs : List Nat) (dd : Nat) : StoreD := { d with counts := cs, dead := dd }
theorem nodesOf_some {d : StoreD} {i : Nat} {b : BN} (h : nodesOf d i = some b) : d.pool.tk i = true /\ d.pool.has i = d.pool.nd i /\ bnOf (d.pool.has i) = b := by
 unfold nodesOf PoolD.get at h
 by_cases e : d.pool.tk i = true
 ·
  rw [if_pos e] at h;refine ⟨e, by unfold PoolD.has; rw [if_pos e], ?_⟩;unfold PoolD.has; rw [if_pos e]; simpa using h
 ·
  rw [if_neg e] at h; cases h
theorem nodesOf_none {d : StoreD} {i : Nat} (h : nodesOf d i = none) : d.pool.tk i = false := by
 unfold nodesOf PoolD.get at h
 by_cases e : d.pool.tk i = true
 ·
  rw [if_pos e] at h; cases h
 ·
  simpa using e
structure Acy (N : Nat -> Option BN) (rk : Nat -> Nat) : Prop where
 none0 : N 0 = none
 okLo : ∀ i b, N i = some b -> okE N b.lo
 okHi : ∀ i b, N i = some b -> okE N b.hi
 ltLo : ∀ i b c, N i = some b -> N (b.lo / 2) = some c -> rk (b.lo / 2) < rk i
 ltHi : ∀ i b c, N i = some b -> N (b.hi / 2) = some c -> rk (b.hi / 2) < rk i
structure LiveC (d : StoreD) (ext : Nat -> Int) : Prop where
 cnt : Cnt d.pool.at_.length (nodesOf d) (cntOf d) ext
 dead : (d.dead : Int) = deadN d.pool.at_.length (nodesOf d) (cntOf d)
 has : ∀ i b, nodesOf d i = some b -> i < d.counts.length
theorem sumTo_le {f : Nat -> Int} {B : Int} : ∀ (k : Nat), (∀ i, i < k -> f i <= B) -> sumTo k f <= k * B
 | 0, _ => by simp [sumTo]
 | k + 1, h => by
   have ih := sumTo_le k (fun i hi => h i (by omega));have h1 := h k (by omega);have : sumTo (k + 1) f = sumTo k f + f k := rfl;rw [this];have e : ((k + 1 : Nat) : Int) * B = k * B + B := by rw [Int.natCast_add, Int.add_mul]; simp
   omega
theorem from1_le (N : Nat -> Option BN) (c : Nat -> Nat) (x p : Nat) : from1 N c x p <= 2 := by
 unfold from1 edgesOf toE;split
 ·
  split
  ·
   split <;> split <;> omega
  ·
   omega
 ·
  omega
theorem Cnt.le {k : Nat} {N : Nat -> Option BN} {c : Nat -> Nat} {ext : Nat -> Int} (h : Cnt k N c ext) {x : Nat} {b : BN} (hx : N x = some b) : (c x : Int) <= ext x + 2 * k := by
 have h1 := h.eq x b hx;have h2 := sumTo_le (f := from1 N c x) (B := 2) k (fun i _ => from1_le N c x i);omega
theorem cntOf_set {d : StoreD} {x v dd : Nat} (hx : x < d.counts.length) : cntOf (d.cd (d.counts.set x v) dd) = setC (cntOf d) x v := by
 funext i;unfold cntOf setC StoreD.cd;dsimp only
 by_cases e : i = x
 ·
  subst e; simp [List.getD, hx]
 ·
  simp only [List.getD, List.getElem?_set, if_neg (Ne.symm e), if_neg e]
section
variable {d : StoreD} {ext : Nat -> Int} {x : Nat} {b : BN}
theorem LiveC.congr (h : LiveC d ext) {ext' : Nat -> Int} (he : ∀ x b, nodesOf d x = some b -> ext' x = ext x) : LiveC d ext' := ⟨h.cnt.congr he, h.dead, h.has⟩
theorem LiveC.moreLive (h : LiveC d ext) (hx : nodesOf d x = some b) (hc : 0 < cntOf d x) : LiveC (d.cd (d.counts.set x (cntOf d x + 1)) d.dead) (bump ext x 1) := by
 have hl := h.has x b hx;refine ⟨?_, ?_, fun i b' hb => by simpa [StoreD.cd] using h.has i b' hb⟩
 ·
  rw [cntOf_set hl]; exact h.cnt.moreLive hc
 ·
  rw [cntOf_set hl]
  show (d.dead : Int) = deadN d.pool.at_.length (nodesOf d) _
  rw [deadN_setC hx (h.cnt.lt x b hx), <- h.dead, if_neg (by omega), if_neg (by omega)]; omega
theorem LiveC.moreDead (h : LiveC d ext) (hx : nodesOf d x = some b) (hc : cntOf d x = 0) : 0 < d.dead /\ LiveC (d.cd (d.counts.set x 1) (d.dead - 1)) (addE (addE (bump ext x 1) b.lo (-1)) b.hi (-1)) := by
 have hl := h.has x b hx;have hk := h.cnt.lt x b hx;have h1 := deadN_setC (c := cntOf d) (v := 1) hx hk;rw [if_neg (by omega), if_pos hc, <- h.dead] at h1;have h2 : 0 <= deadN d.pool.at_.length (nodesOf d) (setC (cntOf d) x 1) := sumTo_nonneg _ fun i _ => dead1_nonneg _ _ i
 refine ⟨by omega, ?_, ?_, fun i b' hb => by simpa [StoreD.cd] using h.has i b' hb⟩
 ·
  rw [cntOf_set hl]; exact h.cnt.moreDead hx hc
 ·
  rw [cntOf_set hl]
  show ((d.dead - 1 : Nat) : Int) = deadN d.pool.at_.length (nodesOf d) _
  rw [h1]; omega
theorem LiveC.lessLive (h : LiveC d ext) (hx : nodesOf d x = some b) (hc : 1 < cntOf d x) : LiveC (d.cd (d.counts.set x (cntOf d x - 1)) d.dead) (bump ext x (-1)) := by
 have hl := h.has x b hx;refine ⟨?_, ?_, fun i b' hb => by simpa [StoreD.cd] using h.has i b' hb⟩
 ·
  rw [cntOf_set hl]; exact h.cnt.lessLive hc
 ·
  rw [cntOf_set hl]
  show (d.dead : Int) = deadN d.pool.at_.length (nodesOf d) _
  rw [deadN_setC hx (h.cnt.lt x b hx), <- h.dead, if_neg (by omega), if_neg (by omega)]; omega
theorem LiveC.lessDies (h : LiveC d ext) (hx : nodesOf d x = some b) (hc : cntOf d x = 1) : LiveC (d.cd (d.counts.set x 0) (d.dead + 1)) (addE (addE (bump ext x (-1)) b.lo 1) b.hi 1) := by
 have hl := h.has x b hx;have hk := h.cnt.lt x b hx;have h1 := deadN_setC (c := cntOf d) (v := 0) hx hk;rw [if_pos rfl, if_neg (by omega), <- h.dead] at h1;refine ⟨?_, ?_, fun i b' hb => by simpa [StoreD.cd] using h.has i b' hb⟩
 ·
  rw [cntOf_set hl]; exact h.cnt.lessDies hx hc
 ·
  rw [cntOf_set hl]
  show ((d.dead + 1 : Nat) : Int) = deadN d.pool.at_.length (nodesOf d) _
  rw [h1]; omega
end
def RCnt (r : Role) : Prop := r = .store \/ r = .counts
section
variable {o : Own} {w : World} {sb : Nat} {d : StoreD} {s : StoreW}
theorem StoreIn.countsAt (h : StoreIn o w sb d s) {x : Nat} (hx : x < d.counts.length) : ∃ gc cap, s.vc = .slice (some ⟨gc, 0, none⟩) d.counts.length cap /\ o gc = some .counts /\ gc ≠ sb /\ d.counts.length <= cap /\ cap <= maxLen /\ (∀ k, w.frozen? ⟨gc, k, none⟩ = false) /\
 (∀ k, k < d.counts.length -> w.cell? ⟨gc, k, none⟩ = some (.int .i64 (cntOf d k : Nat))) := by
 obtain ⟨gc, cap, hv, ho, h1, h2⟩ := h.counts.shape (by omega);have hr := h.counts;rw [hv] at hr;refine ⟨gc, cap, hv, ho, fun e => (by subst e; rw [h.own] at ho; cases ho), h1, h2, hr.frozen, fun k hk => ?_⟩;rw [hr.cell k (by simpa using hk), List.getElem?_map, List.getElem?_eq_getElem hk];simp [nat64, cntOf, List.getD, hk]
theorem StoreIn.keepBut (h : StoreIn o w sb d s) {d' : StoreD} {w' : World} {g : Nat} (hg : o g = some .counts \/ o g = some .store) (hk : ∀ k, k ≠ g -> w'.heap[k]? = w.heap[k]?)
 (hb : ∃ dd cs, w'.heap[sb]? = some (.cells #[.pointer (some ⟨s.lb, 0, none⟩), .pointer (some ⟨s.pb, 0, none⟩), s.vt, s.vc, .int .i64 (dd : Nat)] 145 (0, 0)) /\ RowR o w' .counts 3 1 s.vc cs.length (cs.map nat64) /\ d' = d.cd cs dd) : StoreIn o w' sb d' s := by
 obtain ⟨dd, cs, h1, h2, rfl⟩ := hb;have hne : ∀ {b r}, o b = some r -> r ≠ .counts -> r ≠ .store -> b ≠ g := fun hb hr hr' e => by subst e; rcases hg with hg | hg <;> rw [hb] at hg <;> cases hg <;> contradiction
 exact ⟨h.own, h.ownl, h1, (hk _ (hne h.ownl (by simp) (by simp))).trans h.lev, h.vars.keep (fun b hb => hk _ (hne hb (by simp) (by simp))) (fun _ h => h), h.level.keep (fun b hb => hk _ (hne hb (by simp) (by simp))) (fun _ h => h),
  h.pool.keep (fun b r hb hr => hk _ (hne hb (by rcases hr with rfl | rfl | rfl | rfl <;> simp) (by rcases hr with rfl | rfl | rfl | rfl <;> simp))) (fun _ _ h => h),
  h.tabs.keep (fun b hb => hk _ (hne hb (by simp) (by simp))) (fun _ h => h),
  fun v hv => (h.tab v hv).keep (fun b r hb hr => hk _ (hne hb (by rcases hr with rfl | rfl <;> simp) (by rcases hr with rfl | rfl <;> simp))) (fun _ _ h => h), h2, h.len, h.tlen⟩
theorem StoreIn.setCount (h : StoreIn o w sb d s) {gc cap : Nat} (hv : s.vc = .slice (some ⟨gc, 0, none⟩) d.counts.length cap) (hne : gc ≠ sb) (x v : Nat) : StoreIn o (w.setCell ⟨gc, x, none⟩ (.int .i64 v)) sb (d.cd (d.counts.set x v) d.dead) s := by
 have hr := h.counts;rw [hv] at hr;refine h.keepBut (g := gc) (.inl hr.owner) (fun k hk => heap_setCell_ne hk _) ⟨d.dead, _, (heap_setCell_ne (Ne.symm hne) _).trans h.blk, ?_, rfl⟩;have := hr.stored x (.int .i64 v);rw [hv, List.length_set, List.map_set]; exact this
theorem StoreIn.setDead (h : StoreIn o w sb d s) (hlt : OwnLt o w) (dd : Nat) : StoreIn o (w.setCell ⟨sb, 4, none⟩ (.int .i64 dd)) sb (d.cd d.counts dd) s := by
 refine h.keepBut (g := sb) (.inr h.own) (fun k hk => heap_setCell_ne hk _) ⟨dd, d.counts, ?_, ?_, rfl⟩
 ·
  exact heap_setCell_same (k := 4) h.blk _
 ·
  exact h.counts.keep (fun b hb => heap_setCell_ne (fun e => by have e' : b = sb := e; subst e'; rw [h.own] at hb; cases hb) _) (fun _ h => h)
end
open Go.RowKit
theorem results_0 {fn : Func} (h : fn.results = #[]) (tmps : Array Value) (P : Program) (w : World) : (results fn tmps).run P w = .ok (.tuple #[]) w := by simp [results, h]
def CountPost (o : Own) (w : World) (sb : Nat) (d : StoreD) (s : StoreW) (rk : Nat -> Nat) (m : Nat) (less : Bool) (ext' : Nat -> Int) (e : Ending) (w' : World) : Prop :=
 ∃ cs dd, e = .returned (.tuple #[]) /\ StoreIn o w' sb (d.cd cs dd) s /\ LiveC (d.cd cs dd) ext' /\ cs.length = d.counts.length /\ (∀ i, m <= rk i -> cs.getD i 0 = d.counts.getD i 0) /\ (less = true -> ∀ i, cs.getD i 0 <= d.counts.getD i 0) /\ Chg RCnt o o w w'
structure MoreOk (o : Own) (w : World) (sb : Nat) (d : StoreD) (s : StoreW) (rk : Nat -> Nat) (ext : Nat -> Int) (f : Nat) (m : Nat) : Prop where
 st : StoreIn o w sb d s
 lt : OwnLt o w
 acy : Acy (nodesOf d) rk
 ok : okE (nodesOf d) f
 live : LiveC d ext
 top : ∀ y b, nodesOf d y = some b -> ext y + toE f y <= 1099511627776
 low : f / 2 = 0 \/ rk (f / 2) < m
structure LessOk (o : Own) (w : World) (sb : Nat) (d : StoreD) (s : StoreW) (rk : Nat -> Nat) (ext : Nat -> Int) (f : Nat) (m : Nat) : Prop where
 st : StoreIn o w sb d s
 lt : OwnLt o w
 acy : Acy (nodesOf d) rk
 ok : okE (nodesOf d) f
 live : LiveC d ext
 top : ∀ y b, nodesOf d y = some b -> cntOf d y <= 2199023255552
 pos : ∀ y b, nodesOf d y = some b -> 0 <= ext y - toE f y
 low : f / 2 = 0 \/ rk (f / 2) < m
theorem StoreIn.tk_lt {o : Own} {w : World} {sb : Nat} {d : StoreD} {s : StoreW} (h : StoreIn o w sb d s) {i : Nat} {b : BN} (hi : nodesOf d i = some b) : 0 < i /\ i < d.pool.at_.length /\ d.pool.at_.length <= 1048577 := by
 have h1 := h.pool.tk_lt (nodesOf_some hi).1;have h2 := h.pool.top;have h3 := h.pool.room;omega
theorem StoreIn.edge_lt {o : Own} {w : World} {sb : Nat} {d : StoreD} {s : StoreW} (h : StoreIn o w sb d s) {f : Nat} (hf : okE (nodesOf d) f) : f < 2097156 := by
 rcases hf with h0 | ⟨b, hb⟩
 ·
  omega
 ·
  have := h.tk_lt hb; omega
theorem addE_bump {ext : Nat -> Int} {f : Nat} : addE ext f 1 = bump ext (f / 2) 1 := by
 funext y;unfold addE bump toE
 by_cases e : f / 2 = y
 ·
  subst e; simp
 ·
  simp [e, Ne.symm e]
theorem addE_bump' {ext : Nat -> Int} {f : Nat} : addE ext f (-1) = bump ext (f / 2) (-1) := by
 funext y;unfold addE bump toE
 by_cases e : f / 2 = y
 ·
  subst e; simp
 ·
  simp [e, Ne.symm e]
theorem more_live {o : Own} {w : World} {sb : Nat} {d : StoreD} {s : StoreW} {rk : Nat -> Nat} {ext : Nat -> Int} {f m : Nat} (h : MoreOk o w sb d s rk ext f m) {b : BN} (hx : nodesOf d (enode f) = some b) (hc : 0 < cntOf d (enode f)) :
 Calls Tryz.prog 139 #[.pointer (some ⟨sb, 0, none⟩), .int .i64 f] w (CountPost o w sb d s rk m false (addE ext f 1)) := by
 have hfl := h.st.edge_lt h.ok;have hf : f < eMax := by unfold eMax; omega
 have hxl := h.live.has _ _ hx;obtain ⟨gc, cap, hv, hgo, hne, hlc, hcm, hfz, hcell⟩ := h.st.countsAt hxl;obtain ⟨c0, c1, c2, c3, c4, f0⟩ := cells5 h.st.blk;rw [hv] at c3;have hcx := hcell _ hxl;have hfx := hfz (enode f);have hcb := h.live.cnt.le hx;have htop := h.top _ _ hx;rw [show toE f (enode f) = 1 from toE_hit f] at htop;have htk' := h.st.tk_lt hx;have htk := h.st.tk_lt hx;have HLOW : Hid (∀ i, m <= rk i -> (d.counts.set (enode f) (cntOf d (enode f) + 1)).getD i 0 = d.counts.getD i 0) := fun i hi => by
  have : enode f ≠ i := by
   rintro rfl;rcases h.low with h0 | h0
   ·
    have : enode f = 0 := h0;omega
   ·
    have e : f / 2 = enode f := rfl;rw [e] at h0; omega
  simp only [List.getD, List.getElem?_set, if_neg this]
 have HLE : Hid (false = true -> ∀ i, (d.counts.set (enode f) (cntOf d (enode f) + 1)).getD i 0 <= d.counts.getD i 0) := fun e => (by cases e)
 have HPOST : Hid (StoreIn o (w.setCell ⟨gc, enode f, none⟩ (.int .i64 ((cntOf d (enode f) + 1 : Nat) : Int))) sb (d.cd (d.counts.set (enode f) (cntOf d (enode f) + 1)) d.dead) s /\ LiveC (d.cd (d.counts.set (enode f) (cntOf d (enode f) + 1)) d.dead) (addE ext f 1)) :=
  ⟨h.st.setCount hv hne _ _, by rw [addE_bump]; exact h.live.moreLive hx hc⟩
 have HCHG := Lib.hid ((Chg.refl RCnt o w).setCell (p := ⟨gc, enode f, none⟩) hgo (.inr rfl) (.int .i64 ((cntOf d (enode f) + 1 : Nat) : Int)));rw [show ((cntOf d (enode f) + 1 : Nat) : Int) = (cntOf d (enode f) : Nat) + 1 from by omega] at HPOST HCHG;have hid0 : ((enode f : Nat) : Int) ≠ 0 := by have := htk.1; omega
 have HN := Lib.hid (fun W => node_any f W hf);have hne' : sb ≠ gc := fun e => hne e.symm
 have hxl' : ((enode f : Nat) : Int) < d.counts.length := by omega
 obtain ⟨k, hk⟩ : ∃ k, k = enode f := ⟨_, rfl⟩;obtain ⟨c, hcc⟩ : ∃ c, c = cntOf d (enode f) := ⟨_, rfl⟩;have hcb1 : c <= 2199023255552 := by omega
 have hc1 : 0 < c := by omega
 rw [<- hcc] at hcx HPOST HCHG HLOW HLE;rw [<- hk] at hcx hfx HPOST HCHG hid0 HN hxl' HLOW HLE;have hk0 : ((k : Int) == 0) = false := by simpa using hid0
 have hk1 : 0 < k := by omega
 have hcm' : d.counts.length <= 9223372036854775807 := by unfold maxLen at hcm; omega
 have hc3 : (1 : Int) < (c : Int) + 1 := by omega
 clear h hx hc hv hgo hlc hcm hfz hcell hk hcc htop htk hid0 hxl hfl hf
 go_enter Tryz.func139, Tryz.ntmps139
 go_wp2_with fail;refine (HN.out _).mono ?_;rintro x w' ⟨rfl, rfl⟩;go_wp2_with fail;refine bodyPost_ret (results_0 rfl _ _ _) rfl ⟨_, _, rfl, HPOST.out.1, HPOST.out.2, by simp, HLOW.out, (fun e => by first | exact absurd e (by decide) | exact HLE.out (by simp)), HCHG.out⟩
theorem more_none {o : Own} {w : World} {sb : Nat} {d : StoreD} {s : StoreW} {rk : Nat -> Nat} {ext : Nat -> Int} {f m : Nat} (h : MoreOk o w sb d s rk ext f m) (hx : enode f = 0) :
 Calls Tryz.prog 139 #[.pointer (some ⟨sb, 0, none⟩), .int .i64 f] w (CountPost o w sb d s rk m false (addE ext f 1)) := by
 have hf : f < eMax := by have := h.st.edge_lt h.ok; unfold eMax; omega
 have HPOST : Hid (CountPost o w sb d s rk m false (addE ext f 1) (.returned (.tuple #[])) w) :=
  ⟨d.counts, d.dead, rfl, h.st, h.live.congr (fun y b hb => by
   have : y ≠ 0 := by rintro rfl; rw [h.acy.none0] at hb; cases hb
   have e : f / 2 = 0 := hx;simp [addE, toE, e, Ne.symm this]), rfl, fun _ _ => rfl, fun _ _ => Nat.le_refl _, Chg.refl _ _ _⟩
 have HN := Lib.hid (fun W => node_any f W hf);rw [hx] at HN;clear h hx hf
 go_enter Tryz.func139, Tryz.ntmps139
 go_wp2_with fail;refine (HN.out _).mono ?_;rintro x w' ⟨rfl, rfl⟩;go_wp2_with fail;refine bodyPost_ret (results_0 rfl _ _ _) rfl HPOST.out
theorem more_dead {o : Own} {w : World} {sb : Nat} {d : StoreD} {s : StoreW} {rk : Nat -> Nat} {ext : Nat -> Int} {f m : Nat} (h : MoreOk o w sb d s rk ext f (m + 1)) {b : BN} (hx : nodesOf d (enode f) = some b) (hc : cntOf d (enode f) = 0)
 (ih : ∀ w d ext f, MoreOk o w sb d s rk ext f m -> Calls Tryz.prog 139 #[.pointer (some ⟨sb, 0, none⟩), .int .i64 f] w (CountPost o w sb d s rk m false (addE ext f 1))) :
 Calls Tryz.prog 139 #[.pointer (some ⟨sb, 0, none⟩), .int .i64 f] w (CountPost o w sb d s rk (m + 1) false (addE ext f 1)) := by
 have hfl := h.st.edge_lt h.ok;have hf : f < eMax := by unfold eMax; omega
 have hxl := h.live.has _ _ hx;obtain ⟨gc, cap, hv, hgo, hne, hlc, hcm, hfz, hcell⟩ := h.st.countsAt hxl;obtain ⟨c0, c1, c2, c3, c4, f0⟩ := cells5 h.st.blk;rw [hv] at c3;have hcx := hcell _ hxl;have hfx := hfz (enode f);have htk := h.st.tk_lt hx;obtain ⟨hdp, hlv⟩ := h.live.moreDead hx hc;have hdb : d.dead <= 1048577 := by
  have h1 := h.live.dead;have h2 := sumTo_le (f := dead1 (nodesOf d) (cntOf d)) (B := 1) d.pool.at_.length (fun i _ => by unfold dead1; split <;> first | omega | (split <;> omega));have h3 : deadN d.pool.at_.length (nodesOf d) (cntOf d) = sumTo d.pool.at_.length (dead1 (nodesOf d) (cntOf d)) := rfl;omega
 have HLT := Lib.hid h.lt;have HLOW : ∀ i, m + 1 <= rk i -> (d.counts.set (enode f) 1).getD i 0 = d.counts.getD i 0 := fun i hi => by
  have : enode f ≠ i := by
   rintro rfl;rcases h.low with h0 | h0
   ·
    have : enode f = 0 := h0;omega
   ·
    have e : f / 2 = enode f := rfl;rw [e] at h0; omega
  simp only [List.getD, List.getElem?_set, if_neg this]
 have HLE : false = true -> ∀ i, (d.counts.set (enode f) 1).getD i 0 <= d.counts.getD i 0 := fun e => (by cases e)
 have hrk : rk (enode f) <= m := by
  rcases h.low with h0 | h0
  ·
   have : enode f = 0 := h0;omega
  ·
   have e : f / 2 = enode f := rfl;rw [e] at h0; omega
 have hlow : ∀ e, (okE (nodesOf d) e) -> (∀ c, nodesOf d (e / 2) = some c -> rk (e / 2) < rk (enode f)) -> e / 2 = 0 \/ rk (e / 2) < m := fun e ho hr => by
  rcases ho with h0 | ⟨c, hc⟩
  ·
   exact .inl h0
  ·
   exact .inr (by have := hr c hc; omega)
 have st1 : StoreIn o (w.setCell ⟨gc, enode f, none⟩ (.int .i64 ((1 : Nat) : Int))) sb (d.cd (d.counts.set (enode f) 1) d.dead) s := h.st.setCount hv hne _ _;have hlt1 : OwnLt o (w.setCell ⟨gc, enode f, none⟩ (.int .i64 ((1 : Nat) : Int))) := h.lt.mono (by simp [World.setCell]);have st2 : StoreIn o ((w.setCell ⟨gc, enode f, none⟩ (.int .i64 ((1 : Nat) : Int))).setCell ⟨sb, 4, none⟩ (.int .i64 ((d.dead - 1 : Nat) : Int))) sb (d.cd (d.counts.set (enode f) 1) (d.dead - 1)) s := st1.setDead hlt1 _;have HCHG := Lib.hid (((Chg.refl RCnt o w).setCell (p := ⟨gc, enode f, none⟩) hgo (.inr rfl) (.int .i64 ((1 : Nat) : Int))).setCell (p := ⟨sb, 4, none⟩) h.st.own (.inl rfl) (.int .i64 ((d.dead - 1 : Nat) : Int)));have hlt2 : OwnLt o ((w.setCell ⟨gc, enode f, none⟩ (.int .i64 ((1 : Nat) : Int))).setCell ⟨sb, 4, none⟩ (.int .i64 ((d.dead - 1 : Nat) : Int))) := hlt1.mono (by simp [World.setCell]);have hpa := nodesOf_some hx;have hbN : ∃ N, N = d.pool.has (enode f) /\ N.lo = b.lo /\ N.hi = b.hi := ⟨_, rfl, by rw [<- hpa.2.2]; rfl, by rw [<- hpa.2.2]; rfl⟩;have hex : addE (addE (addE (addE (bump ext (enode f) 1) b.lo (-1)) b.hi (-1)) b.lo 1) b.hi 1 = addE ext f 1 := by
  funext y;have h1 := congrFun (addE_bump (ext := ext) (f := f)) y;have h2 : enode f = f / 2 := rfl;rw [h2, h1];simp only [addE];omega
 obtain ⟨W2, hW2⟩ : ∃ W, W = (w.setCell ⟨gc, enode f, none⟩ (.int .i64 ((1 : Nat) : Int))).setCell ⟨sb, 4, none⟩ (.int .i64 ((d.dead - 1 : Nat) : Int)) := ⟨_, rfl⟩;rw [<- hW2] at st2 HCHG hlt2;have HLT2 := Lib.hid hlt2;have HPA : Hid (∀ W : World, Below W2.heap.size W2 W -> Calls Tryz.prog 123 #[.pointer (some ⟨s.pb, 0, none⟩), .int .i64 (enode f : Nat)] W fun x w' => x = .returned (.tuple #[rnAgg (d.pool.has (enode f)), .bool (d.pool.tk (enode f))]) /\ Below W.heap.size W w') :=
  Lib.hid (fun W hb => poolAt_any o s.pb d.pool (enode f) W (st2.pool.below hb hlt2) (hlt2.mono hb.size))
 have HC1 : Hid (∀ W : World, Below W2.heap.size W2 W -> W.cell? ⟨sb, 1, none⟩ = some (.pointer (some ⟨s.pb, 0, none⟩))) := Lib.hid (fun W hb => (cells5 (st2.below hlt2 hb).blk).2.1);have HLO : Hid (∀ W : World, Below W2.heap.size W2 W -> Calls Tryz.prog 139 #[.pointer (some ⟨sb, 0, none⟩), .int .i64 (b.lo : Nat)] W (CountPost o W sb (d.cd (d.counts.set (enode f) 1) (d.dead - 1)) s rk m false (addE (addE (addE (bump ext (enode f) 1) b.lo (-1)) b.hi (-1)) b.lo 1))) :=
  Lib.hid (fun W hb => ih W _ _ b.lo ⟨st2.below hlt2 hb, hlt2.mono hb.size, h.acy, h.acy.okLo _ _ hx, hlv, fun y q hq => by
   have h1 := h.top y q hq;have h2 : toE f y = if enode f = y then 1 else 0 := rfl
   have h3 := toE_nonneg b.lo y;have h4 := toE_nonneg b.hi y;simp only [addE, bump]
   by_cases e : y = enode f
   ·
    rw [if_pos e.symm] at h2; rw [if_pos e]; omega
   ·
    rw [if_neg (Ne.symm e)] at h2; rw [if_neg e]; omega, hlow b.lo (h.acy.okLo _ _ hx) (fun c hc => h.acy.ltLo _ _ c hx hc)⟩)
 have HHI : Hid (∀ (W : World) (cs : List Nat) (dd : Nat), StoreIn o W sb ((d.cd (d.counts.set (enode f) 1) (d.dead - 1)).cd cs dd) s -> LiveC ((d.cd (d.counts.set (enode f) 1) (d.dead - 1)).cd cs dd) (addE (addE (addE (bump ext (enode f) 1) b.lo (-1)) b.hi (-1)) b.lo 1) -> (false = true -> ∀ i, cs.getD i 0 <= (d.counts.set (enode f) 1).getD i 0) -> Chg RCnt o o w W ->
  Calls Tryz.prog 139 #[.pointer (some ⟨sb, 0, none⟩), .int .i64 (b.hi : Nat)] W (CountPost o W sb ((d.cd (d.counts.set (enode f) 1) (d.dead - 1)).cd cs dd) s rk m false (addE ext f 1))) :=
  Lib.hid (fun W cs dd hs hl hle hch => by
   rw [<- hex]
   exact ih W _ _ b.hi ⟨hs, HLT.out.mono hch.size, h.acy, h.acy.okHi _ _ hx, hl, fun y q hq => by
    have h1 := h.top y q hq;have h2 : toE f y = if enode f = y then 1 else 0 := rfl
    have h3 := toE_nonneg b.lo y;have h4 := toE_nonneg b.hi y;simp only [addE, bump]
    by_cases e : y = enode f
    ·
     rw [if_pos e.symm] at h2; rw [if_pos e]; omega
    ·
     rw [if_neg (Ne.symm e)] at h2; rw [if_neg e]; omega, hlow b.hi (h.acy.okHi _ _ hx) (fun c hc => h.acy.ltHi _ _ c hx hc)⟩)
 have HEND : Hid (∀ (W : World) (cs : List Nat) (dd : Nat), StoreIn o W sb (d.cd cs dd) s -> LiveC (d.cd cs dd) (addE ext f 1) -> cs.length = (d.counts.set (enode f) 1).length -> (∀ i, m + 1 <= rk i -> cs.getD i 0 = (d.counts.set (enode f) 1).getD i 0) -> (false = true -> ∀ i, cs.getD i 0 <= (d.counts.set (enode f) 1).getD i 0) -> Chg RCnt o o w W ->
  CountPost o w sb d s rk (m + 1) false (addE ext f 1) (.returned (.tuple #[])) W) :=
  fun W cs dd hs hl hlen hlw hle hch => ⟨cs, dd, rfl, hs, hl, by rw [hlen]; simp, fun i hi => (hlw i hi).trans (HLOW i hi), fun e i => Nat.le_trans (hle e i) (HLE e i), hch⟩
 have HWE : Hid (W2 = (w.setCell ⟨gc, enode f, none⟩ (.int .i64 1)).setCell ⟨sb, 4, none⟩ (.int .i64 ((d.dead : Int) - 1))) := by
  show _ = _
  rw [hW2, show ((d.dead - 1 : Nat) : Int) = (d.dead : Int) - 1 from by omega]; rfl
 have hid0 : ((enode f : Nat) : Int) ≠ 0 := by have := htk.1; omega
 have HN := Lib.hid (fun W => node_any f W hf);have hne' : sb ≠ gc := fun e => hne e.symm
 have hxl' : ((enode f : Nat) : Int) < d.counts.length := by omega
 obtain ⟨N, hN, hNlo, hNhi⟩ := hbN;rw [<- hN] at HPA;rw [<- hNlo, <- hNhi] at HLO HHI;obtain ⟨B, hB⟩ : ∃ B, B = d.pool.tk (enode f) := ⟨_, rfl⟩;rw [<- hB] at HPA;rw [hc] at hcx;obtain ⟨k, hk⟩ : ∃ k, k = enode f := ⟨_, rfl⟩;rw [<- hk] at hcx hfx HPA hid0 HN hxl' HWE;have hk0 : ((k : Int) == 0) = false := by simpa using hid0
 have hk1 : 0 < k := by omega
 have hcm' : d.counts.length <= 9223372036854775807 := by unfold maxLen at hcm; omega
 obtain ⟨dn, hdn⟩ : ∃ n, n = d.dead := ⟨_, rfl⟩;rw [<- hdn] at c4 hdb HWE hdp;clear ih h hx hc hv hgo hlc hcm hfz hcell htk hid0 hxl hfl hf hlv st1 st2 hlt1 hlt2 HLOW HLE hrk hlow hW2 hex hN hNlo hNhi hB hdn hpa hk
 go_enter Tryz.func139, Tryz.ntmps139
 go_wp2_with fail;refine (HN.out _).mono ?_;rintro x w' ⟨rfl, rfl⟩;go_wp2_with fail;rw [<- HWE.out];refine (HPA.out W2 (Below.refl _ _)).mono ?_;rintro x v2 ⟨rfl, hb2⟩;unfold rnAgg;clear HWE c0 c1 c2 c3 c4 f0 hcx hfx HN hne hne' hxl' hk0 hk1 hcm' hdb hdp;go_wp2_with fail;obtain ⟨W3, hW3⟩ : ∃ W, W = v2.alloc (.cells #[.int .i64 N.id, .int .i64 N.v, .int .i64 N.lo, .int .i64 N.hi, .int .i64 N.refs] 157) := ⟨_, rfl⟩;obtain ⟨bx, hbx⟩ : ∃ bx, bx = v2.heap.size := ⟨_, rfl⟩;have hge : W2.heap.size <= bx := by rw [hbx]; exact hb2.size
 have hbf : Below W2.heap.size W2 W3 := by rw [hW3]; exact hb2.alloc hb2.size _
 have hxf : W3.heap[bx]? = some (.cells #[.int .i64 N.id, .int .i64 N.v, .int .i64 N.lo, .int .i64 N.hi, .int .i64 N.refs] 157 (0, 0)) := by rw [hW3, hbx]; exact heap_alloc_new v2 _
 rw [<- hW3];rw [<- hbx];clear hW3 hbx hb2 HPA HC1;refine (HLO.out _ hbf).mono ?_;rintro x w1 ⟨cs1, dd1, rfl, st1, lv1, len1, low1, le1, chg1⟩;have hxg := (chg1.alien (Array.getElem?_eq_some_iff.1 hxf).1 (HLT2.out.none hge)).trans hxf;obtain ⟨z0, z1, z2, z3, z4, zz⟩ := cells5 hxg;have HS1 := Lib.hid st1;have HL1 := Lib.hid lv1;have HE1 := Lib.hid len1;have HW1 := Lib.hid low1;have HI1 := Lib.hid le1;have HC3 := Lib.hid ((HCHG.out.trans (Chg.of_below hbf RCnt o)).trans chg1);clear st1 lv1 len1 low1 le1 chg1 hxf hxg hbf;go_wp2_with fail;refine (HHI.out w1 cs1 dd1 HS1.out HL1.out (fun e => by first | exact absurd e (by decide) | exact HI1.out (by simp)) HC3.out).mono ?_;rintro x w2 ⟨cs2, dd2, rfl, st2, lv2, len2, low2, le2, chg2⟩;have HFIN := Lib.hid (HEND.out w2 cs2 dd2 st2 lv2 (len2.trans HE1.out) (fun i hi => (low2 i (by omega)).trans (HW1.out i (by omega))) (fun e i => by first | exact absurd e (by decide) | exact Nat.le_trans (le2 (by simp) i) (HI1.out (by simp) i)) (HC3.out.trans chg2));clear st2 lv2 len2 low2 le2 chg2;go_wp2_with fail;refine bodyPost_end (results_0 rfl _ _ _) rfl HFIN.out
theorem storeMore_any (o : Own) (sb : Nat) (s : StoreW) (rk : Nat -> Nat) : ∀ (m : Nat) (w : World) (d : StoreD) (ext : Nat -> Int) (f : Nat), MoreOk o w sb d s rk ext f m ->
 Calls Tryz.prog 139 #[.pointer (some ⟨sb, 0, none⟩), .int .i64 f] w (CountPost o w sb d s rk m false (addE ext f 1))
 | m, w, d, ext, f, h => by
   by_cases h0 : enode f = 0
   ·
    exact more_none h h0
   ·
    obtain ⟨b, hx⟩ : ∃ b, nodesOf d (enode f) = some b := h.ok.resolve_left h0
    by_cases hc : 0 < cntOf d (enode f)
    ·
     exact more_live h hx hc
    ·
     cases m with
     | zero => exact absurd (h.low.resolve_left h0) (by omega)
     | succ m => exact more_dead h hx (by omega) (storeMore_any o sb s rk m)
open Go.RowKit
theorem less_live {o : Own} {w : World} {sb : Nat} {d : StoreD} {s : StoreW} {rk : Nat -> Nat} {ext : Nat -> Int} {f m : Nat} (h : LessOk o w sb d s rk ext f m) {b : BN} (hx : nodesOf d (enode f) = some b) (hc : 1 < cntOf d (enode f)) :
 Calls Tryz.prog 142 #[.pointer (some ⟨sb, 0, none⟩), .int .i64 f] w (CountPost o w sb d s rk m true (addE ext f (-1))) := by
 have hfl := h.st.edge_lt h.ok;have hf : f < eMax := by unfold eMax; omega
 have hxl := h.live.has _ _ hx;obtain ⟨gc, cap, hv, hgo, hne, hlc, hcm, hfz, hcell⟩ := h.st.countsAt hxl;obtain ⟨c0, c1, c2, c3, c4, f0⟩ := cells5 h.st.blk;rw [hv] at c3;have hcx := hcell _ hxl;have hfx := hfz (enode f);have htop := h.top (enode f) _ hx;have htk := h.st.tk_lt hx;have HLOW : Hid (∀ i, m <= rk i -> (d.counts.set (enode f) (cntOf d (enode f) - 1)).getD i 0 = d.counts.getD i 0) := fun i hi => by
  have : enode f ≠ i := by
   rintro rfl;rcases h.low with h0 | h0
   ·
    have : enode f = 0 := h0;omega
   ·
    have e : f / 2 = enode f := rfl;rw [e] at h0; omega
  simp only [List.getD, List.getElem?_set, if_neg this]
 have HLE : Hid (true = true -> ∀ i, (d.counts.set (enode f) (cntOf d (enode f) - 1)).getD i 0 <= d.counts.getD i 0) := fun _ i => by
  by_cases e : enode f = i
  ·
   subst e; simp only [List.getD, List.getElem?_set]; simp [hxl, cntOf, List.getD]
  ·
   simp only [List.getD, List.getElem?_set, if_neg e]; omega
 have HPOST : Hid (StoreIn o (w.setCell ⟨gc, enode f, none⟩ (.int .i64 ((cntOf d (enode f) - 1 : Nat) : Int))) sb (d.cd (d.counts.set (enode f) (cntOf d (enode f) - 1)) d.dead) s /\ LiveC (d.cd (d.counts.set (enode f) (cntOf d (enode f) - 1)) d.dead) (addE ext f (-1))) :=
  ⟨h.st.setCount hv hne _ _, by rw [addE_bump']; exact h.live.lessLive hx hc⟩
 have HCHG := Lib.hid ((Chg.refl RCnt o w).setCell (p := ⟨gc, enode f, none⟩) hgo (.inr rfl) (.int .i64 ((cntOf d (enode f) - 1 : Nat) : Int)));rw [show ((cntOf d (enode f) - 1 : Nat) : Int) = (cntOf d (enode f) : Nat) - 1 from by omega] at HPOST HCHG;have hid0 : ((enode f : Nat) : Int) ≠ 0 := by have := htk.1; omega
 have HN := Lib.hid (fun W => node_any f W hf);have hne' : sb ≠ gc := fun e => hne e.symm
 have hxl' : ((enode f : Nat) : Int) < d.counts.length := by omega
 obtain ⟨k, hk⟩ : ∃ k, k = enode f := ⟨_, rfl⟩;obtain ⟨c, hcc⟩ : ∃ c, c = cntOf d (enode f) := ⟨_, rfl⟩;have hcb1 : c <= 2199023255552 := by omega
 have hc1 : 1 < c := by omega
 rw [<- hcc] at hcx HPOST HCHG HLOW HLE;rw [<- hk] at hcx hfx HPOST HCHG hid0 HN hxl' HLOW HLE;have hk0 : ((k : Int) == 0) = false := by simpa using hid0
 have hk1 : 0 < k := by omega
 have hcm' : d.counts.length <= 9223372036854775807 := by unfold maxLen at hcm; omega
 have hc3 : (1 : Int) < (c : Int) := by omega
 clear h hx hc hv hgo hlc hcm hfz hcell hk hcc htop htk hid0 hxl hfl hf
 go_enter Tryz.func142, Tryz.ntmps142
 go_wp2_with fail;refine (HN.out _).mono ?_;rintro x w' ⟨rfl, rfl⟩;go_wp2_with fail;refine bodyPost_ret (results_0 rfl _ _ _) rfl ⟨_, _, rfl, HPOST.out.1, HPOST.out.2, by simp, HLOW.out, (fun e => by first | exact absurd e (by decide) | exact HLE.out (by simp)), HCHG.out⟩
theorem less_none {o : Own} {w : World} {sb : Nat} {d : StoreD} {s : StoreW} {rk : Nat -> Nat} {ext : Nat -> Int} {f m : Nat} (h : LessOk o w sb d s rk ext f m) (hx : enode f = 0) :
 Calls Tryz.prog 142 #[.pointer (some ⟨sb, 0, none⟩), .int .i64 f] w (CountPost o w sb d s rk m true (addE ext f (-1))) := by
 have hf : f < eMax := by have := h.st.edge_lt h.ok; unfold eMax; omega
 have HPOST : Hid (CountPost o w sb d s rk m true (addE ext f (-1)) (.returned (.tuple #[])) w) :=
  ⟨d.counts, d.dead, rfl, h.st, h.live.congr (fun y b hb => by
   have : y ≠ 0 := by rintro rfl; rw [h.acy.none0] at hb; cases hb
   have e : f / 2 = 0 := hx;simp [addE, toE, e, Ne.symm this]), rfl, fun _ _ => rfl, fun _ _ => Nat.le_refl _, Chg.refl _ _ _⟩
 have HN := Lib.hid (fun W => node_any f W hf);rw [hx] at HN;clear h hx hf
 go_enter Tryz.func142, Tryz.ntmps142
 go_wp2_with fail;refine (HN.out _).mono ?_;rintro x w' ⟨rfl, rfl⟩;go_wp2_with fail;refine bodyPost_ret (results_0 rfl _ _ _) rfl HPOST.out
theorem less_dead {o : Own} {w : World} {sb : Nat} {d : StoreD} {s : StoreW} {rk : Nat -> Nat} {ext : Nat -> Int} {f m : Nat} (h : LessOk o w sb d s rk ext f (m + 1)) {b : BN} (hx : nodesOf d (enode f) = some b) (hc : cntOf d (enode f) = 1)
 (ih : ∀ w d ext f, LessOk o w sb d s rk ext f m -> Calls Tryz.prog 142 #[.pointer (some ⟨sb, 0, none⟩), .int .i64 f] w (CountPost o w sb d s rk m true (addE ext f (-1)))) :
 Calls Tryz.prog 142 #[.pointer (some ⟨sb, 0, none⟩), .int .i64 f] w (CountPost o w sb d s rk (m + 1) true (addE ext f (-1))) := by
 have hfl := h.st.edge_lt h.ok;have hf : f < eMax := by unfold eMax; omega
 have hxl := h.live.has _ _ hx;obtain ⟨gc, cap, hv, hgo, hne, hlc, hcm, hfz, hcell⟩ := h.st.countsAt hxl;obtain ⟨c0, c1, c2, c3, c4, f0⟩ := cells5 h.st.blk;rw [hv] at c3;have hcx := hcell _ hxl;have hfx := hfz (enode f);have htk := h.st.tk_lt hx;have hlv := h.live.lessDies hx hc;have hdb : d.dead <= 1048577 := by
  have h1 := h.live.dead;have h2 := sumTo_le (f := dead1 (nodesOf d) (cntOf d)) (B := 1) d.pool.at_.length (fun i _ => by unfold dead1; split <;> first | omega | (split <;> omega));have h3 : deadN d.pool.at_.length (nodesOf d) (cntOf d) = sumTo d.pool.at_.length (dead1 (nodesOf d) (cntOf d)) := rfl;omega
 have HLT := Lib.hid h.lt;have HLOW : ∀ i, m + 1 <= rk i -> (d.counts.set (enode f) 0).getD i 0 = d.counts.getD i 0 := fun i hi => by
  have : enode f ≠ i := by
   rintro rfl;rcases h.low with h0 | h0
   ·
    have : enode f = 0 := h0;omega
   ·
    have e : f / 2 = enode f := rfl;rw [e] at h0; omega
  simp only [List.getD, List.getElem?_set, if_neg this]
 have HLE : true = true -> ∀ i, (d.counts.set (enode f) 0).getD i 0 <= d.counts.getD i 0 := fun _ i => by
  by_cases e : enode f = i
  ·
   subst e; simp only [List.getD, List.getElem?_set]; simp [hxl]
  ·
   simp only [List.getD, List.getElem?_set, if_neg e]; omega
 have hrk : rk (enode f) <= m := by
  rcases h.low with h0 | h0
  ·
   have : enode f = 0 := h0;omega
  ·
   have e : f / 2 = enode f := rfl;rw [e] at h0; omega
 have hlow : ∀ e, (okE (nodesOf d) e) -> (∀ c, nodesOf d (e / 2) = some c -> rk (e / 2) < rk (enode f)) -> e / 2 = 0 \/ rk (e / 2) < m := fun e ho hr => by
  rcases ho with h0 | ⟨c, hc⟩
  ·
   exact .inl h0
  ·
   exact .inr (by have := hr c hc; omega)
 have st1 : StoreIn o (w.setCell ⟨gc, enode f, none⟩ (.int .i64 ((0 : Nat) : Int))) sb (d.cd (d.counts.set (enode f) 0) d.dead) s := h.st.setCount hv hne _ _;have hlt1 : OwnLt o (w.setCell ⟨gc, enode f, none⟩ (.int .i64 ((0 : Nat) : Int))) := h.lt.mono (by simp [World.setCell]);have st2 : StoreIn o ((w.setCell ⟨gc, enode f, none⟩ (.int .i64 ((0 : Nat) : Int))).setCell ⟨sb, 4, none⟩ (.int .i64 ((d.dead + 1 : Nat) : Int))) sb (d.cd (d.counts.set (enode f) 0) (d.dead + 1)) s := st1.setDead hlt1 _;have HCHG := Lib.hid (((Chg.refl RCnt o w).setCell (p := ⟨gc, enode f, none⟩) hgo (.inr rfl) (.int .i64 ((0 : Nat) : Int))).setCell (p := ⟨sb, 4, none⟩) h.st.own (.inl rfl) (.int .i64 ((d.dead + 1 : Nat) : Int)));have hlt2 : OwnLt o ((w.setCell ⟨gc, enode f, none⟩ (.int .i64 ((0 : Nat) : Int))).setCell ⟨sb, 4, none⟩ (.int .i64 ((d.dead + 1 : Nat) : Int))) := hlt1.mono (by simp [World.setCell]);have hpa := nodesOf_some hx;have hbN : ∃ N, N = d.pool.has (enode f) /\ N.lo = b.lo /\ N.hi = b.hi := ⟨_, rfl, by rw [<- hpa.2.2]; rfl, by rw [<- hpa.2.2]; rfl⟩;have hex : addE (addE (addE (addE (bump ext (enode f) (-1)) b.lo 1) b.hi 1) b.lo (-1)) b.hi (-1) = addE ext f (-1) := by
  funext y;have h1 := congrFun (addE_bump' (ext := ext) (f := f)) y;have h2 : enode f = f / 2 := rfl;rw [h2, h1];simp only [addE];omega
 obtain ⟨W2, hW2⟩ : ∃ W, W = (w.setCell ⟨gc, enode f, none⟩ (.int .i64 ((0 : Nat) : Int))).setCell ⟨sb, 4, none⟩ (.int .i64 ((d.dead + 1 : Nat) : Int)) := ⟨_, rfl⟩;rw [<- hW2] at st2 HCHG hlt2;have HLT2 := Lib.hid hlt2;have HPA : Hid (∀ W : World, Below W2.heap.size W2 W -> Calls Tryz.prog 123 #[.pointer (some ⟨s.pb, 0, none⟩), .int .i64 (enode f : Nat)] W fun x w' => x = .returned (.tuple #[rnAgg (d.pool.has (enode f)), .bool (d.pool.tk (enode f))]) /\ Below W.heap.size W w') :=
  Lib.hid (fun W hb => poolAt_any o s.pb d.pool (enode f) W (st2.pool.below hb hlt2) (hlt2.mono hb.size))
 have HC1 : Hid (∀ W : World, Below W2.heap.size W2 W -> W.cell? ⟨sb, 1, none⟩ = some (.pointer (some ⟨s.pb, 0, none⟩))) := Lib.hid (fun W hb => (cells5 (st2.below hlt2 hb).blk).2.1);have HLO : Hid (∀ W : World, Below W2.heap.size W2 W -> Calls Tryz.prog 142 #[.pointer (some ⟨sb, 0, none⟩), .int .i64 (b.lo : Nat)] W (CountPost o W sb (d.cd (d.counts.set (enode f) 0) (d.dead + 1)) s rk m true (addE (addE (addE (bump ext (enode f) (-1)) b.lo 1) b.hi 1) b.lo (-1)))) :=
  Lib.hid (fun W hb => ih W _ _ b.lo ⟨st2.below hlt2 hb, hlt2.mono hb.size, h.acy, h.acy.okLo _ _ hx, hlv, fun y q hq => Nat.le_trans (HLE rfl y) (h.top y q hq), fun y q hq => by
   have h1 := h.pos y q hq;have h2 : toE f y = if enode f = y then 1 else 0 := rfl
   have h3 := toE_nonneg b.lo y;have h4 := toE_nonneg b.hi y;simp only [addE, bump]
   by_cases e : y = enode f
   ·
    rw [if_pos e.symm] at h2; rw [if_pos e]; omega
   ·
    rw [if_neg (Ne.symm e)] at h2; rw [if_neg e]; omega, hlow b.lo (h.acy.okLo _ _ hx) (fun c hc => h.acy.ltLo _ _ c hx hc)⟩)
 have HHI : Hid (∀ (W : World) (cs : List Nat) (dd : Nat), StoreIn o W sb ((d.cd (d.counts.set (enode f) 0) (d.dead + 1)).cd cs dd) s -> LiveC ((d.cd (d.counts.set (enode f) 0) (d.dead + 1)).cd cs dd) (addE (addE (addE (bump ext (enode f) (-1)) b.lo 1) b.hi 1) b.lo (-1)) -> (true = true -> ∀ i, cs.getD i 0 <= (d.counts.set (enode f) 0).getD i 0) -> Chg RCnt o o w W ->
  Calls Tryz.prog 142 #[.pointer (some ⟨sb, 0, none⟩), .int .i64 (b.hi : Nat)] W (CountPost o W sb ((d.cd (d.counts.set (enode f) 0) (d.dead + 1)).cd cs dd) s rk m true (addE ext f (-1)))) :=
  Lib.hid (fun W cs dd hs hl hle hch => by
   rw [<- hex]
   exact ih W _ _ b.hi ⟨hs, HLT.out.mono hch.size, h.acy, h.acy.okHi _ _ hx, hl, fun y q hq => Nat.le_trans (Nat.le_trans (hle rfl y) (HLE rfl y)) (h.top y q hq), fun y q hq => by
    have h1 := h.pos y q hq;have h2 : toE f y = if enode f = y then 1 else 0 := rfl
    have h3 := toE_nonneg b.lo y;have h4 := toE_nonneg b.hi y;simp only [addE, bump]
    by_cases e : y = enode f
    ·
     rw [if_pos e.symm] at h2; rw [if_pos e]; omega
    ·
     rw [if_neg (Ne.symm e)] at h2; rw [if_neg e]; omega, hlow b.hi (h.acy.okHi _ _ hx) (fun c hc => h.acy.ltHi _ _ c hx hc)⟩)
 have HEND : Hid (∀ (W : World) (cs : List Nat) (dd : Nat), StoreIn o W sb (d.cd cs dd) s -> LiveC (d.cd cs dd) (addE ext f (-1)) -> cs.length = (d.counts.set (enode f) 0).length -> (∀ i, m + 1 <= rk i -> cs.getD i 0 = (d.counts.set (enode f) 0).getD i 0) -> (true = true -> ∀ i, cs.getD i 0 <= (d.counts.set (enode f) 0).getD i 0) -> Chg RCnt o o w W ->
  CountPost o w sb d s rk (m + 1) true (addE ext f (-1)) (.returned (.tuple #[])) W) :=
  fun W cs dd hs hl hlen hlw hle hch => ⟨cs, dd, rfl, hs, hl, by rw [hlen]; simp, fun i hi => (hlw i hi).trans (HLOW i hi), fun e i => Nat.le_trans (hle e i) (HLE e i), hch⟩
 have HWE : Hid (W2 = (w.setCell ⟨gc, enode f, none⟩ (.int .i64 0)).setCell ⟨sb, 4, none⟩ (.int .i64 ((d.dead : Int) + 1))) := by
  show _ = _
  rw [hW2, show ((d.dead + 1 : Nat) : Int) = (d.dead : Int) + 1 from by omega]; rfl
 have hid0 : ((enode f : Nat) : Int) ≠ 0 := by have := htk.1; omega
 have HN := Lib.hid (fun W => node_any f W hf);have hne' : sb ≠ gc := fun e => hne e.symm
 have hxl' : ((enode f : Nat) : Int) < d.counts.length := by omega
 obtain ⟨N, hN, hNlo, hNhi⟩ := hbN;rw [<- hN] at HPA;rw [<- hNlo, <- hNhi] at HLO HHI;obtain ⟨B, hB⟩ : ∃ B, B = d.pool.tk (enode f) := ⟨_, rfl⟩;rw [<- hB] at HPA;rw [hc] at hcx;obtain ⟨k, hk⟩ : ∃ k, k = enode f := ⟨_, rfl⟩;rw [<- hk] at hcx hfx HPA hid0 HN hxl' HWE;have hk0 : ((k : Int) == 0) = false := by simpa using hid0
 have hk1 : 0 < k := by omega
 have hcm' : d.counts.length <= 9223372036854775807 := by unfold maxLen at hcm; omega
 obtain ⟨dn, hdn⟩ : ∃ n, n = d.dead := ⟨_, rfl⟩;rw [<- hdn] at c4 hdb HWE;clear ih h hx hc hv hgo hlc hcm hfz hcell htk hid0 hxl hfl hf hlv st1 st2 hlt1 hlt2 HLOW HLE hrk hlow hW2 hex hN hNlo hNhi hB hdn hpa hk
 go_enter Tryz.func142, Tryz.ntmps142
 go_wp2_with fail;refine (HN.out _).mono ?_;rintro x w' ⟨rfl, rfl⟩;go_wp2_with fail;rw [<- HWE.out];refine (HPA.out W2 (Below.refl _ _)).mono ?_;rintro x v2 ⟨rfl, hb2⟩;unfold rnAgg;clear HWE c0 c1 c2 c3 c4 f0 hcx hfx HN hne hne' hxl' hk0 hk1 hcm' hdb;go_wp2_with fail;obtain ⟨W3, hW3⟩ : ∃ W, W = v2.alloc (.cells #[.int .i64 N.id, .int .i64 N.v, .int .i64 N.lo, .int .i64 N.hi, .int .i64 N.refs] 157) := ⟨_, rfl⟩;obtain ⟨bx, hbx⟩ : ∃ bx, bx = v2.heap.size := ⟨_, rfl⟩;have hge : W2.heap.size <= bx := by rw [hbx]; exact hb2.size
 have hbf : Below W2.heap.size W2 W3 := by rw [hW3]; exact hb2.alloc hb2.size _
 have hxf : W3.heap[bx]? = some (.cells #[.int .i64 N.id, .int .i64 N.v, .int .i64 N.lo, .int .i64 N.hi, .int .i64 N.refs] 157 (0, 0)) := by rw [hW3, hbx]; exact heap_alloc_new v2 _
 rw [<- hW3];rw [<- hbx];clear hW3 hbx hb2 HPA HC1;refine (HLO.out _ hbf).mono ?_;rintro x w1 ⟨cs1, dd1, rfl, st1, lv1, len1, low1, le1, chg1⟩;have hxg := (chg1.alien (Array.getElem?_eq_some_iff.1 hxf).1 (HLT2.out.none hge)).trans hxf;obtain ⟨z0, z1, z2, z3, z4, zz⟩ := cells5 hxg;have HS1 := Lib.hid st1;have HL1 := Lib.hid lv1;have HE1 := Lib.hid len1;have HW1 := Lib.hid low1;have HI1 := Lib.hid le1;have HC3 := Lib.hid ((HCHG.out.trans (Chg.of_below hbf RCnt o)).trans chg1);clear st1 lv1 len1 low1 le1 chg1 hxf hxg hbf;go_wp2_with fail;refine (HHI.out w1 cs1 dd1 HS1.out HL1.out (fun e => by first | exact absurd e (by decide) | exact HI1.out (by simp)) HC3.out).mono ?_;rintro x w2 ⟨cs2, dd2, rfl, st2, lv2, len2, low2, le2, chg2⟩;have HFIN := Lib.hid (HEND.out w2 cs2 dd2 st2 lv2 (len2.trans HE1.out) (fun i hi => (low2 i (by omega)).trans (HW1.out i (by omega))) (fun e i => by first | exact absurd e (by decide) | exact Nat.le_trans (le2 (by simp) i) (HI1.out (by simp) i)) (HC3.out.trans chg2));clear st2 lv2 len2 low2 le2 chg2;go_wp2_with fail;refine bodyPost_end (results_0 rfl _ _ _) rfl HFIN.out
theorem storeLess_any (o : Own) (sb : Nat) (s : StoreW) (rk : Nat -> Nat) : ∀ (m : Nat) (w : World) (d : StoreD) (ext : Nat -> Int) (f : Nat), LessOk o w sb d s rk ext f m ->
 Calls Tryz.prog 142 #[.pointer (some ⟨sb, 0, none⟩), .int .i64 f] w (CountPost o w sb d s rk m true (addE ext f (-1)))
 | m, w, d, ext, f, h => by
   by_cases h0 : enode f = 0
   ·
    exact less_none h h0
   ·
    obtain ⟨b, hx⟩ : ∃ b, nodesOf d (enode f) = some b := h.ok.resolve_left h0
    have hp : 0 < cntOf d (enode f) := h.live.cnt.pos_of_ext hx (by
     have h1 := h.pos _ _ hx;rw [show toE f (enode f) = 1 from toE_hit f] at h1; omega)
    by_cases hc : 1 < cntOf d (enode f)
    ·
     exact less_live h hx hc
    ·
     cases m with
     | zero => exact absurd (h.low.resolve_left h0) (by omega)
     | succ m => exact less_dead h hx (by omega) (storeLess_any o sb s rk m)
open Go.RowKit
def RPool (r : Role) : Prop := r = .pool \/ r = .slots \/ r = .taken \/ r = .free
def RStore (r : Role) : Prop := r = .store \/ r = .levels \/ r = .vars \/ r = .level \/ RPool r \/ r = .tabs \/ (∃ v, r = .tab v \/ r = .tmap v) \/ r = .counts
section
variable {o o' : Own} {w w' : World} {sb : Nat} {d : StoreD} {s : StoreW}
theorem StoreIn.setPool (h : StoreIn o w sb d s) (hlt : OwnLt o w) {p' : PoolD} (hp : PoolAt o' w' s.pb p') (hc : Chg RPool o o' w w') : StoreIn o' w' sb { d with pool := p' } s := by
 have n : ∀ {r}, r ≠ .pool -> r ≠ .slots -> r ≠ .taken -> r ≠ .free -> ¬ RPool r := fun a b c d h => by rcases h with h | h | h | h <;> contradiction
 exact ⟨hc.ext _ _ h.own, hc.ext _ _ h.ownl, (hc.same hlt h.own (n (by simp) (by simp) (by simp) (by simp))).trans h.blk, (hc.same hlt h.ownl (n (by simp) (by simp) (by simp) (by simp))).trans h.lev,
  h.vars.chg hc hlt (n (by simp) (by simp) (by simp) (by simp)), h.level.chg hc hlt (n (by simp) (by simp) (by simp) (by simp)), hp, h.tabs.chg hc hlt (n (by simp) (by simp) (by simp) (by simp)),
  fun v hv => (h.tab v hv).chg hc hlt (n (by simp) (by simp) (by simp) (by simp)) (n (by simp) (by simp) (by simp) (by simp)), h.counts.chg hc hlt (n (by simp) (by simp) (by simp) (by simp)), h.len, h.tlen⟩
theorem StoreIn.setTab (h : StoreIn o w sb d s) (hlt : OwnLt o w) {v : Nat} {f' : Nat × Nat -> Option Nat} (ht : TabIs o' w' v (s.ts.getD v 0) f') (hc : Chg (· = .tmap v) o o' w w') : StoreIn o' w' sb { d with tab := fun u => if u = v then f' else d.tab u } s := by
 refine ⟨hc.ext _ _ h.own, hc.ext _ _ h.ownl, (hc.same hlt h.own (by simp)).trans h.blk, (hc.same hlt h.ownl (by simp)).trans h.lev,
  h.vars.chg hc hlt (by simp), h.level.chg hc hlt (by simp), h.pool.chg hc hlt (by simp) (by simp) (by simp) (by simp), h.tabs.chg hc hlt (by simp),
  fun u hu => ?_, h.counts.chg hc hlt (by simp), h.len, h.tlen⟩
 dsimp only
 by_cases e : u = v
 ·
  subst e; rw [if_pos rfl]; exact ht
 ·
  rw [if_neg e]; exact (h.tab u hu).chg hc hlt (by simp) (by simpa using e)
end
def extOf (d : StoreD) : Nat -> Int := fun i => if d.pool.tk i = true then ((d.pool.nd i).refs : Int) else 0
structure HoldRel (d d' : StoreD) (f : Nat) (sg : Int) : Prop where
 vars : d'.vars = d.vars
 level : d'.level = d.level
 tab : d'.tab = d.tab
 nodes : nodesOf d' = nodesOf d
 many : d'.pool.many = d.pool.many
 free : d'.pool.free = d.pool.free
 room : d'.pool.room = d.pool.room
 len : d'.pool.at_.length = d.pool.at_.length
 clen : d'.counts.length = d.counts.length
 ext : ∀ i, i ≠ 0 -> extOf d' i = extOf d i + sg * toE f i
 live : LiveC d' (extOf d')
def HoldPost (o : Own) (w : World) (sb : Nat) (d : StoreD) (s : StoreW) (f : Nat) (sg : Int) (e : Ending) (w' : World) : Prop :=
 ∃ d', e = .returned (.int .i64 0) /\ StoreIn o w' sb d' s /\ OwnLt o w' /\ HoldRel d d' f sg /\ Chg RStore o o w w'
theorem rcnt_store : ∀ r, RCnt r -> RStore r := fun r h => by rcases h with h | h <;> simp [RStore, h]
theorem rslots_store : ∀ r : Role, r = .slots -> RStore r := fun r h => by simp [RStore, RPool, h]
def RN.ref (n : RN) (k : Nat) : RN := { n with refs := k }
theorem setRef_nodes {d : StoreD} {x k : Nat} (hk : x < d.pool.at_.length) (ht : d.pool.tk x = true) : nodesOf { d with pool := d.pool.setNd x ((d.pool.nd x).ref k) } = nodesOf d := by
 funext i;unfold nodesOf;rw [PoolD.setNd_get hk ht]
 by_cases e : i = x
 ·
  subst e; simp [PoolD.get, ht, RN.ref, bnOf]
 ·
  rw [if_neg e]
theorem setRef_ext {d : StoreD} {x k : Nat} (hk : x < d.pool.at_.length) (ht : d.pool.tk x = true) : extOf { d with pool := d.pool.setNd x ((d.pool.nd x).ref k) } = fun i => if i = x then (k : Int) else extOf d i := by
 funext i;unfold extOf;have h1 : (d.pool.setNd x ((d.pool.nd x).ref k)).tk i = d.pool.tk i := rfl;have h2 : (d.pool.setNd x ((d.pool.nd x).ref k)).nd i = if i = x then (d.pool.nd x).ref k else d.pool.nd i := nd_set hk i
 dsimp only;rw [h1, h2]
 by_cases e : i = x
 ·
  subst e; simp [ht, RN.ref]
 ·
  simp [e]
theorem extOf_node {d : StoreD} {x : Nat} (ht : d.pool.tk x = true) : extOf d x = ((d.pool.nd x).refs : Int) := by simp [extOf, ht]
theorem setRef_live {d : StoreD} {x k : Nat} {ext : Nat -> Int} (hk : x < d.pool.at_.length) (ht : d.pool.tk x = true) (h : LiveC d ext) : LiveC { d with pool := d.pool.setNd x ((d.pool.nd x).ref k) } ext := by
 have hn := setRef_nodes (k := k) hk ht;have hL : ({ d with pool := d.pool.setNd x ((d.pool.nd x).ref k) } : StoreD).pool.at_.length = d.pool.at_.length := by simp [PoolD.setNd]
 refine ⟨?_, ?_, ?_⟩
 ·
  rw [hn, hL]; exact h.cnt
 ·
  rw [hn, hL]; exact h.dead
 ·
  rw [hn]; exact h.has
theorem storeHold_none {o : Own} {w : World} {sb : Nat} {d : StoreD} {s : StoreW} (h : StoreIn o w sb d s) (hlt : OwnLt o w) (hl : LiveC d (extOf d)) (f : Nat) (hf : f < eMax) (hx : enode f = 0) :
 Calls Tryz.prog 125 #[.pointer (some ⟨sb, 0, none⟩), .int .i64 f] w (HoldPost o w sb d s f 1) := by
 obtain ⟨c0, c1, c2, c3, c4, f0⟩ := cells5 h.blk;have lsb : sb < w.heap.size := lt_of_cell c0;have HPOST : Hid (∀ W : World, Below w.heap.size w W -> HoldPost o w sb d s f 1 (.returned (.int .i64 0)) W) := fun W hb =>
  ⟨d, rfl, h.below hlt hb, hlt.mono hb.size, ⟨rfl, rfl, rfl, rfl, rfl, rfl, rfl, rfl, rfl, fun i hi => by
   have e : f / 2 = 0 := hx;simp [toE, e, Ne.symm hi], hl⟩, Chg.of_below hb _ _⟩
 have hisv : (decide (enode f = 0) || d.pool.tk (enode f)) = true := by rw [hx]; rfl
 have HIS : Hid (∀ W : World, Below w.heap.size w W -> Calls Tryz.prog 87 #[.pointer (some ⟨sb, 0, none⟩), .int .i64 f] W fun x w' => x = .returned (.bool true) /\ Below W.heap.size W w') := fun W hb => by
  have h1 := storeIs_any (h.below hlt hb) (hlt.mono hb.size) f hf;rw [hisv] at h1;exact h1
 have htk : d.pool.tk 0 = false := h.pool.zero;have HPA : Hid (∀ W : World, Below w.heap.size w W -> Calls Tryz.prog 123 #[.pointer (some ⟨s.pb, 0, none⟩), .int .i64 (enode f : Nat)] W fun x w' => x = .returned (.tuple #[rnAgg (d.pool.has (enode f)), .bool (d.pool.tk (enode f))]) /\ Below W.heap.size W w') :=
  Lib.hid (fun W hb => poolAt_any o s.pb d.pool (enode f) W (h.pool.below hb hlt) (hlt.mono hb.size))
 have HC1 : Hid (∀ W : World, Below w.heap.size w W -> W.cell? ⟨sb, 1, none⟩ = some (.pointer (some ⟨s.pb, 0, none⟩))) := Lib.hid (fun W hb => (hb.cell (p := ⟨sb, 1, none⟩) lsb).trans c1);have HN := Lib.hid (fun W => node_any f W hf);have htk' : d.pool.tk (enode f) = false := by rw [hx]; exact htk
 obtain ⟨N, hN⟩ : ∃ N, N = d.pool.has (enode f) := ⟨_, rfl⟩;obtain ⟨B, hB⟩ : ∃ B, B = d.pool.tk (enode f) := ⟨_, rfl⟩;obtain ⟨k, hk⟩ : ∃ k, k = enode f := ⟨_, rfl⟩;rw [<- hN, <- hB, <- hk] at HPA;rw [<- hk] at HN;have HB := Lib.hid (hB.trans htk');clear h hlt hl hf hx hisv c0 c1 c2 c3 c4 f0 lsb htk htk' hN hk hB
 go_enter Tryz.func125, Tryz.ntmps125
 go_wp2_with fail;refine (HIS.out _ (Below.refl _ _)).mono ?_;rintro x w1 ⟨rfl, hb1⟩;have HB1 := Lib.hid hb1;clear hb1;go_upto_region 5 with fail;refine wp_region_left (fun W : World => Below w.heap.size w W) 13 (by kernel_rfl) (below_drewN HB1.out 1) ?_;refine left_readE 0 rfl rfl (by kernel_rfl) ?_;apply Exists.intro;refine ⟨fun w' hw => ?_, ?_⟩
 ·
  have hc1 := HC1.out w' hw;go_simp;rfl
 simp only [putLz];refine left_readE 1 rfl rfl (by kernel_rfl) ?_;apply Exists.intro;refine ⟨fun w' hw => ?_, ?_⟩
 ·
  have hc1 := HC1.out w' hw;go_simp;rfl
 simp only [putLz];refine left_readE 2 rfl rfl (by kernel_rfl) ?_;apply Exists.intro;refine ⟨fun w' hw => ?_, ?_⟩
 ·
  have hc1 := HC1.out w' hw;go_simp;rfl
 simp only [putLz];refine left_readE 3 rfl rfl (by kernel_rfl) ?_;apply Exists.intro;refine ⟨fun w' hw => ?_, ?_⟩
 ·
  have hc1 := HC1.out w' hw;go_simp;rfl
 simp only [putLz];refine left_readE 4 rfl rfl (by kernel_rfl) ?_;apply Exists.intro;refine ⟨fun w' hw => ?_, ?_⟩
 ·
  have hc1 := HC1.out w' hw;go_simp;rfl
 simp only [putLz];refine left_alts [5, 10] (by kernel_rfl) (fun i hi hS o ho => ?_);simp only [memLz] at hi;rcases hi with rfl | rfl
 ·
  skip
  simp only [altLz] at ho;subst ho;refine ⟨rfl, ?_⟩;refine oper_call (v := (.int .i64 k)) (R := fun w' => w1.drew = w') (by go_simp) (HN.out _) ?_;rintro w' rfl;refine ⟨(below_drewN HB1.out 1), ?_⟩;simp only [putLz];refine left_alts [6, 10] (by kernel_rfl) (fun i hi hS o ho => ?_);simp only [memLz] at hi;rcases hi with rfl | rfl
  ·
   skip
   simp only [altLz] at ho;subst ho;refine ⟨rfl, ?_⟩;refine oper_call (v := (.tuple #[rnAgg N, .bool B])) (R := fun w' => Below (w1.drew).heap.size (w1.drew) w') (by go_simp) (HPA.out _ (below_drewN HB1.out 1)) ?_;intro v2 hv2;have hb2 := (below_drewN HB1.out 1).trans (hv2.mono (below_drewN HB1.out 1).size);refine ⟨hb2, ?_⟩;simp only [putLz];unfold rnAgg;refine left_readE 7 rfl rfl (by kernel_rfl) ?_;apply Exists.intro;refine ⟨fun w' hw => ?_, ?_⟩
   ·
    clear hw;go_simp;rfl
   simp only [putLz];refine left_readE 8 rfl rfl (by kernel_rfl) ?_;apply Exists.intro;refine ⟨fun w' hw => ?_, ?_⟩
   ·
    clear hw;go_simp;rfl
   simp only [putLz];refine left_readE 9 rfl rfl (by kernel_rfl) ?_;apply Exists.intro;refine ⟨fun w' hw => ?_, ?_⟩
   ·
    clear hw;go_simp;rfl
   simp only [putLz];refine left_alts [10] (by kernel_rfl) (fun i hi hS o ho => ?_);simp only [memLz] at hi;subst hi;simp only [altLz] at ho;subst ho;refine ⟨rfl, ?_⟩;have hb3 := hb2.trans ((below_new1 (v2) (.cells #[.int .i64 0, .int .i64 0, .int .i64 0, .int .i64 0, .int .i64 0] 157)).mono hb2.size);have hx3 := heap_alloc_new (v2) (.cells #[.int .i64 0, .int .i64 0, .int .i64 0, .int .i64 0, .int .i64 0] 157);have hge : w.heap.size <= (v2).heap.size := hb2.size;refine oper_value (v := .pointer (some ⟨(v2).heap.size, 0, none⟩)) (w' := (v2).alloc (.cells #[.int .i64 0, .int .i64 0, .int .i64 0, .int .i64 0, .int .i64 0] 157)) (by go_simp) ⟨hb3, ?_⟩;simp only [putLz];obtain ⟨bx, hbx⟩ : ∃ bx, bx = (v2).heap.size := ⟨_, rfl⟩;rw [<- hbx] at hx3 hge ⊢;obtain ⟨u3, hu3⟩ : ∃ u, u = (v2).alloc (.cells #[.int .i64 0, .int .i64 0, .int .i64 0, .int .i64 0, .int .i64 0] 157) := ⟨_, rfl⟩;rw [<- hu3] at hx3 hb3 ⊢;clear hu3 hbx;refine left_alts [11] (by kernel_rfl) (fun i hi hS o ho => ?_);simp only [memLz] at hi;subst hi;simp only [altLz] at ho;subst ho;refine ⟨rfl, ?_⟩;obtain ⟨e0, e1, e2, e3, e4, fz⟩ := cells5 hx3;refine oper_store (w' := set5 u3 bx 0 N) rfl (run_storeNode (k := 0) fz e0 e1 e2 e3 e4 _ _ _ _ _) ?_;have hbf : Below w.heap.size w (set5 u3 bx 0 N) := below_set5 hb3 hge N;have hxf := set5_new hx3 N;refine ⟨hbf, ?_⟩;simp only [putLz];clear e0 e1 e2 e3 e4 fz;refine left_readE 12 rfl rfl (by kernel_rfl) ?_;apply Exists.intro;refine ⟨fun w' hw => ?_, ?_⟩
   ·
    clear hw;go_simp;rfl
   simp only [putLz];refine left_end (by kernel_rfl) ?_;obtain rfl : B = false := HB.out;have HBF := Lib.hid hbf;obtain ⟨W3, hW3⟩ : ∃ W, W = set5 u3 bx 0 N := ⟨_, rfl⟩;rw [<- hW3] at HBF ⊢;clear hW3 hbf hxf HPA HN HIS HC1 HB1 HB;go_wp2_with fail;go_ret;exact HPOST.out _ HBF.out
  ·
   skip
   simp only [altLz] at ho;subst ho;refine ⟨rfl, ?_⟩;have hb4 := (below_drewN HB1.out 1).trans ((below_new1 (w1.drew) (.cells #[.int .i64 0, .int .i64 0, .int .i64 0, .int .i64 0, .int .i64 0] 157)).mono (below_drewN HB1.out 1).size);have hx4 := heap_alloc_new (w1.drew) (.cells #[.int .i64 0, .int .i64 0, .int .i64 0, .int .i64 0, .int .i64 0] 157);have hge : w.heap.size <= (w1.drew).heap.size := (below_drewN HB1.out 1).size;refine oper_value (v := .pointer (some ⟨(w1.drew).heap.size, 0, none⟩)) (w' := (w1.drew).alloc (.cells #[.int .i64 0, .int .i64 0, .int .i64 0, .int .i64 0, .int .i64 0] 157)) (by go_simp) ⟨hb4, ?_⟩;simp only [putLz];obtain ⟨bx, hbx⟩ : ∃ bx, bx = (w1.drew).heap.size := ⟨_, rfl⟩;rw [<- hbx] at hx4 hge ⊢;obtain ⟨u4, hu4⟩ : ∃ u, u = (w1.drew).alloc (.cells #[.int .i64 0, .int .i64 0, .int .i64 0, .int .i64 0, .int .i64 0] 157) := ⟨_, rfl⟩;rw [<- hu4] at hx4 hb4 ⊢;clear hu4 hbx;refine left_alts [6] (by kernel_rfl) (fun i hi hS o ho => ?_);simp only [memLz] at hi;subst hi;simp only [altLz] at ho;subst ho;refine ⟨rfl, ?_⟩;refine oper_call (v := (.tuple #[rnAgg N, .bool B])) (R := fun w' => Below (u4).heap.size (u4) w') (by go_simp) (HPA.out _ hb4) ?_;intro v5 hv5;have hb5 := hb4.trans (hv5.mono hb4.size);refine ⟨hb5, ?_⟩;simp only [putLz];unfold rnAgg;have hx5 := (hv5.block _ (Array.getElem?_eq_some_iff.1 hx4).1).trans hx4;refine left_readE 7 rfl rfl (by kernel_rfl) ?_;apply Exists.intro;refine ⟨fun w' hw => ?_, ?_⟩
   ·
    clear hw;go_simp;rfl
   simp only [putLz];refine left_readE 8 rfl rfl (by kernel_rfl) ?_;apply Exists.intro;refine ⟨fun w' hw => ?_, ?_⟩
   ·
    clear hw;go_simp;rfl
   simp only [putLz];refine left_readE 9 rfl rfl (by kernel_rfl) ?_;apply Exists.intro;refine ⟨fun w' hw => ?_, ?_⟩
   ·
    clear hw;go_simp;rfl
   simp only [putLz];refine left_alts [11] (by kernel_rfl) (fun i hi hS o ho => ?_);simp only [memLz] at hi;subst hi;simp only [altLz] at ho;subst ho;refine ⟨rfl, ?_⟩;obtain ⟨e0, e1, e2, e3, e4, fz⟩ := cells5 hx5;refine oper_store (w' := set5 v5 bx 0 N) rfl (run_storeNode (k := 0) fz e0 e1 e2 e3 e4 _ _ _ _ _) ?_;have hbf : Below w.heap.size w (set5 v5 bx 0 N) := below_set5 hb5 hge N;have hxf := set5_new hx5 N;refine ⟨hbf, ?_⟩;simp only [putLz];clear e0 e1 e2 e3 e4 fz;refine left_readE 12 rfl rfl (by kernel_rfl) ?_;apply Exists.intro;refine ⟨fun w' hw => ?_, ?_⟩
   ·
    clear hw;go_simp;rfl
   simp only [putLz];refine left_end (by kernel_rfl) ?_;obtain rfl : B = false := HB.out;have HBF := Lib.hid hbf;obtain ⟨W3, hW3⟩ : ∃ W, W = set5 v5 bx 0 N := ⟨_, rfl⟩;rw [<- hW3] at HBF ⊢;clear hW3 hbf hxf HPA HN HIS HC1 HB1 HB;go_wp2_with fail;go_ret;exact HPOST.out _ HBF.out
 ·
  skip
  simp only [altLz] at ho;subst ho;refine ⟨rfl, ?_⟩;have hb6 := (below_drewN HB1.out 1).trans ((below_new1 (w1.drew) (.cells #[.int .i64 0, .int .i64 0, .int .i64 0, .int .i64 0, .int .i64 0] 157)).mono (below_drewN HB1.out 1).size);have hx6 := heap_alloc_new (w1.drew) (.cells #[.int .i64 0, .int .i64 0, .int .i64 0, .int .i64 0, .int .i64 0] 157);have hge : w.heap.size <= (w1.drew).heap.size := (below_drewN HB1.out 1).size;refine oper_value (v := .pointer (some ⟨(w1.drew).heap.size, 0, none⟩)) (w' := (w1.drew).alloc (.cells #[.int .i64 0, .int .i64 0, .int .i64 0, .int .i64 0, .int .i64 0] 157)) (by go_simp) ⟨hb6, ?_⟩;simp only [putLz];obtain ⟨bx, hbx⟩ : ∃ bx, bx = (w1.drew).heap.size := ⟨_, rfl⟩;rw [<- hbx] at hx6 hge ⊢;obtain ⟨u6, hu6⟩ : ∃ u, u = (w1.drew).alloc (.cells #[.int .i64 0, .int .i64 0, .int .i64 0, .int .i64 0, .int .i64 0] 157) := ⟨_, rfl⟩;rw [<- hu6] at hx6 hb6 ⊢;clear hu6 hbx;refine left_alts [5] (by kernel_rfl) (fun i hi hS o ho => ?_);simp only [memLz] at hi;subst hi;simp only [altLz] at ho;subst ho;refine ⟨rfl, ?_⟩;refine oper_call (v := (.int .i64 k)) (R := fun w' => u6 = w') (by go_simp) (HN.out _) ?_;rintro w' rfl;refine ⟨hb6, ?_⟩;simp only [putLz];refine left_alts [6] (by kernel_rfl) (fun i hi hS o ho => ?_);simp only [memLz] at hi;subst hi;simp only [altLz] at ho;subst ho;refine ⟨rfl, ?_⟩;refine oper_call (v := (.tuple #[rnAgg N, .bool B])) (R := fun w' => Below (u6).heap.size (u6) w') (by go_simp) (HPA.out _ hb6) ?_;intro v8 hv8;have hb8 := hb6.trans (hv8.mono hb6.size);refine ⟨hb8, ?_⟩;simp only [putLz];unfold rnAgg;have hx8 := (hv8.block _ (Array.getElem?_eq_some_iff.1 hx6).1).trans hx6;refine left_readE 7 rfl rfl (by kernel_rfl) ?_;apply Exists.intro;refine ⟨fun w' hw => ?_, ?_⟩
  ·
   clear hw;go_simp;rfl
  simp only [putLz];refine left_readE 8 rfl rfl (by kernel_rfl) ?_;apply Exists.intro;refine ⟨fun w' hw => ?_, ?_⟩
  ·
   clear hw;go_simp;rfl
  simp only [putLz];refine left_readE 9 rfl rfl (by kernel_rfl) ?_;apply Exists.intro;refine ⟨fun w' hw => ?_, ?_⟩
  ·
   clear hw;go_simp;rfl
  simp only [putLz];refine left_alts [11] (by kernel_rfl) (fun i hi hS o ho => ?_);simp only [memLz] at hi;subst hi;simp only [altLz] at ho;subst ho;refine ⟨rfl, ?_⟩;obtain ⟨e0, e1, e2, e3, e4, fz⟩ := cells5 hx8;refine oper_store (w' := set5 v8 bx 0 N) rfl (run_storeNode (k := 0) fz e0 e1 e2 e3 e4 _ _ _ _ _) ?_;have hbf : Below w.heap.size w (set5 v8 bx 0 N) := below_set5 hb8 hge N;have hxf := set5_new hx8 N;refine ⟨hbf, ?_⟩;simp only [putLz];clear e0 e1 e2 e3 e4 fz;refine left_readE 12 rfl rfl (by kernel_rfl) ?_;apply Exists.intro;refine ⟨fun w' hw => ?_, ?_⟩
  ·
   clear hw;go_simp;rfl
  simp only [putLz];refine left_end (by kernel_rfl) ?_;obtain rfl : B = false := HB.out;have HBF := Lib.hid hbf;obtain ⟨W3, hW3⟩ : ∃ W, W = set5 v8 bx 0 N := ⟨_, rfl⟩;rw [<- hW3] at HBF ⊢;clear hW3 hbf hxf HPA HN HIS HC1 HB1 HB;go_wp2_with fail;go_ret;exact HPOST.out _ HBF.out
theorem storeHold_node {o : Own} {w : World} {sb : Nat} {d : StoreD} {s : StoreW} (h : StoreIn o w sb d s) (hlt : OwnLt o w) (hl : LiveC d (extOf d)) {rk : Nat -> Nat} (ha : Acy (nodesOf d) rk) (f : Nat) {b : BN} (hx : nodesOf d (enode f) = some b)
 (htop : ∀ y b, nodesOf d y = some b -> extOf d y < 1099511627776) :
 Calls Tryz.prog 125 #[.pointer (some ⟨sb, 0, none⟩), .int .i64 f] w (HoldPost o w sb d s f 1) := by
 obtain ⟨c0, c1, c2, c3, c4, f0⟩ := cells5 h.blk;have lsb : sb < w.heap.size := lt_of_cell c0;have hok : okE (nodesOf d) f := .inr ⟨b, hx⟩;have hf : f < eMax := by have := h.edge_lt hok; unfold eMax; omega
 have hns := nodesOf_some hx;have htl := h.tk_lt hx;have hrf : (d.pool.nd (enode f)).refs < 1099511627776 := by have := htop _ _ hx; rw [extOf_node hns.1] at this; omega
 have hid : (d.pool.nd (enode f)).id = enode f := h.pool.id _ hns.1;have hisv : (decide (enode f = 0) || d.pool.tk (enode f)) = true := by rw [hns.1]; simp
 have HIS : Hid (∀ W : World, Below w.heap.size w W -> Calls Tryz.prog 87 #[.pointer (some ⟨sb, 0, none⟩), .int .i64 f] W fun x w' => x = .returned (.bool true) /\ Below W.heap.size W w') := fun W hb => by
  have h1 := storeIs_any (h.below hlt hb) (hlt.mono hb.size) f hf;rw [hisv] at h1;exact h1
 have HPA : Hid (∀ W : World, Below w.heap.size w W -> Calls Tryz.prog 123 #[.pointer (some ⟨s.pb, 0, none⟩), .int .i64 (enode f : Nat)] W fun x w' => x = .returned (.tuple #[rnAgg (d.pool.has (enode f)), .bool (d.pool.tk (enode f))]) /\ Below W.heap.size W w') :=
  Lib.hid (fun W hb => poolAt_any o s.pb d.pool (enode f) W (h.pool.below hb hlt) (hlt.mono hb.size))
 have HC1 : Hid (∀ W : World, Below w.heap.size w W -> W.cell? ⟨sb, 1, none⟩ = some (.pointer (some ⟨s.pb, 0, none⟩))) := Lib.hid (fun W hb => (hb.cell (p := ⟨sb, 1, none⟩) lsb).trans c1);have HN := Lib.hid (fun W => node_any f W hf);obtain ⟨r, hr⟩ : ∃ r, r = (d.pool.nd (enode f)).refs := ⟨_, rfl⟩
 skip
 have HSET : Hid (∀ W : World, Below w.heap.size w W -> Calls Tryz.prog 140 #[.pointer (some ⟨s.pb, 0, none⟩), rnAgg ((d.pool.nd (enode f)).ref (r + 1))] W fun x w' => x = .returned (.int .i64 0) /\ StoreIn o w' sb { d with pool := d.pool.setNd (enode f) ((d.pool.nd (enode f)).ref (r + 1)) } s /\ Chg RStore o o w w' /\ OwnLt o w') := fun W hb => by
  have hi' : d.pool.tk ((d.pool.nd (enode f)).ref (r + 1)).id = true := by show d.pool.tk (d.pool.nd (enode f)).id = true; rw [hid]; exact hns.1
  refine (poolSet_any o s.pb d.pool ((d.pool.nd (enode f)).ref (r + 1)) W (h.pool.below hb hlt) (hlt.mono hb.size) hi').mono ?_;rintro e w' ⟨rfl, hp, hc, hl'⟩;have e1 : ((d.pool.nd (enode f)).ref (r + 1)).id = enode f := hid;rw [e1] at hp;exact ⟨rfl, (h.below hlt hb).setPool (hlt.mono hb.size) hp (hc.mono (fun r hr => by simp [RPool, hr])), (Chg.of_below hb _ _).trans (hc.mono rslots_store), hl'⟩
 have HMORE : Hid (∀ (W : World), StoreIn o W sb { d with pool := d.pool.setNd (enode f) ((d.pool.nd (enode f)).ref (r + 1)) } s -> OwnLt o W -> Chg RStore o o w W ->
  Calls Tryz.prog 139 #[.pointer (some ⟨sb, 0, none⟩), .int .i64 f] W fun e w' => e = .returned (.tuple #[]) /\ HoldPost o w sb d s f 1 (.returned (.int .i64 0)) w') := fun W hs hl' hch => by
  have hnd := setRef_nodes (d := d) (k := r + 1) htl.2.1 hns.1
  refine (storeMore_any o sb s rk (rk (enode f) + 1) W _ (extOf d) f ⟨hs, hl', by rw [hnd]; exact ha, by rw [hnd]; exact hok, setRef_live htl.2.1 hns.1 hl, fun y q hq => (by
   rw [hnd] at hq;have h1 := htop y q hq;have h2 : toE f y <= 1 := by unfold toE; split <;> omega
   omega), .inr (Nat.lt_succ_self _)⟩).mono ?_
  rintro e w' ⟨cs, dd, rfl, hs2, hl2, hcl, _, _, hc2⟩;refine ⟨rfl, _, rfl, hs2, hl'.mono hc2.size, ⟨rfl, rfl, rfl, hnd, rfl, rfl, rfl, by simp [StoreD.cd, PoolD.setNd], hcl, fun i hi => ?_, hl2.congr (fun y b' hb' => ?_)⟩, hch.trans (hc2.mono rcnt_store)⟩
  ·
   show extOf { d with pool := d.pool.setNd (enode f) ((d.pool.nd (enode f)).ref (r + 1)) } i = _
   rw [setRef_ext htl.2.1 hns.1];dsimp only;unfold toE
   by_cases e : i = enode f
   ·
    have e' : f / 2 = i := e.symm;rw [if_pos e, if_pos e', e, extOf_node hns.1, <- hr]; omega
   ·
    have e' : ¬ f / 2 = i := fun h' => e h'.symm
    rw [if_neg e, if_neg e']; omega
  ·
   show extOf { d with pool := d.pool.setNd (enode f) ((d.pool.nd (enode f)).ref (r + 1)) } y = _
   rw [setRef_ext htl.2.1 hns.1];dsimp only;unfold addE toE
   by_cases e : y = enode f
   ·
    have e' : f / 2 = y := e.symm;rw [if_pos e, if_pos e', e, extOf_node hns.1, <- hr]; omega
   ·
    have e' : ¬ f / 2 = y := fun h' => e h'.symm
    rw [if_neg e, if_neg e']; omega
 have hNn : d.pool.has (enode f) = d.pool.nd (enode f) := hns.2.1;rw [hNn] at HPA;have HREF : Hid (rnAgg ((d.pool.nd (enode f)).ref (r + 1)) = .agg #[.int .i64 (d.pool.nd (enode f)).id, .int .i64 (d.pool.nd (enode f)).v, .int .i64 (d.pool.nd (enode f)).lo, .int .i64 (d.pool.nd (enode f)).hi, .int .i64 ((r : Int) + 1)]) := by
  show _ = _
  unfold rnAgg RN.ref;dsimp only;rw [show ((r + 1 : Nat) : Int) = (r : Int) + 1 from by omega]
 rw [hns.1] at HPA;rw [<- hr] at hrf;obtain ⟨N, hN⟩ : ∃ N, N = d.pool.nd (enode f) := ⟨_, rfl⟩;have hNr : N.refs = r := by rw [hN, hr]
 rw [<- hN] at HPA HREF HSET HMORE;obtain ⟨B, hB⟩ : ∃ B, B = true := ⟨_, rfl⟩;rw [<- hB] at HPA;obtain ⟨k, hk⟩ : ∃ k, k = enode f := ⟨_, rfl⟩;rw [<- hk] at HPA HN;have HBT := Lib.hid hB;have HNR := Lib.hid hNr;have HW0 := Lib.hid hk;clear h hlt hl ha hx htop hf hns hisv htl hid hr hNn hN hB hk hok c0 c1 c2 c3 c4 f0 lsb hNr
 go_enter Tryz.func125, Tryz.ntmps125
 go_wp2_with fail;refine (HIS.out _ (Below.refl _ _)).mono ?_;rintro x w1 ⟨rfl, hb1⟩;have HB1 := Lib.hid hb1;clear hb1 HIS;go_upto_region 5 with fail;refine wp_region_left (fun W : World => Below w.heap.size w W) 13 (by kernel_rfl) (below_drewN HB1.out 1) ?_;refine left_readE 0 rfl rfl (by kernel_rfl) ?_;apply Exists.intro;refine ⟨fun w' hw => ?_, ?_⟩
 ·
  have hc1 := HC1.out w' hw;go_simp;rfl
 simp only [putLz];refine left_readE 1 rfl rfl (by kernel_rfl) ?_;apply Exists.intro;refine ⟨fun w' hw => ?_, ?_⟩
 ·
  have hc1 := HC1.out w' hw;go_simp;rfl
 simp only [putLz];refine left_readE 2 rfl rfl (by kernel_rfl) ?_;apply Exists.intro;refine ⟨fun w' hw => ?_, ?_⟩
 ·
  have hc1 := HC1.out w' hw;go_simp;rfl
 simp only [putLz];refine left_readE 3 rfl rfl (by kernel_rfl) ?_;apply Exists.intro;refine ⟨fun w' hw => ?_, ?_⟩
 ·
  have hc1 := HC1.out w' hw;go_simp;rfl
 simp only [putLz];refine left_readE 4 rfl rfl (by kernel_rfl) ?_;apply Exists.intro;refine ⟨fun w' hw => ?_, ?_⟩
 ·
  have hc1 := HC1.out w' hw;go_simp;rfl
 simp only [putLz];refine left_alts [5, 10] (by kernel_rfl) (fun i hi hS o ho => ?_);simp only [memLz] at hi;rcases hi with rfl | rfl
 ·
  skip
  simp only [altLz] at ho;subst ho;refine ⟨rfl, ?_⟩;refine oper_call (v := (.int .i64 k)) (R := fun w' => w1.drew = w') (by go_simp) (HN.out _) ?_;rintro w' rfl;refine ⟨(below_drewN HB1.out 1), ?_⟩;simp only [putLz];refine left_alts [6, 10] (by kernel_rfl) (fun i hi hS o ho => ?_);simp only [memLz] at hi;rcases hi with rfl | rfl
  ·
   skip
   simp only [altLz] at ho;subst ho;refine ⟨rfl, ?_⟩;refine oper_call (v := (.tuple #[rnAgg N, .bool B])) (R := fun w' => Below (w1.drew).heap.size (w1.drew) w') (by go_simp) (HPA.out _ (below_drewN HB1.out 1)) ?_;intro v2 hv2;have hb2 := (below_drewN HB1.out 1).trans (hv2.mono (below_drewN HB1.out 1).size);refine ⟨hb2, ?_⟩;simp only [putLz];unfold rnAgg;refine left_readE 7 rfl rfl (by kernel_rfl) ?_;apply Exists.intro;refine ⟨fun w' hw => ?_, ?_⟩
   ·
    clear hw;go_simp;rfl
   simp only [putLz];refine left_readE 8 rfl rfl (by kernel_rfl) ?_;apply Exists.intro;refine ⟨fun w' hw => ?_, ?_⟩
   ·
    clear hw;go_simp;rfl
   simp only [putLz];refine left_readE 9 rfl rfl (by kernel_rfl) ?_;apply Exists.intro;refine ⟨fun w' hw => ?_, ?_⟩
   ·
    clear hw;go_simp;rfl
   simp only [putLz];refine left_alts [10] (by kernel_rfl) (fun i hi hS o ho => ?_);simp only [memLz] at hi;subst hi;simp only [altLz] at ho;subst ho;refine ⟨rfl, ?_⟩;have hb3 := hb2.trans ((below_new1 (v2) (.cells #[.int .i64 0, .int .i64 0, .int .i64 0, .int .i64 0, .int .i64 0] 157)).mono hb2.size);have hx3 := heap_alloc_new (v2) (.cells #[.int .i64 0, .int .i64 0, .int .i64 0, .int .i64 0, .int .i64 0] 157);have hge : w.heap.size <= (v2).heap.size := hb2.size;refine oper_value (v := .pointer (some ⟨(v2).heap.size, 0, none⟩)) (w' := (v2).alloc (.cells #[.int .i64 0, .int .i64 0, .int .i64 0, .int .i64 0, .int .i64 0] 157)) (by go_simp) ⟨hb3, ?_⟩;simp only [putLz];obtain ⟨bx, hbx⟩ : ∃ bx, bx = (v2).heap.size := ⟨_, rfl⟩;rw [<- hbx] at hx3 hge ⊢;obtain ⟨u3, hu3⟩ : ∃ u, u = (v2).alloc (.cells #[.int .i64 0, .int .i64 0, .int .i64 0, .int .i64 0, .int .i64 0] 157) := ⟨_, rfl⟩;rw [<- hu3] at hx3 hb3 ⊢;clear hu3 hbx;refine left_alts [11] (by kernel_rfl) (fun i hi hS o ho => ?_);simp only [memLz] at hi;subst hi;simp only [altLz] at ho;subst ho;refine ⟨rfl, ?_⟩;obtain ⟨e0, e1, e2, e3, e4, fz⟩ := cells5 hx3;refine oper_store (w' := set5 u3 bx 0 N) rfl (run_storeNode (k := 0) fz e0 e1 e2 e3 e4 _ _ _ _ _) ?_;have hbf : Below w.heap.size w (set5 u3 bx 0 N) := below_set5 hb3 hge N;have hxf := set5_new hx3 N;refine ⟨hbf, ?_⟩;simp only [putLz];clear e0 e1 e2 e3 e4 fz;refine left_readE 12 rfl rfl (by kernel_rfl) ?_;apply Exists.intro;refine ⟨fun w' hw => ?_, ?_⟩
   ·
    clear hw;go_simp;rfl
   simp only [putLz];refine left_end (by kernel_rfl) ?_;obtain rfl : B = true := HBT.out;have hxf' := hxf;rw [HNR.out] at hxf';have HXF := Lib.hid hxf';have HBF := Lib.hid hbf;obtain ⟨y0, y1, y2, y3, y4, yz⟩ := cells5 hxf';obtain ⟨W3, hW3⟩ : ∃ W, W = set5 u3 bx 0 N := ⟨_, rfl⟩;rw [<- hW3] at y0 y1 y2 y3 y4 yz HXF HBF ⊢;clear hW3 hxf hxf' hbf HNR HPA HN HBT;go_upto_region 8 with fail;have hxz := heap_setCell_same (k := 4) HXF.out (.int .i64 ((r : Int) + 1));have hbz : Below w.heap.size w (W3.setCell ⟨bx, 4, none⟩ (.int .i64 ((r : Int) + 1))) := HBF.out.setCell (p := ⟨bx, 4, none⟩) hge _;obtain ⟨W4, hW4⟩ : ∃ W, W = W3.setCell ⟨bx, 4, none⟩ (.int .i64 ((r : Int) + 1)) := ⟨_, rfl⟩;rw [<- hW4] at hxz hbz ⊢;clear hW4 HXF HBF y0 y1 y2 y3 y4 yz;simp at hxz;obtain ⟨z0, z1, z2, z3, z4, zz⟩ := cells5 hxz;have hc1 := HC1.out _ hbz;refine wp_region_mix (fun w' => w' = W4.drew) true 5 [(0, false), (1, false), (2, false), (3, false), (4, false), (5, true)] (by kernel_rfl) (by kernel_rfl) rfl ?_;simp only [planned, plnLz]
   iterate 5
    refine mix_readE rfl ?_;apply Exists.intro;refine ⟨fun w' hw => ?_, ?_⟩
    ·
     subst hw;go_simp;rfl
    simp only [putLz]
   refine mix_last rfl (fun K hK => ?_);unfold Oper.wp;go_simp;rw [<- HREF.out];refine (HSET.out _ (below_drewN hbz 1)).mono ?_;rintro x w5 ⟨rfl, hs5, hc5, hl5⟩;refine hK _ _ (np_normal ?_);have HS5 := Lib.hid hs5;have HC5 := Lib.hid hc5;have HL5 := Lib.hid hl5;clear hs5 hc5 hl5 hxz hbz z0 z1 z2 z3 z4 zz hc1;go_wp2_with fail;refine (HMORE.out _ HS5.out HL5.out HC5.out).mono ?_;rintro x w6 ⟨rfl, hp⟩;have HP := Lib.hid hp;clear hp;go_wp2_with fail;go_ret;exact HP.out
  ·
   skip
   simp only [altLz] at ho;subst ho;refine ⟨rfl, ?_⟩;have hb4 := (below_drewN HB1.out 1).trans ((below_new1 (w1.drew) (.cells #[.int .i64 0, .int .i64 0, .int .i64 0, .int .i64 0, .int .i64 0] 157)).mono (below_drewN HB1.out 1).size);have hx4 := heap_alloc_new (w1.drew) (.cells #[.int .i64 0, .int .i64 0, .int .i64 0, .int .i64 0, .int .i64 0] 157);have hge : w.heap.size <= (w1.drew).heap.size := (below_drewN HB1.out 1).size;refine oper_value (v := .pointer (some ⟨(w1.drew).heap.size, 0, none⟩)) (w' := (w1.drew).alloc (.cells #[.int .i64 0, .int .i64 0, .int .i64 0, .int .i64 0, .int .i64 0] 157)) (by go_simp) ⟨hb4, ?_⟩;simp only [putLz];obtain ⟨bx, hbx⟩ : ∃ bx, bx = (w1.drew).heap.size := ⟨_, rfl⟩;rw [<- hbx] at hx4 hge ⊢;obtain ⟨u4, hu4⟩ : ∃ u, u = (w1.drew).alloc (.cells #[.int .i64 0, .int .i64 0, .int .i64 0, .int .i64 0, .int .i64 0] 157) := ⟨_, rfl⟩;rw [<- hu4] at hx4 hb4 ⊢;clear hu4 hbx;refine left_alts [6] (by kernel_rfl) (fun i hi hS o ho => ?_);simp only [memLz] at hi;subst hi;simp only [altLz] at ho;subst ho;refine ⟨rfl, ?_⟩;refine oper_call (v := (.tuple #[rnAgg N, .bool B])) (R := fun w' => Below (u4).heap.size (u4) w') (by go_simp) (HPA.out _ hb4) ?_;intro v5 hv5;have hb5 := hb4.trans (hv5.mono hb4.size);refine ⟨hb5, ?_⟩;simp only [putLz];unfold rnAgg;have hx5 := (hv5.block _ (Array.getElem?_eq_some_iff.1 hx4).1).trans hx4;refine left_readE 7 rfl rfl (by kernel_rfl) ?_;apply Exists.intro;refine ⟨fun w' hw => ?_, ?_⟩
   ·
    clear hw;go_simp;rfl
   simp only [putLz];refine left_readE 8 rfl rfl (by kernel_rfl) ?_;apply Exists.intro;refine ⟨fun w' hw => ?_, ?_⟩
   ·
    clear hw;go_simp;rfl
   simp only [putLz];refine left_readE 9 rfl rfl (by kernel_rfl) ?_;apply Exists.intro;refine ⟨fun w' hw => ?_, ?_⟩
   ·
    clear hw;go_simp;rfl
   simp only [putLz];refine left_alts [11] (by kernel_rfl) (fun i hi hS o ho => ?_);simp only [memLz] at hi;subst hi;simp only [altLz] at ho;subst ho;refine ⟨rfl, ?_⟩;obtain ⟨e0, e1, e2, e3, e4, fz⟩ := cells5 hx5;refine oper_store (w' := set5 v5 bx 0 N) rfl (run_storeNode (k := 0) fz e0 e1 e2 e3 e4 _ _ _ _ _) ?_;have hbf : Below w.heap.size w (set5 v5 bx 0 N) := below_set5 hb5 hge N;have hxf := set5_new hx5 N;refine ⟨hbf, ?_⟩;simp only [putLz];clear e0 e1 e2 e3 e4 fz;refine left_readE 12 rfl rfl (by kernel_rfl) ?_;apply Exists.intro;refine ⟨fun w' hw => ?_, ?_⟩
   ·
    clear hw;go_simp;rfl
   simp only [putLz];refine left_end (by kernel_rfl) ?_;obtain rfl : B = true := HBT.out;have hxf' := hxf;rw [HNR.out] at hxf';have HXF := Lib.hid hxf';have HBF := Lib.hid hbf;obtain ⟨y0, y1, y2, y3, y4, yz⟩ := cells5 hxf';obtain ⟨W3, hW3⟩ : ∃ W, W = set5 v5 bx 0 N := ⟨_, rfl⟩;rw [<- hW3] at y0 y1 y2 y3 y4 yz HXF HBF ⊢;clear hW3 hxf hxf' hbf HNR HPA HN HBT;go_upto_region 8 with fail;have hxz := heap_setCell_same (k := 4) HXF.out (.int .i64 ((r : Int) + 1));have hbz : Below w.heap.size w (W3.setCell ⟨bx, 4, none⟩ (.int .i64 ((r : Int) + 1))) := HBF.out.setCell (p := ⟨bx, 4, none⟩) hge _;obtain ⟨W4, hW4⟩ : ∃ W, W = W3.setCell ⟨bx, 4, none⟩ (.int .i64 ((r : Int) + 1)) := ⟨_, rfl⟩;rw [<- hW4] at hxz hbz ⊢;clear hW4 HXF HBF y0 y1 y2 y3 y4 yz;simp at hxz;obtain ⟨z0, z1, z2, z3, z4, zz⟩ := cells5 hxz;have hc1 := HC1.out _ hbz;refine wp_region_mix (fun w' => w' = W4.drew) true 5 [(0, false), (1, false), (2, false), (3, false), (4, false), (5, true)] (by kernel_rfl) (by kernel_rfl) rfl ?_;simp only [planned, plnLz]
   iterate 5
    refine mix_readE rfl ?_;apply Exists.intro;refine ⟨fun w' hw => ?_, ?_⟩
    ·
     subst hw;go_simp;rfl
    simp only [putLz]
   refine mix_last rfl (fun K hK => ?_);unfold Oper.wp;go_simp;rw [<- HREF.out];refine (HSET.out _ (below_drewN hbz 1)).mono ?_;rintro x w5 ⟨rfl, hs5, hc5, hl5⟩;refine hK _ _ (np_normal ?_);have HS5 := Lib.hid hs5;have HC5 := Lib.hid hc5;have HL5 := Lib.hid hl5;clear hs5 hc5 hl5 hxz hbz z0 z1 z2 z3 z4 zz hc1;go_wp2_with fail;refine (HMORE.out _ HS5.out HL5.out HC5.out).mono ?_;rintro x w6 ⟨rfl, hp⟩;have HP := Lib.hid hp;clear hp;go_wp2_with fail;go_ret;exact HP.out
 ·
  skip
  simp only [altLz] at ho;subst ho;refine ⟨rfl, ?_⟩;have hb6 := (below_drewN HB1.out 1).trans ((below_new1 (w1.drew) (.cells #[.int .i64 0, .int .i64 0, .int .i64 0, .int .i64 0, .int .i64 0] 157)).mono (below_drewN HB1.out 1).size);have hx6 := heap_alloc_new (w1.drew) (.cells #[.int .i64 0, .int .i64 0, .int .i64 0, .int .i64 0, .int .i64 0] 157);have hge : w.heap.size <= (w1.drew).heap.size := (below_drewN HB1.out 1).size;refine oper_value (v := .pointer (some ⟨(w1.drew).heap.size, 0, none⟩)) (w' := (w1.drew).alloc (.cells #[.int .i64 0, .int .i64 0, .int .i64 0, .int .i64 0, .int .i64 0] 157)) (by go_simp) ⟨hb6, ?_⟩;simp only [putLz];obtain ⟨bx, hbx⟩ : ∃ bx, bx = (w1.drew).heap.size := ⟨_, rfl⟩;rw [<- hbx] at hx6 hge ⊢;obtain ⟨u6, hu6⟩ : ∃ u, u = (w1.drew).alloc (.cells #[.int .i64 0, .int .i64 0, .int .i64 0, .int .i64 0, .int .i64 0] 157) := ⟨_, rfl⟩;rw [<- hu6] at hx6 hb6 ⊢;clear hu6 hbx;refine left_alts [5] (by kernel_rfl) (fun i hi hS o ho => ?_);simp only [memLz] at hi;subst hi;simp only [altLz] at ho;subst ho;refine ⟨rfl, ?_⟩;refine oper_call (v := (.int .i64 k)) (R := fun w' => u6 = w') (by go_simp) (HN.out _) ?_;rintro w' rfl;refine ⟨hb6, ?_⟩;simp only [putLz];refine left_alts [6] (by kernel_rfl) (fun i hi hS o ho => ?_);simp only [memLz] at hi;subst hi;simp only [altLz] at ho;subst ho;refine ⟨rfl, ?_⟩;refine oper_call (v := (.tuple #[rnAgg N, .bool B])) (R := fun w' => Below (u6).heap.size (u6) w') (by go_simp) (HPA.out _ hb6) ?_;intro v8 hv8;have hb8 := hb6.trans (hv8.mono hb6.size);refine ⟨hb8, ?_⟩;simp only [putLz];unfold rnAgg;have hx8 := (hv8.block _ (Array.getElem?_eq_some_iff.1 hx6).1).trans hx6;refine left_readE 7 rfl rfl (by kernel_rfl) ?_;apply Exists.intro;refine ⟨fun w' hw => ?_, ?_⟩
  ·
   clear hw;go_simp;rfl
  simp only [putLz];refine left_readE 8 rfl rfl (by kernel_rfl) ?_;apply Exists.intro;refine ⟨fun w' hw => ?_, ?_⟩
  ·
   clear hw;go_simp;rfl
  simp only [putLz];refine left_readE 9 rfl rfl (by kernel_rfl) ?_;apply Exists.intro;refine ⟨fun w' hw => ?_, ?_⟩
  ·
   clear hw;go_simp;rfl
  simp only [putLz];refine left_alts [11] (by kernel_rfl) (fun i hi hS o ho => ?_);simp only [memLz] at hi;subst hi;simp only [altLz] at ho;subst ho;refine ⟨rfl, ?_⟩;obtain ⟨e0, e1, e2, e3, e4, fz⟩ := cells5 hx8;refine oper_store (w' := set5 v8 bx 0 N) rfl (run_storeNode (k := 0) fz e0 e1 e2 e3 e4 _ _ _ _ _) ?_;have hbf : Below w.heap.size w (set5 v8 bx 0 N) := below_set5 hb8 hge N;have hxf := set5_new hx8 N;refine ⟨hbf, ?_⟩;simp only [putLz];clear e0 e1 e2 e3 e4 fz;refine left_readE 12 rfl rfl (by kernel_rfl) ?_;apply Exists.intro;refine ⟨fun w' hw => ?_, ?_⟩
  ·
   clear hw;go_simp;rfl
  simp only [putLz];refine left_end (by kernel_rfl) ?_;obtain rfl : B = true := HBT.out;have hxf' := hxf;rw [HNR.out] at hxf';have HXF := Lib.hid hxf';have HBF := Lib.hid hbf;obtain ⟨y0, y1, y2, y3, y4, yz⟩ := cells5 hxf';obtain ⟨W3, hW3⟩ : ∃ W, W = set5 v8 bx 0 N := ⟨_, rfl⟩;rw [<- hW3] at y0 y1 y2 y3 y4 yz HXF HBF ⊢;clear hW3 hxf hxf' hbf HNR HPA HN HBT;go_upto_region 8 with fail;have hxz := heap_setCell_same (k := 4) HXF.out (.int .i64 ((r : Int) + 1));have hbz : Below w.heap.size w (W3.setCell ⟨bx, 4, none⟩ (.int .i64 ((r : Int) + 1))) := HBF.out.setCell (p := ⟨bx, 4, none⟩) hge _;obtain ⟨W4, hW4⟩ : ∃ W, W = W3.setCell ⟨bx, 4, none⟩ (.int .i64 ((r : Int) + 1)) := ⟨_, rfl⟩;rw [<- hW4] at hxz hbz ⊢;clear hW4 HXF HBF y0 y1 y2 y3 y4 yz;simp at hxz;obtain ⟨z0, z1, z2, z3, z4, zz⟩ := cells5 hxz;have hc1 := HC1.out _ hbz;refine wp_region_mix (fun w' => w' = W4.drew) true 5 [(0, false), (1, false), (2, false), (3, false), (4, false), (5, true)] (by kernel_rfl) (by kernel_rfl) rfl ?_;simp only [planned, plnLz]
  iterate 5
   refine mix_readE rfl ?_;apply Exists.intro;refine ⟨fun w' hw => ?_, ?_⟩
   ·
    subst hw;go_simp;rfl
   simp only [putLz]
  refine mix_last rfl (fun K hK => ?_);unfold Oper.wp;go_simp;rw [<- HREF.out];refine (HSET.out _ (below_drewN hbz 1)).mono ?_;rintro x w5 ⟨rfl, hs5, hc5, hl5⟩;refine hK _ _ (np_normal ?_);have HS5 := Lib.hid hs5;have HC5 := Lib.hid hc5;have HL5 := Lib.hid hl5;clear hs5 hc5 hl5 hxz hbz z0 z1 z2 z3 z4 zz hc1;go_wp2_with fail;refine (HMORE.out _ HS5.out HL5.out HC5.out).mono ?_;rintro x w6 ⟨rfl, hp⟩;have HP := Lib.hid hp;clear hp;go_wp2_with fail;go_ret;exact HP.out
end Go.Proofs.YtchliiaknmknhaaGreat
