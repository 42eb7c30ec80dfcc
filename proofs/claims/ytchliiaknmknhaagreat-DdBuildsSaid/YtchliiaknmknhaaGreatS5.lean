/- Several texts in one file: contracts of the program's functions and what follows from them. -/
import Derived.Test.YtchliiaknmknhaaGreatS4
set_option linter.unusedSimpArgs false
set_option linter.unusedVariables false
set_option linter.unusedSectionVars false
set_option linter.unnecessarySimpa false
namespace Go.Proofs.YtchliiaknmknhaaGreat
open Go.RowKit
structure ElemT (T ST : TypeId) (z : Value) (b : Nat) : Prop where
 under : Tryz.prog.underlying ST = some (.slice T)
 info : (Tryz.prog.info? T).map (fun i => (i.zero, i.size, i.bytes)) = some (some z, 1, b)
 one : z.cells = #[z]
 small : b ≤ 100
theorem elemInt : ElemT 3 22 (.int .i64 0) 8 := ⟨Tryz.underlying22, by kernel_rfl, rfl, by omega⟩
theorem elemBool : ElemT 4 36 (.bool false) 1 := ⟨Tryz.underlying36, by kernel_rfl, rfl, by omega⟩
theorem elemRow : ElemT 36 33 (.slice none 0 0) 24 := ⟨Tryz.underlying33, by kernel_rfl, rfl, by omega⟩
def OwnC (T : TypeId) (w : World) (base : Nat) (v : Value) (xs : List Value) : Prop := w.ownsRow base T 1 v xs.length xs
section
variable {T ST : TypeId} {z : Value} {b : Nat} {w w' : World} {base : Nat} {v : Value} {xs : List Value}
theorem OwnC.alloc (h : OwnC T w base v xs) (o : Obj) : OwnC T (w.alloc o) base v xs := World.ownsRow.alloc h o
theorem OwnC.lt (h : OwnC T w base v xs) : ∀ k, v.ownBlock = some k → base ≤ k ∧ k < w.heap.size := World.ownsRow.lt h
theorem OwnC.same (h : OwnC T w base v xs) (hk : ∀ k, v.ownBlock = some k → w'.heap[k]? = w.heap[k]?) : OwnC T w' base v xs := by
 refine ⟨h.1, ?_⟩
 rcases h.2 with hn | ⟨g, cap, cur, rfl, hb, hgg, rest⟩
 ·
  exact .inl hn
 ·
  refine .inr ⟨g, cap, cur, rfl, hb, ?_, rest⟩
  rw [hk g rfl]; exact hgg
theorem OwnC.below (h : OwnC T w base v xs) (hb : Below w.heap.size w w') : OwnC T w' base v xs := h.same fun k hk => hb.block k (h.lt k hk).2
theorem OwnC.shape (h : OwnC T w base v xs) (hp : 0 < xs.length) : ∃ g cap, v = .slice (some ⟨g, 0, none⟩) xs.length cap ∧ base ≤ g ∧ g < w.heap.size := by
 rcases h.2 with ⟨_, h0⟩ | ⟨g, cap, cur, hv, hg, hh, _⟩
 ·
  omega
 ·
  exact ⟨g, cap, hv, hg, (Array.getElem?_eq_some_iff.1 hh).1⟩
theorem OwnC.slice (h : OwnC T w base v xs) : ∃ a cap, v = .slice a xs.length cap ∧ (a = none → cap = 0) := by
 rcases h.2 with ⟨hv, h0⟩ | ⟨g, cap, cur, hv, hg, hh, _⟩
 ·
  exact ⟨none, 0, by rw [hv, h0], fun _ => rfl⟩
 ·
  exact ⟨_, cap, hv, by simp⟩
theorem OwnC.cell {g cap n : Nat} (h : OwnC T w base (.slice (some ⟨g, 0, none⟩) n cap) xs) (k : Nat) (hk : k < xs.length) : w.cell? ⟨g, k, none⟩ = xs[k]? := by
 have hn : n = xs.length := by
  rcases h.2 with ⟨hv, _⟩ | ⟨_, _, _, hv, _⟩
  ·
   cases hv
  ·
   cases hv; rfl
 subst hn
 exact World.ownsRow.cellAt h k (by omega)
theorem OwnC.frozen {g cap n : Nat} (h : OwnC T w base (.slice (some ⟨g, 0, none⟩) n cap) xs) (k : Nat) : w.frozen? ⟨g, k, none⟩ = false := by
 rcases h.2 with ⟨hv, _⟩ | ⟨_, _, _, hv, _⟩
 ·
  cases hv
 ·
  cases hv; exact World.ownsRow.frozenAt h k
theorem OwnC.stored {g cap n : Nat} (h : OwnC T w base (.slice (some ⟨g, 0, none⟩) n cap) xs) (k : Nat) (y : Value) : OwnC T (w.setCell ⟨g, k, none⟩ y) base (.slice (some ⟨g, 0, none⟩) n cap) (xs.set k y) := by
 rcases h.2 with ⟨hv, _⟩ | ⟨_, _, _, hv, _⟩
 ·
  cases hv
 ·
  cases hv
  have := (World.ownsRow.stored h k y).1
  unfold OwnC
  rw [List.length_set]
  exact this
theorem OwnC.typed (h : OwnC T w base v xs) : ∀ k, v.ownBlock = some k → ∃ cur, w.heap[k]? = some (.cells cur T (0, 0)) := by
 intro k hk
 rcases h.2 with ⟨rfl, _⟩ | ⟨g, cap, cur, rfl, _, hg, _⟩
 ·
  cases hk
 ·
  cases hk; exact ⟨cur, hg⟩
theorem ownC_new (T : TypeId) (w : World) (base : Nat) (hb : base ≤ w.heap.size) : OwnC T (w.alloc (.cells #[] T)) base (.slice (some ⟨w.heap.size, 0, none⟩) 0 0) [] :=
 World.ownsRow_made w #[] 0 hb (by unfold maxLen; omega) (by simp)
theorem ownC_nil (T : TypeId) (w : World) (base : Nat) : OwnC T w base (.slice none 0 0) [] := World.ownsRow_nil w base T 1
theorem wpList_appC (E : ElemT T ST z b) (wr : World) {ops : Array Oper} {rest : List Oper} {o : Oper} {a : Act} {Q : Exit → Act → World → Prop} {W : World} (hgd : o.guard = none) (s x : Operand)
 (ho : o.op = .call { callee := .builtin .append, args := #[s, x], argTypes := #[ST, ST] })
 (base : Nat) (v : Value) (xs : List Value) (y : Value) (hs : a.eval s = v) {N : Nat} (hx : a.eval x = .slice (some ⟨N, 0, none⟩) 1 1)
 (hW : W = wr.alloc (.cells #[y] T)) (hN : N = wr.heap.size) (hy : y.oneCell' = true)
 (hown : OwnC T wr base v xs) (hlen : xs.length < 1099511627776) (hbase : base ≤ wr.heap.size)
 (h : ∀ v' w', OwnC T w' base v' (xs ++ [y]) → w'.os = wr.os → w'.tape = wr.tape → w'.output = wr.output → wr.heap.size ≤ w'.heap.size → KeepApp v v' wr w' → wpList Tryz.prog ops Q rest (a.put o.dst v') w') :
 wpList Tryz.prog ops Q (o :: rest) a W := by
 obtain ⟨i, hi, hz, hsz, hby⟩ := info_parts E.info
 subst hN; subst hW
 have hsm := E.small
 refine wpList_append_own_at (w := wr.alloc (.cells #[y] T)) hgd s x ST ho base T i z 1 b E.under hi hz hsz hby (by rw [E.one]; rfl) (by decide)
  v xs.length xs hs (hown.alloc _) ⟨wr.heap.size, 0, none⟩ 1 1 [y] hx rfl (cell_one_new _ _ _) (by intro u hu; simp at hu; subst hu; exact hy) (by unfold maxLen; omega) (by
   have h1 : (xs.length + 1) * b ≤ 1099511627776 * 100 := Nat.mul_le_mul (by omega) hsm
   omega) (by simp; omega) ?_
 intro v' w' h1 h2 _ hloc
 refine h v' w' ?_ h2.os h2.tape h2.output ?_ ⟨keepBut_of_grown h2, hloc.imp id fun e => ⟨_, e, by simp⟩⟩
 ·
  unfold OwnC
  rw [List.length_append]; exact h1
 ·
  have := h2.size; simp at this; omega
theorem below_app {w0 wr w' : World} {v' : Value} (hb : Below base w0 wr) (hown : OwnC T wr base v xs) (h1 : w'.os = wr.os) (h2 : w'.tape = wr.tape) (h3 : w'.output = wr.output) (h4 : wr.heap.size ≤ w'.heap.size) (hk : KeepApp v v' wr w') (hbase : base ≤ wr.heap.size) : Below base w0 w' :=
 ⟨h1.trans hb.os, h2.trans hb.tape, h3.trans hb.output, Nat.le_trans hb.size h4, fun k hkb => (hk.keep k (by omega) (fun e => by have := (hown.lt k e.symm).1; omega)).trans (hb.block k hkb)⟩
theorem wpList_makeC (E : ElemT T ST z b) {ops : Array Oper} {rest : List Oper} {o : Oper} {a : Act} {Q : Exit → Act → World → Prop} {wr : World} (hgd : o.guard = none) (l c : Operand)
 (ho : o.op = .makeSlice ST l c) (base : Nat) (w0 : World) (L : Int) (n : Nat) (hl : a.eval l = .int .i64 L) (hc : a.eval c = .int .i64 L) (hL : L = n) (hn : n < 1099511627776)
 (hbase : base ≤ wr.heap.size) (hb : Below base w0 wr)
 (h : ∀ g w', OwnC T w' base (.slice (some ⟨g, 0, none⟩) n n) (List.replicate n z) → Below base w0 w' → base ≤ w'.heap.size → KeepBut none wr w' → base ≤ g → g = wr.heap.size →
  wpList Tryz.prog ops Q rest (a.put o.dst (.slice (some ⟨g, 0, none⟩) n n)) w') :
 wpList Tryz.prog ops Q (o :: rest) a wr := by
 obtain ⟨i, hi, hz, hsz, hby⟩ := info_parts E.info
 have hsm := E.small
 refine wpList_make_full wr hgd l c ST ho base T i z 1 E.under hi hz hsz .i64 .i64 L L n hl hc hL hL (by
  have h1 : i.bytes * n ≤ 100 * 1099511627776 := Nat.mul_le_mul (by omega) (by omega)
  omega) (by unfold maxLen; omega) hbase ?_
 intro w' h1 h2
 refine h wr.heap.size w' ?_ (hb.grown h2 hbase (by simp)) (by have := h2.size; omega) (keepBut_of_grown0 h2) hbase rfl
 unfold OwnC
 have e1 : List.replicate n z = (madeCells z.cells (n * 1)).toList := by
  rw [E.one]
  simp [madeCells]
  apply List.ext_getElem
  ·
   simp
  ·
   intro j h3 h4; simp [Nat.mod_one]
 rw [List.length_replicate, e1]; exact h1
end
def boolsV (bs : List Bool) : List Value := bs.map Value.bool
theorem boolsV_length (bs : List Bool) : (boolsV bs).length = bs.length := by simp [boolsV]
theorem getElem?_boolsV {bs : List Bool} {k : Nat} (h : k < bs.length) : (boolsV bs)[k]? = some (.bool (bs.getD k false)) := by
 simp [boolsV, List.getD, h]
abbrev OwnB (w : World) (base : Nat) (v : Value) (bs : List Bool) : Prop := OwnC 4 w base v (boolsV bs)
def BoolsIs (w : World) (v : Value) (bs : List Bool) : Prop := ∃ a c, v = .slice a bs.length c ∧ BoolsAt w a bs ∧ (a = none → c = 0)
theorem BoolsIs.below {w w' : World} {v : Value} {bs : List Bool} (h : BoolsIs w v bs) (hb : Below w.heap.size w w') : BoolsIs w' v bs := by
 obtain ⟨a, c, rfl, h1, h2⟩ := h
 exact ⟨a, c, rfl, h1.below hb, h2⟩
theorem BoolsIs.same {w w' : World} {v : Value} {bs : List Bool} (h : BoolsIs w v bs) (hk : ∀ k, v.ownBlock = some k → w'.heap[k]? = w.heap[k]?) : BoolsIs w' v bs := by
 obtain ⟨a, c, rfl, h1, h2⟩ := h
 refine ⟨a, c, rfl, ⟨h1.len, fun k hlt => ?_⟩, h2⟩
 obtain ⟨g, off, rfl, hc⟩ := h1.cells k hlt
 exact ⟨g, off, rfl, (World.cell?_of_block (w := w) (a := ⟨g, off + k, none⟩) (hk g rfl)).trans hc⟩
theorem OwnC.boolsIs {w : World} {base : Nat} {v : Value} {bs : List Bool} (h : OwnB w base v bs) (hl : bs.length ≤ 1000000) : BoolsIs w v bs := by
 obtain ⟨a, c, hv, hn⟩ := h.slice
 have hv0 := hv
 rw [boolsV_length] at hv0
 refine ⟨a, c, hv0, ⟨hl, fun k hk => ?_⟩, hn⟩
 obtain ⟨g, cap, hv2, hb, hg⟩ := h.shape (by rw [boolsV_length]; omega)
 have ea : a = some ⟨g, 0, none⟩ := by rw [hv] at hv2; injection hv2
 subst ea
 refine ⟨g, 0, rfl, ?_⟩
 subst hv
 rw [Nat.zero_add, h.cell k (by rw [boolsV_length]; exact hk), getElem?_boolsV hk]
theorem OwnC.setB {w : World} {base g cap n : Nat} {bs : List Bool} (h : OwnB w base (.slice (some ⟨g, 0, none⟩) n cap) bs) (k : Nat) (y : Bool) : OwnB (w.setCell ⟨g, k, none⟩ (.bool y)) base (.slice (some ⟨g, 0, none⟩) n cap) (bs.set k y) := by
 have := h.stored k (.bool y)
 unfold OwnB
 rw [show boolsV (bs.set k y) = (boolsV bs).set k (.bool y) by simp [boolsV, List.map_set]]
 exact this
theorem OwnC.cellB {w : World} {base g cap n : Nat} {bs : List Bool} (h : OwnB w base (.slice (some ⟨g, 0, none⟩) n cap) bs) (k : Nat) (hk : k < bs.length) : w.cell? ⟨g, k, none⟩ = some (.bool (bs.getD k false)) := by
 rw [h.cell k (by rw [boolsV_length]; exact hk), getElem?_boolsV hk]
open Go.RowKit
def bitB (i v : Nat) : Bool := decide (i / 2 ^ v % 2 = 1)
def bitsL (i n : Nat) : List Bool := (List.range n).map (bitB i)
def tabB (n : Nat) (F : BF) : List Bool := (List.range (2 ^ n)).map fun i => F (envOf (bitsL i n))
theorem bitsL_length (i n : Nat) : (bitsL i n).length = n := by simp [bitsL]
theorem tabB_length (n : Nat) (F : BF) : (tabB n F).length = 2 ^ n := by simp [tabB]
theorem tabB_get {n : Nat} {F : BF} {i : Nat} (hi : i < 2 ^ n) : (tabB n F).getD i false = F (envOf (bitsL i n)) := by simp [tabB, List.getD, hi]
theorem envOf_bits {i n v : Nat} : envOf (bitsL i n) v = (decide (v < n) && bitB i v) := by
 unfold envOf bitsL
 by_cases h : v < n
 ·
  simp [List.getD, h]
 ·
  simp [List.getD, h]
theorem tab_ext {bs : List Bool} {n : Nat} {F : BF} (hl : bs.length = 2 ^ n) (h : ∀ i, i < 2 ^ n → bs.getD i false = F (envOf (bitsL i n))) : bs = tabB n F := by
 refine List.ext_getElem (by rw [hl, tabB_length]) fun i h1 h2 => ?_
 have := h i (by omega)
 have e : (tabB n F).getD i false = F (envOf (bitsL i n)) := tabB_get (by omega)
 rw [← this] at e
 simpa [List.getD, h1, h2] using e.symm
theorem pow_small {k : Nat} (h : k ≤ 20) : 2 ^ k ≤ 1048576 := Nat.pow_le_pow_right (by omega) h
set_option maxRecDepth 100000 in
theorem bit_any (v : Nat) (hv : v ≤ 20) (w : World) : Calls Tryz.prog 98 #[.int .i64 v] w fun x w' => x = .returned (.int .i64 (2 ^ v : Nat)) ∧ w = w' := by
 have HS : Hid (∀ k, k ≤ v → 2 ^ k ≤ 1048576) := Lib.hid fun k hk => pow_small (by omega)
 go_enter Tryz.func98, Tryz.ntmps98
 go_wp2_with fail
 go_loopw [3, 4] (fun s3 s4 wr => ∃ k p : Nat, k ≤ v ∧ s3 = .int .i64 p ∧ s4 = .int .i64 k ∧ w = wr ∧ Hid (2 ^ k = p)) (fun _ s4 _ => v - (intOf s4).toNat)
 case atStart => exact ⟨0, 1, Nat.zero_le _, rfl, rfl, rfl, Lib.hid rfl⟩
 case round =>
  obtain ⟨k, p, hk, rfl, rfl, rfl, HP⟩ := hrel
  by_cases hlt : k < v
  ·
   have hp : p ≤ 1048576 := by rw [← HP.out]; exact HS.out k hk
   go_wp2_with fail
   go_roundw
   case rel => exact ⟨k + 1, 2 * p, by omega, by go_num, by go_num, by simp, Lib.hid (by rw [Nat.pow_succ, HP.out]; omega)⟩
   case measure => simp [intOf]; omega
  ·
   have he : k = v := by omega
   have HE : Hid (2 ^ v = p) := by rw [← he]; exact HP
   clear he
   go_wp2_with fail
   go_ret
   exact ⟨by rw [HE.out]; rfl, rfl⟩
set_option maxRecDepth 100000 in
theorem truth_any (i v : Nat) (hi : i ≤ 1048576) (hv : v ≤ 20) (w : World) : Calls Tryz.prog 79 #[.int .i64 i, .int .i64 v] w fun x w' => x = .returned (.bool (bitB i v)) ∧ w = w' := by
 have HB := Lib.hid (bit_any v hv w)
 have hpos : 0 < 2 ^ v := Nat.pow_pos (by omega)
 have hsm := pow_small hv
 obtain ⟨p, hp⟩ : ∃ p, p = 2 ^ v := ⟨_, rfl⟩
 rw [← hp] at hpos hsm HB
 have hdiv : i / p ≤ i := Nat.div_le_self _ _
 have HF : Hid (((wrap64 ((i : Int) / (p : Int))).tmod 2 == 1) = bitB i v) := by
  refine Lib.hid ?_
  unfold bitB
  rw [← hp]
  have e0 : (i : Int) / (p : Int) = ((i / p : Nat) : Int) := rfl
  rw [e0]
  generalize i / p = q at hdiv ⊢
  rw [IntWalk.wrap64_in _ (by omega)]
  have e1 : Int.tmod (q : Int) 2 = ((q % 2 : Nat) : Int) := by rw [Int.tmod_eq_emod_of_nonneg (by omega)]; rfl
  rw [e1]
  by_cases h : q % 2 = 1
  ·
   rw [h]; rfl
  ·
   have : ((q % 2 : Nat) : Int) ≠ 1 := by omega
   rw [beq_eq_false_iff_ne.2 this, decide_eq_false h]
 clear hp
 go_enter Tryz.func79, Tryz.ntmps79
 go_wp2_with fail
 refine HB.out.mono ?_
 rintro x w' ⟨rfl, rfl⟩
 go_wp2_with fail
 go_ret
 exact ⟨by rw [← HF.out]; rfl, rfl⟩
theorem set_replicate {α : Type} (a b : α) (k n : Nat) (h : k < n) : (List.replicate k a ++ List.replicate (n - k) b).set k a = List.replicate (k + 1) a ++ List.replicate (n - (k + 1)) b := by
 have e : n - k = (n - (k + 1)) + 1 := by omega
 rw [e, List.replicate_succ, List.set_append_right _ _ (by simp), List.length_replicate, Nat.sub_self, List.set_cons_zero, List.replicate_succ', List.append_assoc]; rfl
set_option maxRecDepth 100000 in
set_option maxHeartbeats 1000000 in
theorem refConst_any (b : Bool) (n : Nat) (hn : n ≤ 16) (w : World) : Calls Tryz.prog 27 #[.bool b, .int .i64 n] w fun x w' => ∃ g, x = .returned (.slice (some ⟨g, 0, none⟩) (2 ^ n) (2 ^ n)) ∧ OwnB w' w.heap.size (.slice (some ⟨g, 0, none⟩) (2 ^ n) (2 ^ n)) (List.replicate (2 ^ n) b) ∧ Below w.heap.size w w' := by
 have HS : Hid (∀ k, k ≤ n → 2 ^ k ≤ 1048576) := Lib.hid fun k hk => pow_small (by omega)
 obtain ⟨L, hL⟩ : ∃ L, L = 2 ^ n := ⟨_, rfl⟩
 have HL := Lib.hid hL
 have hLs : L ≤ 1048576 := by rw [hL]; exact pow_small (by omega)
 rw [← hL]
 clear hL
 go_enter Tryz.func27, Tryz.ntmps27
 go_wp2_with fail
 go_loopw [5, 6] (fun s5 s6 wr => ∃ k p : Nat, k ≤ n ∧ s5 = .int .i64 p ∧ s6 = .int .i64 k ∧ w = wr ∧ Hid (2 ^ k = p)) (fun _ s6 _ => n - (intOf s6).toNat)
 case atStart => exact ⟨0, 1, Nat.zero_le _, rfl, rfl, rfl, Lib.hid rfl⟩
 case round =>
  obtain ⟨k, p, hk, rfl, rfl, rfl, HP⟩ := hrel
  by_cases hlt : k < n
  ·
   have hp : p ≤ 1048576 := by rw [← HP.out]; exact HS.out k hk
   go_wp2_with fail
   go_roundw
   case rel => exact ⟨k + 1, 2 * p, by omega, by go_num, by go_num, by simp, Lib.hid (by rw [Nat.pow_succ, HP.out]; omega)⟩
   case measure => simp [intOf]; omega
  ·
   have he : k = n := by omega
   have hp : p = L := by rw [← HP.out, he, HL.out]
   subst hp
   clear he
   go_wp2_with (at_make; refine wpList_makeC elemBool rfl _ _ rfl w.heap.size w _ p rfl rfl rfl (by omega) (Nat.le_refl _) (Below.refl _ _) ?_; intro g w1 hown1 hb1 hs1 hk1 hg1 hgx; clear hgx)
   go_loopw [8] (fun i wr => ∃ j : Nat, j ≤ p ∧ i = .int .i64 j ∧ OwnB wr w.heap.size (.slice (some ⟨g, 0, none⟩) p p) (List.replicate j b ++ List.replicate (p - j) false) ∧ Below w.heap.size w wr) (fun i _ => p - (intOf i).toNat)
   case atStart => exact ⟨0, by omega, rfl, by unfold OwnB; rw [show boolsV (List.replicate 0 b ++ List.replicate (p - 0) false) = List.replicate p (Value.bool false) by simp [boolsV]]; exact hown1, hb1⟩
   case round =>
    obtain ⟨j, hj, rfl, hown, hbel⟩ := hrel
    by_cases hlt : j < p
    ·
     have q0 := hown.cellB j (by simp; omega)
     have p0 := hown.frozen j
     go_wp2_with fail
     go_roundw
     case rel => exact ⟨j + 1, by omega, by go_num, by rw [← set_replicate b false j p hlt]; exact hown.setB j b, hbel.setCell hg1 _⟩
     case measure => simp [intOf]; omega
    ·
     obtain rfl : j = p := by omega
     go_wp2_with fail
     go_ret
     exact ⟨_, rfl, by simpa using hown, hbel⟩
theorem list_take_set {α : Type} {l m : List α} {k : Nat} {y : α} (hk : k < l.length) (hm : k < m.length) (hy : m[k] = y) : (m.take k ++ l.drop k).set k y = m.take (k + 1) ++ l.drop (k + 1) := by
 have h1 : (m.take k).length = k := by simp; omega
 rw [List.set_append_right _ _ (by omega), h1, Nat.sub_self, List.drop_eq_getElem_cons hk, List.set_cons_zero, List.take_succ_eq_append_getElem hm, hy, List.append_assoc]; rfl
set_option maxRecDepth 100000 in
set_option maxHeartbeats 1000000 in
theorem refVar_any (v n : Nat) (hv : v ≤ 16) (hn : n ≤ 16) (w : World) : Calls Tryz.prog 16 #[.int .i64 v, .int .i64 n] w fun x w' => ∃ g, x = .returned (.slice (some ⟨g, 0, none⟩) (2 ^ n) (2 ^ n)) ∧ OwnB w' w.heap.size (.slice (some ⟨g, 0, none⟩) (2 ^ n) (2 ^ n)) ((List.range (2 ^ n)).map (fun i => bitB i v)) ∧ Below w.heap.size w w' := by
 have HCONST := Lib.hid (refConst_any false n hn w)
 have hLs : 2 ^ n ≤ 1048576 := pow_small (by omega)
 have HTR : Hid (∀ i, i ≤ 1048576 → ∀ W, Calls Tryz.prog 79 #[.int .i64 (i : Nat), .int .i64 (v : Nat)] W fun x w' => x = .returned (.bool (bitB i v)) ∧ W = w') := Lib.hid fun i hi W => truth_any i v hi (by omega) W
 obtain ⟨L, hL⟩ : ∃ L, L = 2 ^ n := ⟨_, rfl⟩
 rw [← hL] at hLs HCONST ⊢
 clear hL
 go_enter Tryz.func16, Tryz.ntmps16
 go_wp2_with fail
 refine HCONST.out.mono ?_
 rintro x w1 ⟨g, rfl, hown, hb1⟩
 have hg1 : w.heap.size ≤ g := (hown.lt g rfl).1
 clear HCONST
 go_wp2_with fail
 go_loopw [6] (fun s6 wr => ∃ j : Nat, j ≤ L ∧ s6 = .int .i64 j ∧ OwnB wr w.heap.size (.slice (some ⟨g, 0, none⟩) L L) (((List.range L).map (fun i => bitB i v)).take j ++ (List.replicate L false).drop j) ∧ Below w.heap.size w wr) (fun s6 _ => L - (intOf s6).toNat)
 case atStart => exact ⟨0, by omega, rfl, by simpa using hown, hb1⟩
 case round =>
  clear hown hb1
  obtain ⟨j, hj, rfl, hown, hbel⟩ := hrel
  by_cases hlt : j < L
  ·
   have q0 := hown.cellB j (by simp; omega)
   have p0 := hown.frozen j
   have HOWN := Lib.hid hown
   have HBEL := Lib.hid hbel
   clear hown hbel
   go_wp2_with fail
   refine (HTR.out j (by omega) _).mono ?_
   rintro x w2 ⟨rfl, rfl⟩
   go_wp2_with fail
   go_roundw
   case rel => exact ⟨j + 1, by omega, by go_num, by rw [← list_take_set (by simp; omega) (by simp; omega) (y := bitB j v) (by simp)]; exact HOWN.out.setB j _, HBEL.out.setCell hg1 _⟩
   case measure => simp [intOf]; omega
  ·
   obtain rfl : j = L := by omega
   go_wp2_with fail
   go_ret
   exact ⟨g, rfl, by simpa [List.take_of_length_le] using hown, hbel⟩
def iteL (u v w : List Bool) : List Bool := (List.range u.length).map fun i => iteB (u.getD i false) (v.getD i false) (w.getD i false)
theorem iteL_tab (n : Nat) (F G H : BF) : iteL (tabB n F) (tabB n G) (tabB n H) = tabB n fun ρ => iteB (F ρ) (G ρ) (H ρ) := by
 unfold iteL
 rw [tabB_length]
 refine tab_ext (by simp) fun i hi => ?_
 simp only [List.getD, List.getElem?_map, List.getElem?_range hi, Option.map_some, Option.getD_some]
 have := @tabB_get n F i hi
 have h2 := @tabB_get n G i hi
 have h3 := @tabB_get n H i hi
 simp only [List.getD] at this h2 h3
 rw [this, h2, h3]
set_option maxRecDepth 100000 in
set_option maxHeartbeats 1000000 in
theorem refIte_any (bu bv bw : List Bool) (hv : bv.length = bu.length) (hw : bw.length = bu.length) (au av aw : Option Addr) (cu cv cw : Nat) (w : World) (h1 : BoolsAt w au bu) (h2 : BoolsAt w av bv) (h3 : BoolsAt w aw bw) :
 Calls Tryz.prog 19 #[.slice au bu.length cu, .slice av bu.length cv, .slice aw bu.length cw] w fun x w' => ∃ g, x = .returned (.slice (some ⟨g, 0, none⟩) bu.length bu.length) ∧ OwnB w' w.heap.size (.slice (some ⟨g, 0, none⟩) bu.length bu.length) (iteL bu bv bw) ∧ Below w.heap.size w w' := by
 have hlen := h1.len
 obtain ⟨L, hL⟩ : ∃ L, L = bu.length := ⟨_, rfl⟩
 have H1 := Lib.hid h1
 have H2 := Lib.hid h2
 have H3 := Lib.hid h3
 have HV := Lib.hid hv
 have HW := Lib.hid hw
 have HLL := Lib.hid hL
 rw [← hL] at hlen ⊢
 clear hL h1 h2 h3 hv hw
 go_enter Tryz.func19, Tryz.ntmps19
 go_wp2_with (at_make; refine wpList_makeC elemBool rfl _ _ rfl w.heap.size w _ L rfl rfl rfl (by omega) (Nat.le_refl _) (Below.refl _ _) ?_; intro g w1 hown1 hb1 hs1 hk1 hg1 hgx; clear hgx)
 go_loopw [8] (fun s8 wr => ∃ j : Nat, j ≤ L ∧ s8 = .int .i64 j ∧ OwnB wr w.heap.size (.slice (some ⟨g, 0, none⟩) L L) ((iteL bu bv bw).take j ++ (List.replicate L false).drop j) ∧ Below w.heap.size w wr) (fun s8 _ => L - (intOf s8).toNat)
 case atStart => exact ⟨0, by omega, rfl, by unfold OwnB; simpa [boolsV] using hown1, hb1⟩
 case round =>
  clear hown1 hb1
  obtain ⟨j, hj, rfl, hown, hbel⟩ := hrel
  by_cases hlt : j < L
  ·
   have hjl : j < (iteL bu bv bw).length := by simp [iteL, ← HLL.out]; exact hlt
   obtain ⟨b1, of1, e1, c1⟩ := (H1.out.below hbel).cells j (by rw [← HLL.out]; exact hlt)
   obtain ⟨b2, of2, e2, c2⟩ := (H2.out.below hbel).cells j (by rw [HV.out, ← HLL.out]; exact hlt)
   obtain ⟨b3, of3, e3, c3⟩ := (H3.out.below hbel).cells j (by rw [HW.out, ← HLL.out]; exact hlt)
   have l1 : b1 < w.heap.size := by
    obtain ⟨b, o, e, c⟩ := H1.out.cells j (by rw [← HLL.out]; exact hlt)
    rw [e1] at e; cases e; exact lt_of_cell c
   have l2 : b2 < w.heap.size := by
    obtain ⟨b, o, e, c⟩ := H2.out.cells j (by rw [HV.out, ← HLL.out]; exact hlt)
    rw [e2] at e; cases e; exact lt_of_cell c
   have l3 : b3 < w.heap.size := by
    obtain ⟨b, o, e, c⟩ := H3.out.cells j (by rw [HW.out, ← HLL.out]; exact hlt)
    rw [e3] at e; cases e; exact lt_of_cell c
   subst e1 e2 e3
   have q0 := hown.cellB j (by simp; omega)
   have p0 := hown.frozen j
   have HOWN := Lib.hid hown
   have HBEL := Lib.hid hbel
   have n1 : g ≠ b1 := by omega
   have n2 : g ≠ b2 := by omega
   obtain ⟨y1, hy1⟩ : ∃ y, y = bu.getD j false := ⟨_, rfl⟩
   obtain ⟨y2, hy2⟩ : ∃ y, y = bv.getD j false := ⟨_, rfl⟩
   obtain ⟨y3, hy3⟩ : ∃ y, y = bw.getD j false := ⟨_, rfl⟩
   rw [← hy1] at c1
   rw [← hy2] at c2
   rw [← hy3] at c3
   have HY : Hid ((iteL bu bv bw)[j] = iteB y1 y2 y3) := Lib.hid (by rw [hy1, hy2, hy3]; simp [iteL])
   clear hown hbel hy1 hy2 hy3 H1 H2 H3
   have d1 := cell_setCell_ne (w := wr) (g := g) (o := j) (v := .bool y3) c1 (.inl n1)
   have d2 := cell_setCell_ne (w := wr) (g := g) (o := j) (v := .bool y3) c2 (.inl n2)
   have HO3 := Lib.hid (HOWN.out.setB j y3)
   have q3 := HO3.out.cellB j (by simp; omega)
   have p3 := HO3.out.frozen j
   cases y1 with
   | true =>
     go_wp2_with fail
     go_roundw
     case rel =>
      refine ⟨j + 1, by omega, by go_num, ?_, (HBEL.out.setCell hg1 _).setCell hg1 _⟩
      rw [← list_take_set (by simp; omega) hjl HY.out]
      have := HO3.out.setB j y2
      rw [List.set_set] at this
      exact this
     case measure => simp [intOf]; omega
   | false =>
     go_wp2_with fail
     go_roundw
     case rel =>
      refine ⟨j + 1, by omega, by go_num, ?_, HBEL.out.setCell hg1 _⟩
      rw [← list_take_set (by simp; omega) hjl HY.out]
      exact HO3.out
     case measure => simp [intOf]; omega
  ·
   obtain rfl : j = L := by omega
   have hl2 : (iteL bu bv bw).length = j := by simp [iteL, ← HLL.out]
   go_wp2_with fail
   go_ret
   refine ⟨g, rfl, ?_, hbel⟩
   rw [List.take_of_length_le (by omega), List.drop_of_length_le (by simp), List.append_nil] at hown
   exact hown
set_option maxRecDepth 100000 in
theorem hold02_any (n : Nat) (hn : n ≤ 64) (w : World) : Calls Tryz.prog 131 #[.int .i64 n, .int .i64 0, .int .i64 64] w fun x w' => x = .returned (.int .i64 n) ∧ w = w' := by
 go_enter Tryz.func131, Tryz.ntmps131
 go_wp2_with fail
 go_ret
 exact ⟨rfl, rfl⟩
theorem bitsL_succ (i n : Nat) : bitsL i (n + 1) = bitsL i n ++ [bitB i n] := by simp [bitsL, List.range_succ]
set_option maxRecDepth 100000 in
set_option maxHeartbeats 1000000 in
theorem refOf_any (i n : Nat) (hi : i ≤ 1048576) (hn : n ≤ 16) (w : World) : Calls Tryz.prog 90 #[.int .u64 i, .int .i64 n] w fun x w' => ∃ v, x = .returned v ∧ OwnB w' w.heap.size v (bitsL i n) ∧ Below w.heap.size w w' := by
 have HH : Hid (∀ W, Calls Tryz.prog 131 #[.int .i64 (n : Nat), .int .i64 0, .int .i64 64] W fun x w' => x = .returned (.int .i64 (n : Nat)) ∧ W = w') := Lib.hid fun W => hold02_any n (by omega) W
 go_enter Tryz.func90, Tryz.ntmps90
 go_wp2_with fail
 go_loopw [0, 5, 6] (fun s0 s5 s6 wr => ∃ j q : Nat, j ≤ n ∧ q ≤ 1048576 ∧ s6 = .int .i64 j ∧ s0 = .int .u64 q ∧ Hid (i / 2 ^ j = q) ∧ OwnB wr w.heap.size s5 (bitsL i j) ∧ w.heap.size ≤ wr.heap.size ∧ Below w.heap.size w wr) (fun _ _ s6 _ => n - (intOf s6).toNat)
 case atStart => exact ⟨0, i, Nat.zero_le _, hi, rfl, rfl, Lib.hid (by simp), ownC_new _ w _ (Nat.le_refl _), by simp, below_new1 w _⟩
 case round =>
  obtain ⟨j, q, hj, hq, rfl, rfl, HQ, hown, hsz, hbel⟩ := hrel
  by_cases hlt : j < n
  ·
   have HB : Hid (((q : Int).tmod 2 == 1) = bitB i j) := by
    refine Lib.hid ?_
    show ((q : Int).tmod 2 == 1) = bitB i j
    unfold bitB
    rw [HQ.out]
    have e1 : Int.tmod (q : Int) 2 = ((q % 2 : Nat) : Int) := by rw [Int.tmod_eq_emod_of_nonneg (by omega)]; rfl
    rw [e1]
    by_cases h : q % 2 = 1
    ·
     rw [h]; rfl
    ·
     have : ((q % 2 : Nat) : Int) ≠ 1 := by omega
     rw [beq_eq_false_iff_ne.2 this, decide_eq_false h]
   have HOWN := Lib.hid hown
   have HBEL := Lib.hid hbel
   clear hown hbel
   go_wp2_with fail
   refine (HH.out _).mono ?_
   rintro x w2 ⟨rfl, rfl⟩
   go_wp2_with (at_builtin; refine wpList_appC elemBool _ rfl _ _ rfl w.heap.size _ (boolsV (bitsL i j)) _ rfl rfl rfl rfl rfl (by exact HOWN.out) (by simp [boolsV, bitsL_length]; omega) hsz ?_; intro v1 w1 hown1 e1 e2 e3 e4 hk1)
   go_roundw
   case rel =>
    refine ⟨j + 1, q / 2, by omega, by omega, by go_num, rfl, Lib.hid ?_, ?_, by omega, below_app HBEL.out HOWN.out e1 e2 e3 e4 hk1 hsz⟩
    ·
     rw [Nat.pow_succ, ← Nat.div_div_eq_div_mul, HQ.out]
    ·
     rw [bitsL_succ]
     have e5 : boolsV (bitsL i j ++ [bitB i j]) = boolsV (bitsL i j) ++ [.bool (bitB i j)] := by simp [boolsV]
     unfold OwnB
     rw [e5, ← HB.out]
     exact hown1
   case measure => simp [intOf]; omega
  ·
   have he : j = n := by omega
   subst he
   have HOWN := Lib.hid hown
   have HBEL := Lib.hid hbel
   clear hown hbel
   go_wp2_with fail
   refine (HH.out _).mono ?_
   rintro x w2 ⟨rfl, rfl⟩
   go_wp2_with fail
   go_ret
   exact ⟨_, rfl, HOWN.out, HBEL.out⟩
open Go.RowKit
end Go.Proofs.YtchliiaknmknhaaGreat

namespace Go.Proofs.YtchliiaknmknhaaGreat
open Go.RowKit
theorem intsAt_row {o : Own} {w : World} {r : Role} {a : Option Addr} {cap : Nat} {xs : List Nat} (h : RowR o w r 3 1 (.slice a xs.length cap) xs.length (xs.map nat64)) (hl : xs.length ≤ 1000000) : IntsAt w a (xs.map Int.ofNat) := by
 refine ⟨by simp; omega, fun k hk => ?_⟩
 simp only [List.length_map] at hk
 obtain ⟨g, cap', he, _⟩ := h.shape (by omega)
 cases he
 refine ⟨g, 0, rfl, ?_⟩
 have h1 := h.cell k (by simpa using hk)
 rw [Nat.zero_add, h1, at0_eq (by simpa using hk)]
 simp [nat64, hk]
set_option maxRecDepth 100000 in
set_option maxHeartbeats 1000000 in
theorem storeOrder_any {o : Own} {w : World} {sb : Nat} {d : StoreD} (h : StoreAt o w sb d) (hlt : OwnLt o w) (hl : d.vars.length ≤ 64) :
 Calls Tryz.prog 97 #[.pointer (some ⟨sb, 0, none⟩)] w fun x w' => ∃ v, x = .returned v ∧ OwnI w' w.heap.size v (d.vars.map Int.ofNat) ∧ Below w.heap.size w w' := by
 obtain ⟨s, h⟩ := h
 obtain ⟨c0, c1, c2, c3, c4, f0⟩ := cells5 h.blk
 obtain ⟨d0, d1, _⟩ := cells2 h.lev
 have lsb : sb < w.heap.size := lt_of_cell c0
 have llb : s.lb < w.heap.size := lt_of_cell d0
 obtain ⟨a, cap, hv, _, _, hnil, _⟩ := h.vars.slice
 have hrow := h.vars
 rw [hv] at d0 hrow
 have HI := Lib.hid (intsAt_row hrow (by omega))
 have HN := Lib.hid hnil
 have e : d.vars.length = (d.vars.map Int.ofNat).length := by simp
 rw [e] at d0
 have hl' : (d.vars.map Int.ofNat).length ≤ 64 := by rw [← e]; exact hl
 generalize d.vars.map Int.ofNat = zs at *
 clear h hv hrow e hnil hl
 go_enter Tryz.func97, Tryz.ntmps97
 go_wp2_with (at_builtin; refine wpList_appAll rfl _ _ rfl w.heap.size w _ [] zs _ _ rfl rfl (ownI_new w w.heap.size (Nat.le_refl _)) (HI.out.below (below_new1 _ _)) (by simp; omega) (by simp) (below_new1 _ _) HN.out ?_; intro v1 w1 hown1 hbel1 hsz1 hkb1)
 go_ret
 exact ⟨_, rfl, by simpa using hown1, hbel1⟩
set_option maxRecDepth 100000 in
theorem manOrder_any {F : Phi} {o : Own} {w : World} {mb : Nat} {m : ManD} (h : ManAt F o w mb m) (hlt : OwnLt o w) (hl : m.d.vars.length ≤ 64) :
 Calls Tryz.prog 42 #[.pointer (some ⟨mb, 0, none⟩)] w fun x w' => ∃ v, x = .returned v ∧ OwnI w' w.heap.size v (m.d.vars.map Int.ofNat) ∧ Below w.heap.size w w' := by
 obtain ⟨s, h⟩ := h
 obtain ⟨c0, c1, c2, c3, c4, c5, f0⟩ := cells6 h.blk
 have HP := Lib.hid (storeOrder_any h.store hlt hl)
 clear h hlt hl
 go_enter Tryz.func42, Tryz.ntmps42
 go_wp2_with fail
 refine HP.out.mono ?_
 rintro x w' ⟨v, rfl, h1, h2⟩
 have H1 := Lib.hid h1
 have H2 := Lib.hid h2
 clear h1 h2
 go_wp2_with fail
 go_ret
 exact ⟨v, rfl, H1.out, H2.out⟩
open Go.RowKit
section
variable {n room : Nat} {w0 w : World} {mb : Nat} {fs : List (Int × BF)} {many : Nat}
end
open Go.RowKit
section
variable {w0 w : World} {mb : Nat}
end
end Go.Proofs.YtchliiaknmknhaaGreat

namespace Go.Proofs.YtchliiaknmknhaaGreat
open Go.RowKit Go.Shelf
attribute [local go_sem] Oper.semAt_some
def takenU (p : PoolD) (k : Nat) : List Nat := (List.range k).filter p.tk
def takenL (p : PoolD) : List Nat := takenU p p.at_.length
theorem takenU_yes {p : PoolD} {k : Nat} (h : p.tk k = true) : takenU p (k + 1) = takenU p k ++ [k] := by
 unfold takenU; rw [List.range_succ, List.filter_append]; simp [h]
theorem takenU_no {p : PoolD} {k : Nat} (h : p.tk k = false) : takenU p (k + 1) = takenU p k := by
 unfold takenU; rw [List.range_succ, List.filter_append]; simp [h]
theorem takenU_pre (p : PoolD) {k m : Nat} : k ≤ m → ∃ suf, takenU p k ++ suf = takenU p m := by
 induction m with
 | zero => intro h; obtain rfl : k = 0 := by omega
           exact ⟨[], by simp⟩
 | succ m ih =>
   intro h
   by_cases e : k = m + 1
   ·
    subst e; exact ⟨[], by simp⟩
   ·
    obtain ⟨suf, hs⟩ := ih (by omega)
    cases h2 : p.tk m with
    | false => exact ⟨suf, by rw [takenU_no h2]; exact hs⟩
    | true => exact ⟨suf ++ [m], by rw [takenU_yes h2, ← hs, List.append_assoc]⟩
theorem takenU_suf {p : PoolD} {k : Nat} (h : p.tk k = true) (hk : k < p.at_.length) : ∃ suf, takenU p k ++ k :: suf = takenL p := by
 obtain ⟨suf, hs⟩ := takenU_pre p (k := k + 1) (m := p.at_.length) (by omega)
 rw [takenU_yes h, List.append_assoc] at hs
 exact ⟨suf, hs⟩
theorem mem_takenL {p : PoolD} {pre suf : List Nat} {x : Nat} (h : pre ++ x :: suf = takenL p) : p.tk x = true := by
 have : x ∈ takenL p := by rw [← h]; simp
 exact (List.mem_filter.1 this).2
structure ItS (n₀ : Nat) (o : Own) (w0 : World) (pb : Nat) (p : PoolD) (Bp : Nat) (M0 M : Nat → Prop) (W0 W : World) : Prop where
 low : Below n₀ w0 W
 box : W.cell? ⟨Bp, 0, none⟩ = some (.pointer (some ⟨pb, 0, none⟩))
 wr : Wr (fun k => n₀ ≤ k) W0 W
 sub : ∀ k, M k → M0 k ∨ W0.heap.size ≤ k
 nb : ¬ M Bp
theorem ItS.go {n₀ : Nat} {o : Own} {w0 : World} {pb : Nat} {p : PoolD} {Bp : Nat} {M0 M M' : Nat → Prop} {W0 W W' : World} (h : ItS n₀ o w0 pb p Bp M0 M W0 W) (hn : n₀ ≤ W0.heap.size) (hge : ∀ k, M k → n₀ ≤ k) (hw : Wr M W W')
 (hM : ∀ k, M' k → M k ∨ W.heap.size ≤ k) : ItS n₀ o w0 pb p Bp M0 M' W0 W' := by
 have hs := h.wr.size
 have hb := lt_of_cell h.box
 refine ⟨h.low.trans (hw.below hge (by omega)), ?_, h.wr.trans hw (fun _ _ h => h) (fun k _ hk => hge k hk), fun k hk => ?_, fun e => ?_⟩
 ·
  exact (World.cell?_of_block (w := W) (a := ⟨Bp, 0, none⟩) (hw.keep Bp hb h.nb)).trans h.box
 ·
  rcases hM k hk with h1 | h1
  ·
   exact h.sub k h1
  ·
   right; omega
 ·
  rcases hM Bp e with h1 | h1
  ·
   exact h.nb h1
  ·
   have hb' : Bp < W.heap.size := hb
   omega
set_option maxRecDepth 100000 in
set_option maxHeartbeats 2000000 in
theorem ids1_gives (F : Fence) (n : Nat) (hF : F.fn 169) (hro : F.round = none) (hn : 1 ≤ n) (Bp n₀ pb : Nat) {o : Own} {w0 : World} {p : PoolD} (hp : PoolAt o w0 pb p) (hlt : OwnLt o w0) (h0 : w0.heap.size ≤ n₀) (w : World)
 (hw : Below n₀ w0 w) (hn0 : n₀ ≤ w.heap.size) (hBp : w.cell? ⟨Bp, 0, none⟩ = some (.pointer (some ⟨pb, 0, none⟩))) :
 Gives F n 0 Tryz.prog 169 #[.pointer (some ⟨Bp, 0, none⟩)] (fun i : Nat => #[.int .i64 i]) n₀ (· = Bp) (takenL p) w := by
 intro l J M W hOw hMi hWr hBM hY hJ
 have hb0 := lt_of_cell hBp
 have hS0 : ItS n₀ o w0 pb p Bp M M W W := ⟨hw.trans (hWr.below (fun k h => h.1) hn0), (World.cell?_of_block (w := w) (a := ⟨Bp, 0, none⟩) (hWr.keep Bp hb0 (fun h => h.2 rfl))).trans hBp, Wr.refl _ _, fun k h => .inl h, hBM Bp rfl⟩
 have hnW : n₀ ≤ W.heap.size := Nat.le_trans hn0 hWr.size
 have HP : ∀ W', Below n₀ w0 W' → PoolAt o W' pb p := fun W' hb => hp.below (hb.mono h0) hlt
 obtain ⟨vs, vt, vf, c0, c1, c2, c3, c4, hs, ht, _⟩ := (HP W hS0.low).cells
 have hbx := hS0.box
 have hpos := hp.pos
 obtain ⟨gs, cs, rfl, _⟩ := hs.shape hpos
 have hlen := hp.len
 have htop := hp.top
 have hroom := hp.room
 have HPH := Lib.hid HP
 have HYH := Lib.hid hY
 have HSH := Lib.hid hS0
 have HOW := Lib.hid hOw
 clear HP hY hs ht hp hlt h0 hS0 hOw hMi hWr hBM hw hn0 hBp hb0
 refine callsIn_of_wp Tryz.func169 rfl hF ?_ hro
 simp only [Tryz.ntmps169, List.size_toArray, List.length_cons, List.length_nil, Nat.reduceAdd, Nat.reduceSub, Array.replicate_succ, Array.replicate_zero, List.push_toArray, List.append_toArray, List.nil_append, List.cons_append]
 gi_wp2
 gi_loopw [11] (fun i wr => ∃ (k : Nat) (M1 : Nat → Prop), k ≤ p.at_.length ∧ i = .int .i64 k ∧ J (takenU p k) M1 wr ∧ ItS n₀ o w0 pb p Bp M M1 W wr) (fun i _ => p.at_.length - (intOf i).toNat)
 case atStart => exact ⟨0, M, Nat.zero_le _, rfl, hJ, HSH.out⟩
 case round =>
  obtain ⟨k, M1, hk, rfl, hJs, hS⟩ := hrel
  by_cases hlt : k < p.at_.length
  ·
   obtain ⟨vs, vt, vf, d0, d1, d2, d3, d4, hs, ht, _⟩ := (HPH.out wr hS.low).cells
   have hbx := hS.box
   obtain ⟨gt, ct, rfl, _⟩ := ht.shape (by rw [hlen]; exact hpos)
   have hcf := PoolAt.flag ht (k := k) (by omega)
   rw [hlen] at d2
   have hlt' : (k : Int) < p.at_.length := by omega
   have HS := Lib.hid hS
   cases hB : p.tk k with
   | false =>
     rw [hB] at hcf
     have HJS : Hid (J (takenU p (k + 1)) M1 wr) := by show J _ _ _; rw [takenU_no hB]; exact hJs
     clear hB hs ht hS hJs hJ
     gi_wp2
     refine ⟨fun _ h => (by cases h), ?_⟩
     gi_wp2
     go_roundw
     case rel => exact ⟨k + 1, M1, by omega, by simp, HJS.out, HS.out⟩
     case measure => simp [intOf]; omega
   | true =>
     rw [hB] at hcf
     have HGE := Lib.hid (fun q (hq : M1 q) => (HOW.out _ _ _ hJs q hq).1)
     obtain ⟨fn, tmps, assign, body, hy, hR⟩ := HYH.out _ k M1 wr hJs (takenU_suf hB hlt)
     have HU := Lib.hid (takenU_yes hB)
     have HR := Lib.hid hR
     clear hs ht hS hJs hR hB hJ
     gi_wp2
     refine HR.out.mono ?_
     rintro e W3 ⟨rfl, M3, hJ3, hw3, hM3⟩
     have HJ3 := Lib.hid hJ3
     have HK3 := Lib.hid (HS.out.go hnW HGE.out hw3 hM3)
     clear hJ3 hw3 hM3
     gi_wp2
     go_roundw
     case rel => exact ⟨k + 1, M3, by omega, by simp, by rw [HU.out]; exact HJ3.out, HK3.out⟩
     case measure => simp [intOf]; omega
  ·
   obtain rfl : k = p.at_.length := by omega
   have HJS := Lib.hid hJs
   have HS := Lib.hid hS
   clear hJs hS hJ
   gi_wp2
   go_end0
   exact ⟨⟨_, rfl⟩, M1, HJS.out, HS.out.wr, HS.out.sub⟩
set_option maxHeartbeats 1000000 in
theorem ids_in (F : Fence) (n : Nat) (hF : F.fn 158) (hro : F.round = none) (pb : Nat) (w : World) :
 CallsIn F n Tryz.prog 158 #[.pointer (some ⟨pb, 0, none⟩)] w fun e w' => e = .returned (.func (.func 169) #[] #[.pointer (some ⟨w.heap.size, 0, none⟩)]) ∧ w' = w.alloc (.cells #[.pointer (some ⟨pb, 0, none⟩)] 136) := by
 refine callsIn_of_wp Tryz.func158 rfl hF ?_ hro
 simp only [Tryz.ntmps158, List.size_toArray, List.length_cons, List.length_nil, Nat.reduceAdd, Nat.reduceSub, Array.replicate_succ, Array.replicate_zero, List.push_toArray, List.append_toArray, List.nil_append, List.cons_append]
 gi_wp2
 go_ret
 exact ⟨rfl, rfl⟩
set_option maxHeartbeats 1000000 in
theorem each_in (F : Fence) (n : Nat) (hF : F.fn 143) (hro : F.round = none) (pb : Nat) (w : World) :
 CallsIn F n Tryz.prog 143 #[.pointer (some ⟨pb, 0, none⟩)] w fun e w' => e = .returned (.func (.func 157) #[] #[.pointer (some ⟨w.heap.size, 0, none⟩)]) ∧ w' = w.alloc (.cells #[.pointer (some ⟨pb, 0, none⟩)] 136) := by
 refine callsIn_of_wp Tryz.func143 rfl hF ?_ hro
 simp only [Tryz.ntmps143, List.size_toArray, List.length_cons, List.length_nil, Nat.reduceAdd, Nat.reduceSub, Array.replicate_succ, Array.replicate_zero, List.push_toArray, List.append_toArray, List.nil_append, List.cons_append]
 gi_wp2
 go_ret
 exact ⟨rfl, rfl⟩
end Go.Proofs.YtchliiaknmknhaaGreat
