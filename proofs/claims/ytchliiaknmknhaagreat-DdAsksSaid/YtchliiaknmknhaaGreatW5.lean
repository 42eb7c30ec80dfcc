/- Several texts in one file: contracts of the program's functions and what follows from them. -/
import Derived.Test.YtchliiaknmknhaaGreatW4
import Derived.Maps.RangeRun
import Derived.Shelf.SlSortCmp.WholeK
import Derived.Shelf.SlicesG.Cmp
import Derived.Shelf.SlGeneric
import Derived.Ground.SlsfProg
import Derived.Ground.SlgcProg
import Derived.Test.YtchliiaknmknhaaGreatProg
set_option linter.unusedSimpArgs false
set_option linter.unusedVariables false
set_option linter.unusedSectionVars false
set_option linter.unnecessarySimpa false
set_option maxRecDepth 100000
set_option maxHeartbeats 8000000
namespace Go.Proofs.YtchliiaknmknhaaGreat
open Go.RowKit
section
variable {K : Law} {n : Nat} {Od : List Nat -> Prop} {room : Nat} {w0 w : World} {mb : Nat} {fs : List (Int × BF)} {nx : Int} {o : Own} {m : ManD} {V : Nat -> BF}
theorem SatE.eval (h : SatE K n Od room w0 mb fs nx w o m V) {k : Int} {F : BF} (hk : (k, F) ∈ fs) {v : Value} {bs : List Bool} (hbs : BoolsIs w v bs) :
 Calls Tryz.prog 58 #[.pointer (some ⟨mb, 0, none⟩), .int .i64 k, v] w fun x w' => x = .returned (.tuple #[.bool (F (envOf bs)), .int .i64 0]) /\ Below w.heap.size w w' := by
 obtain ⟨f, hf, e1⟩ := h.find hk;obtain ⟨a, c, rfl, h1, _⟩ := hbs;rw [<- e1];exact eval_yes h.is h.lt h.ok hf a c bs h1
theorem SatE.vars_any (h : SatE K n Od room w0 mb fs nx w o m V) : Calls Tryz.prog 51 #[.pointer (some ⟨mb, 0, none⟩)] w fun x w' => x = .returned (.int .i64 n) /\ w = w' := by
 have := manVars_any h.is;rw [h.vars] at this;exact this
theorem SatE.handles_any (h : SatE K n Od room w0 mb fs nx w o m V) : Calls Tryz.prog 70 #[.pointer (some ⟨mb, 0, none⟩)] w fun x w' => x = .returned (.int .i64 (fs.length : Nat)) /\ w = w' := by
 have e : fs.length = m.hs.length := by rw [<- h.hs, List.length_map]
 rw [e];exact Go.Proofs.YtchliiaknmknhaaGreat.handles_any h.is
theorem left_any (h : SatE K n Od room w0 mb fs nx w o m V) (q : Nat) (hq : q <= 1000000) :
 Calls Tryz.prog 20 #[.pointer (some ⟨mb, 0, none⟩), .int .i64 q] w fun x w' => x = .returned (.bool (decide (fs.length = q + 2))) /\ w = w' := by
 have HH := Lib.hid h.handles_any;have HF : Hid ((((fs.length : Nat) : Int) == (q : Int) + 2) = decide (fs.length = q + 2)) := by
  refine Lib.hid ?_
  show (((fs.length : Nat) : Int) == (q : Int) + 2) = _
  by_cases e : fs.length = q + 2
  ·
   rw [decide_eq_true e, beq_iff_eq]; omega
  ·
   rw [decide_eq_false e, beq_eq_false_iff_ne]; omega
 clear h
 go_enter Tryz.func20, Tryz.ntmps20
 go_wp2_with fail;refine HH.out.mono ?_;rintro x w' ⟨rfl, rfl⟩;go_wp2_with fail;go_ret;exact ⟨by rw [<- HF.out]; rfl, rfl⟩
theorem conv_u64 (i : Nat) (hi : i <= 1048576) : (IntKind.u64).wrap (i : Int) = (i : Int) := by
 simp [IntKind.wrap, IntKind.bits]; omega
theorem is_any (h : SatE K n Od room w0 mb fs nx w o m V) (hn : n <= 16) {k : Int} {F : BF} (hk : (k, F) ∈ fs) {v : Value} {bs : List Bool} (hbs : BoolsIs w v bs) :
 Calls Tryz.prog 29 #[.pointer (some ⟨mb, 0, none⟩), .int .i64 k, v] w fun x w' => ∃ b, x = .returned (.bool b) /\ (b = true ↔ bs = tabB n F) /\ Below w.heap.size w w' := by
 have HV := Lib.hid h.vars_any;have HC := Lib.hid (refConst_any false n hn w);have HEV : Hid (∀ W, Below w.heap.size w W -> ∀ u cs, BoolsIs W u cs -> Calls Tryz.prog 58 #[.pointer (some ⟨mb, 0, none⟩), .int .i64 k, u] W fun x w' => x = .returned (.tuple #[.bool (F (envOf cs)), .int .i64 0]) /\ Below W.heap.size W w') :=
  Lib.hid fun W hb u cs hu => (h.below hb).eval hk hu
 have HOF : Hid (∀ i, i <= 1048576 -> ∀ W, Calls Tryz.prog 90 #[.int .u64 (i : Nat), .int .i64 n] W fun x w' => ∃ v, x = .returned v /\ OwnB w' W.heap.size v (bitsL i n) /\ Below W.heap.size W w') := Lib.hid fun i hi W => refOf_any i n hi hn W
 obtain ⟨a, c, rfl, hb0, hnil⟩ := hbs;have HBS := Lib.hid hb0;have hbl := hb0.len;have hp := pow_small (show n <= 20 by omega);obtain ⟨L, hL⟩ : ∃ L, L = 2 ^ n := ⟨_, rfl⟩;have HL := Lib.hid hL;rw [<- hL] at hp HC;clear h hL hb0 hnil
 go_enter Tryz.func29, Tryz.ntmps29
 go_wp2_with fail;refine HV.out.mono ?_;rintro x w' ⟨rfl, rfl⟩;go_wp2_with fail;refine HC.out.mono ?_;rintro x w1 ⟨g, rfl, _, hb1⟩
 by_cases hlen : bs.length = L
 ·
  have hne : ((bs.length : Int) != (L : Int)) = false := by rw [hlen]; simp
  have HB1 := Lib.hid hb1;clear hb1 HC HV;go_wp2_with fail
  go_loopw [8, 21] (fun s8 s21 wr => ∃ j : Nat, j <= L /\ s21 = .int .i64 j /\ Below w.heap.size w wr /\ Hid (∀ q, q < j -> bs.getD q false = F (envOf (bitsL q n)))) (fun _ s21 _ => L - (intOf s21).toNat)
  case atStart => exact ⟨0, Nat.zero_le _, rfl, HB1.out, Lib.hid fun q hq => by omega⟩
  case round =>
   obtain ⟨j, hj, rfl, hbel, HQ⟩ := hrel
   by_cases hlt : j < L
   ·
    have HBEL := Lib.hid hbel;clear hbel;have hcv := conv_u64 j (by omega);have hjs : (j : Int) < bs.length := by omega
    obtain ⟨b1, of1, rfl, c1⟩ := (HBS.out.below HBEL.out).cells j (by omega);go_wp2_with fail;refine (HOF.out j (by omega) _).mono ?_;rintro x w3 ⟨u, rfl, hown, hb3⟩;have HB3 := Lib.hid hb3;have c3 := (hb3.cell (p := ⟨b1, of1 + j, none⟩) (lt_of_cell c1)).trans c1;have HU := Lib.hid (hown.boolsIs (by rw [bitsL_length]; omega));clear hown hb3 c1;go_wp2_with fail;refine (HEV.out _ (HBEL.out.trans (HB3.out.mono HBEL.out.size)) _ _ HU.out).mono ?_;rintro x w4 ⟨rfl, hb4⟩;have c4 := (hb4.cell (p := ⟨b1, of1 + j, none⟩) (lt_of_cell c3)).trans c3;have HB5 := Lib.hid (HBEL.out.trans ((HB3.out.trans (hb4.mono HB3.out.size)).mono HBEL.out.size));clear hb4 c3;obtain ⟨y1, hy1⟩ : ∃ y, y = bs.getD j false := ⟨_, rfl⟩;obtain ⟨y2, hy2⟩ : ∃ y, y = F (envOf (bitsL j n)) := ⟨_, rfl⟩;rw [<- hy1] at c4;rw [<- hy2];have HQ2 : Hid (y2 = y1 -> ∀ q, q < j + 1 -> bs.getD q false = F (envOf (bitsL q n))) := Lib.hid fun hyy q hq => by
     rcases Nat.lt_or_ge q j with h | h
     ·
      exact HQ.out q h
     ·
      obtain rfl : q = j := by omega
      rw [<- hy1, <- hy2, hyy]
    have HNE : Hid (y2 ≠ y1 -> bs ≠ tabB n F) := Lib.hid fun hyy e => hyy (by rw [hy1, hy2, e, tabB_get (by rw [<- HL.out]; exact hlt)])
    clear hy1 hy2;cases y1 <;> cases y2
    ·
     go_wp2_with fail;go_roundw
     case rel => exact ⟨j + 1, by omega, by go_num, HB5.out, Lib.hid (HQ2.out (by simp))⟩
     case measure => simp [intOf]; omega
    ·
     go_wp2_with fail;go_ret;exact ⟨false, rfl, by simpa using HNE.out (by simp), HB5.out⟩
    ·
     go_wp2_with fail;go_ret;exact ⟨false, rfl, by simpa using HNE.out (by simp), HB5.out⟩
    ·
     go_wp2_with fail;go_roundw
     case rel => exact ⟨j + 1, by omega, by go_num, HB5.out, Lib.hid (HQ2.out (by simp))⟩
     case measure => simp [intOf]; omega
   ·
    have he : j = L := by omega
    have HBEL := Lib.hid hbel;have HE : Hid (bs = tabB n F) := Lib.hid (tab_ext (by rw [hlen, HL.out]) (fun i hi => HQ.out i (by rw [he, HL.out]; exact hi)));clear hbel;go_wp2_with fail;go_ret;exact ⟨true, rfl, by simpa using HE.out, HBEL.out⟩
 ·
  have hne : ((bs.length : Int) != (L : Int)) = true := by simp; omega
  have HB1 := Lib.hid hb1;have HNE : Hid (bs ≠ tabB n F) := Lib.hid fun e => hlen (by rw [e, tabB_length, HL.out])
  clear hb1 HC HV hlen;go_wp2_with fail;go_ret;exact ⟨false, rfl, by simpa using HNE.out, HB1.out⟩
end
structure RowsAt (P : Nat -> Prop) (w : World) (a : Option Addr) (us : List (List Bool)) : Prop where
 len : us.length <= 1000000
 cells : ∀ k, k < us.length -> ∃ b off v, a = some ⟨b, off, none⟩ /\ w.cell? ⟨b, off + k, none⟩ = some v /\ BoolsIs w v (us.getD k []) /\ ∀ g, v.ownBlock = some g -> P g
theorem RowsAt.below {P : Nat -> Prop} {w w' : World} {a : Option Addr} {us : List (List Bool)} (h : RowsAt P w a us) (hb : Below w.heap.size w w') : RowsAt P w' a us :=
 ⟨h.len, fun k hk => by
  obtain ⟨b, off, v, rfl, hc, hv, hp⟩ := h.cells k hk;exact ⟨b, off, v, rfl, (hb.cell (p := ⟨b, off + k, none⟩) (lt_of_cell hc)).trans hc, hv.below hb, hp⟩⟩
structure LawR (P : Nat -> Prop) (n : Nat) (fs : List (Int × BF)) (w : World) (vl vx : Value) (hs : List (Int × BF)) : Prop where
 sub : ∀ p ∈ hs, p ∈ fs
 small : hs.length <= 1000
 l : ∃ a c, vl = .slice a hs.length c /\ IntsAt w a (hs.map Prod.fst)
 x : ∃ a c, vx = .slice a hs.length c /\ RowsAt P w a (hs.map fun p => tabB n p.2)
section
variable {K : Law} {n : Nat} {Od : List Nat -> Prop} {room : Nat} {w0 w : World} {mb : Nat} {fs : List (Int × BF)} {nx : Int} {o : Own} {m : ManD} {V : Nat -> BF}
theorem all_any (h : SatE K n Od room w0 mb fs nx w o m V) (hn : n <= 16) {vl vx : Value} {hs : List (Int × BF)} {P : Nat -> Prop} (hr : LawR P n fs w vl vx hs) :
 Calls Tryz.prog 21 #[.pointer (some ⟨mb, 0, none⟩), vl, vx] w fun x w' => x = .returned (.bool true) /\ Below w.heap.size w w' := by
 obtain ⟨al, cl, rfl, hl⟩ := hr.l;obtain ⟨ax, cx, rfl, hx⟩ := hr.x;have HL := Lib.hid hl;have HX := Lib.hid hx;have hsm := hr.small;have HIS : Hid (∀ W, Below w.heap.size w W -> ∀ j v, ∀ hj : j < hs.length, BoolsIs W v (tabB n hs[j].2) -> Calls Tryz.prog 29 #[.pointer (some ⟨mb, 0, none⟩), .int .i64 hs[j].1, v] W fun x w' => x = .returned (.bool true) /\ Below W.heap.size W w') := by
  refine Lib.hid fun W hb j v hj hv => (is_any (h.below hb) hn (hr.sub _ (List.getElem_mem hj)) hv).mono ?_
  rintro x w' ⟨b, rfl, hb1, hb2⟩;rw [hb1.2 rfl];exact ⟨rfl, hb2⟩
 clear h hr hl hx
 go_enter Tryz.func21, Tryz.ntmps21
 go_wp2_with fail
 go_loopw [7, 10] (fun s7 s10 wr => ∃ j : Nat, j <= hs.length /\ s10 = .int .i64 j /\ Below w.heap.size w wr) (fun _ s10 _ => hs.length - (intOf s10).toNat)
 case atStart => exact ⟨0, Nat.zero_le _, rfl, Below.refl _ _⟩
 case round =>
  obtain ⟨j, hj, rfl, hbel⟩ := hrel
  by_cases hlt : j < hs.length
  ·
   obtain ⟨b1, of1, rfl, c1⟩ := (HL.out.below hbel).cells j (by simpa using hlt);obtain ⟨b2, of2, v2, rfl, c2, hv2, _⟩ := (HX.out.below hbel).cells j (by simpa using hlt);have e1 : at0 (hs.map Prod.fst) j = hs[j].1 := by rw [at0_eq (by simpa using hlt)]; simp
   have e2 : (hs.map fun p => tabB n p.2).getD j [] = tabB n hs[j].2 := by simp [List.getD, hlt]
   rw [e1] at c1;rw [e2] at hv2;have HV2 := Lib.hid hv2;have HBEL := Lib.hid hbel;obtain ⟨k1, hk1⟩ : ∃ k1, k1 = hs[j].1 := ⟨_, rfl⟩;have HI : Hid (∀ W, Below w.heap.size w W -> ∀ v, BoolsIs W v (tabB n hs[j].2) -> Calls Tryz.prog 29 #[.pointer (some ⟨mb, 0, none⟩), .int .i64 k1, v] W fun x w' => x = .returned (.bool true) /\ Below W.heap.size W w') := by
    rw [hk1]; exact Lib.hid fun W hb v hv => HIS.out W hb j v hlt hv
   rw [<- hk1] at c1;clear hv2 hbel e1 e2 hk1;have hn1 : (j : Int) < (hs.length : Int) := by omega
   go_upto_region 4 with fail;refine wp_region_mix (fun W : World => W.cell? ⟨b1, of1 + j, none⟩ = some (.int .i64 k1) /\ W.cell? ⟨b2, of2 + j, none⟩ = some v2 /\ Hid (Below w.heap.size w W)) false 11 [(0, false), (1, false), (2, false), (3, false), (4, false), (5, false), (6, false), (7, false), (8, false), (9, true), (10, false)] (by kernel_rfl) (by kernel_rfl) ⟨c1, c2, Lib.hid (HBEL.out.trans ((below_draw wr 1).mono HBEL.out.size))⟩ ?_;simp only [planned, plnLz]
   iterate 9
    refine mix_readE rfl ?_;apply Exists.intro;refine ⟨fun w' hw => ?_, ?_⟩
    ·
     obtain ⟨h1, h2, _⟩ := hw;go_simp;rfl
    simp only [putLz]
   refine mix_call (v := .bool true) rfl (by go_simp) ((HI.out wr.drew (HBEL.out.trans ((below_draw wr 1).mono HBEL.out.size)) v2 (HV2.out.below (below_draw wr 1))).mono ?_) ?_
   ·
    rintro x w' ⟨rfl, hb⟩;exact ⟨rfl, (hb.cell (p := ⟨b1, of1 + j, none⟩) (lt_of_cell (w := wr.drew) c1)).trans c1, (hb.cell (p := ⟨b2, of2 + j, none⟩) (lt_of_cell (w := wr.drew) c2)).trans c2, Lib.hid (HBEL.out.trans (((below_draw wr 1).trans (hb.mono (below_draw wr 1).size)).mono HBEL.out.size))⟩
   rintro w' ⟨_, _, HB'⟩;simp only [putLz]
   iterate 1
    refine mix_readE rfl ?_;apply Exists.intro;refine ⟨fun w' hw => ?_, ?_⟩
    ·
     obtain ⟨h1, h2, _⟩ := hw;go_simp;rfl
    simp only [putLz]
   refine mix_end ?_;clear HBEL c1 c2;go_wp2_with fail;go_roundw
   case rel => exact ⟨j + 1, by omega, by go_num, HB'.out⟩
   case measure => simp [intOf]; omega
  ·
   have HBEL := Lib.hid hbel;clear hbel;go_wp2_with fail;go_ret;exact ⟨rfl, HBEL.out⟩
end
theorem replicate_tab (n : Nat) (b : Bool) : List.replicate (2 ^ n) b = tabB n fun _ => b := tab_ext (by simp) fun i hi => by simp [List.getD, hi]
open Go.RowKit
structure LawL (W : World) (o : Own) (base : Nat) (vl : Value) (ks : List Int) : Prop where
 own : OwnC 3 W base vl (intsV ks)
 no : ∀ k, vl.ownBlock = some k -> o k = none
structure LawB (W : World) (o : Own) (base : Nat) (v : Value) (bs : List Bool) : Prop where
 is : BoolsIs W v bs
 no : ∀ k, v.ownBlock = some k -> base <= k /\ k < W.heap.size /\ o k = none /\ ∃ cur, W.heap[k]? = some (.cells cur 4 (0, 0))
structure LawX (W : World) (o : Own) (base : Nat) (vx : Value) (us : List (List Bool)) : Prop where
 ex : ∃ rs : List Value, rs.length = us.length /\ OwnC 36 W base vx rs /\ ∀ i v, rs[i]? = some v -> LawB W o base v (us.getD i [])
 no : ∀ k, vx.ownBlock = some k -> o k = none
section
variable {W W' : World} {o o' : Own} {base : Nat} {vl vx v : Value} {ks : List Int} {us : List (List Bool)} {bs : List Bool}
theorem LawL.chg (h : LawL W o base vl ks) (hc : ChgX NoB o o' W W') : LawL W' o' base vl ks :=
 ⟨h.own.same fun k hk => hc.block k (h.own.lt k hk).2 (h.no k hk) (fun e => e), fun k hk => hc.none' (h.own.lt k hk).2 (h.no k hk)⟩
theorem LawB.chg (h : LawB W o base v bs) (hc : ChgX NoB o o' W W') : LawB W' o' base v bs :=
 ⟨h.is.same fun k hk => hc.block k (h.no k hk).2.1 (h.no k hk).2.2.1 (fun e => e), fun k hk => by
  obtain ⟨h1, h2, h3, cur, h4⟩ := h.no k hk;exact ⟨h1, Nat.lt_of_lt_of_le h2 hc.size, hc.none' h2 h3, cur, (hc.block k h2 h3 (fun e => e)).trans h4⟩⟩
theorem LawX.chg (h : LawX W o base vx us) (hc : ChgX NoB o o' W W') : LawX W' o' base vx us := by
 obtain ⟨rs, h1, h2, h3⟩ := h.ex;exact ⟨⟨rs, h1, h2.same fun k hk => hc.block k (h2.lt k hk).2 (h.no k hk) (fun e => e), fun i v hv => (h3 i v hv).chg hc⟩, fun k hk => hc.none' (h2.lt k hk).2 (h.no k hk)⟩
theorem chg_below (hb : Below W.heap.size W W') (o : Own) : ChgX NoB o o W W' := ChgX.of_below hb o NoB
theorem LawL.typ {C : Nat -> Prop} (h : LawL W o base vl ks) (hw : Wr C W W') {T : TypeId} (hT : T ≠ 3) (hC : ∀ k, C k -> ∃ cur, W.heap[k]? = some (.cells cur T (0, 0))) : LawL W' o base vl ks :=
 ⟨h.own.same fun k hk => hw.keep k (h.own.lt k hk).2 fun e => by
  obtain ⟨c1, h1⟩ := hC k e;obtain ⟨c2, h2⟩ := h.own.typed k hk;rw [h1] at h2; cases h2; exact hT rfl, h.no⟩
theorem LawB.typ {C : Nat -> Prop} (h : LawB W o base v bs) (hw : Wr C W W') {T : TypeId} (hT : T ≠ 4) (hC : ∀ k, C k -> ∃ cur, W.heap[k]? = some (.cells cur T (0, 0))) : LawB W' o base v bs := by
 have hk : ∀ k, v.ownBlock = some k -> W'.heap[k]? = W.heap[k]? := fun k hk => by
  obtain ⟨h1, h2, h3, cur, h4⟩ := h.no k hk;exact hw.keep k h2 fun e => by
   obtain ⟨c1, q1⟩ := hC k e;rw [q1] at h4; cases h4; exact hT rfl
 exact ⟨h.is.same hk, fun k hkk => by
  obtain ⟨h1, h2, h3, cur, h4⟩ := h.no k hkk;exact ⟨h1, Nat.lt_of_lt_of_le h2 hw.size, h3, cur, (hk k hkk).trans h4⟩⟩
theorem LawX.typ {C : Nat -> Prop} (h : LawX W o base vx us) (hw : Wr C W W') {T : TypeId} (hT : T ≠ 4) (hT2 : T ≠ 36) (hC : ∀ k, C k -> ∃ cur, W.heap[k]? = some (.cells cur T (0, 0))) : LawX W' o base vx us := by
 obtain ⟨rs, h1, h2, h3⟩ := h.ex
 exact ⟨⟨rs, h1, h2.same fun k hk => hw.keep k (h2.lt k hk).2 fun e => by
  obtain ⟨c1, q1⟩ := hC k e;obtain ⟨c2, q2⟩ := h2.typed k hk;rw [q1] at q2; cases q2; exact hT2 rfl, fun i v hv => (h3 i v hv).typ hw hT hC⟩, h.no⟩
theorem wr_app {v' : Value} (h1 : W'.os = W.os) (h2 : W'.tape = W.tape) (h3 : W'.output = W.output) (h4 : W.heap.size <= W'.heap.size) (hk : KeepApp v v' W W') : Wr (fun k => v.ownBlock = some k) W W' :=
 ⟨h1, h2, h3, h4, fun k hlt hn => hk.keep k hlt (fun e => hn e.symm)⟩
theorem LawL.app {v' : Value} {k : Int} (h : LawL W o base vl ks) (hlt : OwnLt o W) (hn : OwnC 3 W' base v' (intsV ks ++ [.int .i64 k])) (hk : KeepApp vl v' W W') : LawL W' o base v' (ks ++ [k]) := by
 refine ⟨by rw [show intsV (ks ++ [k]) = intsV ks ++ [.int .i64 k] by simp [intsV]]; exact hn, fun q hq => ?_⟩;rcases hk.loc with e | ⟨g, e, hg⟩
 ·
  exact h.no q (by rw [<- e]; exact hq)
 ·
  rw [e] at hq; cases hq; exact hlt.none hg
theorem LawX.app {v' : Value} (h : LawX W o base vx us) (hlt : OwnLt o W) {rs : List Value} (hrs : rs.length = us.length) (hall : ∀ i v, rs[i]? = some v -> LawB W o base v (us.getD i [])) (hw : Wr (fun k => vx.ownBlock = some k) W W') (hT : ∀ k, vx.ownBlock = some k -> ∃ cur, W.heap[k]? = some (.cells cur 36 (0, 0)))
 (hb : LawB W o base v bs) (hn : OwnC 36 W' base v' (rs ++ [v])) (hk : KeepApp vx v' W W') : LawX W' o base v' (us ++ [bs]) := by
 refine ⟨⟨rs ++ [v], by simp [hrs], hn, fun i u hu => ?_⟩, fun q hq => ?_⟩
 ·
  rcases Nat.lt_or_ge i rs.length with hi | hi
  ·
   rw [List.getElem?_append_left hi] at hu;have e : (us ++ [bs]).getD i [] = us.getD i [] := by simp [List.getD, List.getElem?_append_left (show i < us.length by omega)]
   rw [e];exact (hall i u hu).typ hw (by decide) hT
  ·
   rw [List.getElem?_append_right hi] at hu;have hi2 : i = rs.length := by
    have := (List.getElem?_eq_some_iff.1 hu).1;simp at this; omega
   subst hi2;simp at hu;subst hu;have e : (us ++ [bs]).getD rs.length [] = bs := by rw [hrs]; simp [List.getD]
   rw [e];exact hb.typ hw (by decide) hT
 ·
  rcases hk.loc with e | ⟨g, e, hg⟩
  ·
   exact h.no q (by rw [<- e]; exact hq)
  ·
   rw [e] at hq; cases hq; exact hlt.none hg
theorem lawB_new {n : Nat} (h : OwnB W' W.heap.size v bs) (hl : bs.length <= 1000000) (hlt : OwnLt o W) (hb : base <= W.heap.size) : LawB W' o base v bs :=
 ⟨OwnC.boolsIs h hl, fun k hk => by
  have h1 := h.lt k hk;exact ⟨by omega, h1.2, hlt.none h1.1, h.typed k hk⟩⟩
theorem lawR_of {n : Nat} {fs hs : List (Int × BF)} (hl : LawL W o base vl (hs.map Prod.fst)) (hx : LawX W o base vx (hs.map fun p => tabB n p.2)) (hsub : ∀ p ∈ hs, p ∈ fs) (hsm : hs.length <= 1000) :
 LawR (fun g => base <= g /\ g < W.heap.size /\ o g = none /\ ∃ cur, W.heap[g]? = some (.cells cur 4 (0, 0))) n fs W vl vx hs := by
 obtain ⟨rs, h1, h2, h3⟩ := hx.ex;obtain ⟨al, cl, e1, _⟩ := hl.own.slice;obtain ⟨ax, cx, e2, _⟩ := h2.slice;have l1 : (intsV (hs.map Prod.fst)).length = hs.length := by simp [intsV]
 have l2 : rs.length = hs.length := by rw [h1]; simp
 rw [l1] at e1;rw [l2] at e2;refine ⟨hsub, hsm, ⟨al, cl, e1, ⟨by simp; omega, fun k hk => ?_⟩⟩, ⟨ax, cx, e2, ⟨by simp; omega, fun k hk => ?_⟩⟩⟩
 ·
  obtain ⟨g, cap, e3, _⟩ := hl.own.shape (by rw [l1]; simp at hk; omega);rw [e1] at e3;injection e3 with e3
  subst e3;have hc := hl.own;rw [e1] at hc;refine ⟨g, 0, rfl, ?_⟩;rw [Nat.zero_add, hc.cell k (by rw [l1]; simpa using hk), intsV, List.getElem?_map, getElem?_at0 hk]; rfl
 ·
  obtain ⟨g, cap, e3, _⟩ := h2.shape (by rw [l2]; simp at hk; omega);rw [e2] at e3;injection e3 with e3
  subst e3;have hc := h2;rw [e2] at hc;have hk' : k < rs.length := by rw [h1]; exact hk
  have hb := h3 k rs[k] (List.getElem?_eq_getElem hk');refine ⟨g, 0, rs[k], rfl, ?_, hb.is, hb.no⟩;rw [Nat.zero_add, hc.cell k hk', List.getElem?_eq_getElem hk']
end
open Go.RowKit
def okI (z : Int) : Prop := -9223372036854775808 <= z /\ z <= 9223372036854775807
inductive ExT where
 | nil
 | mk (op v : Int) (n : Nat) (kid : Nat -> ExT)
def sumN : Nat -> (Nat -> Nat) -> Nat
 | 0, _ => 0
 | k + 1, f => sumN k f + f k
theorem sumN_ge {f : Nat -> Nat} {j : Nat} : ∀ (k : Nat), j < k -> f j <= sumN k f
 | 0, h => by omega
 | k + 1, h => by
   unfold sumN
   by_cases e : j = k
   ·
    subst e; omega
   ·
    have := sumN_ge (f := f) k (show j < k by omega); omega
def ExT.size : ExT -> Nat
 | .nil => 1
 | .mk _ _ n kid => 1 + sumN n fun i => (kid i).size
theorem ExT.size_pos (e : ExT) : 1 <= e.size := by cases e <;> unfold ExT.size <;> omega
instance : Inhabited ExT := ⟨.nil⟩
theorem ExT.kid_size {op v : Int} {n : Nat} {kid : Nat -> ExT} {i : Nat} (h : i < n) : (kid i).size < (ExT.mk op v n kid).size := by
 have h1 : (kid i).size <= sumN n fun i => (kid i).size := sumN_ge (f := fun i => (kid i).size) n h
 show (kid i).size < 1 + sumN n fun i => (kid i).size
 omega
def ExprAt (w : World) : ExT -> Value -> Prop
 | .nil, _ => False
 | .mk op v n kid, x => ∃ a c, x = .agg #[.int .i64 op, .int .i64 v, .slice a n c] /\ okI op /\ okI v /\ n <= 9223372036854775807 /\
  ∀ k, k < n -> ∃ b off x0 x1 x2, a = some ⟨b, off, none⟩ /\ w.cell? ⟨b, off + k * 3, none⟩ = some x0 /\ w.cell? ⟨b, off + k * 3 + 1, none⟩ = some x1 /\ w.cell? ⟨b, off + k * 3 + 2, none⟩ = some x2 /\ ExprAt w (kid k) (.agg #[x0, x1, x2])
theorem ExprAt.below {w w' : World} (hb : Below w.heap.size w w') : ∀ (e : ExT) {x : Value}, ExprAt w e x -> ExprAt w' e x
 | .nil, _, h => by unfold ExprAt at h; exact h.elim
 | .mk op v n kid, x, h => by
   unfold ExprAt at h ⊢;obtain ⟨a, c, h1, h2, h3, h4, h5⟩ := h;refine ⟨a, c, h1, h2, h3, h4, fun k hk => ?_⟩;obtain ⟨b, off, x0, x1, x2, rfl, c0, c1, c2, hx⟩ := h5 k hk;exact ⟨b, off, x0, x1, x2, rfl, (hb.cell (p := ⟨b, off + k * 3, none⟩) (lt_of_cell c0)).trans c0, (hb.cell (p := ⟨b, off + k * 3 + 1, none⟩) (lt_of_cell c1)).trans c1, (hb.cell (p := ⟨b, off + k * 3 + 2, none⟩) (lt_of_cell c2)).trans c2, ExprAt.below hb (kid k) hx⟩
theorem parts_any : ∀ (e : ExT) (x : Value) (q : Nat) (w : World), q <= 1000 -> ExprAt w e x ->
 Calls Tryz.prog 72 #[x, .int .i64 q] w fun y w' => (∃ r : Nat, y = .returned (.int .i64 r) /\ 1 <= r /\ r <= q + 1 /\ (r <= q -> r = e.size)) /\ Below w.heap.size w w'
 | .nil, x, q, w, hq, h => by unfold ExprAt at h; exact h.elim
 | .mk op v n kid, x, q, w, hq, h => by
   unfold ExprAt at h;obtain ⟨a, c, rfl, h2, h3, h4, h5⟩ := h;have H5 := Lib.hid h5;have HSZ : Hid ((ExT.mk op v n kid).size = 1 + sumN n fun i => (kid i).size) := Lib.hid rfl;have IH : Hid (∀ (i : Nat) (x : Value) (z : Int) (q : Nat) (W : World), z = (q : Int) -> q <= 1000 -> ExprAt W (kid i) x -> Calls Tryz.prog 72 #[x, .int .i64 z] W fun y w' => (∃ r : Nat, y = .returned (.int .i64 r) /\ 1 <= r /\ r <= q + 1 /\ (r <= q -> r = (kid i).size)) /\ Below W.heap.size W w') :=
    Lib.hid fun i x z q W hz h1 h2 => by subst hz; exact parts_any (kid i) x q W h1 h2
   obtain ⟨E, hE⟩ : ∃ E, E = ExT.mk op v n kid := ⟨_, rfl⟩;rw [<- hE] at HSZ ⊢;obtain ⟨w1, hw1⟩ : ∃ w1, w1 = w.alloc (.cells #[.int .i64 op, .int .i64 v, .slice a n c] 39) := ⟨_, rfl⟩;have HW1 : Hid (_ = w1) := Lib.hid hw1.symm;have HB1 : Hid (Below w.heap.size w w1) := by rw [hw1]; exact Lib.hid (below_new1 _ _)
   have hblk : w1.heap[w.heap.size]? = some (.cells #[.int .i64 op, .int .i64 v, .slice a n c] 39 (0, 0)) := by rw [hw1]; exact heap_alloc_new _ _
   have hs1 : w1.heap.size = w.heap.size + 1 := by rw [hw1]; simp
   have d2 : w1.cell? ⟨w.heap.size, 2, none⟩ = some (.slice a n c) := by rw [cell_of_row _ _ 2 _ _ _ hblk]; rfl
   clear h5 hE hw1 hblk h2 h3
   go_enter Tryz.func72, Tryz.ntmps72
   go_upto_region 1 with fail;rw [HW1.out];go_wp2_with fail
   go_loopw [5, 6] (fun s5 s6 wr => ∃ i r : Nat, i <= n /\ 1 <= r /\ i < r /\ r <= q + 1 /\ s5 = .int .i64 r /\ s6 = .int .i64 i /\ Below w1.heap.size w1 wr /\ Hid (r <= q -> r = 1 + sumN i fun i => (kid i).size)) (fun _ s6 _ => n - (intOf s6).toNat)
   case atStart => exact ⟨0, 1, by omega, by omega, by omega, by omega, rfl, rfl, Below.refl _ _, Lib.hid fun _ => rfl⟩
   case round =>
    obtain ⟨i, r, hi, hr1, hir, hr2, rfl, rfl, hbel, HR⟩ := hrel;have d2' := (hbel.cell (p := ⟨w.heap.size, 2, none⟩) (lt_of_cell d2)).trans d2;have HBEL := Lib.hid hbel;clear hbel
    by_cases hlt : i < n
    ·
     by_cases hle : r <= q
     ·
      obtain ⟨b, off, x0, x1, x2, rfl, c0, c1, c2, hx⟩ := H5.out i hlt;have hb0 := HB1.out.trans (HBEL.out.mono HB1.out.size);have e0 := (hb0.cell (p := ⟨b, off + i * 3, none⟩) (lt_of_cell c0)).trans c0;have e1 := (hb0.cell (p := ⟨b, off + i * 3 + 1, none⟩) (lt_of_cell c1)).trans c1;have e2 := (hb0.cell (p := ⟨b, off + i * 3 + 2, none⟩) (lt_of_cell c2)).trans c2;have HX := Lib.hid (hx.below hb0);clear c0 c1 c2 hx hb0;have hin : (i : Int) < n := by omega
      go_wp2_with fail;refine (IH.out i _ _ (q - r) _ (by omega) (by omega) HX.out).mono ?_;rintro y w3 ⟨⟨r2, rfl, g1, g2, g3⟩, hb3⟩;have HB3 := Lib.hid (HBEL.out.trans (hb3.mono HBEL.out.size));have HR2 : Hid (r + r2 <= q -> r + r2 = 1 + sumN (i + 1) fun i => (kid i).size) := Lib.hid fun hh => by
       have e1 := HR.out (by omega);have e2 := g3 (by omega)
       show _ = 1 + (sumN i (fun i => (kid i).size) + (kid i).size)
       omega
      clear hb3 g3 e0 e1 e2;go_wp2_with fail;go_roundw
      case rel => exact ⟨i + 1, r + r2, by omega, by omega, by omega, by omega, by go_num, by go_num, HB3.out, HR2⟩
      case measure => simp [intOf]; omega
     ·
      have hin : (i : Int) < n := by omega
      have HF : Hid ((∃ r' : Nat, Ending.returned (.int .i64 (r : Nat)) = .returned (.int .i64 r') /\ 1 <= r' /\ r' <= q + 1 /\ (r' <= q -> r' = E.size)) /\ Below w.heap.size w wr) :=
       Lib.hid ⟨⟨r, rfl, hr1, hr2, fun hh => by omega⟩, HB1.out.trans (HBEL.out.mono HB1.out.size)⟩
      go_wp2_with fail;go_ret;exact HF.out
    ·
     have he : i = n := by omega
     have HF : Hid ((∃ r' : Nat, Ending.returned (.int .i64 (r : Nat)) = .returned (.int .i64 r') /\ 1 <= r' /\ r' <= q + 1 /\ (r' <= q -> r' = E.size)) /\ Below w.heap.size w wr) :=
      Lib.hid ⟨⟨r, rfl, hr1, hr2, fun hh => by rw [HSZ.out, HR.out hh, he]⟩, HB1.out.trans (HBEL.out.mono HB1.out.size)⟩
     have hin : ¬ (i : Int) < n := by omega
     go_wp2_with fail;go_ret;exact HF.out
open Go.RowKit
theorem sumN_two {f : Nat -> Nat} {i : Nat} : ∀ {n : Nat}, i < n -> sumN i f + f i <= sumN n f
 | 0, h => by omega
 | k + 1, h => by
   rcases Nat.lt_or_ge i k with h' | h'
   ·
    have := sumN_two (f := f) h'
    show _ <= sumN k f + f k
    omega
   ·
    obtain rfl : i = k := by omega
    exact Nat.le_refl _
def kidsR (op : Int) : Int × Int :=
 if op = 1 \/ op = 2 \/ op = 3 then (0, 0) else if op = 4 then (1, 1) else if op = 5 \/ op = 6 \/ op = 7 then (0, 64) else if op = 8 \/ op = 9 then (2, 2) else if op = 10 then (3, 3) else (-1, -1)
def okT : ExT -> Nat -> Prop
 | .nil, _ => False
 | .mk op v n kid, deep => deep <= 64 /\ 0 <= (kidsR op).1 /\ (op = 3 -> 0 <= v /\ v < 64) /\ (op ≠ 3 -> v = 0) /\ (kidsR op).1 <= n /\ (n : Int) <= (kidsR op).2 /\ ∀ i, i < n -> okT (kid i) (deep + 1)
def validT : ExT -> Prop
 | .nil => False
 | .mk op v n kid => 0 <= (kidsR op).1 /\ (op = 3 -> 0 <= v /\ v < 64) /\ (op ≠ 3 -> v = 0) /\ (kidsR op).1 <= n /\ (n : Int) <= (kidsR op).2 /\ ∀ i, i < n -> validT (kid i)
theorem okT.valid : ∀ {e : ExT} {deep : Nat}, okT e deep -> validT e
 | .nil, _, h => h.elim
 | .mk op v n kid, deep, h => by
   obtain ⟨_, h1, h2, h3, h4, h5, h6⟩ := h;exact ⟨h1, h2, h3, h4, h5, fun i hi => (h6 i hi).valid⟩
theorem kids06_any (op : Int) (w : World) : Calls Tryz.prog 147 #[.int .i64 op] w fun y w' => y = .returned (.tuple #[.int .i64 (kidsR op).1, .int .i64 (kidsR op).2]) /\ w = w' := by
 obtain ⟨p, hp⟩ : ∃ p, p = kidsR op := ⟨_, rfl⟩;rw [<- hp];unfold kidsR at hp;rcases (by omega : op = 1 \/ op = 2 \/ op = 3 \/ op = 4 \/ op = 5 \/ op = 6 \/ op = 7 \/ op = 8 \/ op = 9 \/ op = 10 \/ (op < 1 \/ 10 < op)) with rfl | rfl | rfl | rfl | rfl | rfl | rfl | rfl | rfl | rfl | h
 all_goals
  first
  | (simp at hp
     subst hp
     go_enter Tryz.func147, Tryz.ntmps147
     go_wp2_with fail
     go_ret2
     exact ⟨rfl, rfl⟩)
  | (have h1 : (op == 1) = false := by simp; omega
     have h2 : (op == 2) = false := by simp; omega
     have h3 : (op == 3) = false := by simp; omega
     have h4 : (op == 4) = false := by simp; omega
     have h5 : (op == 5) = false := by simp; omega
     have h6 : (op == 6) = false := by simp; omega
     have h7 : (op == 7) = false := by simp; omega
     have h8 : (op == 8) = false := by simp; omega
     have h9 : (op == 9) = false := by simp; omega
     have h10 : (op == 10) = false := by simp; omega
     rw [if_neg (by omega), if_neg (by omega), if_neg (by omega), if_neg (by omega), if_neg (by omega)] at hp;subst hp;clear h
     go_enter Tryz.func147, Tryz.ntmps147
     go_wp2_with fail
     go_ret2
     exact ⟨rfl, rfl⟩)
def CheckPost (e : ExT) (deep parts : Nat) (w : World) (y : Ending) (w' : World) : Prop := ∃ err m : Int, y = .returned (.tuple #[.int .i64 err, .int .i64 m]) /\ okI m /\ (err = 0 ↔ okT e deep) /\ (err = 0 -> m = (parts + e.size : Nat)) /\ Below w.heap.size w w'
theorem check_any : ∀ (e : ExT) (x : Value) (deep parts : Nat) (w : World), deep <= 65 -> parts + e.size <= 4096 -> ExprAt w e x ->
 Calls Tryz.prog 110 #[x, .int .i64 deep, .int .i64 parts] w (CheckPost e deep parts w)
 | .nil, x, deep, parts, w, hd, hp, h => by unfold ExprAt at h; exact h.elim
 | .mk op v n kid, x, deep, parts, w, hd, hp, h => by
   unfold ExprAt at h;obtain ⟨a, c, rfl, h2, h3, h4, h5⟩ := h;have H5 := Lib.hid h5;have HSZ : Hid ((ExT.mk op v n kid).size = 1 + sumN n fun i => (kid i).size) := Lib.hid rfl;have HKS : Hid (∀ i, i < n -> (kid i).size < (ExT.mk op v n kid).size) := Lib.hid fun i hi => ExT.kid_size hi
   have HV : Hid (∀ l hh : Int, l = (kidsR op).1 -> hh = (kidsR op).2 -> (okT (ExT.mk op v n kid) deep ↔ deep <= 64 /\ 0 <= l /\ (op = 3 -> 0 <= v /\ v < 64) /\ (op ≠ 3 -> v = 0) /\ l <= n /\ (n : Int) <= hh /\ ∀ i, i < n -> okT (kid i) (deep + 1))) := by
    refine Lib.hid ?_;rintro l hh rfl rfl;exact Iff.rfl
   have IH : Hid (∀ (i : Nat) (x : Value) (z1 z2 : Int) (deep parts : Nat) (W : World), z1 = (deep : Int) -> z2 = (parts : Int) -> deep <= 65 -> parts + (kid i).size <= 4096 -> ExprAt W (kid i) x -> Calls Tryz.prog 110 #[x, .int .i64 z1, .int .i64 z2] W (CheckPost (kid i) deep parts W)) :=
    Lib.hid fun i x z1 z2 deep parts W e1 e2 h1 h2 h3 => by subst e1; subst e2; exact check_any (kid i) x deep parts W h1 h2 h3
   have HK := Lib.hid (fun W => kids06_any op W);obtain ⟨E, hE⟩ : ∃ E, E = ExT.mk op v n kid := ⟨_, rfl⟩;have hpos : 1 <= E.size := E.size_pos;rw [<- hE] at HSZ hp HV HKS ⊢;obtain ⟨l, hl⟩ : ∃ l, l = (kidsR op).1 := ⟨_, rfl⟩;obtain ⟨hi, hhi⟩ : ∃ hi, hi = (kidsR op).2 := ⟨_, rfl⟩;rw [<- hl, <- hhi] at HK;have HVV := Lib.hid (HV.out l hi hl hhi);obtain ⟨w1, hw1⟩ : ∃ w1, w1 = w.alloc (.cells #[.int .i64 op, .int .i64 v, .slice a n c] 39) := ⟨_, rfl⟩;have HW1 : Hid (_ = w1) := Lib.hid hw1.symm;have HB1 : Hid (Below w.heap.size w w1) := by rw [hw1]; exact Lib.hid (below_new1 _ _)
   have hblk : w1.heap[w.heap.size]? = some (.cells #[.int .i64 op, .int .i64 v, .slice a n c] 39 (0, 0)) := by rw [hw1]; exact heap_alloc_new _ _
   have hs1 : w1.heap.size = w.heap.size + 1 := by rw [hw1]; simp
   have d0 : w1.cell? ⟨w.heap.size, 0, none⟩ = some (.int .i64 op) := by rw [cell_of_row _ _ 0 _ _ _ hblk]; rfl
   have d1 : w1.cell? ⟨w.heap.size, 1, none⟩ = some (.int .i64 v) := by rw [cell_of_row _ _ 1 _ _ _ hblk]; rfl
   have d2 : w1.cell? ⟨w.heap.size, 2, none⟩ = some (.slice a n c) := by rw [cell_of_row _ _ 2 _ _ _ hblk]; rfl
   have HERR : Hid (∀ (k m : Int) (W : World), k ≠ 0 -> ¬ okT E deep -> okI m -> Below w1.heap.size w1 W -> CheckPost E deep parts w (.returned (.tuple #[.int .i64 k, .int .i64 m])) W) :=
    Lib.hid fun k m W hk hno hm hb => ⟨k, m, rfl, hm, ⟨fun e => (hk e).elim, fun e => (hno e).elim⟩, fun e => (hk e).elim, HB1.out.trans (hb.mono HB1.out.size)⟩
   unfold okI at h2 h3;clear h5 hE hw1 hblk HV hl hhi
   go_enter Tryz.func110, Tryz.ntmps110
   go_upto_region 1 with fail;rw [HW1.out]
   by_cases hdp : (deep : Int) > 64
   ·
    go_wp2_with fail
    go_ret2
    exact HERR.out 17 _ _ (by decide) (fun h => by have := (HVV.out.1 h).1; omega) (by unfold okI; omega) (Below.refl _ _)
   go_wp2_with fail;refine (HK.out _).mono ?_;rintro y w' ⟨rfl, rfl⟩
   by_cases hl0 : l < 0
   ·
    go_wp2_with fail
    go_ret2
    exact HERR.out 11 _ _ (by decide) (fun h => by have := (HVV.out.1 h).2.1; omega) (by unfold okI; omega) (Below.refl _ _)
   have hgood : ((op == 3) = true /\ op = 3) \/ ((op == 3) = false /\ (op != 3) = true /\ op ≠ 3) := by
    by_cases e : op = 3
    ·
     exact .inl ⟨by simp [e], e⟩
    ·
     exact .inr ⟨by simpa using e, by simpa using e, e⟩
   rcases hgood with ⟨g1, g2⟩ | ⟨g1, g2, g3⟩
   ·
    subst g2
    by_cases hv0 : v < 0
    ·
     go_wp2_with fail
     go_ret2
     exact HERR.out 9 _ _ (by decide) (fun h => by have := (HVV.out.1 h).2.2.1 (by trivial); omega) (by unfold okI; omega) (Below.refl _ _)
    by_cases hv1 : v >= 64
    ·
     go_wp2_with fail
     go_ret2
     exact HERR.out 9 _ _ (by decide) (fun h => by have := (HVV.out.1 h).2.2.1 (by trivial); omega) (by unfold okI; omega) (Below.refl _ _)
    have HG : Hid ((3 : Int) = 3 -> 0 <= v /\ v < 64) := Lib.hid fun _ => ⟨by omega, by omega⟩
    have HG2 : Hid ((3 : Int) ≠ 3 -> v = 0) := Lib.hid fun e => (e rfl).elim
    go_upto_region 9 with fail
    by_cases hnl : (n : Int) < l
    ·
     go_wp2_with fail
     go_ret2
     exact HERR.out 3 _ _ (by decide) (fun h => by have := (HVV.out.1 h).2.2.2.2.1; omega) (by unfold okI; omega) (Below.refl _ _)
    by_cases hnh : (n : Int) > hi
    ·
     go_wp2_with fail
     go_ret2
     exact HERR.out 3 _ _ (by decide) (fun h => by have := (HVV.out.1 h).2.2.2.2.2.1; omega) (by unfold okI; omega) (Below.refl _ _)
    go_wp2_with fail
    go_loopw [2, 10, 11, 12] (fun s2 s10 s11 s12 wr => ∃ i p : Nat, i <= n /\ p <= 4096 /\ s2 = .int .i64 p /\ s10 = .int .i64 i /\ Below w1.heap.size w1 wr /\ Hid (p = parts + (1 + sumN i fun i => (kid i).size)) /\ Hid (∀ j, j < i -> okT (kid j) (deep + 1))) (fun _ s10 _ _ _ => n - (intOf s10).toNat)
    case atStart => exact ⟨0, parts + 1, by omega, by omega, by go_num, rfl, Below.refl _ _, Lib.hid rfl, Lib.hid fun j hj => by omega⟩
    case round =>
     obtain ⟨i, p, hin, hp4, rfl, rfl, hbel, HP, HVAL⟩ := hrel;have d2' := (hbel.cell (p := ⟨w.heap.size, 2, none⟩) (lt_of_cell d2)).trans d2;have HBEL := Lib.hid hbel;clear hbel
     by_cases hlt : i < n
     ·
      obtain ⟨b, off, x0, x1, x2, rfl, c0, c1, c2, hx⟩ := H5.out i hlt;have hb0 := HB1.out.trans (HBEL.out.mono HB1.out.size);have e0 := (hb0.cell (p := ⟨b, off + i * 3, none⟩) (lt_of_cell c0)).trans c0;have e1 := (hb0.cell (p := ⟨b, off + i * 3 + 1, none⟩) (lt_of_cell c1)).trans c1;have e2 := (hb0.cell (p := ⟨b, off + i * 3 + 2, none⟩) (lt_of_cell c2)).trans c2;have HX := Lib.hid (hx.below hb0);have hsum : p + (kid i).size <= 4096 := by
       have s1 : (kid i).size + sumN i (fun i => (kid i).size) <= sumN n fun i => (kid i).size := by
        have := sumN_two (f := fun i => (kid i).size) hlt;omega
       have s2 := HP.out;have s3 := HSZ.out;omega
      have HSUM : Hid (p + (kid i).size = parts + (1 + sumN (i + 1) fun i => (kid i).size)) := Lib.hid (by
       have s2 := HP.out
       show _ = parts + (1 + (sumN i (fun i => (kid i).size) + (kid i).size))
       omega)
      have hiz : (i : Int) < n := by omega
      clear c0 c1 c2 hx hb0;go_wp2_with fail;refine (IH.out i _ _ _ (deep + 1) p _ (by go_num) rfl (by omega) hsum HX.out).mono ?_;rintro y w3 ⟨err, m, rfl, hm, hiff, hvv, hb3⟩;have HB3 := Lib.hid (HBEL.out.trans (hb3.mono HBEL.out.size));have HVN := Lib.hid hvv;have HIF := Lib.hid hiff;clear hb3 hvv hiff e0 e1 e2;unfold okI at hm
      by_cases he0 : err = 0
      ·
       subst he0;have q1 := HIF.out.1 rfl;have q2 := HVN.out rfl;obtain ⟨p2, hp2⟩ : ∃ p2, p2 = p + (kid i).size := ⟨_, rfl⟩;have HVAL2 : Hid (∀ j, j < i + 1 -> okT (kid j) (deep + 1)) := Lib.hid fun j hj => by
        rcases Nat.lt_or_ge j i with h | h
        ·
         exact HVAL.out j h
        ·
         obtain rfl : j = i := by omega
         exact q1
       rw [<- hp2] at q2 hsum HSUM;subst q2;clear hp2 q1 HVN HIF;go_wp2_with fail;go_roundw
       case rel => exact ⟨i + 1, p2, by omega, by omega, rfl, by go_num, HB3.out, HSUM, HVAL2⟩
       case measure => simp [intOf]; omega
      ·
       have hne : (err != 0) = true := by simpa using he0
       have HF := Lib.hid (HERR.out err m w3 he0 (fun h => he0 (HIF.out.2 ((HVV.out.1 h).2.2.2.2.2.2 i hlt))) hm HB3.out);clear he0 HVN HIF;go_wp2_with fail
       go_ret2
       exact HF.out
     ·
      have he : i = n := by omega
      have hiz : ¬ (i : Int) < n := by omega
      have HF : Hid (CheckPost E deep parts w (.returned (.tuple #[.int .i64 0, .int .i64 (p : Nat)])) wr) := Lib.hid ⟨0, p, rfl, by unfold okI; omega, ⟨fun _ => HVV.out.2 ⟨by omega, by omega, HG.out, HG2.out, by omega, by omega, fun j hj => HVAL.out j (by omega)⟩, fun _ => rfl⟩, fun _ => by rw [HP.out, HSZ.out, he], HB1.out.trans (HBEL.out.mono HB1.out.size)⟩;go_wp2_with fail
      go_ret2
      exact HF.out
   ·
    by_cases hv0 : v = 0
    ·
     have hv1 : (v != 0) = false := by simp [hv0]
     have HG : Hid (op = 3 -> 0 <= v /\ v < 64) := Lib.hid fun e => (g3 e).elim
     have HG2 : Hid (op ≠ 3 -> v = 0) := Lib.hid fun _ => hv0
     clear hv0 g3;go_upto_region 9 with fail
     by_cases hnl : (n : Int) < l
     ·
      go_wp2_with fail
      go_ret2
      exact HERR.out 3 _ _ (by decide) (fun h => by have := (HVV.out.1 h).2.2.2.2.1; omega) (by unfold okI; omega) (Below.refl _ _)
     by_cases hnh : (n : Int) > hi
     ·
      go_wp2_with fail
      go_ret2
      exact HERR.out 3 _ _ (by decide) (fun h => by have := (HVV.out.1 h).2.2.2.2.2.1; omega) (by unfold okI; omega) (Below.refl _ _)
     go_wp2_with fail
     go_loopw [2, 10, 11, 12] (fun s2 s10 s11 s12 wr => ∃ i p : Nat, i <= n /\ p <= 4096 /\ s2 = .int .i64 p /\ s10 = .int .i64 i /\ Below w1.heap.size w1 wr /\ Hid (p = parts + (1 + sumN i fun i => (kid i).size)) /\ Hid (∀ j, j < i -> okT (kid j) (deep + 1))) (fun _ s10 _ _ _ => n - (intOf s10).toNat)
     case atStart => exact ⟨0, parts + 1, by omega, by omega, by go_num, rfl, Below.refl _ _, Lib.hid rfl, Lib.hid fun j hj => by omega⟩
     case round =>
      obtain ⟨i, p, hin, hp4, rfl, rfl, hbel, HP, HVAL⟩ := hrel;have d2' := (hbel.cell (p := ⟨w.heap.size, 2, none⟩) (lt_of_cell d2)).trans d2;have HBEL := Lib.hid hbel;clear hbel
      by_cases hlt : i < n
      ·
       obtain ⟨b, off, x0, x1, x2, rfl, c0, c1, c2, hx⟩ := H5.out i hlt;have hb0 := HB1.out.trans (HBEL.out.mono HB1.out.size);have e0 := (hb0.cell (p := ⟨b, off + i * 3, none⟩) (lt_of_cell c0)).trans c0;have e1 := (hb0.cell (p := ⟨b, off + i * 3 + 1, none⟩) (lt_of_cell c1)).trans c1;have e2 := (hb0.cell (p := ⟨b, off + i * 3 + 2, none⟩) (lt_of_cell c2)).trans c2;have HX := Lib.hid (hx.below hb0);have hsum : p + (kid i).size <= 4096 := by
        have s1 : (kid i).size + sumN i (fun i => (kid i).size) <= sumN n fun i => (kid i).size := by
         have := sumN_two (f := fun i => (kid i).size) hlt;omega
        have s2 := HP.out;have s3 := HSZ.out;omega
       have HSUM : Hid (p + (kid i).size = parts + (1 + sumN (i + 1) fun i => (kid i).size)) := Lib.hid (by
        have s2 := HP.out
        show _ = parts + (1 + (sumN i (fun i => (kid i).size) + (kid i).size))
        omega)
       have hiz : (i : Int) < n := by omega
       clear c0 c1 c2 hx hb0;go_wp2_with fail;refine (IH.out i _ _ _ (deep + 1) p _ (by go_num) rfl (by omega) hsum HX.out).mono ?_;rintro y w3 ⟨err, m, rfl, hm, hiff, hvv, hb3⟩;have HB3 := Lib.hid (HBEL.out.trans (hb3.mono HBEL.out.size));have HVN := Lib.hid hvv;have HIF := Lib.hid hiff;clear hb3 hvv hiff e0 e1 e2;unfold okI at hm
       by_cases he0 : err = 0
       ·
        subst he0;have q1 := HIF.out.1 rfl;have q2 := HVN.out rfl;obtain ⟨p2, hp2⟩ : ∃ p2, p2 = p + (kid i).size := ⟨_, rfl⟩;have HVAL2 : Hid (∀ j, j < i + 1 -> okT (kid j) (deep + 1)) := Lib.hid fun j hj => by
         rcases Nat.lt_or_ge j i with h | h
         ·
          exact HVAL.out j h
         ·
          obtain rfl : j = i := by omega
          exact q1
        rw [<- hp2] at q2 hsum HSUM;subst q2;clear hp2 q1 HVN HIF;go_wp2_with fail;go_roundw
        case rel => exact ⟨i + 1, p2, by omega, by omega, rfl, by go_num, HB3.out, HSUM, HVAL2⟩
        case measure => simp [intOf]; omega
       ·
        have hne : (err != 0) = true := by simpa using he0
        have HF := Lib.hid (HERR.out err m w3 he0 (fun h => he0 (HIF.out.2 ((HVV.out.1 h).2.2.2.2.2.2 i hlt))) hm HB3.out);clear he0 HVN HIF;go_wp2_with fail
        go_ret2
        exact HF.out
      ·
       have he : i = n := by omega
       have hiz : ¬ (i : Int) < n := by omega
       have HF : Hid (CheckPost E deep parts w (.returned (.tuple #[.int .i64 0, .int .i64 (p : Nat)])) wr) := Lib.hid ⟨0, p, rfl, by unfold okI; omega, ⟨fun _ => HVV.out.2 ⟨by omega, by omega, HG.out, HG2.out, by omega, by omega, fun j hj => HVAL.out j (by omega)⟩, fun _ => rfl⟩, fun _ => by rw [HP.out, HSZ.out, he], HB1.out.trans (HBEL.out.mono HB1.out.size)⟩;go_wp2_with fail
       go_ret2
       exact HF.out
    ·
     have hv1 : (v != 0) = true := by simpa using hv0
     have HNO : Hid (¬ okT E deep) := Lib.hid fun h => hv0 ((HVV.out.1 h).2.2.2.1 g3)
     clear hv0 g3;go_wp2_with fail
     go_ret2
     exact HERR.out 9 _ _ (by decide) HNO.out (by unfold okI; omega) (Below.refl _ _)
open Go.RowKit
theorem check06_any (e : ExT) (x : Value) (w : World) (hs : e.size <= 4096) (h : ExprAt w e x) :
 Calls Tryz.prog 73 #[x] w fun y w' => ∃ err : Int, y = .returned (.int .i64 err) /\ (err = 0 ↔ okT e 1) /\ Below w.heap.size w w' := by
 have HC : Hid (∀ W, Below w.heap.size w W -> ∀ u, u = x -> Calls Tryz.prog 110 #[u, .int .i64 1, .int .i64 0] W (CheckPost e 1 0 W)) := Lib.hid fun W hb u hu => by subst hu; exact check_any e _ 1 0 W (by omega) (by omega) (h.below hb)
 obtain ⟨x0, x1, x2, hx⟩ : ∃ x0 x1 x2, x = .agg #[x0, x1, x2] := by
  cases e with
  | nil => unfold ExprAt at h; exact h.elim
  | mk op v n kid =>
    unfold ExprAt at h;obtain ⟨a, c, rfl, _⟩ := h;exact ⟨_, _, _, rfl⟩
 subst hx;obtain ⟨w1, hw1⟩ : ∃ w1, w1 = w.alloc (.cells #[x0, x1, x2] 39) := ⟨_, rfl⟩;have HW1 : Hid (_ = w1) := Lib.hid hw1.symm;have HB1 : Hid (Below w.heap.size w w1) := by rw [hw1]; exact Lib.hid (below_new1 _ _)
 have hblk : w1.heap[w.heap.size]? = some (.cells #[x0, x1, x2] 39 (0, 0)) := by rw [hw1]; exact heap_alloc_new _ _
 have d0 : w1.cell? ⟨w.heap.size, 0, none⟩ = some x0 := by rw [cell_of_row _ _ 0 _ _ _ hblk]; rfl
 have d1 : w1.cell? ⟨w.heap.size, 1, none⟩ = some x1 := by rw [cell_of_row _ _ 1 _ _ _ hblk]; rfl
 have d2 : w1.cell? ⟨w.heap.size, 2, none⟩ = some x2 := by rw [cell_of_row _ _ 2 _ _ _ hblk]; rfl
 have hone : x0.cells = #[x0] /\ x1.cells = #[x1] /\ x2.cells = #[x2] := by
  cases e with
  | nil => unfold ExprAt at h; exact h.elim
  | mk op v n kid =>
    unfold ExprAt at h;obtain ⟨a, c, h1, _⟩ := h;cases h1;exact ⟨rfl, rfl, rfl⟩
 obtain ⟨o0, o1, o2⟩ := hone;clear h hw1 hblk
 go_enter Tryz.func73, Tryz.ntmps73
 go_upto_region 1 with fail;rw [HW1.out];go_wp2_with fail;refine (HC.out _ HB1.out _ rfl).mono ?_;rintro y w2 ⟨err, m, rfl, hm, hv, _, hb⟩;have HF : Hid (∃ err' : Int, Ending.returned (.int .i64 err) = .returned (.int .i64 err') /\ (err' = 0 ↔ okT e 1) /\ Below w.heap.size w w2) := Lib.hid ⟨err, rfl, hv, HB1.out.trans (hb.mono HB1.out.size)⟩;clear hv hb;go_wp2_with fail;go_ret;exact HF.out
def flatN : Nat -> (Nat -> List Int) -> List Int
 | 0, _ => []
 | k + 1, f => flatN k f ++ f k
def varsT : ExT -> List Int
 | .nil => []
 | .mk op v n kid => (if op = 3 then [v] else []) ++ flatN n fun i => varsT (kid i)
theorem flatN_len {f : Nat -> List Int} {g : Nat -> Nat} : ∀ (n : Nat), (∀ i, i < n -> (f i).length <= g i) -> (flatN n f).length <= sumN n g
 | 0, _ => Nat.le_refl _
 | k + 1, h => by
   show (flatN k f ++ f k).length <= sumN k g + g k
   rw [List.length_append];have := flatN_len (f := f) (g := g) k (fun i hi => h i (by omega));have := h k (by omega);omega
theorem varsT_len : ∀ e : ExT, (varsT e).length <= e.size
 | .nil => by simp [varsT]
 | .mk op v n kid => by
   show ((if op = 3 then [v] else []) ++ flatN n fun i => varsT (kid i)).length <= 1 + sumN n fun i => (kid i).size
   rw [List.length_append];have h1 := flatN_len (f := fun i => varsT (kid i)) (g := fun i => (kid i).size) n (fun i _ => varsT_len (kid i));have h2 : (if op = 3 then [v] else [] : List Int).length <= 1 := by split <;> simp
   omega
theorem OwnI.lower {w : World} {base b : Nat} {v : Value} {zs : List Int} (h : OwnI w base v zs) (hb : b <= base) : OwnI w b v zs := by
 refine ⟨h.1, ?_⟩;rcases h.2 with hn | ⟨g, cap, cur, rfl, hb', rest⟩
 ·
  exact .inl hn
 ·
  exact .inr ⟨g, cap, cur, rfl, by omega, rest⟩
theorem vars06_any : ∀ (e : ExT) (x : Value) (w : World), e.size <= 4096 -> ExprAt w e x ->
 Calls Tryz.prog 112 #[x] w fun y w' => ∃ u, y = .returned u /\ OwnI w' w.heap.size u (varsT e) /\ Below w.heap.size w w'
 | .nil, x, w, hp, h => by unfold ExprAt at h; exact h.elim
 | .mk op v n kid, x, w, hp, h => by
   unfold ExprAt at h;obtain ⟨a, c, rfl, h2, h3, h4, h5⟩ := h;have H5 := Lib.hid h5;have HSZ : Hid ((ExT.mk op v n kid).size = 1 + sumN n fun i => (kid i).size) := Lib.hid rfl;have HKS : Hid (∀ i, i < n -> (kid i).size < (ExT.mk op v n kid).size) := Lib.hid fun i hi => ExT.kid_size hi
   have HVT : Hid (varsT (ExT.mk op v n kid) = (if op = 3 then [v] else []) ++ flatN n fun i => varsT (kid i)) := Lib.hid rfl;have IH : Hid (∀ (i : Nat) (x : Value) (W : World), (kid i).size <= 4096 -> ExprAt W (kid i) x -> Calls Tryz.prog 112 #[x] W fun y w' => ∃ u, y = .returned u /\ OwnI w' W.heap.size u (varsT (kid i)) /\ Below W.heap.size W w') :=
    Lib.hid fun i x W h1 h2 => vars06_any (kid i) x W h1 h2
   obtain ⟨E, hE⟩ : ∃ E, E = ExT.mk op v n kid := ⟨_, rfl⟩;rw [<- hE] at HSZ hp HVT HKS ⊢;obtain ⟨w1, hw1⟩ : ∃ w1, w1 = w.alloc (.cells #[.int .i64 op, .int .i64 v, .slice a n c] 39) := ⟨_, rfl⟩;have HW1 : Hid (_ = w1) := Lib.hid hw1.symm;have HB1 : Hid (Below w.heap.size w w1) := by rw [hw1]; exact Lib.hid (below_new1 _ _)
   have hblk : w1.heap[w.heap.size]? = some (.cells #[.int .i64 op, .int .i64 v, .slice a n c] 39 (0, 0)) := by rw [hw1]; exact heap_alloc_new _ _
   have hs1 : w1.heap.size = w.heap.size + 1 := by rw [hw1]; simp
   have d0 : w1.cell? ⟨w.heap.size, 0, none⟩ = some (.int .i64 op) := by rw [cell_of_row _ _ 0 _ _ _ hblk]; rfl
   have d1 : w1.cell? ⟨w.heap.size, 1, none⟩ = some (.int .i64 v) := by rw [cell_of_row _ _ 1 _ _ _ hblk]; rfl
   have d2 : w1.cell? ⟨w.heap.size, 2, none⟩ = some (.slice a n c) := by rw [cell_of_row _ _ 2 _ _ _ hblk]; rfl
   unfold okI at h2 h3;obtain ⟨w2, hw2⟩ : ∃ w2, w2 = w1.alloc (.cells #[] 3) := ⟨_, rfl⟩;have HW2 : Hid (_ = w2) := Lib.hid hw2.symm;have HB2 : Hid (Below w1.heap.size w1 w2) := by rw [hw2]; exact Lib.hid (below_new1 _ _)
   have HOWN : Hid (OwnI w2 w1.heap.size (.slice (some ⟨w.heap.size + 1, 0, none⟩) 0 0) []) := by rw [hw2, <- hs1]; exact Lib.hid (ownI_new _ _ (Nat.le_refl _))
   clear h5 hE hw1 hw2 hblk
   go_enter Tryz.func112, Tryz.ntmps112
   go_upto_region 1 with fail;rw [HW1.out];go_upto_region 2 with fail;obtain ⟨Z, hZ⟩ : ∃ Z : List Int, Z = if op = 3 then [v] else [] := ⟨_, rfl⟩
   have HZ := Lib.hid hZ;have HZ1 : Hid (Z.length <= 1) := Lib.hid (by rw [hZ]; split <;> simp);rw [HW2.out];have hs2 : w1.heap.size <= w2.heap.size := HB2.out.size;have d0' := (HB2.out.cell (p := ⟨w.heap.size, 0, none⟩) (lt_of_cell d0)).trans d0;have d1' := (HB2.out.cell (p := ⟨w.heap.size, 1, none⟩) (lt_of_cell d1)).trans d1
   by_cases h3 : op = 3
   ·
    rw [if_pos h3] at hZ;subst h3;clear h2;go_wp2_with (at_builtin; refine wpList_app1 _ rfl _ _ rfl w1.heap.size w1 _ [] _ rfl rfl rfl rfl (by exact HOWN.out) (by simp) hs2 HB2.out ?_; intro v3 w3 hown3 hb3 hs3 _)
    go_loopw [3, 4] (fun s3 s4 wr => ∃ i : Nat, i <= n /\ s4 = .int .i64 i /\ Below w1.heap.size w1 wr /\ OwnI wr w1.heap.size s3 (Z ++ flatN i fun i => varsT (kid i)) /\ w1.heap.size <= wr.heap.size) (fun _ s4 _ => n - (intOf s4).toNat)
    case atStart => exact ⟨0, Nat.zero_le _, rfl, hb3, by rw [hZ]; simpa [flatN] using hown3, hs3⟩
    case round =>
     obtain ⟨i, hin, rfl, hbel, hown, hsz⟩ := hrel;have d2' := (hbel.cell (p := ⟨w.heap.size, 2, none⟩) (lt_of_cell d2)).trans d2;have HBEL := Lib.hid hbel;have HOW := Lib.hid hown;clear hbel hown
     by_cases hlt : i < n
     ·
      obtain ⟨b, off, x0, x1, x2, rfl, c0, c1, c2, hx⟩ := H5.out i hlt;have hb0 := HB1.out.trans (HBEL.out.mono HB1.out.size);have e0 := (hb0.cell (p := ⟨b, off + i * 3, none⟩) (lt_of_cell c0)).trans c0;have e1 := (hb0.cell (p := ⟨b, off + i * 3 + 1, none⟩) (lt_of_cell c1)).trans c1;have e2 := (hb0.cell (p := ⟨b, off + i * 3 + 2, none⟩) (lt_of_cell c2)).trans c2;have HX := Lib.hid (hx.below hb0);have hiz : (i : Int) < n := by omega
      have hk1 := HKS.out i hlt
      have HLN : Hid ((Z ++ flatN i fun i => varsT (kid i)).length + (varsT (kid i)).length <= 4096) := Lib.hid (by
       have s1 := sumN_two (f := fun i => (kid i).size) hlt;have s2 := HSZ.out;have s3 := flatN_len (f := fun i => varsT (kid i)) (g := fun i => (kid i).size) i (fun i _ => varsT_len (kid i));have s4 := varsT_len (kid i);have s5 := HZ1.out;rw [List.length_append];omega)
      clear c0 c1 c2 hx hb0;go_upto_region 7 with fail
      go_wp2_with (first
       | (go_at_call 112; refine (IH.out i _ _ (by omega) HX.out).mono ?_; rintro y w3 ⟨u, rfl, hu, hb3⟩; obtain ⟨au, cu, rfl, hua, hun⟩ := hu.sliceIs (by have := HLN.out; omega); have HU := Lib.hid hua; have HB3 := Lib.hid hb3; clear hu hua hb3)
       | (at_builtin; refine wpList_appAll rfl _ _ rfl w1.heap.size w1 _ (Z ++ flatN i fun i => varsT (kid i)) (varsT (kid i)) au cu rfl rfl (by exact HOW.out.below HB3.out) (by exact HU.out) (by have := HLN.out; omega) (by have := HB3.out.size; omega) (by exact HBEL.out.trans (HB3.out.mono HBEL.out.size)) hun ?_; intro v4 w4 hown4 hb4 hs4 _))
      go_roundw
      case rel => exact ⟨i + 1, by omega, by go_num, hb4, by rw [List.append_assoc] at hown4; exact hown4, hs4⟩
      case measure => simp [intOf]; omega
     ·
      have he : i = n := by omega
      have hiz : ¬ (i : Int) < n := by omega
      have HF : Hid (∃ u, Ending.returned u3 = .returned u /\ OwnI wr w.heap.size u (varsT E) /\ Below w.heap.size w wr) := Lib.hid ⟨u3, rfl, by rw [HVT.out, <- HZ.out, <- he]; exact HOW.out.lower (by omega), HB1.out.trans (HBEL.out.mono HB1.out.size)⟩;go_wp2_with fail;go_ret;exact HF.out
   ·
    rw [if_neg h3] at hZ;have g3 : (op == 3) = false := by simpa using h3
    clear h3;go_wp2_with fail
    go_loopw [3, 4] (fun s3 s4 wr => ∃ i : Nat, i <= n /\ s4 = .int .i64 i /\ Below w1.heap.size w1 wr /\ OwnI wr w1.heap.size s3 (Z ++ flatN i fun i => varsT (kid i)) /\ w1.heap.size <= wr.heap.size) (fun _ s4 _ => n - (intOf s4).toNat)
    case atStart => exact ⟨0, Nat.zero_le _, rfl, HB2.out, by rw [hZ]; simpa [flatN] using HOWN.out, hs2⟩
    case round =>
     obtain ⟨i, hin, rfl, hbel, hown, hsz⟩ := hrel;have d2' := (hbel.cell (p := ⟨w.heap.size, 2, none⟩) (lt_of_cell d2)).trans d2;have HBEL := Lib.hid hbel;have HOW := Lib.hid hown;clear hbel hown
     by_cases hlt : i < n
     ·
      obtain ⟨b, off, x0, x1, x2, rfl, c0, c1, c2, hx⟩ := H5.out i hlt;have hb0 := HB1.out.trans (HBEL.out.mono HB1.out.size);have e0 := (hb0.cell (p := ⟨b, off + i * 3, none⟩) (lt_of_cell c0)).trans c0;have e1 := (hb0.cell (p := ⟨b, off + i * 3 + 1, none⟩) (lt_of_cell c1)).trans c1;have e2 := (hb0.cell (p := ⟨b, off + i * 3 + 2, none⟩) (lt_of_cell c2)).trans c2;have HX := Lib.hid (hx.below hb0);have hiz : (i : Int) < n := by omega
      have hk1 := HKS.out i hlt
      have HLN : Hid ((Z ++ flatN i fun i => varsT (kid i)).length + (varsT (kid i)).length <= 4096) := Lib.hid (by
       have s1 := sumN_two (f := fun i => (kid i).size) hlt;have s2 := HSZ.out;have s3 := flatN_len (f := fun i => varsT (kid i)) (g := fun i => (kid i).size) i (fun i _ => varsT_len (kid i));have s4 := varsT_len (kid i);have s5 := HZ1.out;rw [List.length_append];omega)
      clear c0 c1 c2 hx hb0;go_upto_region 7 with fail
      go_wp2_with (first
       | (go_at_call 112; refine (IH.out i _ _ (by omega) HX.out).mono ?_; rintro y w3 ⟨u, rfl, hu, hb3⟩; obtain ⟨au, cu, rfl, hua, hun⟩ := hu.sliceIs (by have := HLN.out; omega); have HU := Lib.hid hua; have HB3 := Lib.hid hb3; clear hu hua hb3)
       | (at_builtin; refine wpList_appAll rfl _ _ rfl w1.heap.size w1 _ (Z ++ flatN i fun i => varsT (kid i)) (varsT (kid i)) au cu rfl rfl (by exact HOW.out.below HB3.out) (by exact HU.out) (by have := HLN.out; omega) (by have := HB3.out.size; omega) (by exact HBEL.out.trans (HB3.out.mono HBEL.out.size)) hun ?_; intro v4 w4 hown4 hb4 hs4 _))
      go_roundw
      case rel => exact ⟨i + 1, by omega, by go_num, hb4, by rw [List.append_assoc] at hown4; exact hown4, hs4⟩
      case measure => simp [intOf]; omega
     ·
      have he : i = n := by omega
      have hiz : ¬ (i : Int) < n := by omega
      have HF : Hid (∃ u, Ending.returned u3 = .returned u /\ OwnI wr w.heap.size u (varsT E) /\ Below w.heap.size w wr) := Lib.hid ⟨u3, rfl, by rw [HVT.out, <- HZ.out, <- he]; exact HOW.out.lower (by omega), HB1.out.trans (HBEL.out.mono HB1.out.size)⟩;go_wp2_with fail;go_ret;exact HF.out
open Go.RowKit
theorem has03_any (a : Option Addr) (c : Nat) (zs : List Int) (v : Int) (w : World) (hl : zs.length <= 1000000) (h : IntsAt w a zs) :
 Calls Tryz.prog 148 #[.slice a zs.length c, .int .i64 v] w fun y w' => y = .returned (.bool (decide (v ∈ zs))) /\ w = w' := by
 have HI := Lib.hid h;clear h;have HNO : Hid ((∀ j, j < zs.length -> at0 zs j ≠ v) -> decide (v ∈ zs) = false) := Lib.hid fun hh => decide_eq_false fun hm => by
  obtain ⟨j, hj, e⟩ := List.getElem_of_mem hm;exact hh j hj (by rw [at0_eq hj]; exact e)
 have HYES : Hid (∀ j, j < zs.length -> at0 zs j = v -> decide (v ∈ zs) = true) := Lib.hid fun j hj e => decide_eq_true (by rw [at0_eq hj] at e; rw [<- e]; exact List.getElem_mem hj)
 go_enter Tryz.func148, Tryz.ntmps148
 go_wp2_with fail
 go_loopw [5] (fun s5 wr => ∃ i : Nat, i <= zs.length /\ s5 = .int .i64 i /\ w = wr /\ Hid (∀ j, j < i -> at0 zs j ≠ v)) (fun s5 _ => zs.length - (intOf s5).toNat)
 case atStart => exact ⟨0, Nat.zero_le _, rfl, rfl, Lib.hid fun j hj => by omega⟩
 case round =>
  obtain ⟨i, hi, rfl, rfl, HN⟩ := hrel
  by_cases hlt : i < zs.length
  ·
   obtain ⟨b, off, rfl, hc⟩ := HI.out.cells i hlt;have hiz : (i : Int) < zs.length := by omega
   obtain ⟨z, hz⟩ : ∃ z, z = at0 zs i := ⟨_, rfl⟩;rw [<- hz] at hc
   by_cases he : z = v
   ·
    have HY := Lib.hid (HYES.out i hlt (by rw [<- hz, he]));subst he;clear hz;go_wp2_with fail;go_ret;exact ⟨by rw [HY.out]; rfl, rfl⟩
   ·
    have hne : (z == v) = false := by simpa using he
    have HN2 : Hid (∀ j, j < i + 1 -> at0 zs j ≠ v) := Lib.hid fun j hj => by
     rcases Nat.lt_or_ge j i with h | h
     ·
      exact HN.out j h
     ·
      obtain rfl : j = i := by omega
      rw [<- hz]; exact he
    clear hz he;go_wp2_with fail;go_roundw
    case rel => exact ⟨i + 1, by omega, by go_num, by simp, HN2⟩
    case measure => simp [intOf]; omega
  ·
   have HN2 := Lib.hid (HNO.out fun j hj => HN.out j (by omega));have hiz : ¬ (i : Int) < zs.length := by omega
   go_wp2_with fail;go_ret;exact ⟨by rw [HN2.out]; rfl, rfl⟩
structure PutS (zs : List Int) (v : Int) (i : Nat) (d : Bool) (os : List Int) : Prop where
 mem : ∀ x, x ∈ os ↔ x ∈ zs.take i \/ (d = true /\ x = v)
 len : os.length = i + if d then 1 else 0
theorem PutS.here {zs : List Int} {v : Int} {i : Nat} {os : List Int} (h : PutS zs v i false os) : PutS zs v i true (os ++ [v]) := by
 refine ⟨fun x => ?_, by simp [h.len]⟩;have := h.mem x;simp only [Bool.false_eq_true, false_and, or_false] at this;simp [this]
theorem PutS.next {zs : List Int} {v : Int} {i : Nat} {d : Bool} {os : List Int} (h : PutS zs v i d os) (hi : i < zs.length) : PutS zs v (i + 1) d (os ++ [at0 zs i]) := by
 refine ⟨fun x => ?_, by have := h.len; simp [this]; omega⟩;rw [List.take_succ_eq_append_getElem hi, List.mem_append, List.mem_append, h.mem x, at0_eq hi];simp only [List.mem_singleton];constructor
 ·
  rintro ((h1 | h1) | h1)
  ·
   exact .inl (.inl h1)
  ·
   exact .inr h1
  ·
   exact .inl (.inr h1)
 ·
  rintro ((h1 | h1) | h1)
  ·
   exact .inl (.inl h1)
  ·
   exact .inr h1
  ·
   exact .inl (.inr h1)
theorem put03_any (a : Option Addr) (c : Nat) (zs : List Int) (v : Int) (w : World) (hl : zs.length <= 1000000) (h : IntsAt w a zs) :
 Calls Tryz.prog 149 #[.slice a zs.length c, .int .i64 v] w fun y w' => ∃ u os, y = .returned u /\ OwnI w' w.heap.size u os /\ (∀ x, x ∈ os ↔ x ∈ zs \/ x = v) /\ os.length = zs.length + 1 /\ Below w.heap.size w w' := by
 have HI := Lib.hid h;clear h;have HFIN : Hid (∀ os, PutS zs v zs.length true os -> (∀ x, x ∈ os ↔ x ∈ zs \/ x = v) /\ os.length = zs.length + 1) := Lib.hid fun os h => ⟨fun x => by have := h.mem x; rw [List.take_length] at this; simpa using this, by simpa using h.len⟩
 go_enter Tryz.func149, Tryz.ntmps149
 go_wp2_with fail
 go_loopw [5, 6, 7] (fun s5 s6 s7 wr => ∃ (i : Nat) (d : Bool) (os : List Int), i <= zs.length /\ s6 = .bool d /\ s7 = .int .i64 i /\ OwnI wr w.heap.size s5 os /\ w.heap.size <= wr.heap.size /\ Below w.heap.size w wr /\ Hid (PutS zs v i d os)) (fun _ _ s7 _ => zs.length - (intOf s7).toNat)
 case atStart => exact ⟨0, false, [], Nat.zero_le _, rfl, rfl, ownI_new w _ (Nat.le_refl _), by simp, below_new1 w _, Lib.hid ⟨fun x => by simp, by simp⟩⟩
 case round =>
  obtain ⟨i, d, os, hi, rfl, rfl, hown, hsz, hbel, HP⟩ := hrel;have hol : os.length <= i + 1 := by rw [HP.out.len]; split <;> omega
  by_cases hlt : i < zs.length
  ·
   obtain ⟨b, off, rfl, hc⟩ := (HI.out.below hbel).cells i hlt;have HOW := Lib.hid hown;have HBEL := Lib.hid hbel;have hiz : (i : Int) < zs.length := by omega
   obtain ⟨z, hz⟩ : ∃ z, z = at0 zs i := ⟨_, rfl⟩;rw [<- hz] at hc;have HZ := Lib.hid hz;clear hown hbel hz;have done : ∀ d, PutS zs v i d os -> True := fun _ _ => trivial
   clear done;cases d with
   | true =>
     go_wp2_with (at_builtin; refine wpList_app1 _ rfl _ _ rfl w.heap.size w _ os _ rfl rfl rfl rfl (by exact HOW.out) (by omega) hsz HBEL.out ?_; intro v1 w1 hown1 hbel1 hsz1 _);go_roundw
     case rel => exact ⟨i + 1, true, _, by omega, rfl, by go_num, hown1, hsz1, hbel1, Lib.hid (by rw [HZ.out]; exact HP.out.next hlt)⟩
     case measure => simp [intOf]; omega
   | false =>
     by_cases hgt : z > v
     ·
      have cne : ∀ W : World, Below wr.heap.size wr W -> W.cell? ⟨b, off + i, none⟩ = some (.int .i64 z) := fun W hb => (hb.cell (p := ⟨b, off + i, none⟩) (lt_of_cell hc)).trans hc
      have hblt : b < w.heap.size := by
       obtain ⟨b', o', e, c'⟩ := HI.out.cells i hlt;cases e; exact lt_of_cell c'
      go_upto_region 8 with (at_builtin; refine wpList_app1 _ rfl _ _ rfl w.heap.size w _ os _ rfl rfl rfl rfl (by exact HOW.out) (by omega) hsz HBEL.out ?_; intro v1 w1 hown1 hbel1 hsz1 _)
      have hc1 : w1.cell? ⟨b, off + i, none⟩ = some (.int .i64 z) := by
       obtain ⟨b', o', e, c'⟩ := HI.out.cells i hlt;cases e;rw [(hbel1.cell (p := ⟨b, off + i, none⟩) hblt), HZ.out]; exact c'
      have HO1 := Lib.hid hown1;have HB1 := Lib.hid hbel1;clear hown1 hbel1 hc cne;go_wp2_with (at_builtin; refine wpList_app1 _ rfl _ _ rfl w.heap.size w _ (os ++ [v]) _ rfl rfl rfl rfl (by exact HO1.out) (by simp; omega) hsz1 HB1.out ?_; intro v2 w2 hown2 hbel2 hsz2 _);go_roundw
      case rel => exact ⟨i + 1, true, _, by omega, rfl, by go_num, hown2, hsz2, hbel2, Lib.hid (by rw [HZ.out]; exact HP.out.here.next hlt)⟩
      case measure => simp [intOf]; omega
     ·
      go_wp2_with (at_builtin; refine wpList_app1 _ rfl _ _ rfl w.heap.size w _ os _ rfl rfl rfl rfl (by exact HOW.out) (by omega) hsz HBEL.out ?_; intro v1 w1 hown1 hbel1 hsz1 _);go_roundw
      case rel => exact ⟨i + 1, false, _, by omega, rfl, by go_num, hown1, hsz1, hbel1, Lib.hid (by rw [HZ.out]; exact HP.out.next hlt)⟩
      case measure => simp [intOf]; omega
  ·
   have he : i = zs.length := by omega
   have hiz : ¬ (i : Int) < zs.length := by omega
   have HOW := Lib.hid hown;have HBEL := Lib.hid hbel;have HE := Lib.hid he;clear hown hbel he;cases d with
   | true =>
     have HF := HFIN.out os (by rw [<- HE.out]; exact HP.out);go_wp2_with fail;go_ret;exact ⟨_, rfl, os, HOW.out, HF.1, HF.2, HBEL.out⟩
   | false =>
     have HF := Lib.hid (HFIN.out (os ++ [v]) (by rw [<- HE.out]; exact HP.out.here));go_wp2_with (at_builtin; refine wpList_app1 _ rfl _ _ rfl w.heap.size w _ os _ rfl rfl rfl rfl (by exact HOW.out) (by omega) hsz HBEL.out ?_; intro v1 w1 hown1 hbel1 hsz1 _);go_ret;exact ⟨_, rfl, _, hown1, HF.out.1, HF.out.2, hbel1⟩
theorem mem_take_succ {zs : List Int} {i : Nat} (hi : i < zs.length) (x : Int) : x ∈ zs.take (i + 1) ↔ x ∈ zs.take i \/ x = at0 zs i := by
 rw [List.take_succ_eq_append_getElem hi, List.mem_append, at0_eq hi, List.mem_singleton]
theorem of03_any (a : Option Addr) (c : Nat) (zs : List Int) (w : World) (hl : zs.length <= 900000) (h : IntsAt w a zs) :
 Calls Tryz.prog 111 #[.slice a zs.length c] w fun y w' => ∃ u os, y = .returned u /\ OwnI w' w.heap.size u os /\ (∀ x, x ∈ os ↔ x ∈ zs) /\ os.length <= zs.length /\ Below w.heap.size w w' := by
 have HI := Lib.hid h;clear h
 go_enter Tryz.func111, Tryz.ntmps111
 go_wp2_with fail
 go_loopw [3, 4] (fun s3 s4 wr => ∃ (i : Nat) (os : List Int), i <= zs.length /\ s4 = .int .i64 i /\ OwnI wr w.heap.size s3 os /\ w.heap.size <= wr.heap.size /\ Below w.heap.size w wr /\ os.length <= i /\ Hid (∀ x, x ∈ os ↔ x ∈ zs.take i)) (fun _ s4 _ => zs.length - (intOf s4).toNat)
 case atStart => exact ⟨0, [], Nat.zero_le _, rfl, ownI_new w _ (Nat.le_refl _), by simp, below_new1 w _, by simp, Lib.hid fun x => by simp⟩
 case round =>
  obtain ⟨i, os, hi, rfl, hown, hsz, hbel, hol, HP⟩ := hrel
  by_cases hlt : i < zs.length
  ·
   obtain ⟨b, off, rfl, hc⟩ := (HI.out.below hbel).cells i hlt;have hiz : (i : Int) < zs.length := by omega
   obtain ⟨z, hz⟩ : ∃ z, z = at0 zs i := ⟨_, rfl⟩;rw [<- hz] at hc;obtain ⟨ao, co, rfl, hoi, hon⟩ := hown.sliceIs (by omega);have HHAS := Lib.hid (has03_any ao co os z wr (by omega) hoi);have HPUT := Lib.hid (put03_any ao co os z wr (by omega) hoi);have HOW := Lib.hid hown;have HBEL := Lib.hid hbel;have HT := Lib.hid (mem_take_succ hlt);have HZ := Lib.hid hz;clear hown hbel hz hoi
   by_cases hm : z ∈ os
   ·
    have hb : decide (z ∈ os) = true := by simp [hm]
    rw [hb] at HHAS;have HM2 : Hid (∀ x, x ∈ os ↔ x ∈ zs.take (i + 1)) := Lib.hid fun x => by
     rw [HT.out x, <- HZ.out];constructor
     ·
      intro h; exact .inl ((HP.out x).1 h)
     ·
      rintro (h | rfl)
      ·
       exact (HP.out x).2 h
      ·
       exact hm
    clear hm hb HPUT;go_wp2_with fail;refine HHAS.out.mono ?_;rintro y w' ⟨rfl, rfl⟩;go_wp2_with fail;go_roundw
    case rel => exact ⟨i + 1, os, by omega, by go_num, HOW.out, hsz, HBEL.out, by omega, HM2⟩
    case measure => simp [intOf]; omega
   ·
    have hb : decide (z ∈ os) = false := by simp [hm]
    rw [hb] at HHAS;clear hm hb;go_wp2_with fail;refine HHAS.out.mono ?_;rintro y w' ⟨rfl, rfl⟩;go_wp2_with fail;refine HPUT.out.mono ?_;rintro y w2 ⟨u, os2, rfl, hown2, hmem2, hlen2, hb2⟩;have HM2 : Hid (∀ x, x ∈ os2 ↔ x ∈ zs.take (i + 1)) := Lib.hid fun x => by
     rw [hmem2 x, HT.out x, <- HZ.out, HP.out x]
    have HO2 : Hid (OwnI w2 w.heap.size u os2) := Lib.hid (hown2.lower hsz);have HB2 := Lib.hid (HBEL.out.trans (hb2.mono hsz));have hs2 : w.heap.size <= w2.heap.size := Nat.le_trans hsz hb2.size;clear hown2 hmem2 hb2;go_wp2_with fail;go_roundw
    case rel => exact ⟨i + 1, os2, by omega, by go_num, HO2.out, hs2, HB2.out, by omega, HM2⟩
    case measure => simp [intOf]; omega
  ·
   have he : i = zs.length := by omega
   have hiz : ¬ (i : Int) < zs.length := by omega
   have HOW := Lib.hid hown;have HBEL := Lib.hid hbel;have HM : Hid (∀ x, x ∈ os ↔ x ∈ zs) := Lib.hid fun x => by have := HP.out x; rw [he, List.take_length] at this; exact this
   have hol2 : os.length <= zs.length := by omega
   clear hown hbel he;go_wp2_with fail;go_ret;exact ⟨_, rfl, os, HOW.out, HM.out, hol2, HBEL.out⟩
theorem ExprAt.agg {w : World} {e : ExT} {x : Value} (h : ExprAt w e x) : ∃ x0 x1 x2, x = .agg #[x0, x1, x2] /\ x0.cells = #[x0] /\ x1.cells = #[x1] /\ x2.cells = #[x2] := by
 cases e with
 | nil => unfold ExprAt at h; exact h.elim
 | mk op v n kid =>
   unfold ExprAt at h;obtain ⟨a, c, rfl, _⟩ := h;exact ⟨_, _, _, rfl, rfl, rfl, rfl⟩
theorem vars06Top_any (e : ExT) (x : Value) (w : World) (hs : e.size <= 4096) (h : ExprAt w e x) :
 Calls Tryz.prog 74 #[x] w fun y w' => ∃ u os, y = .returned u /\ SliceIs w' u os /\ os.length <= 4096 /\ (okT e 1 -> ∀ v ∈ varsT e, v ∈ os) /\ Below w.heap.size w w' := by
 have HC : Hid (∀ W, Below w.heap.size w W -> ∀ u, u = x -> Calls Tryz.prog 73 #[u] W fun y w' => ∃ err : Int, y = .returned (.int .i64 err) /\ (err = 0 ↔ okT e 1) /\ Below W.heap.size W w') := Lib.hid fun W hb u hu => by subst hu; exact check06_any e _ W hs (h.below hb)
 have HV : Hid (∀ W, Below w.heap.size w W -> ∀ u, u = x -> Calls Tryz.prog 112 #[u] W fun y w' => ∃ u, y = .returned u /\ OwnI w' W.heap.size u (varsT e) /\ Below W.heap.size W w') := Lib.hid fun W hb u hu => by subst hu; exact vars06_any e _ W hs (h.below hb)
 have hvl := varsT_len e;obtain ⟨x0, x1, x2, hx, o0, o1, o2⟩ := h.agg;subst hx;obtain ⟨w1, hw1⟩ : ∃ w1, w1 = w.alloc (.cells #[x0, x1, x2] 39) := ⟨_, rfl⟩;have HW1 : Hid (_ = w1) := Lib.hid hw1.symm;have HB1 : Hid (Below w.heap.size w w1) := by rw [hw1]; exact Lib.hid (below_new1 _ _)
 have hblk : w1.heap[w.heap.size]? = some (.cells #[x0, x1, x2] 39 (0, 0)) := by rw [hw1]; exact heap_alloc_new _ _
 have d0 : w1.cell? ⟨w.heap.size, 0, none⟩ = some x0 := by rw [cell_of_row _ _ 0 _ _ _ hblk]; rfl
 have d1 : w1.cell? ⟨w.heap.size, 1, none⟩ = some x1 := by rw [cell_of_row _ _ 1 _ _ _ hblk]; rfl
 have d2 : w1.cell? ⟨w.heap.size, 2, none⟩ = some x2 := by rw [cell_of_row _ _ 2 _ _ _ hblk]; rfl
 clear h hw1 hblk
 go_enter Tryz.func74, Tryz.ntmps74
 go_upto_region 1 with fail;rw [HW1.out];go_wp2_with fail;refine (HC.out _ HB1.out _ rfl).mono ?_;rintro y w2 ⟨err, rfl, hiff, hb2⟩;have HB2 := Lib.hid (HB1.out.trans (hb2.mono HB1.out.size));have HIF := Lib.hid hiff;have e0 := (hb2.cell (p := ⟨w.heap.size, 0, none⟩) (lt_of_cell d0)).trans d0;have e1 := (hb2.cell (p := ⟨w.heap.size, 1, none⟩) (lt_of_cell d1)).trans d1;have e2 := (hb2.cell (p := ⟨w.heap.size, 2, none⟩) (lt_of_cell d2)).trans d2;clear hb2 hiff d0 d1 d2
 by_cases he : err = 0
 ·
  subst he;go_wp2_with fail;refine (HV.out _ HB2.out _ rfl).mono ?_;rintro y w3 ⟨u, rfl, hu, hb3⟩;obtain ⟨au, cu, rfl, hua, hun⟩ := hu.sliceIs (by omega);have HO := Lib.hid (of03_any au cu (varsT e) w3 (by omega) hua);have HB3 := Lib.hid (HB2.out.trans (hb3.mono HB2.out.size));clear hu hua hb3 e0 e1 e2;go_wp2_with fail;refine HO.out.mono ?_;rintro y w4 ⟨u4, os, rfl, hown, hmem, hlen, hb4⟩;have HF : Hid (∃ u os, Ending.returned u4 = .returned u /\ SliceIs w4 u os /\ os.length <= 4096 /\ (okT e 1 -> ∀ v ∈ varsT e, v ∈ os) /\ Below w.heap.size w w4) := Lib.hid ⟨u4, os, rfl, hown.sliceIs (by omega), by omega, fun _ v hv => (hmem v).2 hv, HB3.out.trans (hb4.mono HB3.out.size)⟩;clear hown hmem hlen hb4;go_wp2_with fail;go_ret;exact HF.out
 ·
  have hne : (err != 0) = true := by simpa using he
  have HF : Hid (∃ u os, Ending.returned (.slice none 0 0) = .returned u /\ SliceIs w2 u os /\ os.length <= 4096 /\ (okT e 1 -> ∀ v ∈ varsT e, v ∈ os) /\ Below w.heap.size w w2) := Lib.hid ⟨_, [], rfl, sliceIs_nil w2, by simp, fun h => (he (HIF.out.2 h)).elim, HB2.out⟩;clear he e0 e1 e2;go_wp2_with fail;go_ret;exact HF.out
open Go.RowKit
structure EvsAt (w : World) (a : Option Addr) (l : List Ev) : Prop where
 len : l.length <= 9223372036854775807
 cells : ∀ k, ∀ hk : k < l.length, ∃ b off, a = some ⟨b, off, none⟩ /\ w.cell? ⟨b, off + k * 3, none⟩ = some (.int .i64 l[k].after) /\ w.cell? ⟨b, off + k * 3 + 1, none⟩ = some (.int .i64 l[k].kind) /\ w.cell? ⟨b, off + k * 3 + 2, none⟩ = some (.int .i64 l[k].level)
theorem EvsAt.below {w w' : World} {a : Option Addr} {l : List Ev} (h : EvsAt w a l) (hb : Below w.heap.size w w') : EvsAt w' a l :=
 ⟨h.len, fun k hk => by
  obtain ⟨b, off, e, c0, c1, c2⟩ := h.cells k hk;exact ⟨b, off, e, (hb.cell (p := ⟨b, off + k * 3, none⟩) (lt_of_cell c0)).trans c0, (hb.cell (p := ⟨b, off + k * 3 + 1, none⟩) (lt_of_cell c1)).trans c1, (hb.cell (p := ⟨b, off + k * 3 + 2, none⟩) (lt_of_cell c2)).trans c2⟩⟩
def evCode (vars : Int) (e : Ev) : Int := if e.kind < 1 \/ e.kind > 3 then 11 else if e.after < 1 \/ (e.kind = 2 /\ (e.level < 0 \/ e.level > vars - 2)) then 2 else 0
def planL (vars : Int) : List Ev -> Int
 | [] => 0
 | e :: r => if evCode vars e = 0 then planL vars r else evCode vars e
def planR (vars waits : Int) (l : List Ev) : Int := if (l.length : Int) > 256 - waits then 18 else planL vars l
theorem planL_drop {vars : Int} {l : List Ev} {i : Nat} (hi : i < l.length) : planL vars (l.drop i) = if evCode vars l[i] = 0 then planL vars (l.drop (i + 1)) else evCode vars l[i] := by
 rw [List.drop_eq_getElem_cons hi]; rfl
theorem plan13_any (vars waits : Int) (hv : 0 <= vars /\ vars <= 1000) (hw : 0 <= waits /\ waits <= 1000) (a : Option Addr) (c : Nat) (l : List Ev) (w : World) (h : EvsAt w a l) :
 Calls Tryz.prog 59 #[.int .i64 vars, .int .i64 waits, .slice a l.length c] w fun y w' => y = .returned (.int .i64 (planR vars waits l)) /\ w = w' := by
 have HI := Lib.hid h;have hl := h.len;clear h
 by_cases hmany : (l.length : Int) > 256 - waits
 ·
  have HR : Hid (planR vars waits l = 18) := Lib.hid (by unfold planR; rw [if_pos hmany])
  go_enter Tryz.func59, Tryz.ntmps59
  go_wp2_with fail;go_ret;exact ⟨by rw [HR.out]; rfl, rfl⟩
 have HR : Hid (planR vars waits l = planL vars (l.drop 0)) := Lib.hid (by unfold planR; rw [if_neg hmany]; rfl);obtain ⟨P, hP⟩ : ∃ P, P = planR vars waits l := ⟨_, rfl⟩;rw [<- hP] at HR ⊢;clear hP
 go_enter Tryz.func59, Tryz.ntmps59
 go_wp2_with fail
 go_loopw [7] (fun s7 wr => ∃ i : Nat, i <= l.length /\ s7 = .int .i64 i /\ w = wr /\ Hid (P = planL vars (l.drop i))) (fun s7 _ => l.length - (intOf s7).toNat)
 case atStart => exact ⟨0, Nat.zero_le _, rfl, rfl, HR⟩
 case round =>
  clear HR;obtain ⟨i, hi, rfl, rfl, HP⟩ := hrel
  by_cases hlt : i < l.length
  ·
   obtain ⟨b, off, rfl, c0, c1, c2⟩ := HI.out.cells i hlt;have hiz : (i : Int) < l.length := by omega
   have HC : Hid (∀ z : Int, evCode vars l[i] = z -> z ≠ 0 -> P = z) := Lib.hid fun z hz h0 => by rw [HP.out, planL_drop hlt, hz, if_neg h0]
   have HN : Hid (evCode vars l[i] = 0 -> P = planL vars (l.drop (i + 1))) := Lib.hid fun hz => by rw [HP.out, planL_drop hlt, hz, if_pos rfl]
   have HE : Hid (evCode vars l[i] = if l[i].kind < 1 \/ l[i].kind > 3 then 11 else if l[i].after < 1 \/ (l[i].kind = 2 /\ (l[i].level < 0 \/ l[i].level > vars - 2)) then 2 else 0) := Lib.hid rfl;obtain ⟨ev, hev⟩ : ∃ ev, ev = l[i] := ⟨_, rfl⟩;rw [<- hev] at c0 c1 c2 HC HN HE;obtain ⟨af, ki, le⟩ := ev;dsimp only at c0 c1 c2 HE;clear hev HP;have hki : ki < 1 \/ ki > 3 \/ (ki = 2) \/ (ki = 1 \/ ki = 3) := by omega
   rcases hki with hk | hk | hk | hk
   ·
    have HPP := Lib.hid (HC.out 11 (by rw [HE.out, if_pos (.inl hk)]) (by decide));go_wp2_with fail;go_ret;exact ⟨by rw [HPP.out]; rfl, rfl⟩
   ·
    have HPP := Lib.hid (HC.out 11 (by rw [HE.out, if_pos (.inr hk)]) (by decide));have hk1 : ¬ ki < 1 := by omega
    go_wp2_with fail;go_ret;exact ⟨by rw [HPP.out]; rfl, rfl⟩
   ·
    by_cases ha : af < 1
    ·
     have HPP := Lib.hid (HC.out 2 (by rw [HE.out, if_neg (by omega), if_pos (.inl ha)]) (by decide));subst hk;go_wp2_with fail;go_ret;exact ⟨by rw [HPP.out]; rfl, rfl⟩
    ·
     by_cases hl0 : le < 0
     ·
      have HPP := Lib.hid (HC.out 2 (by rw [HE.out, if_neg (by omega), if_pos (.inr ⟨hk, .inl hl0⟩)]) (by decide));subst hk;go_wp2_with fail;go_ret;exact ⟨by rw [HPP.out]; rfl, rfl⟩
     ·
      by_cases hl1 : le > vars - 2
      ·
       have HPP := Lib.hid (HC.out 2 (by rw [HE.out, if_neg (by omega), if_pos (.inr ⟨hk, .inr hl1⟩)]) (by decide));subst hk;go_wp2_with fail;go_ret;exact ⟨by rw [HPP.out]; rfl, rfl⟩
      ·
       have HPP := Lib.hid (HN.out (by rw [HE.out, if_neg (by omega), if_neg (by omega)]));subst hk;go_wp2_with fail;go_roundw
       case rel => exact ⟨i + 1, by omega, by go_num, by simp, HPP⟩
       case measure => simp [intOf]; omega
   ·
    have hk1 : ¬ ki < 1 := by omega
    have hk2 : ¬ ki > 3 := by omega
    have hk3 : (ki == 2) = false := by simp; omega
    by_cases ha : af < 1
    ·
     have HPP := Lib.hid (HC.out 2 (by rw [HE.out, if_neg (by omega), if_pos (.inl ha)]) (by decide));clear hk;go_wp2_with fail;go_ret;exact ⟨by rw [HPP.out]; rfl, rfl⟩
    ·
     have HPP := Lib.hid (HN.out (by rw [HE.out, if_neg (by omega), if_neg (by omega)]));clear hk;go_wp2_with fail;go_roundw
     case rel => exact ⟨i + 1, by omega, by go_num, by simp, HPP⟩
     case measure => simp [intOf]; omega
  ·
   have he : i = l.length := by omega
   have hiz : ¬ (i : Int) < l.length := by omega
   have HPP : Hid (P = 0) := Lib.hid (by rw [HP.out, he, List.drop_length]; rfl);clear he;go_wp2_with fail;go_ret;exact ⟨by rw [HPP.out]; rfl, rfl⟩
open Go.RowKit
def cntP (zs : List Int) (v : Int) (i : Nat) : Nat := ((zs.take i).filter (fun z => decide (z = v))).length
theorem cntP_yes {zs : List Int} {v : Int} {i : Nat} (hi : i < zs.length) (h : at0 zs i = v) : cntP zs v (i + 1) = cntP zs v i + 1 := by
 rw [at0_eq hi] at h;unfold cntP;rw [List.take_succ_eq_append_getElem hi, List.filter_append];simp [h]
theorem cntP_no {zs : List Int} {v : Int} {i : Nat} (hi : i < zs.length) (h : at0 zs i ≠ v) : cntP zs v (i + 1) = cntP zs v i := by
 rw [at0_eq hi] at h;unfold cntP;rw [List.take_succ_eq_append_getElem hi, List.filter_append];simp [h]
theorem cntP_le (zs : List Int) (v : Int) (i : Nat) : cntP zs v i <= i := by
 unfold cntP;refine Nat.le_trans (List.length_filter_le _ _) ?_;rw [List.length_take]; omega
def permB (zs : List Int) (n : Int) : Bool := decide ((zs.length : Int) = n /\ ∀ v, v < zs.length -> cntP zs (v : Nat) zs.length = 1)
theorem right_any (a : Option Addr) (c : Nat) (zs : List Int) (n : Int) (w : World) (hz : IntsAt w a zs) (hl : zs.length <= 1000000) :
 Calls Tryz.prog 55 #[.slice a zs.length c, .int .i64 n] w fun x w' => x = .returned (.bool (permB zs n)) /\ w = w' := by
 have HZ := Lib.hid hz;clear hz
 by_cases hn : (zs.length : Int) = n
 ·
  subst hn;have HR : Hid (∀ b : Bool, (b = true ↔ ∀ v, v < zs.length -> cntP zs (v : Nat) zs.length = 1) -> permB zs zs.length = b) := by
   refine Lib.hid fun b hb => ?_
   unfold permB;rw [Bool.eq_iff_iff, hb];simp
  go_enter Tryz.func55, Tryz.ntmps55
  go_wp2_with fail
  go_loopw [5] (fun s5 wr => ∃ k : Nat, k <= zs.length /\ s5 = .int .i64 k /\ w = wr /\ ∀ v, v < k -> cntP zs (v : Nat) zs.length = 1) (fun s5 _ => zs.length - (intOf s5).toNat)
  case atStart => exact ⟨0, Nat.zero_le _, rfl, rfl, fun v hv => by omega⟩
  case round =>
   obtain ⟨k, hk, rfl, rfl, hall⟩ := hrel;have HA := Lib.hid hall;clear hall
   by_cases hlt : k < zs.length
   ·
    have hk1 : (k : Int) < zs.length := by omega
    go_wp2_with fail
    go_loopw [6, 7] (fun s6 s7 wx => ∃ i : Nat, i <= zs.length /\ s7 = .int .i64 i /\ s6 = .int .i64 (cntP zs (k : Nat) i : Nat) /\ w = wx) (fun _ s7 _ => zs.length - (intOf s7).toNat)
    case atStart => exact ⟨0, Nat.zero_le _, rfl, rfl, rfl⟩
    case round =>
     obtain ⟨i, hi, rfl, rfl, rfl⟩ := hrel;have hcl := cntP_le zs (k : Nat) i
     by_cases hit : i < zs.length
     ·
      obtain ⟨b, off, ha, hc⟩ := HZ.out.cells i hit;subst ha;have hi1 : (i : Int) < zs.length := by omega
      by_cases he : at0 zs i = (k : Nat)
      ·
       rw [he] at hc;have HY := Lib.hid (cntP_yes hit he);go_wp2_with fail;go_roundw
       case rel => exact ⟨i + 1, by omega, by go_num, by rw [HY.out]; go_num, trivial⟩
       case measure => simp [intOf]; omega
      ·
       have hne : ((at0 zs i : Int) == (k : Nat)) = false := by simpa using he
       have HY := Lib.hid (cntP_no hit he)
       generalize at0 zs i = z at hc hne
       clear he;go_wp2_with fail;go_roundw
       case rel => exact ⟨i + 1, by omega, by go_num, by rw [HY.out], trivial⟩
       case measure => simp [intOf]; omega
     ·
      obtain rfl : i = zs.length := by omega
      generalize hq : cntP zs (k : Nat) zs.length = q at *
      by_cases h1 : q = 1
      ·
       subst h1;have HQ := Lib.hid hq;clear hq;go_wp2_with fail;go_roundw
       case rel =>
        refine ⟨k + 1, by omega, by go_num, trivial, fun v hv => ?_⟩
        by_cases e : v = k
        ·
         subst e; exact HQ.out
        ·
         exact HA.out v (by omega)
       case measure => simp [intOf]; omega
      ·
       have hne : ((q : Int) == 1) = false := by simp; omega
       have HQ := Lib.hid hq;clear hq;go_wp2_with fail;go_ret;refine ⟨?_, rfl⟩
       rw [HR.out false (by
        simp only [Bool.false_eq_true, false_iff];intro hh;exact h1 ((HQ.out).symm.trans (hh k hlt)))]
       rfl
   ·
    obtain rfl : k = zs.length := by omega
    go_wp2_with fail;go_ret;refine ⟨?_, rfl⟩;rw [HR.out true (by simp only [true_iff]; exact HA.out)];rfl
 ·
  have hne : (((zs.length : Nat) : Int) == n) = false := by simpa using hn
  have HR : Hid (permB zs n = false) := by
   refine Lib.hid ?_
   show permB zs n = false
   unfold permB;simp [hn]
  go_enter Tryz.func55, Tryz.ntmps55
  go_wp2_with fail;go_ret;exact ⟨by rw [HR.out]; rfl, rfl⟩
open Go.RowKit
theorem right_no (a : Option Addr) (c : Nat) (zs : List Int) (n : Int) (w : World) (hz : IntsAt w a zs) (hn : (zs.length : Int) ≠ n) :
 Calls Tryz.prog 55 #[.slice a zs.length c, .int .i64 n] w fun x w' => x = .returned (.bool false) /\ w = w' := by
 have hl := hz.len;have hne : (((zs.length : Nat) : Int) == n) = false := by simpa using hn
 clear hz
 go_enter Tryz.func55, Tryz.ntmps55
 go_wp2_with fail;go_ret;exact ⟨rfl, rfl⟩
theorem right_all (a : Option Addr) (c : Nat) (zs : List Int) (n : Int) (w : World) (hz : IntsAt w a zs) (hn : n <= 1000) :
 Calls Tryz.prog 55 #[.slice a zs.length c, .int .i64 n] w fun x w' => x = .returned (.bool (permB zs n)) /\ w = w' := by
 by_cases h : (zs.length : Int) = n
 ·
  exact right_any a c zs n w hz (by omega)
 ·
  have : permB zs n = false := by unfold permB; simp [h]
  rw [this];exact right_no a c zs n w hz h
theorem ExprAt.parts {w : World} {e : ExT} {x0 x1 x2 : Value} (h : ExprAt w e (.agg #[x0, x1, x2])) : ∃ op v a n c, x0 = .int .i64 op /\ x1 = .int .i64 v /\ x2 = .slice a n c := by
 cases e with
 | nil => unfold ExprAt at h; exact h.elim
 | mk op v n kid =>
   unfold ExprAt at h;obtain ⟨a, c, hx, _⟩ := h;cases hx;exact ⟨_, _, _, _, _, rfl, rfl, rfl⟩
structure ExprsAt (w : World) (a : Option Addr) (l : List ExT) : Prop where
 len : l.length <= 9223372036854775807
 cells : ∀ k, ∀ hk : k < l.length, ∃ b off x0 x1 x2, a = some ⟨b, off, none⟩ /\ w.cell? ⟨b, off + k * 3, none⟩ = some x0 /\ w.cell? ⟨b, off + k * 3 + 1, none⟩ = some x1 /\ w.cell? ⟨b, off + k * 3 + 2, none⟩ = some x2 /\ ExprAt w l[k] (.agg #[x0, x1, x2])
theorem ExprsAt.below {w w' : World} {a : Option Addr} {l : List ExT} (h : ExprsAt w a l) (hb : Below w.heap.size w w') : ExprsAt w' a l :=
 ⟨h.len, fun k hk => by
  obtain ⟨b, off, x0, x1, x2, e, c0, c1, c2, hx⟩ := h.cells k hk;exact ⟨b, off, x0, x1, x2, e, (hb.cell (p := ⟨b, off + k * 3, none⟩) (lt_of_cell c0)).trans c0, (hb.cell (p := ⟨b, off + k * 3 + 1, none⟩) (lt_of_cell c1)).trans c1, (hb.cell (p := ⟨b, off + k * 3 + 2, none⟩) (lt_of_cell c2)).trans c2, hx.below hb⟩⟩
structure AskD where
 vars : Int
 order : List Int
 es : List ExT
 plan : List Ev
structure AskAt (w : World) (q : AskD) (ao ae ap : Option Addr) : Prop where
 vars : okI q.vars
 order : IntsAt w ao q.order
 es : ExprsAt w ae q.es
 plan : EvsAt w ap q.plan
theorem AskAt.below {w w' : World} {q : AskD} {ao ae ap : Option Addr} (h : AskAt w q ao ae ap) (hb : Below w.heap.size w w') : AskAt w' q ao ae ap := ⟨h.vars, h.order.below hb, h.es.below hb, h.plan.below hb⟩
structure SmallP (q : AskD) : Prop where
 lo : 1 <= q.vars
 hi : q.vars <= 6
 es : q.es.length <= 5
 plan : q.plan.length <= 6
 order : q.order.length > 0 -> permB q.order q.vars = true
 planOk : planR q.vars 0 q.plan = 0
 after : ∀ ev ∈ q.plan, ev.after <= 300
 expr : ∀ e ∈ q.es, e.size <= 40 /\ okT e 1 /\ ∀ v ∈ varsT e, v < q.vars
def askV (q : AskD) (ao ae ap : Option Addr) (co ce cp : Nat) : Value := .agg #[.int .i64 q.vars, .slice ao q.order.length co, .slice ae q.es.length ce, .slice ap q.plan.length cp]
theorem small_any (q : AskD) (ao ae ap : Option Addr) (co ce cp : Nat) (w : World) (h : AskAt w q ao ae ap) :
 Calls Tryz.prog 12 #[askV q ao ae ap co ce cp] w fun y w' => ∃ b, y = .returned (.bool b) /\ (b = true -> SmallP q) /\ Below w.heap.size w w' := by
 obtain ⟨vars, order, es, plan⟩ := q;obtain ⟨hv, ho, he, hp⟩ := h;dsimp only [askV] at hv ho he hp ⊢;unfold okI at hv;have hol := ho.len;have hel := he.len;have hpl := hp.len;have HO := Lib.hid ho;have HE := Lib.hid he;have HP := Lib.hid hp;obtain ⟨w1, hw1⟩ : ∃ w1, w1 = w.alloc (.cells #[.int .i64 vars, .slice ao order.length co, .slice ae es.length ce, .slice ap plan.length cp] 26) := ⟨_, rfl⟩;have HW1 : Hid (_ = w1) := Lib.hid hw1.symm;have HB1 : Hid (Below w.heap.size w w1) := by rw [hw1]; exact Lib.hid (below_new1 _ _)
 have hblk : w1.heap[w.heap.size]? = some (.cells #[.int .i64 vars, .slice ao order.length co, .slice ae es.length ce, .slice ap plan.length cp] 26 (0, 0)) := by rw [hw1]; exact heap_alloc_new _ _
 have d0 : w1.cell? ⟨w.heap.size, 0, none⟩ = some (.int .i64 vars) := by rw [cell_of_row _ _ 0 _ _ _ hblk]; rfl
 have d1 : w1.cell? ⟨w.heap.size, 1, none⟩ = some (.slice ao order.length co) := by rw [cell_of_row _ _ 1 _ _ _ hblk]; rfl
 have d2 : w1.cell? ⟨w.heap.size, 2, none⟩ = some (.slice ae es.length ce) := by rw [cell_of_row _ _ 2 _ _ _ hblk]; rfl
 have d3 : w1.cell? ⟨w.heap.size, 3, none⟩ = some (.slice ap plan.length cp) := by rw [cell_of_row _ _ 3 _ _ _ hblk]; rfl
 have hs1 : w1.heap.size = w.heap.size + 1 := by rw [hw1]; simp
 have HRT : Hid (vars <= 6 -> Calls Tryz.prog 55 #[.slice ao order.length co, .int .i64 vars] w1 fun x w' => x = .returned (.bool (permB order vars)) /\ w1 = w') := Lib.hid fun hh => right_all ao co order vars w1 (HO.out.below HB1.out) (by omega)
 have HPL : Hid (0 <= vars -> vars <= 6 -> Calls Tryz.prog 59 #[.int .i64 vars, .int .i64 0, .slice ap plan.length cp] w1 fun x w' => x = .returned (.int .i64 (planR vars 0 plan)) /\ w1 = w') := Lib.hid fun h1 h2 => plan13_any vars 0 ⟨h1, by omega⟩ ⟨by omega, by omega⟩ ap cp plan w1 (HP.out.below HB1.out)
 obtain ⟨P, hP⟩ : ∃ P : Ending -> World -> Prop, P = fun y w' => ∃ b, y = .returned (.bool b) /\ (b = true -> SmallP ⟨vars, order, es, plan⟩) /\ Below w.heap.size w w' := ⟨_, rfl⟩
 have HNO : Hid (∀ W, Below w1.heap.size w1 W -> P (.returned (.bool false)) W) := by rw [hP]; exact Lib.hid fun W hb => ⟨false, rfl, by simp, HB1.out.trans (hb.mono HB1.out.size)⟩
 have HYES : Hid (SmallP ⟨vars, order, es, plan⟩ -> ∀ W, Below w1.heap.size w1 W -> P (.returned (.bool true)) W) := by rw [hP]; exact Lib.hid fun hq W hb => ⟨true, rfl, fun _ => hq, HB1.out.trans (hb.mono HB1.out.size)⟩
 rw [<- hP];clear ho he hp hw1 hblk hP
 go_enter Tryz.func12, Tryz.ntmps12
 go_upto_region 1 with fail;rw [HW1.out]
 go_cut [50] (fun s50 wx => ∃ bad : Bool, s50 = .bool bad /\ wx = w1 /\ Hid (bad = false -> 1 <= vars /\ vars <= 6 /\ es.length <= 5 /\ plan.length <= 6 /\ (order.length > 0 -> permB order vars = true) /\ planR vars 0 plan = 0))
 case first =>
  by_cases h1 : vars < 1
  ·
   go_wp2_with fail;go_meet
   case rel => exact ⟨true, rfl, rfl, Lib.hid (by simp)⟩
  by_cases h2 : vars > 6
  ·
   go_wp2_with fail;go_meet
   case rel => exact ⟨true, rfl, rfl, Lib.hid (by simp)⟩
  by_cases h3 : (es.length : Int) > 5
  ·
   go_wp2_with fail;go_meet
   case rel => exact ⟨true, rfl, rfl, Lib.hid (by simp)⟩
  by_cases h4 : (plan.length : Int) > 6
  ·
   go_wp2_with fail;go_meet
   case rel => exact ⟨true, rfl, rfl, Lib.hid (by simp)⟩
  have HPL := Lib.hid (HPL.out (by omega) (by omega));have HRT := Lib.hid (HRT.out (by omega));obtain ⟨pr, hpr⟩ : ∃ pr, pr = planR vars 0 plan := ⟨_, rfl⟩;rw [<- hpr] at HPL;have HPR := Lib.hid hpr;clear hpr
  by_cases h5 : (order.length : Int) > 0
  ·
   obtain ⟨rb, hrb⟩ : ∃ rb, rb = permB order vars := ⟨_, rfl⟩;rw [<- hrb] at HRT;have HRB := Lib.hid hrb;clear hrb;cases rb with
   | false =>
     go_wp2_with fail;refine HRT.out.mono ?_;rintro y w' ⟨rfl, rfl⟩;go_wp2_with fail;go_meet
     case rel => exact ⟨true, rfl, rfl, Lib.hid (by simp)⟩
   | true =>
     go_wp2_with fail;refine HRT.out.mono ?_;rintro y w' ⟨rfl, rfl⟩;go_wp2_with fail;refine HPL.out.mono ?_;rintro y w' ⟨rfl, rfl⟩
     by_cases h6 : pr = 0
     ·
      have HOK : Hid (1 <= vars /\ vars <= 6 /\ es.length <= 5 /\ plan.length <= 6 /\ (order.length > 0 -> permB order vars = true) /\ planR vars 0 plan = 0) := Lib.hid ⟨by omega, by omega, by omega, by omega, fun _ => HRB.out.symm, by rw [<- HPR.out, h6]⟩;subst h6;go_wp2_with fail;go_meet
      case rel => exact ⟨false, rfl, rfl, Lib.hid fun _ => HOK.out⟩
     ·
      have h6' : (pr != 0) = true := by simpa using h6
      clear h6;go_wp2_with fail;go_meet
      case rel => exact ⟨true, rfl, rfl, Lib.hid (by simp)⟩
  ·
   go_wp2_with fail;refine HPL.out.mono ?_;rintro y w' ⟨rfl, rfl⟩
   by_cases h6 : pr = 0
   ·
    have HOK : Hid (1 <= vars /\ vars <= 6 /\ es.length <= 5 /\ plan.length <= 6 /\ (order.length > 0 -> permB order vars = true) /\ planR vars 0 plan = 0) := Lib.hid ⟨by omega, by omega, by omega, by omega, fun _ => by omega, by rw [<- HPR.out, h6]⟩;subst h6;go_wp2_with fail;go_meet
    case rel => exact ⟨false, rfl, rfl, Lib.hid fun _ => HOK.out⟩
   ·
    have h6' : (pr != 0) = true := by simpa using h6
    clear h6;go_wp2_with fail;go_meet
    case rel => exact ⟨true, rfl, rfl, Lib.hid (by simp)⟩
 case rest =>
  obtain ⟨bad, rfl, rfl, HBAD⟩ := hcut;clear HRT HPL;cases bad with
  | true =>
    go_wp2_with fail;exact HNO.out _ (Below.refl _ _)
  | false =>
    obtain ⟨g1, g2, g3, g4, g5, g6⟩ := HBAD.out rfl;have HG5 := Lib.hid g5;have HG6 := Lib.hid g6;clear g5 g6 HBAD;go_upto_region 3 with fail;go_wp2_with fail
    go_loopw [4, 54] (fun s4 s54 wr => ∃ k : Nat, k <= plan.length /\ s54 = .int .i64 k /\ Below wc.heap.size wc wr /\ Hid (∀ ev ∈ plan.take k, ev.after <= 300)) (fun _ s54 _ => plan.length - (intOf s54).toNat)
    case atStart => exact ⟨0, Nat.zero_le _, rfl, Below.refl _ _, Lib.hid fun ev he => by simp at he⟩
    case round =>
     obtain ⟨k, hk, rfl, hbel, HA⟩ := hrel
     by_cases hlt : k < plan.length
     ·
      obtain ⟨b, off, rfl, c0, c1, c2⟩ := ((HP.out.below HB1.out).below hbel).cells k hlt;have hkz : (k : Int) < plan.length := by omega
      have HBEL := Lib.hid hbel;have HTK : Hid (∀ ev ∈ plan.take (k + 1), ev ∈ plan.take k \/ ev = plan[k]) := Lib.hid fun ev he => by
       rw [List.take_succ_eq_append_getElem hlt, List.mem_append, List.mem_singleton] at he;exact he
      obtain ⟨ev, hev⟩ : ∃ ev, ev = plan[k] := ⟨_, rfl⟩;rw [<- hev] at c0 c1 c2 HTK;obtain ⟨af, ki, le⟩ := ev;dsimp only at c0 c1 c2;clear hev hbel
      by_cases haf : af > 300
      ·
       have HF := Lib.hid (HNO.out _ (HBEL.out.trans ((below_new1 wr (.cells #[.int .i64 af, .int .i64 ki, .int .i64 le] 94)).mono HBEL.out.size)));go_wp2_with fail;exact HF.out
      ·
       have HF := Lib.hid (HBEL.out.trans ((below_new1 wr (.cells #[.int .i64 af, .int .i64 ki, .int .i64 le] 94)).mono HBEL.out.size));have HA2 : Hid (∀ ev ∈ plan.take (k + 1), ev.after <= 300) := Lib.hid fun ev he => by
        rcases HTK.out ev he with h | rfl
        ·
         exact HA.out ev h
        ·
         dsimp only; omega
       go_wp2_with fail;go_roundw
       case rel => exact ⟨k + 1, by omega, by go_num, HF.out, HA2⟩
       case measure => simp [intOf]; omega
     ·
      have HAF : Hid (∀ ev ∈ plan, ev.after <= 300) := Lib.hid fun ev hev => HA.out ev (by rw [List.take_of_length_le (by omega)]; exact hev)
      have hkz : ¬ (k : Int) < plan.length := by omega
      have d0' := (hbel.cell (p := ⟨w.heap.size, 0, none⟩) (lt_of_cell d0)).trans d0;have d2' := (hbel.cell (p := ⟨w.heap.size, 2, none⟩) (lt_of_cell d2)).trans d2;have HBEL := Lib.hid hbel;obtain ⟨wA, hwA⟩ : ∃ wA, wA = wr := ⟨_, rfl⟩;clear hbel;go_wp2_with fail
      go_loopw [6, 8, 65] (fun s6 s8 s65 wx => ∃ k : Nat, k <= es.length /\ s65 = .int .i64 k /\ Below wc.heap.size wc wx /\ Hid (∀ e ∈ es.take k, e.size <= 40 /\ okT e 1 /\ ∀ v ∈ varsT e, v < vars)) (fun _ _ s65 _ => es.length - (intOf s65).toNat)
      case atStart => exact ⟨0, Nat.zero_le _, rfl, HBEL.out, Lib.hid fun ev he => by simp at he⟩
      case round =>
       rename World => wy
       obtain ⟨j, hj, rfl, hbx, HB⟩ := hrel
       by_cases hlt : j < es.length
       ·
        obtain ⟨b, off, x0, x1, x2, rfl, c0, c1, c2, hx⟩ := ((HE.out.below HB1.out).below hbx).cells j hlt;have hjz : (j : Int) < es.length := by omega
        have HBX := Lib.hid hbx;have HTK : Hid (∀ e ∈ es.take (j + 1), e ∈ es.take j \/ e = es[j]) := Lib.hid fun e he => by
         rw [List.take_succ_eq_append_getElem hlt, List.mem_append, List.mem_singleton] at he;exact he
        have hd0 := (hbx.cell (p := ⟨w.heap.size, 0, none⟩) (lt_of_cell d0)).trans d0;obtain ⟨e, hev⟩ : ∃ e, e = es[j] := ⟨_, rfl⟩;rw [<- hev] at hx HTK;have HX := Lib.hid hx;obtain ⟨zo, zv, za, zn, zc, rfl, rfl, rfl⟩ := hx.parts;clear hev hbx hx;go_upto_region 12 with fail;obtain ⟨wz, hwz⟩ : ∃ wz, wz = wy.alloc (.cells #[.int .i64 zo, .int .i64 zv, .slice za zn zc] 39) := ⟨_, rfl⟩;have hbz : Below wy.heap.size wy wz := by rw [hwz]; exact below_new1 _ _
        have hblk : wz.heap[wy.heap.size]? = some (.cells #[.int .i64 zo, .int .i64 zv, .slice za zn zc] 39 (0, 0)) := by rw [hwz]; exact heap_alloc_new _ _
        have k0 : wz.cell? ⟨wy.heap.size, 0, none⟩ = some (.int .i64 zo) := by rw [cell_of_row _ _ 0 _ _ _ hblk]; rfl
        have k1 : wz.cell? ⟨wy.heap.size, 1, none⟩ = some (.int .i64 zv) := by rw [cell_of_row _ _ 1 _ _ _ hblk]; rfl
        have k2 : wz.cell? ⟨wy.heap.size, 2, none⟩ = some (.slice za zn zc) := by rw [cell_of_row _ _ 2 _ _ _ hblk]; rfl
        have kd := (hbz.cell (p := ⟨w.heap.size, 0, none⟩) (lt_of_cell hd0)).trans hd0;have HXZ := Lib.hid (HX.out.below hbz);have HBZ := Lib.hid (HBX.out.trans (hbz.mono HBX.out.size));rw [<- hwz];clear hwz hbz hblk c0 c1 c2 hd0;go_wp2_with fail;refine (parts_any e _ 40 _ (by omega) HXZ.out).mono ?_;rintro y wp ⟨⟨r, rfl, _, _, hr3⟩, hbp⟩;have HBP := Lib.hid (HBZ.out.trans (hbp.mono HBZ.out.size));have HXP := Lib.hid (HXZ.out.below hbp);have m0 := (hbp.cell (p := ⟨wy.heap.size, 0, none⟩) (lt_of_cell k0)).trans k0;have m1 := (hbp.cell (p := ⟨wy.heap.size, 1, none⟩) (lt_of_cell k1)).trans k1;have m2 := (hbp.cell (p := ⟨wy.heap.size, 2, none⟩) (lt_of_cell k2)).trans k2;have md := (hbp.cell (p := ⟨w.heap.size, 0, none⟩) (lt_of_cell kd)).trans kd;clear hbp k0 k1 k2 kd
        by_cases hr : (r : Int) > 40
        ·
         have HF := Lib.hid (HNO.out _ HBP.out);go_wp2_with fail;exact HF.out
        have hsz40 : e.size <= 40 := by have := hr3 (by omega); omega
        clear hr3;go_wp2_with fail;refine (check06_any e _ _ (by omega) HXP.out).mono ?_;rintro y wq ⟨err, rfl, hiff, hbq⟩;have HBQ := Lib.hid (HBP.out.trans (hbq.mono HBP.out.size));have HXQ := Lib.hid (HXP.out.below hbq);have n0 := (hbq.cell (p := ⟨wy.heap.size, 0, none⟩) (lt_of_cell m0)).trans m0;have n1 := (hbq.cell (p := ⟨wy.heap.size, 1, none⟩) (lt_of_cell m1)).trans m1;have n2 := (hbq.cell (p := ⟨wy.heap.size, 2, none⟩) (lt_of_cell m2)).trans m2;have nd := (hbq.cell (p := ⟨w.heap.size, 0, none⟩) (lt_of_cell md)).trans md;have HIF := Lib.hid hiff;clear hbq m0 m1 m2 md hiff
        by_cases her : err = 0
        ·
         have HOK := Lib.hid (HIF.out.1 her);subst her;go_wp2_with fail;refine (vars06Top_any e _ _ (by omega) HXQ.out).mono ?_;rintro y ws ⟨u, os, rfl, hsl, hosl, hmem, hbs⟩;obtain ⟨au, cu, rfl, hiu, hnu⟩ := hsl;have HBS := Lib.hid (HBQ.out.trans (hbs.mono HBQ.out.size));have pd := (hbs.cell (p := ⟨w.heap.size, 0, none⟩) (lt_of_cell nd)).trans nd;have HIU := Lib.hid hiu;have HMEM := Lib.hid (hmem HOK.out);clear hbs n0 n1 n2 nd hiu hmem HX HXZ HXP HXQ;go_wp2_with fail
         go_loopw [8, 80] (fun s8 s80 wt => ∃ i : Nat, i <= os.length /\ s80 = .int .i64 i /\ wt = ws /\ Hid (∀ v ∈ os.take i, v < vars)) (fun _ s80 _ => os.length - (intOf s80).toNat)
         case atStart => exact ⟨0, Nat.zero_le _, rfl, rfl, Lib.hid fun v hv => by simp at hv⟩
         case round =>
          obtain ⟨i, hi, rfl, rfl, HVS⟩ := hrel
          by_cases hlt2 : i < os.length
          ·
           obtain ⟨b2, of2, rfl, cc⟩ := HIU.out.cells i hlt2;have hiz : (i : Int) < os.length := by omega
           have HT2 := Lib.hid (mem_take_succ hlt2);obtain ⟨z, hz⟩ : ∃ z, z = at0 os i := ⟨_, rfl⟩;rw [<- hz] at cc HT2;clear hz
           by_cases hzv : z >= vars
           ·
            have HF := Lib.hid (HNO.out _ HBS.out);go_wp2_with fail;exact HF.out
           ·
            have HV2 : Hid (∀ v ∈ os.take (i + 1), v < vars) := Lib.hid fun v hv => by
             rcases (HT2.out v).1 hv with h | rfl
             ·
              exact HVS.out v h
             ·
              omega
            go_wp2_with fail;go_roundw
            case rel => exact ⟨i + 1, by omega, by go_num, by simp, HV2⟩
            case measure => simp [intOf]; omega
          ·
           have hiz : ¬ (i : Int) < os.length := by omega
           have HB2 : Hid (∀ e ∈ es.take (j + 1), e.size <= 40 /\ okT e 1 /\ ∀ v ∈ varsT e, v < vars) := Lib.hid fun e' he' => by
            rcases HTK.out e' he' with h | rfl
            ·
             exact HB.out e' h
            ·
             exact ⟨hsz40, HOK.out, fun v hv => HVS.out v (by rw [List.take_of_length_le (by omega)]; exact HMEM.out v hv)⟩
           go_wp2_with fail;go_roundw
           case rel => exact ⟨j + 1, by omega, by go_num, HBS.out, HB2⟩
           case measure => simp [intOf]; omega
        ·
         have hne : (err != 0) = true := by simpa using her
         have HF := Lib.hid (HNO.out _ HBQ.out);clear her;go_wp2_with fail;exact HF.out
       ·
        have hjz : ¬ (j : Int) < es.length := by omega
        have HF := Lib.hid (HYES.out ⟨g1, g2, g3, g4, HG5.out, HG6.out, HAF.out, fun e he => HB.out e (by rw [List.take_of_length_le (by omega)]; exact he)⟩ _ hbx);go_wp2_with fail;exact HF.out
end Go.Proofs.YtchliiaknmknhaaGreat

namespace Go.Proofs.YtchliiaknmknhaaGreat
open Go.RowKit Go.Shelf
section
variable {F : Fence} {n : Nat} {P : Program} {α : Type}
def GivesE (F : Fence) (n d : Nat) (P : Program) (g : Nat) (lb : Array Value) (encs : α -> Array Value) (n₀ : Nat) (Bx : Nat -> Prop) (Good : List α -> Prop) (w : World) : Prop :=
 ∀ (l : Nat) (J : List α -> (Nat -> Prop) -> World -> Prop) (M : Nat -> Prop) (W : World), OwnsIn n₀ J -> Minds n₀ J -> Wr (fun k => n₀ <= k /\ ¬ Bx k) w W -> (∀ k, Bx k -> ¬ M k) ->
  (∀ pre x M W1, J pre M W1 -> (∃ suf, Good (pre ++ x :: suf)) -> YieldAt F (n - 1 - d) P l (encs x) W1 fun e W' =>
   e = .returned (.bool true) /\ ∃ M', J (pre ++ [x]) M' W' /\ Wr M W1 W' /\ ∀ k, M' k -> M k \/ W1.heap.size <= k) ->
  J [] M W ->
  CallsIn F n P g (#[.func (.yield l) #[] #[]] ++ lb) W fun e W' => (∃ v, e = .returned v) /\ ∃ xs M', Good xs /\ J xs M' W' /\ Wr (fun k => n₀ <= k) W W' /\ ∀ k, M' k -> M k \/ W.heap.size <= k
theorem wp_rangeE {g : Operand} {ps : Array Tmp} {assign body : Code} {Q : Exit -> Act -> World -> Prop} {a : Act} {w : World} (hro : F.round = none) (h1 : 1 <= n) {gf : Nat} {lb : Array Value} (hg : a.eval g = .func (.func gf) #[] lb)
 (hFg : F.fn gf) (eg : ∀ args w, (callFunc gf args).run P w = .ok (.enter gf args) w) {encs : α -> Array Value} {n₀ : Nat} {Bx : Nat -> Prop} {Good : List α -> Prop} {d : Nat} (hseq : GivesE F (n - 1) d P gf lb encs n₀ Bx Good w) (hn0 : n₀ <= w.heap.size)
 (hBx : ∀ k, Bx k -> k < w.heap.size) (hps : ∀ x, (encs x).size = ps.size) (I : List α -> (Nat -> Prop) -> World -> Prop) (hOw : OwnsIn n₀ I) (hMi : Minds n₀ I) (M0 : Nat -> Prop) (hM0 : ∀ k, Bx k -> ¬ M0 k) (h0 : I [] M0 w)
 (Ax : α -> Act -> World -> World -> Prop) (hAx : ∀ x a' W W1 W2 l, l < W.heap.size -> Ax x a' W W1 -> Wr (· = l) W1 W2 -> Ax x a' W W2)
 (hassign : ∀ (l : Nat) (pre : List α) (x : α) (M : Nat -> Prop) (W : World) (K : Act -> World -> Prop), I pre M W -> (∀ a' W', Wr (fun _ => False) W W' -> Ax x a' W W' -> K a' W') ->
  assign.wpIn (F.inRound l) (n - 1 - 1 - d) P (Exit.then K (fun _ _ _ => False)) { tmps := (ps.zip (encs x)).foldl (fun t (p, v) => t.setIfInBounds p v) a.tmps, defers := [] } W)
 (hbody : ∀ (l : Nat) (pre : List α) (x : α) (a' : Act) (M : Nat -> Prop) (W0 W : World), I pre M W -> Ax x a' W0 W -> W0.heap.size <= W.heap.size -> w.heap.size <= W0.heap.size -> (∃ suf, Good (pre ++ x :: suf)) -> body.wpIn (F.inRound l) (n - 1 - 1 - d) P
  (fun e _ W' => match e with | .normal => ∃ M', I (pre ++ [x]) M' W' /\ Wr (fun k => M k \/ W0.heap.size <= k) W W' /\ (∀ k, M' k -> M k \/ W0.heap.size <= k) | _ => False) a' W)
 (hdone : ∀ (xs : List α) (D : Nat) (M : Nat -> Prop) (W : World), Good xs -> w.heap.size <= D -> ¬ M D -> I xs M W -> (∀ k, M k -> M0 k \/ w.heap.size <= k) -> Wr (fun k => n₀ <= k) w W -> W.heap[D]? = some (.deferred (some [])) -> Q .normal { a with defers := { target := .collected D, args := #[] } :: a.defers } W) :
 (Code.rangeFunc g ps assign body).wpIn F n P Q a w := by
 refine wpIn_rangeFunc ?_;intro fn hfn;rw [hro]
 let rec0 : LoopState -> Loop := fun st => { state := st, pending := none, fn, tmps := a.tmps, params := ps, assign, body, defers := w.heap.size }
 obtain ⟨W1, hW1⟩ : ∃ W1, W1 = (w.alloc (.deferred (some []))).alloc (.loop (rec0 .ready)) := ⟨_, rfl⟩;have hL1 : W1.heap[w.heap.size + 1]? = some (.loop (rec0 .ready)) := by
  rw [hW1];have := World.alloc_heap_new (w.alloc (.deferred (some []))) (.loop (rec0 .ready))
  rwa [World.size_alloc] at this
 have hD1 : W1.heap[w.heap.size]? = some (.deferred (some [])) := by
  rw [hW1];exact (Below.heap_alloc _ _ _ (by simp)).trans (World.alloc_heap_new w _)
 have hw1 : ∀ N : Nat -> Prop, Wr N w W1 := fun N => by rw [hW1]; exact ((Wr.refl N w).alloc _).alloc _
 have hM0lt := hOw [] M0 w h0;have hI1 : I [] M0 W1 := hMi _ _ _ _ h0 (hw1 _)
 refine ⟨w.heap.size + 1, [{ target := .collected w.heap.size, args := #[] }], W1, { target := .fn (.func gf) lb, args := #[.func (.yield (w.heap.size + 1)) #[] #[]] }, W1, gf,
  #[.func (.yield (w.heap.size + 1)) #[] #[]] ++ lb, W1, ?_, ?_, ?_, ?_, fun _ => h1, ?_⟩
 ·
  rw [hW1]; exact run_enterLoop_outer _ _ _ _ _
 ·
  simp only [resolve, hg];simp [go_sem]
 ·
  intro f' hf';simp [Target.leads] at hf';subst hf'; exact hFg
 ·
  simp [invoke, go_sem, eg]
 refine (hseq (w.heap.size + 1)
  (fun pre N W => ∃ M, I pre M W /\ (∀ k, N k ↔ (M k \/ k = w.heap.size + 1 \/ k = w.heap.size)) /\ ¬ M (w.heap.size + 1) /\ ¬ M w.heap.size /\ (∀ k, M k -> M0 k \/ w.heap.size <= k) /\
   W.heap[w.heap.size + 1]? = some (.loop (rec0 .ready)) /\ W.heap[w.heap.size]? = some (.deferred (some [])))
  (fun k => M0 k \/ k = w.heap.size + 1 \/ k = w.heap.size) W1 ?_ ?_ (hw1 _) ?_ ?_ ?_).mono ?_
 ·
  rintro pre N W ⟨M, hi, hN, _, _, _, hl, hd⟩ k hk;rcases (hN k).1 hk with hk | hk | hk
  ·
   exact hOw _ _ _ hi k hk
  ·
   subst hk; exact ⟨by omega, (Array.getElem?_eq_some_iff.1 hl).1⟩
  ·
   subst hk; exact ⟨hn0, (Array.getElem?_eq_some_iff.1 hd).1⟩
 ·
  rintro pre N W W' ⟨M, hi, hN, h2, h3, h4, hl, hd⟩ hw;refine ⟨M, hMi _ _ _ _ hi ?_, hN, h2, h3, h4, ?_, ?_⟩
  ·
   exact ⟨hw.os, hw.tape, hw.output, hw.size, fun k hk hn => hw.keep k hk (fun ⟨a, b⟩ => hn ⟨a, fun e => b ((hN k).2 (.inl e))⟩)⟩
  ·
   exact (hw.keep _ (Array.getElem?_eq_some_iff.1 hl).1 (fun ⟨_, b⟩ => b ((hN _).2 (.inr (.inl rfl))))).trans hl
  ·
   exact (hw.keep _ (Array.getElem?_eq_some_iff.1 hd).1 (fun ⟨_, b⟩ => b ((hN _).2 (.inr (.inr rfl))))).trans hd
 ·
  intro k hk hm;have := hBx k hk;rcases hm with hm | hm | hm
  ·
   exact hM0 k hk hm
  ·
   omega
  ·
   omega
 ·
  rintro pre x N W ⟨M, hi, hN, h2, h3, h4, hl, hd⟩ hsuf;have hlt : w.heap.size + 1 < W.heap.size := (Array.getElem?_eq_some_iff.1 hl).1;have hy := run_yield (P := P) (args := encs x) hl (hps x);refine ⟨fn, _, assign, body, hy, roundIn_of_wpIn hfn (hassign _ pre x M W _ hi ?_)⟩;intro a' Wa hwa hax;have hla := (hwa.keep _ hlt (fun h => h)).trans hl;have hda := (hwa.keep _ (by omega) (fun h => h)).trans hd;have hlta : w.heap.size + 1 < Wa.heap.size := by have := hwa.size; omega
  refine ⟨_, run_beginRound hla rfl, ?_⟩;have hia : I pre M Wa := hMi _ _ _ _ hi (hwa.mono (fun _ h => h.elim));have hwb : Wr (· = w.heap.size + 1) Wa (Wa.putObj (w.heap.size + 1) (.loop { rec0 .ready with state := .busy })) := (Wr.refl (· = w.heap.size + 1) Wa).putObj (l := w.heap.size + 1) (.inl rfl) _;have hib : I pre M (Wa.putObj (w.heap.size + 1) (.loop { rec0 .ready with state := .busy })) := hMi _ _ _ _ hia (hwb.mono (fun k e => by have e' : k = w.heap.size + 1 := e; subst e'; exact ⟨by omega, h2⟩));have hlb : (Wa.putObj (w.heap.size + 1) (.loop { rec0 .ready with state := .busy })).heap[w.heap.size + 1]? = some (.loop { rec0 .ready with state := .busy }) := World.putObj_heap_same hlta;have hdb : (Wa.putObj (w.heap.size + 1) (.loop { rec0 .ready with state := .busy })).heap[w.heap.size]? = some (.deferred (some [])) := (World.putObj_heap_other (by omega)).trans hda;refine wpIn_mono (hbody _ pre x a' M W _ hib (hAx _ _ _ _ _ _ hlt hax hwb) (by simp; exact hwa.size) (by omega) hsuf) ?_;intro e a3 W3 hp;cases e with
  | normal =>
    obtain ⟨M', hi3, hw3, hM'⟩ := hp;have hl3 := (hw3.keep _ (by simp; exact hlta) (fun e => by rcases e with e | e; exact h2 e; omega)).trans hlb;have hd3 := (hw3.keep _ (by simp; omega) (fun e => by rcases e with e | e; exact h3 e; omega)).trans hdb;have hlt3 := (Array.getElem?_eq_some_iff.1 hl3).1;have hm2 : ¬ M' (w.heap.size + 1) := fun e => by rcases hM' _ e with h | h; exact h2 h; omega
    have hm3 : ¬ M' w.heap.size := fun e => by rcases hM' _ e with h | h; exact h3 h; omega
    refine ⟨_, _, run_endRound (P := P) none hl3, rfl, fun k => M' k \/ k = w.heap.size + 1 \/ k = w.heap.size, ⟨M', ?_, fun k => Iff.rfl, hm2, hm3, ?_, World.putObj_heap_same hlt3, (World.putObj_heap_other (by omega)).trans hd3⟩, ?_, ?_⟩
    ·
     exact hMi _ _ _ _ hi3 ((Wr.refl _ _).putObj (.inl ⟨by omega, hm2⟩) _)
    ·
     intro k hk;rcases hM' k hk with h | h
     ·
      exact h4 k h
     ·
      right; omega
    ·
     refine ((((hwa.mono (N := N) (fun _ h => h.elim)).putObj (l := w.heap.size + 1) (.inl ((hN _).2 (.inr (.inl rfl)))) _).trans (N := N) hw3 (fun k _ h => h) (fun k hk h => ?_)).putObj (l := w.heap.size + 1) (.inl ((hN _).2 (.inr (.inl rfl)))) _);rcases h with h | h
     ·
      exact (hN k).2 (.inl h)
     ·
      omega
    ·
     rintro k (hk | hk)
     ·
      rcases hM' k hk with h | h
      ·
       exact .inl ((hN k).2 (.inl h))
      ·
       exact .inr h
     ·
      exact .inl ((hN k).2 (.inr hk))
  | ret => exact hp.elim
  | exit id => exact hp.elim
  | goto t => exact hp.elim
  | panic ch => exact hp.elim
  | outgrown => exact hp.elim
 ·
  exact ⟨M0, hI1, fun k => Iff.rfl, fun e => by have := (hM0lt _ e).2; omega, fun e => by have := (hM0lt _ e).2; omega, fun k h => .inl h, hL1, hD1⟩
 ·
  rintro e W2 ⟨⟨v, rfl⟩, xs, N, hgood, ⟨M, hi, hN, h2, h3, h4, hl, hd⟩, hw2, _⟩;refine ⟨none, _, run_endLoop (P := P) hl (by simp [rec0]), hdone xs _ M _ hgood (Nat.le_refl _) h3 ?_ h4 ?_ ((World.putObj_heap_other (by omega)).trans hd)⟩
  ·
   exact hMi _ _ _ _ hi ((Wr.refl _ _).putObj (.inl ⟨by omega, h2⟩) _)
  ·
   exact ((hw1 (fun k => n₀ <= k)).trans hw2 (fun _ _ h => h) (fun _ _ h => h)).putObj (.inl (by omega)) _
end
end Go.Proofs.YtchliiaknmknhaaGreat

namespace Go.Proofs.YtchliiaknmknhaaGreat
open Go.RowKit Go.Shelf
open Go.ChangeMaps (setBlock)
def keyCs (q : Nat × Nat) : List Value := [.int .i64 q.1, .int .i64 q.2]
theorem nodup_of_map {α β : Type} {f : α -> β} {l : List α} (h : (l.map f).Nodup) : l.Nodup := (List.pairwise_map.1 h).imp fun hne e => hne (congrArg f e)
def unInt : Value -> Nat
 | .int _ n => n.toNat
 | _ => 0
def unE : Value -> Nat × Nat
 | .agg cs => (unInt (cs.getD 0 undef), unInt (cs.getD 1 undef))
 | _ => (0, 0)
theorem unE_enc (q : Nat × Nat) : unE (encE q) = q := by simp [unE, encE, unInt]
structure SeenS (es : Array MapEntry) (clock : Nat) (seen : Array Nat) (ks : List (Nat × Nat)) (sl : List MapEntry) : Prop where
 sub : ∀ e ∈ sl, e ∈ es.toList
 born : sl.map (·.born) = seen.toList
 nodup : (sl.map (·.born)).Nodup
 keys : sl.map (·.key) = ks.map encE
theorem SeenS.start (es : Array MapEntry) (clock : Nat) : SeenS es clock #[] [] [] := ⟨fun _ h => (by cases h), rfl, List.nodup_nil, rfl⟩
theorem SeenS.next {es : Array MapEntry} {clock : Nat} {seen : Array Nat} {ks : List (Nat × Nat)} {sl : List MapEntry} (h : SeenS es clock seen ks sl) {e : MapEntry} (he : e ∈ (leftOf es seen).toList) {q : Nat × Nat} (hq : e.key = encE q) : SeenS es clock (seen.push e.born) (ks ++ [q]) (sl ++ [e]) := by
 obtain ⟨h1, h2⟩ := mem_left he;refine ⟨fun x hx => ?_, by simp [h.born], ?_, by simp [h.keys, hq]⟩
 ·
  rcases List.mem_append.1 hx with hx | hx
  ·
   exact h.sub x hx
  ·
   simp at hx; subst hx; exact h1
 ·
  rw [List.map_append, List.nodup_append];refine ⟨h.nodup, by simp, fun a ha b hb => ?_⟩;simp at hb;subst hb;rintro rfl;rw [h.born] at ha;have : seen.contains e.born = true := by simpa using ha
  rw [this] at h2; cases h2
theorem SeenS.all {es : Array MapEntry} {clock : Nat} {seen : Array Nat} {ks : List (Nat × Nat)} {sl : List MapEntry} (h : SeenS es clock seen ks sl) (hn : (es.toList.map (·.born)).Nodup) (h0 : (leftOf es seen).size = 0) : sl.Perm es.toList := by
 have hall := all_seen es seen h0;refine (List.perm_ext_iff_of_nodup (nodup_of_map h.nodup) (nodup_of_map hn)).2 fun e => ⟨h.sub e, fun he => ?_⟩
 have h1 := hall e he;have h2 : e.born ∈ sl.map (·.born) := by rw [h.born]; simpa using h1
 obtain ⟨x, hx, e1⟩ := List.mem_map.1 h2;have : x = e := born_inj hn (h.sub x hx) he e1;rw [<- this]; exact hx
theorem SeenS.keysOf {w : World} {b : Nat} {l : List ((Nat × Nat) × Value)} {es : Array MapEntry} {clock : Nat} {seen : Array Nat} {ks : List (Nat × Nat)} {sl : List MapEntry} (h : SeenS es clock seen ks sl) (hn : (es.toList.map (·.born)).Nodup) (h0 : (leftOf es seen).size = 0)
 (hl : es.toList.map (fun e => (e.key, e.val)) = l.map (fun p => (encE p.1, p.2))) : ks.Perm (l.map Prod.fst) := by
 have h1 : (ks.map encE).Perm ((l.map Prod.fst).map encE) := by
  rw [<- h.keys];have h2 := (h.all hn h0).map (fun e : MapEntry => e.key);refine h2.trans ?_;have h3 := congrArg (List.map Prod.fst) hl;simp only [List.map_map] at h3;have e1 : (es.toList.map fun e : MapEntry => e.key) = (l.map Prod.fst).map encE := by
   rw [List.map_map]; exact h3
  rw [e1]
 have h2 := h1.map unE;simpa [List.map_map, Function.comp_def, unE_enc] using h2
theorem infoKey : (Tryz.prog.info? 168).map (fun i => (i.zero, i.size, i.bytes)) = some (some (.agg #[.int .i64 0, .int .i64 0]), 2, 16) := by kernel_rfl
structure KeyS (W0 : World) (mb r clock : Nat) (es : Array MapEntry) (seen : Array Nat) (ks : List (Nat × Nat)) (sl : List MapEntry) (v : Value) (oG : Own) (wr : World) : Prop where
 low : Below W0.heap.size W0 wr
 it : wr.heap[r]? = some (.mapIter (some mb) clock seen clock)
 came : SeenS es clock seen ks sl
 row : RowR oG wr .slots 168 2 v ks.length (ks.flatMap keyCs)
 lt : OwnLt oG wr
 ge : ∀ k q, oG k = some q -> q = .slots /\ W0.heap.size <= k
 no : oG r = none
 cnt : ks.length + (leftOf es seen).size <= es.size
theorem KeyS.next {W0 : World} {mb r clock : Nat} {es : Array MapEntry} {seen : Array Nat} {ks : List (Nat × Nat)} {sl : List MapEntry} {v v' : Value} {oG o1 : Own} {wr w1 w2 w3 w4 : World} (h : KeyS W0 mb r clock es seen ks sl v oG wr) (hr0 : W0.heap.size <= r) {e : MapEntry} (he : e ∈ (leftOf es seen).toList) {q : Nat × Nat} (hq : e.key = encE q)
 (hw1 : w1 = wr \/ w1 = wr.drew) (hw2 : w2 = setBlock w1 r (.mapIter (some mb) clock (seen.push e.born) clock)) (hb3 : Below w2.heap.size w2 w3)
 (hr : RowR o1 w4 .slots 168 2 v' (ks.length + 1) (ks.flatMap keyCs ++ keyCs q)) (hc : Chg (· = .slots) oG o1 w3 w4) (hl : OwnLt o1 w4) :
 KeyS W0 mb r clock es (seen.push e.born) (ks ++ [q]) (sl ++ [e]) v' o1 w4 := by
 have hrl : r < wr.heap.size := (Array.getElem?_eq_some_iff.1 h.it).1;have z2 : w2.heap.size = wr.heap.size := by rw [hw2]; rcases hw1 with rfl | rfl <;> simp [setBlock]
 have i2 : w2.heap[r]? = some (.mapIter (some mb) clock (seen.push e.born) clock) := by rw [hw2]; rcases hw1 with rfl | rfl <;> simp [setBlock, hrl]
 have k2 : ∀ g, g ≠ r -> w2.heap[g]? = wr.heap[g]? := fun g hg => by
  rw [hw2]; rcases hw1 with rfl | rfl <;> simp [setBlock, Array.getElem?_setIfInBounds, Ne.symm hg] <;> rfl
 have b2 : Below W0.heap.size W0 w2 := h.low.trans ⟨by rw [hw2]; rcases hw1 with rfl | rfl <;> rfl, by rw [hw2]; rcases hw1 with rfl | rfl <;> rfl, by rw [hw2]; rcases hw1 with rfl | rfl <;> rfl, by omega, fun g hg => k2 g (by omega)⟩;have nn : ∀ g, g < W0.heap.size -> oG g = none := fun g hg => by
  cases eo : oG g with
  | none => rfl
  | some r => have := (h.ge g r eo).2; omega
 have s0 := h.low.size;have b3 := b2.trans (hb3.mono (by omega));refine ⟨b3.trans ⟨hc.os, hc.tape, hc.output, hc.size, fun g hg => hc.alien (by have := b3.size; omega) (nn g hg)⟩, ?_, h.came.next he hq, by simpa using hr, hl, fun g q hg => ?_, hc.alien' (by have := hb3.size; omega) h.no, by have h1 := left_shrinks es seen e he; have h2 := h.cnt; simp; omega⟩
 ·
  rw [hc.alien (by have := hb3.size; omega) h.no, hb3.block r (by omega)]; exact i2
 ·
  by_cases eo : o1 g = oG g
  ·
   rw [eo] at hg; exact h.ge g q hg
  ·
   obtain ⟨a1, p, a2, a3⟩ := hc.new g eo;rw [hg] at a2; cases a2
   have := hb3.size;exact ⟨a3, by omega⟩
theorem KeyS.row3 {W0 : World} {mb r clock : Nat} {es : Array MapEntry} {seen : Array Nat} {ks : List (Nat × Nat)} {sl : List MapEntry} {v : Value} {oG : Own} {wr w1 w2 w3 : World} (h : KeyS W0 mb r clock es seen ks sl v oG wr) {x : Obj} (hw1 : w1 = wr \/ w1 = wr.drew) (hw2 : w2 = setBlock w1 r x) (hb3 : Below w2.heap.size w2 w3) :
 RowR oG w3 .slots 168 2 v ks.length (ks.flatMap keyCs) /\ OwnLt oG w3 := by
 have z2 : w2.heap.size = wr.heap.size := by rw [hw2]; rcases hw1 with rfl | rfl <;> simp [setBlock]
 have k2 : ∀ g, g ≠ r -> w2.heap[g]? = wr.heap[g]? := fun g hg => by
  rw [hw2]; rcases hw1 with rfl | rfl <;> simp [setBlock, Array.getElem?_setIfInBounds, Ne.symm hg] <;> rfl
 refine ⟨h.row.keep (fun g hg => ?_) (fun _ h => h), h.lt.mono (by have := hb3.size; omega)⟩;have h1 := h.lt g _ hg;rw [hb3.block g (by omega)];exact k2 g (by rintro rfl; rw [h.no] at hg; cases hg)
end Go.Proofs.YtchliiaknmknhaaGreat

namespace Go.Proofs
open Go.Shelf
def Tryz.sortKeys_ren : Go.Shelf.Ren := ⟨fun | 6 => 164 | 15 => 171 | 14 => 170 | 28 => 182 | 29 => 183 | 20 => 174 | 21 => 175 | 22 => 176 | 23 => 177 | 24 => 178 | 25 => 179 | 26 => 180 | 27 => 181 | 46 => 184 | 47 => 185 | 48 => 186 | 49 => 187 | 50 => 188 | 57 => 189 | n => n, fun | 22 => 202 | 24 => 168 | 25 => 213 | 3 => 3 | 39 => 197 | 0 => 0 | 53 => 225 | 55 => 120 | 4 => 4 | 46 => 219 | 45 => 218 | 50 => 108 | 5 => 5 | 9 => 9 | 66 => 227 | 70 => 231 | 76 => 233 | 77 => 133 | n => n, fun | n => n⟩
theorem Tryz.sortKeys : Go.Proofs.SlLaysF0.n6 Tryz.prog Tryz.sortKeys_ren := {
 mixed := by kernel_rfl
 f6 := ⟨Tryz.f164.name, by decide, Tryz.func164.trans (congrArg some (by kernel_rfl))⟩
 f14 := ⟨Tryz.f170.name, by decide, Tryz.func170.trans (congrArg some (by kernel_rfl))⟩
 f15 := Tryz.func171.trans (congrArg some (by kernel_rfl))
 f20 := ⟨Tryz.f174.name, by decide, Tryz.func174.trans (congrArg some (by kernel_rfl))⟩
 f21 := ⟨Tryz.f175.name, by decide, Tryz.func175.trans (congrArg some (by kernel_rfl))⟩
 f22 := ⟨Tryz.f176.name, by decide, Tryz.func176.trans (congrArg some (by kernel_rfl))⟩
 f23 := ⟨Tryz.f177.name, by decide, Tryz.func177.trans (congrArg some (by kernel_rfl))⟩
 f24 := ⟨Tryz.f178.name, by decide, Tryz.func178.trans (congrArg some (by kernel_rfl))⟩
 f25 := ⟨Tryz.f179.name, by decide, Tryz.func179.trans (congrArg some (by kernel_rfl))⟩
 f26 := ⟨Tryz.f180.name, by decide, Tryz.func180.trans (congrArg some (by kernel_rfl))⟩
 f27 := ⟨Tryz.f181.name, by decide, Tryz.func181.trans (congrArg some (by kernel_rfl))⟩
 f28 := Tryz.func182.trans (congrArg some (by kernel_rfl))
 f29 := Tryz.func183.trans (congrArg some (by kernel_rfl))
 f46 := ⟨Tryz.f184.name, by decide, Tryz.func184.trans (congrArg some (by kernel_rfl))⟩
 f47 := Tryz.func185.trans (congrArg some (by kernel_rfl))
 f48 := Tryz.func186.trans (congrArg some (by kernel_rfl))
 f49 := ⟨Tryz.f187.name, by decide, Tryz.func187.trans (congrArg some (by kernel_rfl))⟩
 f50 := ⟨Tryz.f188.name, by decide, Tryz.func188.trans (congrArg some (by kernel_rfl))⟩
 f57 := ⟨Tryz.f189.name, by decide, Tryz.func189.trans (congrArg some (by kernel_rfl))⟩
 t0 := Tryz.underlying0
 a0 := Tryz.isAgg0
 z0 := Tryz.sizeOf0
 v0 := Tryz.zeroValue0
 t3 := Tryz.underlying3
 a3 := Tryz.isAgg3
 z3 := Tryz.sizeOf3
 v3 := Tryz.zeroValue3
 t4 := Tryz.underlying4
 a4 := Tryz.isAgg4
 z4 := Tryz.sizeOf4
 v4 := Tryz.zeroValue4
 t5 := Tryz.underlying5
 a5 := Tryz.isAgg5
 z5 := Tryz.sizeOf5
 v5 := Tryz.zeroValue5
 t9 := Tryz.underlying9
 a9 := Tryz.isAgg9
 z9 := Tryz.sizeOf9
 v9 := Tryz.zeroValue9
 t22 := Tryz.underlying202
 a22 := Tryz.isAgg202
 z22 := Tryz.sizeOf202
 v22 := Tryz.zeroValue202
 t25 := Tryz.underlying213
 a25 := Tryz.isAgg213
 z25 := Tryz.sizeOf213
 v25 := Tryz.zeroValue213
 t39 := Tryz.underlying197
 a39 := Tryz.isAgg197
 z39 := Tryz.sizeOf197
 v39 := Tryz.zeroValue197
 t45 := Tryz.underlying218
 a45 := Tryz.isAgg218
 z45 := Tryz.sizeOf218
 v45 := Tryz.zeroValue218
 t46 := Tryz.underlying219
 a46 := Tryz.isAgg219
 z46 := Tryz.sizeOf219
 v46 := Tryz.zeroValue219
 t50 := Tryz.underlying108
 a50 := Tryz.isAgg108
 z50 := Tryz.sizeOf108
 v50 := Tryz.zeroValue108
 t53 := Tryz.underlying225
 a53 := Tryz.isAgg225
 z53 := Tryz.sizeOf225
 v53 := Tryz.zeroValue225
 t55 := Tryz.underlying120
 a55 := Tryz.isAgg120
 z55 := Tryz.sizeOf120
 v55 := Tryz.zeroValue120
 t66 := Tryz.underlying227
 a66 := Tryz.isAgg227
 z66 := Tryz.sizeOf227
 v66 := Tryz.zeroValue227
 t70 := Tryz.underlying231
 a70 := Tryz.isAgg231
 z70 := Tryz.sizeOf231
 v70 := Tryz.zeroValue231
 t76 := Tryz.underlying233
 a76 := Tryz.isAgg233
 z76 := Tryz.sizeOf233
 v76 := Tryz.zeroValue233
 t77 := Tryz.underlying133
 a77 := Tryz.isAgg133
 z77 := Tryz.sizeOf133
 v77 := Tryz.zeroValue133 }
def Tryz.cmpInt_ren : Go.Shelf.Ren := ⟨fun | 5 => 167 | 7 => 172 | n => n, fun | 22 => 3 | 3 => 3 | 4 => 4 | n => n, fun | n => n⟩
theorem Tryz.cmpInt : Go.Proofs.SlLaysC2.n5 Tryz.prog Tryz.cmpInt_ren := {
 mixed := by kernel_rfl
 f5 := ⟨Tryz.f167.name, by decide, Tryz.func167.trans (congrArg some (by kernel_rfl))⟩
 f7 := ⟨Tryz.f172.name, by decide, Tryz.func172.trans (congrArg some (by kernel_rfl))⟩
 t3 := Tryz.underlying3
 a3 := Tryz.isAgg3
 z3 := Tryz.sizeOf3
 v3 := Tryz.zeroValue3
 t4 := Tryz.underlying4
 a4 := Tryz.isAgg4
 z4 := Tryz.sizeOf4
 v4 := Tryz.zeroValue4
 t22 := Tryz.underlying3
 a22 := Tryz.isAgg3
 z22 := Tryz.sizeOf3
 v22 := Tryz.zeroValue3 }
def Tryz.cmpEdge_ren : Go.Shelf.Ren := ⟨fun | 5 => 168 | 7 => 173 | n => n, fun | 22 => 52 | 3 => 3 | 4 => 4 | n => n, fun | n => n⟩
theorem Tryz.cmpEdge : Go.Proofs.SlLaysC2.n5 Tryz.prog Tryz.cmpEdge_ren := {
 mixed := by kernel_rfl
 f5 := ⟨Tryz.f168.name, by decide, Tryz.func168.trans (congrArg some (by kernel_rfl))⟩
 f7 := ⟨Tryz.f173.name, by decide, Tryz.func173.trans (congrArg some (by kernel_rfl))⟩
 t3 := Tryz.underlying3
 a3 := Tryz.isAgg3
 z3 := Tryz.sizeOf3
 v3 := Tryz.zeroValue3
 t4 := Tryz.underlying4
 a4 := Tryz.isAgg4
 z4 := Tryz.sizeOf4
 v4 := Tryz.zeroValue4
 t22 := Tryz.underlying52
 a22 := Tryz.isAgg52
 z22 := Tryz.sizeOf52
 v22 := Tryz.zeroValue52 }
end Go.Proofs

namespace Go.Proofs.YtchliiaknmknhaaGreat
open Go.RowKit Go.Shelf Go.Lib Go.Sort
def orI : List Int -> Int
 | [] => 0
 | z :: zs => if z = 0 then orI zs else z
theorem orI_drop {zs : List Int} {k : Nat} (hk : k < zs.length) : orI (zs.drop k) = if at0 zs k = 0 then orI (zs.drop (k + 1)) else at0 zs k := by
 rw [at0_eq hk, List.drop_eq_getElem_cons hk];rfl
theorem or_any (a : Option Addr) (c : Nat) (zs : List Int) (w : World) (hz : IntsAt w a zs) (hl : zs.length <= 1000000) :
 Calls Tryz.prog 166 #[.slice a zs.length c] w fun x w' => x = .returned (.int .i64 (orI zs)) /\ w' = w := by
 have HZ := Lib.hid hz;clear hz
 go_enter Tryz.func166, Tryz.ntmps166
 go_wp2_with fail
 go_loopw [8] (fun s8 wr => ∃ k : Nat, k <= zs.length /\ s8 = .int .i64 k /\ w = wr /\ orI zs = orI (zs.drop k)) (fun s8 _ => zs.length - (intOf s8).toNat)
 case atStart => exact ⟨0, Nat.zero_le _, rfl, rfl, rfl⟩
 case round =>
  obtain ⟨k, hk, rfl, rfl, ho⟩ := hrel
  by_cases hlt : k < zs.length
  ·
   obtain ⟨b, off, ha, hc⟩ := HZ.out.cells k hlt;subst ha;have hk1 : (k : Int) < zs.length := by omega
   have hs := orI_drop hlt
   by_cases h0 : at0 zs k = 0
   ·
    rw [if_pos h0] at hs;rw [h0] at hc;have HO := Lib.hid (ho.trans hs);clear ho hs h0;go_wp2_with fail;go_roundw
    case rel => exact ⟨k + 1, by omega, by go_num, trivial, HO.out⟩
    case measure => simp [intOf]; omega
   ·
    rw [if_neg h0] at hs;have HO := Lib.hid (ho.trans hs);have hne : (at0 zs k == (0 : Int)) = false := by simpa using h0
    clear ho hs h0
    generalize at0 zs k = z at hc hne HO
    go_wp2_with fail;go_ret;exact ⟨by rw [HO.out]; rfl, rfl⟩
  ·
   obtain rfl : k = zs.length := by omega
   have HO : Hid (orI zs = 0) := by
    refine Lib.hid ?_
    show _ = _
    rw [ho]; simp [orI]
   clear ho;go_wp2_with fail;go_ret;exact ⟨by rw [HO.out]; rfl, rfl⟩
def cfK (f : Nat × Nat -> Option Nat) (x y : Nat × Nat) : Int := orI [compareInt ((f x).getD 0 : Nat) ((f y).getD 0 : Nat), compareInt x.1 y.1, compareInt x.2 y.2]
theorem ltK (f : Nat × Nat -> Option Nat) (x y : Nat × Nat) : ltOf (cfK f) x y = decide ((f x).getD 0 < (f y).getD 0 \/ (f x).getD 0 = (f y).getD 0 /\ (x.1 < y.1 \/ x.1 = y.1 /\ x.2 < y.2)) := by
 unfold ltOf cfK
 generalize (f x).getD 0 = a
 generalize (f y).getD 0 = b
 obtain ⟨x1, x2⟩ := x;obtain ⟨y1, y2⟩ := y;have hc : ∀ p q : Nat, compareInt (p : Int) (q : Int) = if p < q then -1 else if p = q then 0 else 1 := fun p q => by
  unfold compareInt
  by_cases h1 : p < q
  ·
   rw [if_pos (by omega), if_pos h1]
  ·
   by_cases h2 : p = q
   ·
    rw [if_neg (by omega), if_neg (by omega), if_neg h1, if_pos h2]
   ·
    rw [if_neg (by omega), if_pos (by omega), if_neg h1, if_neg h2]
 simp only [hc, orI]
 by_cases h1 : a < b
 ·
  simp [h1]
 ·
  by_cases h2 : a = b
  ·
   subst h2
   by_cases h3 : x1 < y1
   ·
    simp [h3]
   ·
    by_cases h4 : x1 = y1
    ·
     subst h4
     by_cases h5 : x2 < y2
     ·
      simp [h5]
     ·
      by_cases h6 : x2 = y2
      ·
       subst h6; simp
      ·
       simp [h5, h6]
    ·
     simp [h3, h4]
  ·
   simp [h1, h2]
theorem swoK (f : Nat × Nat -> Option Nat) : SWO (ltOf (cfK f)) where
 irrefl x := by rw [ltK]; simp
 trans x y z h1 h2 := by rw [ltK] at *; simp at *; omega
 ntrans x y z h1 h2 := by rw [ltK] at *; simp at *; omega
theorem keyCmp_any (f : Nat × Nat -> Option Nat) (x y : Nat × Nat) (Bx t mb : Nat) (W : World) (cB : W.cell? ⟨Bx, 0, none⟩ = some (.pointer (some ⟨t, 0, none⟩))) (cT : W.cell? ⟨t, 0, none⟩ = some (.map (some mb)))
 (hlk : ∀ W' k, Below W.heap.size W W' -> (Instr.lookup 191 (.map (some mb)) (.agg #[.int .i64 (k : Nat × Nat).1, .int .i64 k.2]) false).run Tryz.prog W' = .ok (.int .i64 ((f k).getD 0 : Nat)) W') :
 Calls Tryz.prog 165 #[.agg #[.int .i64 x.1, .int .i64 x.2], .agg #[.int .i64 y.1, .int .i64 y.2], .pointer (some ⟨Bx, 0, none⟩)] W fun e w' => e = .returned (.int .i64 (cfK f x y)) /\ ∃ q os', w' = grow (W.drewN q) os' := by
 obtain ⟨W1, hW1⟩ : ∃ W1, W1 = (W.alloc (.cells #[.int .i64 x.1, .int .i64 x.2] 168)).alloc (.cells #[.int .i64 y.1, .int .i64 y.2] 168) := ⟨_, rfl⟩;have hb1 : Below W.heap.size W W1 := by rw [hW1]; exact (below_new1 _ _).alloc (by simp) _
 have hx1 : W1.heap[W.heap.size]? = some (.cells #[.int .i64 x.1, .int .i64 x.2] 168 (0, 0)) := by rw [hW1]; exact (Below.heap_alloc _ _ _ (by simp)).trans (heap_alloc_new W _)
 have hy1 : W1.heap[W.heap.size + 1]? = some (.cells #[.int .i64 y.1, .int .i64 y.2] 168 (0, 0)) := by
  rw [hW1];have := heap_alloc_new (W.alloc (.cells #[.int .i64 x.1, .int .i64 x.2] 168)) (.cells #[.int .i64 y.1, .int .i64 y.2] 168)
  rwa [World.size_alloc] at this
 obtain ⟨x0, x1, _⟩ := cells2 hx1;obtain ⟨y0, y1, _⟩ := cells2 hy1;have b1 := (hb1.cell (p := ⟨Bx, 0, none⟩) (lt_of_cell cB)).trans cB;have t1 := (hb1.cell (p := ⟨t, 0, none⟩) (lt_of_cell cT)).trans cT;obtain ⟨i, hi⟩ : ∃ i : Int, i = compareInt ((f x).getD 0 : Nat) ((f y).getD 0 : Nat) := ⟨_, rfl⟩;obtain ⟨j, hj⟩ : ∃ j : Int, j = compareInt x.1 y.1 := ⟨_, rfl⟩;obtain ⟨k, hk⟩ : ∃ k : Int, k = compareInt x.2 y.2 := ⟨_, rfl⟩;have hcf : cfK f x y = orI [i, j, k] := by unfold cfK; rw [hi, hj, hk]
 obtain ⟨W2, hW2⟩ : ∃ W2, W2 = W1.drew.alloc (.cells #[.int .i64 i, .int .i64 j, .int .i64 k] 3) := ⟨_, rfl⟩;have hb2 : Below W1.heap.size W1 W2 := by rw [hW2]; exact (below_draw W1 1).alloc (Nat.le_refl _) _
 have lx0 := hlk W1.drew x (hb1.trans ((below_draw W1 1).mono hb1.size));have ly0 := hlk W1.drew y (hb1.trans ((below_draw W1 1).mono hb1.size));have lx2 := hlk W2 x (hb1.trans (hb2.mono hb1.size));have ly2 := hlk W2 y (hb1.trans (hb2.mono hb1.size));have x02 := (hb2.cell (p := ⟨W.heap.size, 0, none⟩) (lt_of_cell x0)).trans x0;have x12 := (hb2.cell (p := ⟨W.heap.size, 1, none⟩) (lt_of_cell x1)).trans x1;have y02 := (hb2.cell (p := ⟨W.heap.size + 1, 0, none⟩) (lt_of_cell y0)).trans y0;have y12 := (hb2.cell (p := ⟨W.heap.size + 1, 1, none⟩) (lt_of_cell y1)).trans y1;have b2 := (hb2.cell (p := ⟨Bx, 0, none⟩) (lt_of_cell b1)).trans b1;have t2 := (hb2.cell (p := ⟨t, 0, none⟩) (lt_of_cell t1)).trans t1;have HI := Lib.hid (fun w => AnyG.cmp_Compare_int Tryz.cmpInt ((f x).getD 0 : Nat) ((f y).getD 0 : Nat) w);have HJ := Lib.hid (fun w => AnyG.cmp_Compare_int Tryz.cmpEdge x.1 y.1 w);have HK := Lib.hid (fun w => AnyG.cmp_Compare_int Tryz.cmpEdge x.2 y.2 w)
 have HOR : Hid (Calls Tryz.prog 166 #[.slice (some ⟨W1.drew.heap.size, 0, none⟩) 3 3] W2 fun e w' => e = .returned (.int .i64 (orI [i, j, k])) /\ w' = W2) := Lib.hid (or_any _ 3 [i, j, k] W2 ⟨by simp, fun q hq => ⟨_, 0, rfl, by
  rw [Nat.zero_add, hW2, cell_of_row _ _ _ _ _ _ (heap_alloc_new W1.drew _)];simp only [List.length_cons, List.length_nil] at hq
  match q, hq with
  | 0, _ => rfl
  | 1, _ => rfl
  | 2, _ => rfl⟩⟩ (by simp))
 have HW1 : Hid (_ = W1) := Lib.hid hW1.symm;have HW2 : Hid (_ = W2) := Lib.hid hW2.symm;have HEQ : Hid (W2 = grow (W.drewN 1) #[.cells #[.int .i64 x.1, .int .i64 x.2] 168, .cells #[.int .i64 y.1, .int .i64 y.2] 168, .cells #[.int .i64 i, .int .i64 j, .int .i64 k] 3]) := Lib.hid (by rw [hW2, hW1, drew_alloc, drew_alloc, alloc_eq_grow, alloc_eq_grow, alloc_eq_grow, grow_grow, grow_grow]; rfl);rw [<- hi] at HI;rw [<- hj] at HJ;rw [<- hk] at HK;rw [hcf];clear hW1 hW2 hb1 hb2 hlk cB cT hi hj hk hcf hx1 hy1
 go_enter Tryz.func165, Tryz.ntmps165
 go_upto_region 1 with fail;rw [HW1.out];refine wp_region_mix (fun W : World => W = W1.drew \/ W = W2) false 26 [(0, false), (1, false), (2, false), (3, false), (4, false), (5, false), (6, false), (7, false), (8, false), (9, false), (10, false), (11, false), (13, false), (14, false), (15, false), (16, false), (18, false), (19, false), (20, false), (21, false), (12, true), (17, true), (22, true), (23, true), (24, true), (25, false)] (by kernel_rfl) (by kernel_rfl) (.inl rfl) ?_;simp only [planned, plnLz]
 iterate 20
  refine mix_readE rfl ?_;apply Exists.intro;refine ⟨fun w' hw => ?_, ?_⟩
  ·
   rcases hw with rfl | rfl
   ·
    go_simp;rfl
   ·
    go_simp
    all_goals (try rfl)
  simp only [putLz]
 refine mix_callR (R := fun v w' => v = .int .i64 i /\ w' = W1.drew) rfl (by go_simp; rfl) ((HI.out _).mono (fun e w' h => ⟨_, h.1, .inl h.2, rfl, h.2⟩)) ?_;rintro _ w' _ ⟨rfl, rfl⟩;simp only [putLz];refine mix_callR (R := fun v w' => v = .int .i64 j /\ w' = W1.drew) rfl (by go_simp; rfl) ((HJ.out _).mono (fun e w' h => ⟨_, h.1, .inl h.2, rfl, h.2⟩)) ?_;rintro _ w' _ ⟨rfl, rfl⟩;simp only [putLz];refine mix_callR (R := fun v w' => v = .int .i64 k /\ w' = W1.drew) rfl (by go_simp; rfl) ((HK.out _).mono (fun e w' h => ⟨_, h.1, .inl h.2, rfl, h.2⟩)) ?_;rintro _ w' _ ⟨rfl, rfl⟩;simp only [putLz];refine mix_eff rfl (fun K hK => ?_);unfold Oper.wp;go_simp;rw [drew_alloc, HW2.out];refine hK _ _ (.inr rfl) ?_;refine mix_callR (R := fun v w' => v = .int .i64 (orI [i, j, k]) /\ w' = W2) rfl (by go_simp) (HOR.out.mono (fun e w' h => ⟨_, h.1, .inr h.2, rfl, h.2⟩)) ?_;rintro _ w' _ ⟨rfl, rfl⟩;simp only [putLz];refine mix_readE rfl ?_;apply Exists.intro;refine ⟨fun w' hw => ?_, ?_⟩
 ·
  go_simp;rfl
 simp only [putLz];refine mix_end ?_;go_wp2_with fail;go_ret;exact ⟨rfl, _, _, HEQ.out⟩
end Go.Proofs.YtchliiaknmknhaaGreat

namespace Go.Proofs.YtchliiaknmknhaaGreat
open Go.RowKit Go.Shelf Go.Lib Go.Sort
theorem sw_heap (w : World) (blk m : Nat) (dk : Array (Nat × Nat)) (os : Array Obj) {g : Nat} (hg : g < w.heap.size) (hne : g ≠ blk) : (sortWorldK keyCs 2 w blk 0 m dk os).heap[g]? = w.heap[g]? := by
 unfold sortWorldK grow putRowK putRow mapBlock;simp [Array.getElem?_append, Array.getElem?_modify, Array.getElem_modify, hg, Ne.symm hne]
theorem sw_size (w : World) (blk m : Nat) (dk : Array (Nat × Nat)) (os : Array Obj) : w.heap.size <= (sortWorldK keyCs 2 w blk 0 m dk os).heap.size := by
 have h : (sortWorldK keyCs 2 w blk 0 m dk os).heap.size = w.heap.size + os.size := by
  unfold sortWorldK grow putRowK;simp
 omega
theorem lookK {w : World} {mb : Nat} {lm : List ((Nat × Nat) × Value)} {f : Nat × Nat -> Option Nat} (h : MapIs w mb encE lm) (hf : ∀ k, getL lm k = (f k).map (fun (id : Nat) => Value.int .i64 id)) (k : Nat × Nat) :
 (Instr.lookup 191 (.map (some mb)) (.agg #[.int .i64 k.1, .int .i64 k.2]) false).run Tryz.prog w = .ok (.int .i64 ((f k).getD 0 : Nat)) w := by
 have h1 := h.lookup kEdge Tryz.underlying191 Tryz.zeroValue3 k false;rw [hf k] at h1;cases hk : f k with
 | none => rw [hk] at h1; exact h1
 | some id => rw [hk] at h1; exact h1
theorem keySort_any {f : Nat × Nat -> Option Nat} {ks : List (Nat × Nat)} {Bx t mb blk cap : Nat} {w : World} {lm : List ((Nat × Nat) × Value)} (hH : HoldsK keyCs 2 w blk 0 ks.toArray) (hblk : blk < w.heap.size) (hlen : ks.length < 1000000000)
 (cB : w.cell? ⟨Bx, 0, none⟩ = some (.pointer (some ⟨t, 0, none⟩))) (cT : w.cell? ⟨t, 0, none⟩ = some (.map (some mb))) (hm : MapIs w mb encE lm) (hf : ∀ k, getL lm k = (f k).map (fun (id : Nat) => Value.int .i64 id)) (n1 : Bx ≠ blk) (n2 : t ≠ blk) (n3 : mb ≠ blk) :
 Calls Tryz.prog 164 #[.slice (some ⟨blk, 0, none⟩) ks.length cap, .func (.func 165) #[] #[.pointer (some ⟨Bx, 0, none⟩)]] w fun e w' => e = .returned (.tuple #[]) /\ ∃ ks' : List (Nat × Nat), ks'.Perm ks /\ HoldsK keyCs 2 w' blk 0 ks'.toArray /\ w.heap.size <= w'.heap.size /\ w'.os = w.os /\ w'.tape = w.tape /\ w'.output = w.output /\ ∀ g, g < w.heap.size -> g ≠ blk -> w'.heap[g]? = w.heap[g]? := by
 have hcmp : CmpLays Tryz.prog 165 #[.pointer (some ⟨Bx, 0, none⟩)] keyCs 2 (cfK f) blk 0 ks.toArray.size w := by
  intro m os dk hs x y;have hk : ∀ {p : Addr} {v : Value}, w.cell? p = some v -> p.block ≠ blk -> (sortWorldK keyCs 2 w blk 0 m dk os).cell? p = some v := fun hc hn => (World.cell?_of_block (w := w) (sw_heap w blk m dk os (lt_of_cell hc) hn)).trans hc
  refine keyCmp_any f x y Bx t mb _ (hk cB n1) (hk cT n2) (fun W' k hb => ?_);obtain ⟨es, c, hme, rest⟩ := hm.ex;refine lookK (lm := lm) ⟨⟨es, c, Eq.trans ?_ hme, rest⟩, hm.nodup⟩ hf k;exact (hb.block mb (Nat.lt_of_lt_of_le hm.lt (sw_size w blk m dk os))).trans (sw_heap w blk m dk os hm.lt n3)
 have hcon := AnyQ.slices_SortFunc Tryz.sortKeys 2 Tryz.isAgg168 Tryz.sizeOf168 keyCs (fun _ => rfl) (fun x v hv => by simp [keyCs] at hv; rcases hv with rfl | rfl <;> rfl) (cfK f) (swoK f) 165 #[.pointer (some ⟨Bx, 0, none⟩)] blk 0 cap ks.toArray w (enters_of Tryz.func165 (by kernel_rfl) rfl) hcmp hH hblk (by simp; omega)
 change Calls Tryz.prog 164 _ _ _ at hcon
 have e : ks.toArray.size = ks.length := by simp
 rw [e] at hcon;refine hcon.mono ?_;rintro x w' ⟨rfl, d', n, os, hp, _, rfl⟩;obtain ⟨p1, _, p3⟩ := hp;have p1' : d'.size = ks.length := by simpa using p1
 refine ⟨rfl, d'.toList, ?_, ?_, sw_size _ _ _ _ _, rfl, rfl, rfl, fun g hg hne => sw_heap _ _ _ _ _ hg hne⟩
 ·
  have q1 : d'.extract 0 ks.length = d' := by rw [<- p1']; simp
  rw [q1] at p3;simpa using p3
 ·
  have h1 : HoldsK keyCs 2 (Sort.ahead w n) blk 0 ks.toArray := hH;have h2 := holdsK_putRowK keyCs 2 (Sort.ahead w n) blk 0 ks.toArray d' h1 (by simpa using p1');have h3 := holdsK_grow keyCs 2 (putRowK keyCs 2 (Sort.ahead w n) blk 0 d') os blk 0 d' (by simp [putRowK, putRow, mapBlock, hblk]) h2;simpa using (show HoldsK keyCs 2 (sortWorldK keyCs 2 w blk 0 n d' os) blk 0 d' from h3)
end Go.Proofs.YtchliiaknmknhaaGreat

namespace Go.Proofs.YtchliiaknmknhaaGreat
theorem good_keys {f : Nat × Nat -> Option Nat} {ks : List (Nat × Nat)} {lm : List ((Nat × Nat) × Value)} (hp : ks.Perm (lm.map Prod.fst)) (hn : (lm.map Prod.fst).Nodup) (hf : ∀ k, getL lm k = (f k).map (fun (id : Nat) => Value.int .i64 id)) {xs : List ((Nat × Nat) × Nat)} (hx : xs = ks.map (fun k => (k, (f k).getD 0))) :
 (xs.map Prod.fst).Nodup /\ ∀ k id, (k, id) ∈ xs ↔ f k = some id := by
 subst hx;have e : (ks.map (fun k => (k, (f k).getD 0))).map Prod.fst = ks := by simp [List.map_map, Function.comp_def]
 have hm : ∀ k, k ∈ ks ↔ f k ≠ none := fun k => by
  rw [hp.mem_iff];have h1 := getL_none (l := lm) (k := k);rw [hf k] at h1;constructor
  ·
   intro hk e;rw [e] at h1;obtain ⟨p, hp', rfl⟩ := List.mem_map.1 hk;exact h1.1 rfl p hp' rfl
  ·
   intro hk
   by_cases hc : k ∈ lm.map Prod.fst
   ·
    exact hc
   ·
    exfalso;have := h1.2 (fun p hp' e => hc (List.mem_map.2 ⟨p, hp', e⟩));cases h2 : f k with
    | none => exact hk h2
    | some i => rw [h2] at this; cases this
 refine ⟨by rw [e]; exact hp.nodup_iff.2 hn, fun k id => ?_⟩;simp only [List.mem_map, Prod.mk.injEq];constructor
 ·
  rintro ⟨k0, h0, rfl, rfl⟩;cases h2 : f k0 with
  | none => exact absurd h2 ((hm k0).1 h0)
  | some i => rfl
 ·
  intro h;exact ⟨k, (hm k).2 (by rw [h]; simp), rfl, by rw [h]; rfl⟩
theorem suf_keys {α : Type} {G : List α -> Prop} {xs : List α} (hg : G xs) {k : Nat} {x : α} (hx : xs[k]? = some x) : ∃ suf, G (xs.take k ++ x :: suf) /\ xs.take (k + 1) = xs.take k ++ [x] := by
 obtain ⟨hk, e⟩ := List.getElem?_eq_some_iff.1 hx;refine ⟨xs.drop (k + 1), ?_, by rw [List.take_succ_eq_append_getElem hk, e]⟩;have : xs.take k ++ x :: xs.drop (k + 1) = xs := by
  rw [<- e, <- List.drop_eq_getElem_cons hk]; exact List.take_append_drop k xs
 rw [this]; exact hg
open Go.RowKit
theorem storeSplit_any {o : Own} {w : World} {sb : Nat} {d : StoreD} {V : Nat -> BF} (h : StoreAt o w sb d) (hlt : OwnLt o w) (hk : StoreOK d V) (f : Nat) (hf : okE (nodesOf d) f) (v : Int) :
 Calls Tryz.prog 156 #[.pointer (some ⟨sb, 0, none⟩), .int .i64 f, .int .i64 v] w fun x w' => x = .returned (.tuple #[.int .i64 (cofs d f v).1, .int .i64 (cofs d f v).2]) /\ Below w.heap.size w w' := by
 have HA := Lib.hid (storeAt_ok h hlt hk f hf);clear h hk hlt hf;unfold atV at HA;unfold cofs;cases hb : nodesOf d (f / 2) with
 | none =>
   rw [hb] at HA;clear hb
   go_enter Tryz.func156, Tryz.ntmps156
   go_wp2_with fail;refine HA.out.mono ?_;rintro x w' ⟨rfl, hb⟩;have HB := Lib.hid hb;clear hb;go_wp2_with fail
   go_ret2
   exact ⟨rfl, HB.out⟩
 | some b =>
   rw [hb] at HA;clear hb
   by_cases e : (b.v : Int) = v
   ·
    subst e;have HE : Hid ((if (b.v : Int) = b.v then (eflip b.lo (eneg f), eflip b.hi (eneg f)) else (f, f)) = (eflip b.lo (eneg f), eflip b.hi (eneg f))) := by show _ = _; rw [if_pos rfl]
    go_enter Tryz.func156, Tryz.ntmps156
    go_wp2_with fail;refine HA.out.mono ?_;rintro x w' ⟨rfl, hb⟩;have HB := Lib.hid hb;clear hb;go_wp2_with fail
    go_ret2
    exact ⟨by first | rfl | (rw [HE.out]; rfl), HB.out⟩
   ·
    have HE : Hid ((if (b.v : Int) = v then (eflip b.lo (eneg f), eflip b.hi (eneg f)) else (f, f)) = (f, f)) := by show _ = _; rw [if_neg e]
    have H1 : ((b.v : Int) == v) = false := by simpa using e
    go_enter Tryz.func156, Tryz.ntmps156
    go_wp2_with fail;refine HA.out.mono ?_;rintro x w' ⟨rfl, hb⟩;have HB := Lib.hid hb;clear hb;go_wp2_with fail
    go_ret2
    exact ⟨by first | rfl | (rw [HE.out]; rfl), HB.out⟩
def swapD (d : StoreD) (k : Nat) : StoreD := { d with vars := (d.vars.set k (d.vars.getD (k + 1) 0)).set (k + 1) (d.vars.getD k 0), level := (d.level.set (d.vars.getD k 0) (k + 1)).set (d.vars.getD (k + 1) 0) k }
theorem sizeI64 : (Tryz.prog.info? 3).map (fun i => i.size) = some 1 := by kernel_rfl
theorem nat64_get {l : List Nat} {k : Nat} (hk : k < l.length) : (l.map nat64)[k]? = some (.int .i64 (l.getD k 0 : Nat)) := by
 rw [List.getElem?_map, List.getElem?_eq_getElem hk]; simp [nat64, List.getD, hk]
theorem levelsSwap_any {o : Own} {w : World} {sb : Nat} {d : StoreD} {s : StoreW} (h : StoreIn o w sb d s) (k : Nat) (hk : k + 1 < d.vars.length) (hl : d.vars.length <= 64) (ha : d.vars.getD k 0 < d.level.length) (hb : d.vars.getD (k + 1) 0 < d.level.length) :
 Calls Tryz.prog 136 #[.pointer (some ⟨s.lb, 0, none⟩), .int .i64 k] w fun x w' => x = .returned (.tuple #[]) /\ StoreIn o w' sb (swapD d k) s /\ Chg RStore o o w w' := by
 obtain ⟨d0, d1, _⟩ := cells2 h.lev;obtain ⟨gv, cv, hvv, hogv, _⟩ := h.vars.shape (by omega);obtain ⟨gl, cl, hvl, hogl, _⟩ := h.level.shape (by omega);have hlen := h.len;have r1 := h.vars;have r2 := h.level;rw [hvv] at r1 d0;rw [hvl] at r2 d1;have a0 := r1.cell k (by simp; omega);have a1 := r1.cell (k + 1) (by simp; omega);rw [nat64_get (by omega)] at a0;rw [nat64_get hk] at a1;obtain ⟨A, hA⟩ : ∃ A, A = d.vars.getD k 0 := ⟨_, rfl⟩;obtain ⟨B, hB⟩ : ∃ B, B = d.vars.getD (k + 1) 0 := ⟨_, rfl⟩;rw [<- hA] at a0 ha;rw [<- hB] at a1 hb;have b0 := r2.cell A (by simpa using ha);have b1 := r2.cell B (by simpa using hb);rw [nat64_get ha] at b0;rw [nat64_get hb] at b1;have fv := r1.frozen;have fl := r2.frozen;have hk0 : (k : Int) < d.vars.length := by omega
 have hk1 : (k : Int) + 1 < d.vars.length := by omega
 have nvl : gv ≠ s.lb := fun e => by have := h.ownl; rw [<- e, hogv] at this; cases this
 have nll : gl ≠ s.lb := fun e => by have := h.ownl; rw [<- e, hogl] at this; cases this
 have nvg : gv ≠ gl := fun e => by rw [e, hogl] at hogv; cases hogv
 have nvs : gv ≠ sb := fun e => by have := h.own; rw [<- e, hogv] at this; cases this
 have nls : gl ≠ sb := fun e => by have := h.own; rw [<- e, hogl] at this; cases this
 obtain ⟨LA, hLA⟩ : ∃ L, L = d.level.getD A 0 := ⟨_, rfl⟩;obtain ⟨LB, hLB⟩ : ∃ L, L = d.level.getD B 0 := ⟨_, rfl⟩;have HFIN : Hid (∀ w1 w2 : World, w1.heap = w.heap -> w1.os = w.os -> w1.tape = w.tape -> w1.output = w.output -> w2 = ((((w1.setCell ⟨gv, k, none⟩ (.int .i64 B)).setCell ⟨gv, k + 1, none⟩ (.int .i64 A)).setCell ⟨gl, A, none⟩ (.int .i64 (k + 1 : Nat))).setCell ⟨gl, B, none⟩ (.int .i64 k)) -> StoreIn o w2 sb (swapD d k) s /\ Chg RStore o o w w2) := by
  refine Lib.hid ?_;rintro w1 w2 e1 e2 e3 e4 rfl;have hsz : w1.heap.size = w.heap.size := by rw [e1]
  have hbl : Below w.heap.size w w1 := ⟨e2, e3, e4, by omega, fun k _ => by rw [e1]⟩;have hb' : ∀ g, g ≠ gv -> g ≠ gl -> ((((w1.setCell ⟨gv, k, none⟩ (.int .i64 B)).setCell ⟨gv, k + 1, none⟩ (.int .i64 A)).setCell ⟨gl, A, none⟩ (.int .i64 (k + 1 : Nat))).setCell ⟨gl, B, none⟩ (.int .i64 k)).heap[g]? = w.heap[g]? := fun g n1 n2 => by
   rw [heap_setCell_ne n2, heap_setCell_ne n2, heap_setCell_ne n1, heap_setCell_ne n1, e1]
  have k1 : ∀ {g r}, o g = some r -> r ≠ .vars -> r ≠ .level -> ((((w1.setCell ⟨gv, k, none⟩ (.int .i64 B)).setCell ⟨gv, k + 1, none⟩ (.int .i64 A)).setCell ⟨gl, A, none⟩ (.int .i64 (k + 1 : Nat))).setCell ⟨gl, B, none⟩ (.int .i64 k)).heap[g]? = w.heap[g]? := fun hg n1 n2 => hb' _ (by rintro rfl; rw [hogv] at hg; cases hg; exact n1 rfl) (by rintro rfl; rw [hogl] at hg; cases hg; exact n2 rfl)
  have hvr := h.vars.keep (w' := w1) (fun g _ => by rw [e1]) (fun _ h => h);rw [hvv] at hvr;have hvr2 := ((((hvr.stored k (.int .i64 B)).stored (k + 1) (.int .i64 A)).setCell_other (p := ⟨gl, A, none⟩) (by rw [hogl]; simp) (.int .i64 (k + 1 : Nat))).setCell_other (p := ⟨gl, B, none⟩) (by rw [hogl]; simp) (.int .i64 k));have hlr := h.level.keep (w' := w1) (fun g _ => by rw [e1]) (fun _ h => h);rw [hvl] at hlr;have hlr2 := (((hlr.setCell_other (p := ⟨gv, k, none⟩) (by rw [hogv]; simp) (.int .i64 B)).setCell_other (p := ⟨gv, k + 1, none⟩) (by rw [hogv]; simp) (.int .i64 A)).stored A (.int .i64 (k + 1 : Nat))).stored B (.int .i64 k)
  refine ⟨⟨h.own, h.ownl, (k1 h.own (by simp) (by simp)).trans h.blk, (k1 h.ownl (by simp) (by simp)).trans h.lev, ?_, ?_, h.pool.keep (fun g r hg hr => k1 hg (by rintro rfl; simp at hr) (by rintro rfl; simp at hr)) (fun _ _ h => h), h.tabs.keep (fun g hg => k1 hg (by simp) (by simp)) (fun _ h => h),
   fun v hv => (h.tab v hv).keep (fun g r hg hr => k1 hg (by rintro rfl; simp at hr) (by rintro rfl; simp at hr)) (fun _ _ h => h), h.counts.keep (fun g hg => k1 hg (by simp) (by simp)) (fun _ h => h), by simp [swapD, h.len], by simp [swapD, h.tlen]⟩, ?_⟩
  ·
   rw [hvv];simp only [swapD, List.length_set, List.map_set, <- hA, <- hB];exact hvr2
  ·
   rw [hvl];simp only [swapD, List.length_set, List.map_set, <- hA, <- hB];exact hlr2
  ·
   exact ((((Chg.of_below hbl RStore o).setCell (p := ⟨gv, k, none⟩) hogv (by simp [RStore]) _).setCell (p := ⟨gv, k + 1, none⟩) hogv (by simp [RStore]) _).setCell (p := ⟨gl, A, none⟩) hogl (by simp [RStore]) _).setCell (p := ⟨gl, B, none⟩) hogl (by simp [RStore]) _
 rw [<- hLA] at b0;rw [<- hLB] at b1;have hA1 : (A : Int) < d.level.length := by omega
 have hB1 : (B : Int) < d.level.length := by omega
 have HRV := Lib.hid r1;have HRL := Lib.hid r2;have hwr : IntKind.i64.wrap ((k : Int) + 1) = ((k + 1 : Nat) : Int) := by rw [IntWalk.i64_in _ (by omega)]; rfl
 have hk2 : ((k + 1 : Nat) : Int) < d.vars.length := by omega
 clear h hvv hvl hogv hogl hA hB hLA hLB r1 r2 hlen
 go_enter Tryz.func136, Tryz.ntmps136
 go_upto_region 0 with fail
 go_quiet (fail)
 go_upto_region 1 with fail;refine wp_region_mix (fun W : World => W.cell? ⟨s.lb, 0, none⟩ = some (.slice (some ⟨gv, 0, none⟩) d.vars.length cv) /\ True) true 16 [(0, false), (1, false), (2, false), (3, false), (4, false), (5, false), (6, false), (7, false), (8, false), (9, false), (10, false), (11, false), (12, false), (13, false), (14, true), (15, false), (16, true)] (by kernel_rfl) (by kernel_rfl) ⟨d0, trivial⟩ ?_;simp only [planned, plnLz]
 iterate 14
  refine mix_readE rfl ?_;apply Exists.intro;refine ⟨fun w' hw => ?_, ?_⟩
  ·
   obtain ⟨h1, _⟩ := hw;go_simp;rfl
  simp only [putLz]
 refine mix_store (w' := (w.drewN nq).drew.setCell ⟨gv, k, none⟩ (.int .i64 B)) rfl rfl (run_storeOne (w := (w.drewN nq).drew) sizeI64 a0 (fv _) rfl rfl) ⟨cell_setCell_ne (w := (w.drewN nq).drew) d0 (.inl nvl), trivial⟩ ?_;simp only [putLz]
 iterate 1
  refine mix_readE rfl ?_;apply Exists.intro;refine ⟨fun w' hw => ?_, ?_⟩
  ·
   obtain ⟨h1, _⟩ := hw;go_simp;rfl
  simp only [putLz]
 refine mix_storeLast (w' := ((w.drewN nq).drew.setCell ⟨gv, k, none⟩ (.int .i64 B)).setCell ⟨gv, k + 1, none⟩ (.int .i64 A)) rfl rfl (run_storeOne sizeI64 (cell_setCell_ne (w := (w.drewN nq).drew) a1 (.inr (by omega))) ((World.frozen?_setCell _ _ _ _).trans (fv _)) rfl rfl) ?_;simp only [putLz];obtain ⟨w4, hw4⟩ : ∃ w4, w4 = ((w.drewN nq).drew.setCell ⟨gv, k, none⟩ (.int .i64 B)).setCell ⟨gv, k + 1, none⟩ (.int .i64 A) := ⟨_, rfl⟩;have e1 : w4.cell? ⟨s.lb, 1, none⟩ = some (.slice (some ⟨gl, 0, none⟩) d.level.length cl) := by rw [hw4]; exact cell_setCell_ne (cell_setCell_ne (w := (w.drewN nq).drew) d1 (.inl nvl)) (.inl nvl)
 have g0 : w4.cell? ⟨gl, A, none⟩ = some (.int .i64 LA) := by rw [hw4]; exact cell_setCell_ne (cell_setCell_ne (w := (w.drewN nq).drew) b0 (.inl nvg)) (.inl nvg)
 have g1 : w4.cell? ⟨gl, B, none⟩ = some (.int .i64 LB) := by rw [hw4]; exact cell_setCell_ne (cell_setCell_ne (w := (w.drewN nq).drew) b1 (.inl nvg)) (.inl nvg)
 have fl4 : ∀ j, w4.frozen? ⟨gl, j, none⟩ = false := fun j => by rw [hw4]; exact (World.frozen?_setCell _ _ _ _).trans ((World.frozen?_setCell _ _ _ _).trans (fl j))
 have HW4 := Lib.hid hw4;rw [<- hw4];clear hw4 a0 a1 b0 b1 d0 d1 fv fl;go_upto_region 2 with fail;refine wp_region_mix (fun W : World => W.cell? ⟨s.lb, 1, none⟩ = some (.slice (some ⟨gl, 0, none⟩) d.level.length cl) /\ True) true 16 [(0, false), (1, false), (2, false), (3, false), (4, false), (5, false), (6, false), (7, false), (8, false), (9, false), (10, false), (11, false), (12, false), (13, false), (14, true), (15, false), (16, true)] (by kernel_rfl) (by kernel_rfl) ⟨e1, trivial⟩ ?_;simp only [planned, plnLz]
 iterate 14
  refine mix_readE rfl ?_;apply Exists.intro;refine ⟨fun w' hw => ?_, ?_⟩
  ·
   obtain ⟨h1, _⟩ := hw;go_simp;rfl
  simp only [putLz]
 refine mix_store (w' := w4.drew.setCell ⟨gl, A, none⟩ (.int .i64 (k + 1 : Nat))) rfl rfl (run_storeOne (w := w4.drew) sizeI64 g0 (fl4 _) rfl rfl) ⟨cell_setCell_ne (w := w4.drew) e1 (.inl nll), trivial⟩ ?_;simp only [putLz]
 iterate 1
  refine mix_readE rfl ?_;apply Exists.intro;refine ⟨fun w' hw => ?_, ?_⟩
  ·
   obtain ⟨h1, _⟩ := hw;go_simp;rfl
  simp only [putLz]
 have g1' : ∃ u, (w4.drew.setCell ⟨gl, A, none⟩ (.int .i64 (k + 1 : Nat))).cell? ⟨gl, B, none⟩ = some u := cell_ex (w := w4.drew) g1;obtain ⟨u, g1'⟩ := g1';refine mix_storeLast (w' := (w4.drew.setCell ⟨gl, A, none⟩ (.int .i64 (k + 1 : Nat))).setCell ⟨gl, B, none⟩ (.int .i64 k)) rfl rfl (run_storeOne sizeI64 g1' ((World.frozen?_setCell _ _ _ _).trans (fl4 _)) rfl rfl) ?_;simp only [putLz];go_wp2_with fail;go_end0;obtain ⟨q1, q2⟩ := HFIN.out ((w.drewN nq).drew.drew) ((w4.drew.setCell ⟨gl, A, none⟩ (.int .i64 (k + 1 : Nat))).setCell ⟨gl, B, none⟩ (.int .i64 k)) rfl rfl rfl rfl (by rw [HW4.out]; rfl);exact ⟨rfl, q1, q2⟩
end Go.Proofs.YtchliiaknmknhaaGreat

namespace Go.Proofs.YtchliiaknmknhaaGreat
section
variable {n : Nat} {lev : Nat -> Nat} {N0 : Nat -> Option BN} {V0 : Nat -> BF} {x y : Nat}
def swLev (lev : Nat -> Nat) (x y : Nat) : Nat -> Nat := fun v => if v = x then lev y else if v = y then lev x else lev v
def isV (N : Nat -> Option BN) (y e : Nat) : Prop := ∃ c, N (e / 2) = some c /\ c.v = y
def Turns (N : Nat -> Option BN) (x y : Nat) (i : Nat) : Prop := ∃ b, N i = some b /\ b.v = x /\ (isV N y b.lo \/ isV N y b.hi)
def lowE (n : Nat) (lev : Nat -> Nat) (N : Nat -> Option BN) (y e : Nat) : Prop := okE N e /\ lev y < lvE n lev N e
def midE (n : Nat) (lev : Nat -> Nat) (N0 N : Nat -> Option BN) (x y e : Nat) : Prop := lowE n lev N0 y e \/ ∃ c, N (e / 2) = some c /\ c.v = x /\ ¬ Turns N0 x y (e / 2)
structure MidSw (n : Nat) (lev : Nat -> Nat) (N0 : Nat -> Option BN) (V0 : Nat -> BF) (x y : Nat) (done : Nat -> Prop) (N : Nat -> Option BN) (V : Nat -> BF) : Prop where
 n0 : N 0 = none
 ext : ∀ i, (i = 0 \/ ∃ b, N0 i = some b) -> V i = V0 i
 keep : ∀ i b, N0 i = some b -> ¬ done i -> N i = some b
 fresh : ∀ i b, N i = some b -> N0 i = none -> b.v = x /\ lowE n lev N0 y b.lo /\ lowE n lev N0 y b.hi /\ b.hi % 2 = 0 /\ b.lo ≠ b.hi /\ V i = iteF x (ef V0 b.hi) (ef V0 b.lo)
 dn : ∀ i, done i -> Turns N0 x y i /\ ∃ b, N i = some b /\ b.v = y /\ midE n lev N0 N x y b.lo /\ midE n lev N0 N x y b.hi /\ b.hi % 2 = 0 /\ b.lo ≠ b.hi /\ V0 i = iteF y (ef V b.hi) (ef V b.lo)
 xu : ∀ i j b, N i = some b -> N j = some b -> b.v = x -> ¬ Turns N0 x y i -> ¬ Turns N0 x y j -> i = j
theorem efExt {V : Nat -> BF} (hext : ∀ i, (i = 0 \/ ∃ b, N0 i = some b) -> V i = V0 i) {e : Nat} (h : okE N0 e) : ef V e = ef V0 e := by
 funext ρ;simp only [ef, hext _ h]
theorem MidSw.start (h : Dag n lev N0 V0) (x y : Nat) : MidSw n lev N0 V0 x y (fun _ => False) N0 V0 :=
 ⟨h.none0, fun _ _ => rfl, fun _ _ h _ => h, fun i b hb hn => by (rw [hn] at hb; cases hb), fun _ h => h.elim, fun i j b hi hj _ _ _ => h.uniq i j b hi hj⟩
variable {done : Nat -> Prop} {N : Nat -> Option BN} {V : Nat -> BF}
theorem MidSw.has (m : MidSw n lev N0 V0 x y done N V) {i : Nat} {b : BN} (hb : N0 i = some b) : ∃ b', N i = some b' := by
 by_cases hd : done i
 ·
  obtain ⟨_, b', hb', _⟩ := m.dn i hd; exact ⟨b', hb'⟩
 ·
  exact ⟨b, m.keep i b hb hd⟩
theorem MidSw.add (m : MidSw n lev N0 V0 x y done N V) {id : Nat} {b : BN} (hf : N id = none) (hid : id ≠ 0) (hv : b.v = x)
 (hlo : lowE n lev N0 y b.lo) (hhi : lowE n lev N0 y b.hi) (hr : b.hi % 2 = 0) (hne : b.lo ≠ b.hi) (hnew : ∀ i, ¬ Turns N0 x y i -> N i ≠ some b) :
 MidSw n lev N0 V0 x y done (addN N id b) (addV V id b) := by
 have hf0 : N0 id = none := by
  cases e : N0 id with
  | none => rfl
  | some c => obtain ⟨b', hb'⟩ := m.has e; rw [hf] at hb'; cases hb'
 have ne0 : ∀ i, (i = 0 \/ ∃ b, N0 i = some b) -> i ≠ id := by
  rintro i (rfl | ⟨c, hc⟩)
  ·
   exact Ne.symm hid
  ·
   rintro rfl; rw [hf0] at hc; cases hc
 have cs : ∀ i c, addN N id b i = some c -> (i = id /\ c = b) \/ (i ≠ id /\ N i = some c) := by
  intro i c hx
  by_cases e : i = id
  ·
   subst e; rw [addN_same] at hx; exact .inl ⟨rfl, (Option.some.inj hx).symm⟩
  ·
   rw [addN_other _ e] at hx; exact .inr ⟨e, hx⟩
 have hext : ∀ i, (i = 0 \/ ∃ b, N0 i = some b) -> addV V id b i = V0 i := fun i hi => by
  simp only [addV, if_neg (ne0 i hi)]; exact m.ext i hi
 refine ⟨by rw [addN_other _ (Ne.symm hid)]; exact m.n0, hext, ?_, ?_, ?_, ?_⟩
 ·
  intro i c hc hd;rw [addN_other _ (ne0 i (.inr ⟨c, hc⟩))]; exact m.keep i c hc hd
 ·
  intro i c hc hn;rcases cs i c hc with ⟨e1, e2⟩ | ⟨hne', hc'⟩
  ·
   subst e1; subst e2
   exact ⟨hv, hlo, hhi, hr, hne, by simp only [addV, if_true, hv, efExt m.ext hlo.1, efExt m.ext hhi.1]⟩
  ·
   obtain ⟨h1, h2, h3, h4, h5, h6⟩ := m.fresh i c hc' hn;exact ⟨h1, h2, h3, h4, h5, by simp only [addV, if_neg hne']; exact h6⟩
 ·
  intro i hd;obtain ⟨hT, c, hc, h1, h2, h3, h4, h5, h6⟩ := m.dn i hd;have hmid : ∀ e, midE n lev N0 N x y e -> midE n lev N0 (addN N id b) x y e /\ ef (addV V id b) e = ef V e := by
   rintro e (hl | ⟨d, hd1, hd2, hd3⟩)
   ·
    exact ⟨.inl hl, by rw [efExt hext hl.1, efExt m.ext hl.1]⟩
   ·
    have hne' : e / 2 ≠ id := by rintro e'; rw [e', hf] at hd1; cases hd1
    refine ⟨.inr ⟨d, by rw [addN_other _ hne']; exact hd1, hd2, hd3⟩, ?_⟩;funext ρ; simp only [ef, addV, if_neg hne']
  have hii : i ≠ id := ne0 i (.inr (by obtain ⟨q, hq, _⟩ := hT; exact ⟨q, hq⟩));exact ⟨hT, c, by rw [addN_other _ hii]; exact hc, h1, (hmid _ h2).1, (hmid _ h3).1, h4, h5, by rw [(hmid _ h2).2, (hmid _ h3).2]; exact h6⟩
 ·
  intro i j c hi hj hcx ti tj;rcases cs i c hi with ⟨e1, e2⟩ | ⟨_, hi'⟩
  ·
   rcases cs j c hj with ⟨e3, _⟩ | ⟨_, hj'⟩
   ·
    rw [e1, e3]
   ·
    subst e2; exact absurd hj' (hnew j tj)
  ·
   rcases cs j c hj with ⟨_, e2⟩ | ⟨_, hj'⟩
   ·
    subst e2; exact absurd hi' (hnew i ti)
   ·
    exact m.xu i j c hi' hj' hcx ti tj
def setN (N : Nat -> Option BN) (i : Nat) (b : BN) : Nat -> Option BN := fun j => if j = i then some b else N j
theorem MidSw.turn (m : MidSw n lev N0 V0 x y done N V) (hxy : x ≠ y) {i lo hi : Nat} (hT : Turns N0 x y i) (hlo : midE n lev N0 N x y lo) (hhi : midE n lev N0 N x y hi) (hr : hi % 2 = 0) (hne : lo ≠ hi)
 (hV : V0 i = iteF y (ef V hi) (ef V lo)) : MidSw n lev N0 V0 x y (fun j => done j \/ j = i) (setN N i ⟨y, lo, hi⟩) V := by
 obtain ⟨b0, hb0, hbx, hby⟩ := hT;have hT : Turns N0 x y i := ⟨b0, hb0, hbx, hby⟩;have hi0 : i ≠ 0 := by
  rintro rfl;obtain ⟨b', hb'⟩ := m.has hb0;rw [m.n0] at hb'; cases hb'
 have cs : ∀ j c, setN N i ⟨y, lo, hi⟩ j = some c -> (j = i /\ c = ⟨y, lo, hi⟩) \/ (j ≠ i /\ N j = some c) := by
  intro j c hx
  by_cases e : j = i
  ·
   subst e; simp only [setN, if_true, Option.some.injEq] at hx; exact .inl ⟨rfl, hx.symm⟩
  ·
   simp only [setN, if_neg e] at hx; exact .inr ⟨e, hx⟩
 have hmid : ∀ e, midE n lev N0 N x y e -> midE n lev N0 (setN N i ⟨y, lo, hi⟩) x y e := by
  rintro e (hl | ⟨d, hd1, hd2, hd3⟩)
  ·
   exact .inl hl
  ·
   have hne' : e / 2 ≠ i := by rintro e'; rw [e'] at hd3; exact hd3 hT
   exact .inr ⟨d, by simp only [setN, if_neg hne']; exact hd1, hd2, hd3⟩
 refine ⟨by simp only [setN, if_neg (Ne.symm hi0)]; exact m.n0, m.ext, ?_, ?_, ?_, ?_⟩
 ·
  intro j c hc hd;have hji : j ≠ i := fun e => hd (.inr e)
  simp only [setN, if_neg hji];exact m.keep j c hc (fun h => hd (.inl h))
 ·
  intro j c hc hn;rcases cs j c hc with ⟨e1, _⟩ | ⟨_, hc'⟩
  ·
   subst e1; rw [hb0] at hn; cases hn
  ·
   exact m.fresh j c hc' hn
 ·
  intro j hd
  by_cases e : j = i
  ·
   subst e;exact ⟨hT, ⟨y, lo, hi⟩, by simp only [setN, if_true], rfl, hmid _ hlo, hmid _ hhi, hr, hne, hV⟩
  ·
   obtain ⟨hTj, c, hc, h1, h2, h3, h4, h5, h6⟩ := m.dn j (hd.resolve_right e);exact ⟨hTj, c, by simp only [setN, if_neg e]; exact hc, h1, hmid _ h2, hmid _ h3, h4, h5, h6⟩
 ·
  intro j k c hj hk hcx tj tk;rcases cs j c hj with ⟨e1, e2⟩ | ⟨_, hj'⟩
  ·
   subst e2; exact absurd hcx.symm hxy
  ·
   rcases cs k c hk with ⟨e1, e2⟩ | ⟨_, hk'⟩
   ·
    subst e2; exact absurd hcx.symm hxy
   ·
    exact m.xu j k c hj' hk' hcx tj tk
theorem swLev_x (lev : Nat -> Nat) (x y : Nat) : swLev lev x y x = lev y := by simp [swLev]
theorem swLev_y (lev : Nat -> Nat) {x y : Nat} (h : x ≠ y) : swLev lev x y y = lev x := by simp [swLev, Ne.symm h]
theorem swLev_o (lev : Nat -> Nat) {x y v : Nat} (hx : v ≠ x) (hy : v ≠ y) : swLev lev x y v = lev v := by simp [swLev, hx, hy]
theorem lowE_some {e : Nat} (hxl : lev x < lev y) (hl : lowE n lev N0 y e) {c : BN} (hc : N0 (e / 2) = some c) : c.v ≠ x /\ c.v ≠ y := by
 have := hl.2;simp only [lvE, hc] at this;exact ⟨by rintro e; rw [e] at this; omega, by rintro e; rw [e] at this; omega⟩
theorem MidSw.final (h : Dag n lev N0 V0) (hx : x < n) (hy : y < n) (hl : lev y = lev x + 1) (m : MidSw n lev N0 V0 x y done N V) (hall : ∀ i, Turns N0 x y i -> done i) : Dag n (swLev lev x y) N V := by
 have hxy : x ≠ y := by rintro rfl; omega
 have hlt : lev x < lev y := by omega
 have kinds : ∀ i b, N i = some b -> (N0 i = none /\ b.v = x /\ lowE n lev N0 y b.lo /\ lowE n lev N0 y b.hi /\ b.hi % 2 = 0 /\ b.lo ≠ b.hi /\ V i = iteF x (ef V0 b.hi) (ef V0 b.lo)) \/
  (Turns N0 x y i /\ b.v = y /\ midE n lev N0 N x y b.lo /\ midE n lev N0 N x y b.hi /\ b.hi % 2 = 0 /\ b.lo ≠ b.hi /\ V0 i = iteF y (ef V b.hi) (ef V b.lo)) \/
  (N0 i = some b /\ ¬ Turns N0 x y i) := by
  intro i b hb;cases e : N0 i with
  | none => exact .inl ⟨rfl, m.fresh i b hb e⟩
  | some c =>
    right
    by_cases hd : done i
    ·
     obtain ⟨hT, b', hb', rest⟩ := m.dn i hd;obtain rfl : b' = b := Option.some.inj (hb'.symm.trans hb);exact .inl ⟨hT, rest⟩
    ·
     have := m.keep i c e hd;obtain rfl : c = b := Option.some.inj (this.symm.trans hb);exact .inr ⟨rfl, fun hT => hd (hall i hT)⟩
 have low : ∀ e, lowE n lev N0 y e -> okE N e /\ lvE n (swLev lev x y) N e = lvE n lev N0 e /\ ef V e = ef V0 e := by
  intro e he;refine ⟨?_, ?_, efExt m.ext he.1⟩
  ·
   rcases he.1 with h0 | ⟨c, hc⟩
   ·
    exact .inl h0
   ·
    obtain ⟨b', hb'⟩ := m.has hc; exact .inr ⟨b', hb'⟩
  ·
   rcases he.1 with h0 | ⟨c, hc⟩
   ·
    simp only [lvE, h0, m.n0, h.none0]
   ·
    have hcv := lowE_some hlt he hc;have hnd : ¬ done (e / 2) := fun hd => by
     obtain ⟨⟨q, hq, hqx, _⟩, _⟩ := m.dn _ hd;rw [hc] at hq; cases hq; exact hcv.1 hqx
    simp only [lvE, m.keep _ _ hc hnd, hc, swLev_o lev hcv.1 hcv.2]
 have mid : ∀ e, midE n lev N0 N x y e -> okE N e /\ lev x < lvE n (swLev lev x y) N e := by
  rintro e (he | ⟨c, hc, hcx, _⟩)
  ·
   obtain ⟨h1, h2, _⟩ := low e he;exact ⟨h1, by rw [h2]; have := he.2; omega⟩
  ·
   exact ⟨.inr ⟨c, hc⟩, by simp only [lvE, hc, hcx, swLev_x]; omega⟩
 have old : ∀ i b e, N0 i = some b -> ¬ Turns N0 x y i -> (e = b.lo \/ e = b.hi) -> okE N e /\ swLev lev x y b.v < lvE n (swLev lev x y) N e /\ ef V e = ef V0 e := by
  intro i b e hb hnT he;have ho : okE N0 e := by rcases he with rfl | rfl; exact h.okLo _ _ hb; exact h.okHi _ _ hb
  have hlv : lev b.v < lvE n lev N0 e := by rcases he with rfl | rfl; exact h.lvLo _ _ hb; exact h.lvHi _ _ hb
  have hny : b.v = x -> ¬ isV N0 y e := fun hbx hiv => hnT ⟨b, hb, hbx, by rcases he with rfl | rfl; exact .inl hiv; exact .inr hiv⟩
  refine ⟨?_, ?_, efExt m.ext ho⟩
  ·
   rcases ho with h0 | ⟨c, hc⟩
   ·
    exact .inl h0
   ·
    obtain ⟨b', hb'⟩ := m.has hc; exact .inr ⟨b', hb'⟩
  ·
   by_cases hbx : b.v = x
   ·
    have hlow : lowE n lev N0 y e := by
     refine ⟨ho, ?_⟩;rw [hbx] at hlv;rcases ho with h0 | ⟨c, hc⟩
     ·
      simp only [lvE, h0, h.none0] at hlv ⊢; exact h.lt y hy
     ·
      simp only [lvE, hc] at hlv ⊢;have : c.v ≠ y := fun e' => hny hbx ⟨c, hc, e'⟩
      have h2 : lev c.v ≠ lev y := fun e' => this (h.inj _ _ (h.var _ _ hc) hy e')
      omega
    rw [(low e hlow).2.1, hbx, swLev_x]; exact hlow.2
   ·
    by_cases hby : b.v = y
    ·
     have hlow : lowE n lev N0 y e := ⟨ho, by rw [hby] at hlv; exact hlv⟩;rw [(low e hlow).2.1, hby, swLev_y lev hxy]; have := hlow.2; omega
    ·
     rw [swLev_o lev hbx hby];rcases ho with h0 | ⟨c, hc⟩
     ·
      simp only [lvE, h0, m.n0]; exact h.lt _ (h.var _ _ hb)
     ·
      simp only [lvE, hc] at hlv;have hcn := h.var _ _ hc
      by_cases hd : done (e / 2)
      ·
       obtain ⟨⟨q, hq, hqx, _⟩, b', hb', hb'y, _⟩ := m.dn _ hd;rw [hc] at hq; cases hq
       simp only [lvE, hb', hb'y, swLev_y lev hxy];rw [hqx] at hlv; exact hlv
      ·
       simp only [lvE, m.keep _ _ hc hd]
       by_cases hcx : c.v = x
       ·
        rw [hcx, swLev_x]; rw [hcx] at hlv; omega
       ·
        by_cases hcy : c.v = y
        ·
         rw [hcy, swLev_y lev hxy];rw [hcy] at hlv;have h2 : lev b.v ≠ lev x := fun e' => hbx (h.inj _ _ (h.var _ _ hb) hx e')
         omega
        ·
         rw [swLev_o lev hcx hcy]; exact hlv
 refine ⟨fun ρ => by rw [m.ext 0 (.inl rfl)]; exact h.one ρ, m.n0, ?_, ?_, ?_, ?_, ?_, ?_, ?_, ?_, ?_, ?_, ?_⟩
 ·
  intro i b hb;rcases kinds i b hb with ⟨_, hv, _⟩ | ⟨_, hv, _⟩ | ⟨h0, _⟩
  ·
   rw [hv]; exact hx
  ·
   rw [hv]; exact hy
  ·
   exact h.var _ _ h0
 ·
  intro u v hu hv he;have hs : ∀ u, u < n -> swLev lev x y u = lev (if u = x then y else if u = y then x else u) := by
   intro u _; simp only [swLev]; (split; · rfl); split <;> rfl
  have hb : ∀ u, u < n -> (if u = x then y else if u = y then x else u) < n := by
   intro u hu; (split; · exact hy); (split; · exact hx); exact hu
  rw [hs u hu, hs v hv] at he;have := h.inj _ _ (hb u hu) (hb v hv) he
  by_cases a : u = x
  ·
   rw [if_pos a] at this
   by_cases b : v = x
   ·
    rw [a, b]
   ·
    rw [if_neg b] at this
    by_cases c : v = y
    ·
     rw [if_pos c] at this; exact absurd this.symm hxy
    ·
     rw [if_neg c] at this; exact absurd this.symm c
  ·
   rw [if_neg a] at this
   by_cases b : v = x
   ·
    rw [if_pos b] at this
    by_cases c : u = y
    ·
     rw [if_pos c] at this; exact absurd this hxy
    ·
     rw [if_neg c] at this; exact absurd this c
   ·
    rw [if_neg b] at this
    by_cases c : u = y
    ·
     rw [if_pos c] at this
     by_cases d : v = y
     ·
      rw [c, d]
     ·
      rw [if_neg d] at this; exact absurd this.symm b
    ·
     rw [if_neg c] at this
     by_cases d : v = y
     ·
      rw [if_pos d] at this; exact absurd this a
     ·
      rw [if_neg d] at this; exact this
 ·
  intro v hv;simp only [swLev];split
  ·
   exact h.lt y hy
  ·
   split
   ·
    exact h.lt x hx
   ·
    exact h.lt v hv
 ·
  intro i b hb;rcases kinds i b hb with ⟨_, _, hlo, _⟩ | ⟨_, _, hlo, _⟩ | ⟨h0, hnT⟩
  ·
   exact (low _ hlo).1
  ·
   exact (mid _ hlo).1
  ·
   exact (old i b b.lo h0 hnT (.inl rfl)).1
 ·
  intro i b hb;rcases kinds i b hb with ⟨_, _, _, hhi, _⟩ | ⟨_, _, _, hhi, _⟩ | ⟨h0, hnT⟩
  ·
   exact (low _ hhi).1
  ·
   exact (mid _ hhi).1
  ·
   exact (old i b b.hi h0 hnT (.inr rfl)).1
 ·
  intro i b hb;rcases kinds i b hb with ⟨_, hv, hlo, _⟩ | ⟨_, hv, hlo, _⟩ | ⟨h0, hnT⟩
  ·
   rw [hv, swLev_x, (low _ hlo).2.1]; exact hlo.2
  ·
   rw [hv, swLev_y lev hxy]; exact (mid _ hlo).2
  ·
   exact (old i b b.lo h0 hnT (.inl rfl)).2.1
 ·
  intro i b hb;rcases kinds i b hb with ⟨_, hv, _, hhi, _⟩ | ⟨_, hv, _, hhi, _⟩ | ⟨h0, hnT⟩
  ·
   rw [hv, swLev_x, (low _ hhi).2.1]; exact hhi.2
  ·
   rw [hv, swLev_y lev hxy]; exact (mid _ hhi).2
  ·
   exact (old i b b.hi h0 hnT (.inr rfl)).2.1
 ·
  intro i b hb;rcases kinds i b hb with ⟨_, _, _, _, hr, _⟩ | ⟨_, _, _, _, hr, _⟩ | ⟨h0, _⟩
  ·
   exact hr
  ·
   exact hr
  ·
   exact h.reg _ _ h0
 ·
  intro i b hb;rcases kinds i b hb with ⟨_, _, _, _, _, hne, _⟩ | ⟨_, _, _, _, _, hne, _⟩ | ⟨h0, _⟩
  ·
   exact hne
  ·
   exact hne
  ·
   exact h.ne _ _ h0
 ·
  intro i j b hi hj;have yFn : ∀ i, N i = some b -> b.v = y -> (∃ c, N0 i = some c) /\ V0 i = iteF y (ef V b.hi) (ef V b.lo) := by
   intro i hi hv;rcases kinds i b hi with ⟨_, hvx, _⟩ | ⟨⟨q, hq, _⟩, _, _, _, _, _, hV⟩ | ⟨h0, hnT⟩
   ·
    rw [hv] at hvx; exact absurd hvx.symm hxy
   ·
    exact ⟨⟨q, hq⟩, hV⟩
   ·
    refine ⟨⟨b, h0⟩, ?_⟩;rw [(old i b b.lo h0 hnT (.inl rfl)).2.2, (old i b b.hi h0 hnT (.inr rfl)).2.2, <- hv]; exact h.eqn _ _ h0
  have xT : b.v = x -> ∀ i, N i = some b -> ¬ Turns N0 x y i := by
   intro hv i hi hT;obtain ⟨_, b', hb', hb'y, _⟩ := m.dn i (hall i hT);rw [hi] at hb'; cases hb'
   rw [hv] at hb'y; exact hxy hb'y
  by_cases hvx : b.v = x
  ·
   exact m.xu i j b hi hj hvx (xT hvx i hi) (xT hvx j hj)
  ·
   by_cases hvy : b.v = y
   ·
    obtain ⟨⟨c, hc⟩, e1⟩ := yFn i hi hvy;obtain ⟨⟨d, hd⟩, e2⟩ := yFn j hj hvy;have : 2 * i = 2 * j := by
     refine h.canon (okE_two hc) (okE_two hd) ?_;funext ρ;have h1 : 2 * i / 2 = i := by omega
     have h2 : 2 * j / 2 = j := by omega
     have h3 : 2 * i % 2 = 0 := by omega
     have h4 : 2 * j % 2 = 0 := by omega
     simp only [ef, h1, h2, h3, h4, e1, e2]
    omega
   ·
    have o : ∀ i, N i = some b -> N0 i = some b := by
     intro i hi;rcases kinds i b hi with ⟨_, hv, _⟩ | ⟨_, hv, _⟩ | ⟨h0, _⟩
     ·
      exact absurd hv hvx
     ·
      exact absurd hv hvy
     ·
      exact h0
    exact h.uniq i j b (o i hi) (o j hj)
 ·
  intro i b hb;rcases kinds i b hb with ⟨_, hv, hlo, hhi, _, _, hV⟩ | ⟨hT, hv, _, _, _, _, hV⟩ | ⟨h0, hnT⟩
  ·
   rw [hV, hv, (low _ hlo).2.2, (low _ hhi).2.2]
  ·
   obtain ⟨q, hq, _⟩ := hT;rw [m.ext i (.inr ⟨q, hq⟩), hV, hv]
  ·
   rw [m.ext i (.inr ⟨b, h0⟩), (old i b b.lo h0 hnT (.inl rfl)).2.2, (old i b b.hi h0 hnT (.inr rfl)).2.2]; exact h.eqn _ _ h0
end
end Go.Proofs.YtchliiaknmknhaaGreat

namespace Go.Proofs.YtchliiaknmknhaaGreat
open Go.RowKit Go.Shelf
structure TN where
 n : RN
 ll : Nat
 lh : Nat
 hl : Nat
 hh : Nat
def tnV (t : TN) : List Value := rnV t.n ++ [.int .i64 t.ll, .int .i64 t.lh, .int .i64 t.hl, .int .i64 t.hh]
def tnOf (d : StoreD) (y : Nat) (i : Nat) : TN := ⟨d.pool.nd i, (cofs d (d.pool.nd i).lo y).1, (cofs d (d.pool.nd i).lo y).2, (cofs d (d.pool.nd i).hi y).1, (cofs d (d.pool.nd i).hi y).2⟩
def turnsB (d : StoreD) (y : Nat) (i : Nat) : Bool := decide ((tnOf d y i).ll ≠ (tnOf d y i).lh \/ (tnOf d y i).hl ≠ (tnOf d y i).hh)
theorem cofs_ne {d : StoreD} {V : Nat -> BF} (hk : StoreOK d V) (e y : Nat) : (cofs d e y).1 ≠ (cofs d e y).2 ↔ isV (nodesOf d) y e := by
 unfold cofs isV;cases hb : nodesOf d (e / 2) with
 | none => simp
 | some b =>
   by_cases h : b.v = y
   ·
    have h1 : (b.v : Int) = (y : Int) := by omega
    simp only [h1, if_true];constructor
    ·
     intro _; exact ⟨b, rfl, h⟩
    ·
     intro _; exact eflip_ne (hk.dag.ne _ _ hb)
   ·
    have h1 : ¬ (b.v : Int) = (y : Int) := by omega
    simp only [h1, if_false];constructor
    ·
     intro hh; exact (hh rfl).elim
    ·
     rintro ⟨c, hc, hv⟩; cases hc; exact (h hv).elim
theorem turnsB_iff {d : StoreD} {V : Nat -> BF} (hk : StoreOK d V) {x y i : Nat} {b : BN} (hb : nodesOf d i = some b) (hx : b.v = x) : turnsB d y i = true ↔ Turns (nodesOf d) x y i := by
 obtain ⟨_, _, he⟩ := nodesOf_some hb;have hnd : bnOf (d.pool.nd i) = b := by rw [<- (nodesOf_some hb).2.1]; exact he
 have e1 : (d.pool.nd i).lo = b.lo := by rw [<- hnd]; rfl
 have e2 : (d.pool.nd i).hi = b.hi := by rw [<- hnd]; rfl
 unfold turnsB tnOf;rw [decide_eq_true_eq, e1, e2, cofs_ne hk, cofs_ne hk];constructor
 ·
  intro h; exact ⟨b, hb, hx, h⟩
 ·
  rintro ⟨c, hc, _, h⟩; rw [hb] at hc; cases hc; exact h
open Go.RowKit
noncomputable def rkSw (n : Nat) (lev : Nat -> Nat) (N0 : Nat -> Option BN) (x y : Nat) (N : Nat -> Option BN) (i : Nat) : Nat :=
 open Classical in if Turns N0 x y i then 2 * (n - lev x) else match N i with
  | none => 0
  | some b => if b.v = x then 2 * (n - lev x) - 1 else 2 * (n - lev b.v)
section
variable {n : Nat} {lev : Nat -> Nat} {N0 : Nat -> Option BN} {V0 : Nat -> BF} {x y : Nat} {done : Nat -> Prop} {N : Nat -> Option BN} {V : Nat -> BF}
theorem rkSw_turn {i : Nat} (h : Turns N0 x y i) : rkSw n lev N0 x y N i = 2 * (n - lev x) := by unfold rkSw; rw [if_pos h]
theorem rkSw_x {i : Nat} {b : BN} (h : ¬ Turns N0 x y i) (hb : N i = some b) (hx : b.v = x) : rkSw n lev N0 x y N i = 2 * (n - lev x) - 1 := by unfold rkSw; rw [if_neg h, hb]; simp [hx]
theorem rkSw_o {i : Nat} {b : BN} (h : ¬ Turns N0 x y i) (hb : N i = some b) (hx : b.v ≠ x) : rkSw n lev N0 x y N i = 2 * (n - lev b.v) := by unfold rkSw; rw [if_neg h, hb]; simp [hx]
theorem turns_v {i : Nat} {b : BN} (hb : N0 i = some b) (h : Turns N0 x y i) : b.v = x := by
 obtain ⟨c, hc, hx, _⟩ := h;rw [hb] at hc; cases hc; exact hx
theorem rk_old (m : MidSw n lev N0 V0 x y done N V) {e : Nat} {c0 c : BN} (h0 : N0 (e / 2) = some c0) (hc : N (e / 2) = some c) :
 (Turns N0 x y (e / 2) /\ c0.v = x /\ rkSw n lev N0 x y N (e / 2) = 2 * (n - lev x)) \/ (¬ Turns N0 x y (e / 2) /\ c = c0 /\ rkSw n lev N0 x y N (e / 2) <= 2 * (n - lev c0.v) /\ (c0.v = x -> rkSw n lev N0 x y N (e / 2) = 2 * (n - lev x) - 1)) := by
 by_cases hT : Turns N0 x y (e / 2)
 ·
  exact .inl ⟨hT, turns_v h0 hT, rkSw_turn hT⟩
 ·
  have hk := m.keep _ _ h0 (fun hd => hT (m.dn _ hd).1);rw [hc] at hk;cases hk;refine .inr ⟨hT, rfl, ?_, fun hx => rkSw_x hT hc hx⟩
  by_cases hx : c0.v = x
  ·
   rw [rkSw_x hT hc hx, hx]; omega
  ·
   rw [rkSw_o hT hc hx]; exact Nat.le_refl _
theorem okE_mid (m : MidSw n lev N0 V0 x y done N V) {e : Nat} (h : okE N0 e) : okE N e := by
 rcases h with h | ⟨c, hc⟩
 ·
  exact .inl h
 ·
  obtain ⟨b, hb⟩ := m.has hc; exact .inr ⟨b, hb⟩
theorem okE_midE (m : MidSw n lev N0 V0 x y done N V) {e : Nat} (h : midE n lev N0 N x y e) : okE N e := by
 rcases h with h | ⟨c, hc, _⟩
 ·
  exact okE_mid m h.1
 ·
  exact .inr ⟨c, hc⟩
theorem lvE_of {e : Nat} {c : BN} (h : N0 (e / 2) = some c) : lvE n lev N0 e = lev c.v := by unfold lvE; rw [h]
theorem rk_low (h : Dag n lev N0 V0) (hx : x < n) (hl : lev y = lev x + 1) (m : MidSw n lev N0 V0 x y done N V) {e : Nat} {c : BN} (he : lowE n lev N0 y e) (hc : N (e / 2) = some c) : rkSw n lev N0 x y N (e / 2) + 3 <= 2 * (n - lev x) := by
 have hxl := h.lt x hx;rcases he.1 with h0 | ⟨c0, hc0⟩
 ·
  rw [h0, m.n0] at hc; cases hc
 ·
  have h1 := he.2;rw [lvE_of hc0] at h1;have h2 := h.lt _ (h.var _ _ hc0);rcases rk_old m hc0 hc with ⟨_, hv, _⟩ | ⟨_, _, h3, _⟩
  ·
   rw [hv] at h1; omega
  ·
   omega
theorem rk_mid (h : Dag n lev N0 V0) (hx : x < n) (hl : lev y = lev x + 1) (m : MidSw n lev N0 V0 x y done N V) {e : Nat} {c : BN} (he : midE n lev N0 N x y e) (hc : N (e / 2) = some c) : rkSw n lev N0 x y N (e / 2) + 1 <= 2 * (n - lev x) := by
 have hxl := h.lt x hx;rcases he with he | ⟨c', hc', hv, hT⟩
 ·
  have := rk_low h hx hl m he hc; omega
 ·
  rw [rkSw_x hT hc' hv]; omega
theorem mid_acy (h : Dag n lev N0 V0) (hx : x < n) (hl : lev y = lev x + 1) (m : MidSw n lev N0 V0 x y done N V) : Acy N (rkSw n lev N0 x y N) := by
 have hxl := h.lt x hx;have edge : ∀ i b e, N i = some b -> (e = b.lo \/ e = b.hi) -> okE N e /\ ∀ c, N (e / 2) = some c -> rkSw n lev N0 x y N (e / 2) < rkSw n lev N0 x y N i := by
  intro i b e hb he;cases h0 : N0 i with
  | none =>
    obtain ⟨hv, h1, h2, _⟩ := m.fresh i b hb h0;have hlow : lowE n lev N0 y e := by rcases he with rfl | rfl; exact h1; exact h2
    have hT : ¬ Turns N0 x y i := fun ⟨q, hq, _⟩ => by rw [h0] at hq; cases hq
    refine ⟨okE_mid m hlow.1, fun c hc => ?_⟩;have := rk_low h hx hl m hlow hc;rw [rkSw_x hT hb hv]; omega
  | some b0 =>
    by_cases hd : done i
    ·
     obtain ⟨hT, b', hb', _, h1, h2, _⟩ := m.dn i hd;rw [hb] at hb'; cases hb'
     have hm : midE n lev N0 N x y e := by rcases he with rfl | rfl; exact h1; exact h2
     refine ⟨okE_midE m hm, fun c hc => ?_⟩;have := rk_mid h hx hl m hm hc;rw [rkSw_turn hT]; omega
    ·
     have hk := m.keep i b0 h0 hd;rw [hb] at hk; cases hk
     have ho : okE N0 e := by rcases he with rfl | rfl; exact h.okLo _ _ h0; exact h.okHi _ _ h0
     have hlv : lev b.v < lvE n lev N0 e := by rcases he with rfl | rfl; exact h.lvLo _ _ h0; exact h.lvHi _ _ h0
     refine ⟨okE_mid m ho, fun c hc => ?_⟩;have hbn := h.lt _ (h.var _ _ h0);rcases ho with hz | ⟨c0, hc0⟩
     ·
      rw [hz, m.n0] at hc; cases hc
     ·
      rw [lvE_of hc0] at hlv;have hcn := h.lt _ (h.var _ _ hc0);have hi : (Turns N0 x y i /\ rkSw n lev N0 x y N i = 2 * (n - lev x) /\ b.v = x) \/ (¬ Turns N0 x y i /\ b.v = x /\ rkSw n lev N0 x y N i = 2 * (n - lev x) - 1) \/ (¬ Turns N0 x y i /\ b.v ≠ x /\ rkSw n lev N0 x y N i = 2 * (n - lev b.v)) := by
       by_cases hT : Turns N0 x y i
       ·
        exact .inl ⟨hT, rkSw_turn hT, turns_v h0 hT⟩
       ·
        by_cases hbx : b.v = x
        ·
         exact .inr (.inl ⟨hT, hbx, rkSw_x hT hb hbx⟩)
        ·
         exact .inr (.inr ⟨hT, hbx, rkSw_o hT hb hbx⟩)
      rcases rk_old m hc0 hc with ⟨_, hcv, hr⟩ | ⟨_, _, hr, hrx⟩
      ·
       rw [hr];rw [hcv] at hlv;rcases hi with ⟨_, _, hv⟩ | ⟨_, hv, _⟩ | ⟨_, _, h2⟩
       ·
        rw [hv] at hlv; omega
       ·
        rw [hv] at hlv; omega
       ·
        rw [h2]; omega
      ·
       rcases hi with ⟨_, h2, hv⟩ | ⟨_, hv, h2⟩ | ⟨_, hv, h2⟩
       ·
        rw [h2]; rw [hv] at hlv; omega
       ·
        rw [h2]; rw [hv] at hlv; omega
       ·
        rw [h2]; omega
 exact ⟨m.n0, fun i b hb => (edge i b _ hb (.inl rfl)).1, fun i b hb => (edge i b _ hb (.inr rfl)).1, fun i b c hb hc => (edge i b _ hb (.inl rfl)).2 c hc, fun i b c hb hc => (edge i b _ hb (.inr rfl)).2 c hc⟩
end
open Go.RowKit
theorem filter_one {α : Type} [DecidableEq α] {l : List α} (hn : l.Nodup) {κ : α} (hk : κ ∈ l) {p q : α -> Bool} (hp : p κ = false) (hq : ∀ a, q a = (p a || decide (a = κ))) : (l.filter q).length = (l.filter p).length + 1 := by
 induction l with
 | nil => cases hk
 | cons a l ih =>
   rw [List.nodup_cons] at hn;have hqa := hq a
   by_cases e : a = κ
   ·
    subst e;have hno : ∀ b ∈ l, b ≠ a := fun b hb e => hn.1 (e ▸ hb)
    have hl : l.filter q = l.filter p := List.filter_congr fun b hb => by rw [hq b]; simp [hno b hb]
    simp only [List.filter_cons, hqa, hp, hl];simp
   ·
    have hk' : κ ∈ l := by
     rcases List.mem_cons.1 hk with h | h
     ·
      exact (e h.symm).elim
     ·
      exact h
    have := ih hn.2 hk';have hqa' : q a = p a := by rw [hqa]; simp [e]
    simp only [List.filter_cons, hqa'];split
    ·
     simp [this]
    ·
     exact this
structure SwMid (d0 : StoreD) (V0 : Nat -> BF) (k x y : Nat) (Wt : List (Nat × Nat)) (E : Nat -> Int) (done : Nat -> Prop) (d : StoreD) (V : Nat -> BF) : Prop where
 mid : MidSw d0.vars.length (levN d0) (nodesOf d0) V0 x y done (nodesOf d) V
 vars : d.vars = (swapD d0 k).vars
 level : d.level = (swapD d0 k).level
 room : d.pool.room = d0.pool.room
 ext : extOf d = extOf d0
 live : LiveC d E
 tabO : ∀ v, v < d0.vars.length -> v ≠ x -> ∀ lo hi id, d.tab v (lo, hi) = some id ↔ nodesOf d id = some ⟨v, lo, hi⟩
 tabX : ∀ lo hi id, d.tab x (lo, hi) = some id ↔ nodesOf d id = some ⟨x, lo, hi⟩ /\ ¬ Turns (nodesOf d0) x y id
 clen : d.counts.length <= 1048578
 pos : ∀ i, Turns (nodesOf d0) x y i -> 0 < cntOf d i
 many : d.pool.many = d0.pool.many + (Wt.filter fun κ => (d.tab x κ).isSome).length
section
variable {d0 d d' : StoreD} {V0 V : Nat -> BF} {k x y : Nat} {Wt : List (Nat × Nat)} {E : Nat -> Int} {done : Nat -> Prop}
theorem SwMid.has0 (m : SwMid d0 V0 k x y Wt E done d V) {i : Nat} (h : nodesOf d i = none) : nodesOf d0 i = none := by
 cases e : nodesOf d0 i with
 | none => rfl
 | some c => obtain ⟨b', hb'⟩ := m.mid.has e; rw [h] at hb'; cases hb'
theorem SwMid.add {id lo hi : Nat} (m : SwMid d0 V0 k x y Wt (extOf d0) done d V) (r : AddRel d d' id x lo hi) (hlo : lowE d0.vars.length (levN d0) (nodesOf d0) y lo) (hhi : lowE d0.vars.length (levN d0) (nodesOf d0) y hi) (hr : hi % 2 = 0) (hne : lo ≠ hi)
 (ht : d.tab x (lo, hi) = none) (hW : (lo, hi) ∈ Wt) (hWn : Wt.Nodup) : SwMid d0 V0 k x y Wt (extOf d0) done d' (addV V id ⟨x, lo, hi⟩) := by
 have hid : id ≠ 0 := by have := r.pos; omega
 have hnew : ∀ i, ¬ Turns (nodesOf d0) x y i -> nodesOf d i ≠ some ⟨x, lo, hi⟩ := fun i hT e => by rw [(m.tabX lo hi i).2 ⟨e, hT⟩] at ht; cases ht
 have hmid := m.mid.add r.none hid rfl hlo hhi hr hne hnew;have h0 := m.has0 r.none;have hTid : ¬ Turns (nodesOf d0) x y id := fun ⟨q, hq, _⟩ => by rw [h0] at hq; cases hq
 have hext : extOf d' = extOf d0 := by
  rw [r.ext];funext i
  by_cases e : i = id
  ·
   subst e; simp [extOf_none h0]
  ·
   simp only [if_neg e, m.ext]
 have hlive := r.live;rw [hext] at hlive;refine ⟨by rw [r.nodes]; exact hmid, r.vars.trans m.vars, r.level.trans m.level, r.room.trans m.room, hext, hlive, fun v hv hvx lo' hi' i => ?_, fun lo' hi' i => ?_, r.clen, fun i hT => ?_, ?_⟩
 ·
  rw [r.tab, r.nodes];dsimp only;rw [if_neg hvx, m.tabO v hv hvx]
  by_cases e4 : i = id
  ·
   subst e4;rw [addN_same, r.none];constructor
   ·
    intro e5; cases e5
   ·
    intro e5; cases e5; exact absurd rfl hvx
  ·
   rw [addN_other _ e4]
 ·
  rw [r.tab, r.nodes];dsimp only;rw [if_pos rfl];unfold putF
  by_cases e2 : (lo', hi') = (lo, hi)
  ·
   cases e2;rw [if_pos rfl];constructor
   ·
    intro e3; cases e3; rw [addN_same]; exact ⟨rfl, hTid⟩
   ·
    rintro ⟨e3, e5⟩
    by_cases e4 : i = id
    ·
     rw [e4]
    ·
     rw [addN_other _ e4] at e3; exact absurd e3 (hnew i e5)
  ·
   rw [if_neg e2, m.tabX]
   by_cases e4 : i = id
   ·
    subst e4;rw [addN_same, r.none];constructor
    ·
     rintro ⟨e5, _⟩; cases e5
    ·
     rintro ⟨e5, _⟩; cases e5; exact absurd rfl e2
   ·
    rw [addN_other _ e4]
 ·
  rw [r.cnt];unfold setC;rw [if_neg (fun e => hTid (by rw [<- e]; exact hT))];exact m.pos i hT
 ·
  rw [r.many, m.many];have e1 : (Wt.filter fun κ => (d'.tab x κ).isSome).length = (Wt.filter fun κ => (d.tab x κ).isSome).length + 1 := by
   refine filter_one hWn hW (by rw [ht]; rfl) fun κ => ?_
   rw [r.tab];dsimp only;rw [if_pos rfl];unfold putF
   by_cases e : κ = (lo, hi)
   ·
    simp [e]
   ·
    simp [e]
  rw [e1]; omega
theorem SwMid.counts {E' : Nat -> Int} {cs : List Nat} {dd mm : Nat} (m : SwMid d0 V0 k x y Wt E done d V) (hl : LiveC (d.cd cs dd) E') (hlen : cs.length = d.counts.length) (hsame : ∀ i, mm <= rkSw d0.vars.length (levN d0) (nodesOf d0) x y (nodesOf d) i -> cs.getD i 0 = d.counts.getD i 0) (hm : mm <= 2 * (d0.vars.length - levN d0 x)) :
 SwMid d0 V0 k x y Wt E' done (d.cd cs dd) V :=
 ⟨m.mid, m.vars, m.level, m.room, m.ext, hl, m.tabO, m.tabX, by show cs.length <= _; rw [hlen]; exact m.clen, fun i hT => by
  have := hsame i (by rw [rkSw_turn hT]; exact hm)
  show 0 < cs.getD i 0
  rw [this]; exact m.pos i hT, m.many⟩
theorem SwMid.fresh_y (m : SwMid d0 V0 k x y Wt E done d V) (hk : Dag d0.vars.length (levN d0) (nodesOf d0) V0) (hxy : x ≠ y) (hy : y < d0.vars.length) {i lo hi : Nat} (hT : Turns (nodesOf d0) x y i) (hd : ¬ done i) (hV : V0 i = iteF y (ef V hi) (ef V lo)) : d.tab y (lo, hi) = none := by
 cases e : d.tab y (lo, hi) with
 | none => rfl
 | some j =>
   exfalso;have hj := (m.tabO y hy (Ne.symm hxy) lo hi j).1 e;obtain ⟨b, hb, hbx, hby⟩ := hT;have same : ∀ j', (∃ c, nodesOf d0 j' = some c) -> V0 j' = V0 i -> j' = i := by
    rintro j' ⟨c, hc⟩ hV';have := hk.canon (okE_two hc) (okE_two hb) (by funext ρ; simp only [ef]; rw [show 2 * j' / 2 = j' by omega, show 2 * i / 2 = i by omega, hV', show 2 * j' % 2 = 0 by omega, show 2 * i % 2 = 0 by omega]);omega
   by_cases hdj : done j
   ·
    obtain ⟨⟨q, hq, hqx, _⟩, c, hc, _, _, _, _, _, hVj⟩ := m.mid.dn j hdj;rw [hj] at hc;cases hc;have := same j ⟨q, hq⟩ (hVj.trans hV.symm);rw [this] at hdj;exact hd hdj
   ·
    cases h0 : nodesOf d0 j with
    | none =>
      have := (m.mid.fresh j _ hj h0).1;exact hxy this.symm
    | some c =>
      have hk2 := m.mid.keep j c h0 hdj;rw [hj] at hk2;cases hk2;have hVj : V0 j = iteF y (ef V0 hi) (ef V0 lo) := hk.eqn _ _ h0;have e1 := efExt m.mid.ext (hk.okLo _ _ h0);have e2 := efExt m.mid.ext (hk.okHi _ _ h0);dsimp only at e1 e2;rw [<- e1, <- e2] at hVj;have := same j ⟨_, h0⟩ (hVj.trans hV.symm);subst this;rw [hb] at h0;cases h0;exact hxy hbx.symm
end
open Go.RowKit
theorem flip_val {V : Nat -> BF} {id v lo hi : Nat} (h : V id = iteF v (ef V (eflip hi (eneg hi))) (ef V (eflip lo (eneg hi)))) : ef V (eflip (2 * id) (eneg hi)) = iteF v (ef V hi) (ef V lo) := by
 funext ρ;rw [ef_eflip];have e0 : ef V (2 * id) ρ = V id ρ := by unfold ef; rw [show 2 * id / 2 = id by omega, show 2 * id % 2 = 0 by omega]; simp
 rw [e0, h];unfold iteF;split <;> rw [ef_eflip] <;> cases eneg hi <;> simp
section
variable {d0 d d' : StoreD} {V0 V : Nat -> BF} {k x y : Nat} {Wt : List (Nat × Nat)} {E : Nat -> Int} {done : Nat -> Prop}
theorem SwMid.valX (m : SwMid d0 V0 k x y Wt E done d V) (hk : Dag d0.vars.length (levN d0) (nodesOf d0) V0) {id a b : Nat} (hb : nodesOf d id = some ⟨x, a, b⟩) (hT : ¬ Turns (nodesOf d0) x y id) (ha : lowE d0.vars.length (levN d0) (nodesOf d0) y a) (hbb : lowE d0.vars.length (levN d0) (nodesOf d0) y b) : V id = iteF x (ef V b) (ef V a) := by
 have e1 := efExt m.mid.ext ha.1;have e2 := efExt m.mid.ext hbb.1;rw [e1, e2];cases h0 : nodesOf d0 id with
 | none => exact (m.mid.fresh id _ hb h0).2.2.2.2.2
 | some c =>
   have hk2 := m.mid.keep id c h0 (fun hd => hT (m.mid.dn _ hd).1);rw [hb] at hk2;cases hk2;rw [m.mid.ext id (.inr ⟨_, h0⟩)];exact hk.eqn _ _ h0
theorem lowE_eflip {n : Nat} {lev : Nat -> Nat} {N : Nat -> Option BN} {y e : Nat} {b : Bool} (h : lowE n lev N y e) : lowE n lev N y (eflip e b) := ⟨okE_eflip h.1, by rw [lvE_eflip]; exact h.2⟩
def bkey (lo hi : Nat) : Nat × Nat := (eflip lo (eneg hi), eflip hi (eneg hi))
structure BelowR (d0 : StoreD) (V0 : Nat -> BF) (k x y : Nat) (Wt : List (Nat × Nat)) (done : Nat -> Prop) (d : StoreD) (V : Nat -> BF) (lo hi : Nat) (r : Nat) (d' : StoreD) (V' : Nat -> BF) : Prop where
 mid : SwMid d0 V0 k x y Wt (extOf d0) done d' V'
 edge : midE d0.vars.length (levN d0) (nodesOf d0) (nodesOf d') x y r
 val : ef V' r = iteF x (ef V0 hi) (ef V0 lo)
 reg : hi % 2 = 0 -> r % 2 = 0
 keep : ∀ e, midE d0.vars.length (levN d0) (nodesOf d0) (nodesOf d) x y e -> midE d0.vars.length (levN d0) (nodesOf d0) (nodesOf d') x y e /\ ef V' e = ef V e
theorem eflip_mod (id : Nat) (hi : Nat) (h : hi % 2 = 0) : eflip (2 * id) (eneg hi) % 2 = 0 := by
 unfold eneg eflip;have : (hi % 2 == 1) = false := by rw [h]; rfl
 rw [this]; simp
theorem below_same (m : SwMid d0 V0 k x y Wt (extOf d0) done d V) {lo : Nat} (hlo : lowE d0.vars.length (levN d0) (nodesOf d0) y lo) : BelowR d0 V0 k x y Wt done d V lo lo lo d V :=
 ⟨m, .inl hlo, by rw [efExt m.mid.ext hlo.1]; funext ρ; unfold iteF; split <;> rfl, fun h => h, fun e he => ⟨he, rfl⟩⟩
theorem below_found (m : SwMid d0 V0 k x y Wt (extOf d0) done d V) (hk : Dag d0.vars.length (levN d0) (nodesOf d0) V0) {lo hi id : Nat} (hlo : lowE d0.vars.length (levN d0) (nodesOf d0) y lo) (hhi : lowE d0.vars.length (levN d0) (nodesOf d0) y hi) (ht : d.tab x (bkey lo hi) = some id) :
 BelowR d0 V0 k x y Wt done d V lo hi (eflip (2 * id) (eneg hi)) d V := by
 obtain ⟨hb, hT⟩ := (m.tabX _ _ id).1 ht;refine ⟨m, .inr ⟨_, by rw [eflip_half, show 2 * id / 2 = id by omega]; exact hb, rfl, by rw [eflip_half, show 2 * id / 2 = id by omega]; exact hT⟩, ?_, eflip_mod id hi, fun e he => ⟨he, rfl⟩⟩;rw [flip_val (m.valX hk hb hT (lowE_eflip hlo) (lowE_eflip hhi)), efExt m.mid.ext hlo.1, efExt m.mid.ext hhi.1]
theorem below_new (m : SwMid d0 V0 k x y Wt (extOf d0) done d V) (hk : Dag d0.vars.length (levN d0) (nodesOf d0) V0) {lo hi id : Nat} (hlo : lowE d0.vars.length (levN d0) (nodesOf d0) y lo) (hhi : lowE d0.vars.length (levN d0) (nodesOf d0) y hi) (hne : lo ≠ hi)
 (ht : d.tab x (bkey lo hi) = none) (r : AddRel d d' id x (bkey lo hi).1 (bkey lo hi).2) (hW : bkey lo hi ∈ Wt) (hWn : Wt.Nodup) :
 BelowR d0 V0 k x y Wt done d V lo hi (eflip (2 * id) (eneg hi)) d' (addV V id ⟨x, (bkey lo hi).1, (bkey lo hi).2⟩) := by
 have hid : id ≠ 0 := by have := r.pos; omega
 have m' := m.add r (lowE_eflip hlo) (lowE_eflip hhi) (eflip_even hi) (eflip_ne hne) ht hW hWn;have hT : ¬ Turns (nodesOf d0) x y id := fun ⟨q, hq, _⟩ => by rw [m.has0 r.none] at hq; cases hq
 have hb : nodesOf d' id = some ⟨x, (bkey lo hi).1, (bkey lo hi).2⟩ := by rw [r.nodes, addN_same]
 refine ⟨m', .inr ⟨_, by rw [eflip_half, show 2 * id / 2 = id by omega]; exact hb, rfl, by rw [eflip_half, show 2 * id / 2 = id by omega]; exact hT⟩, ?_, eflip_mod id hi, fun e he => ?_⟩
 ·
  rw [flip_val (m'.valX hk hb hT (lowE_eflip hlo) (lowE_eflip hhi)), efExt m'.mid.ext hlo.1, efExt m'.mid.ext hhi.1]
 ·
  rcases he with he | ⟨c, hc, hcx, hcT⟩
  ·
   exact ⟨.inl he, by rw [efExt m'.mid.ext he.1, efExt m.mid.ext he.1]⟩
  ·
   have hne' : e / 2 ≠ id := by rintro e'; rw [e', r.none] at hc; cases hc
   refine ⟨.inr ⟨c, by rw [r.nodes, addN_other _ hne']; exact hc, hcx, hcT⟩, ?_⟩;funext ρ; simp only [ef, addV, if_neg hne']
theorem SwMid.fits (m : SwMid d0 V0 k x y Wt E done d V) {κ : Nat × Nat} (hW : κ ∈ Wt) (ht : d.tab x κ = none) (hroom : d0.pool.many + Wt.length <= d0.pool.room) : d.pool.many < d.pool.room := by
 have h1 : (Wt.filter fun κ => (d.tab x κ).isSome).length < Wt.length := by
  rw [<- Nat.not_le];intro hle;have h2 := List.length_filter_le (fun κ => (d.tab x κ).isSome) Wt;have h3 := List.length_filter_eq_length_iff.1 (Nat.le_antisymm h2 hle);have := h3 κ hW;rw [ht] at this; cases this
 rw [m.many, m.room]; omega
end
theorem below_any {d0 : StoreD} {V0 : Nat -> BF} {k x y : Nat} {Wt : List (Nat × Nat)} {done : Nat -> Prop} {d : StoreD} {V : Nat -> BF} {o : Own} {w : World} {sb : Nat} (h : StoreAt o w sb d) (hlt : OwnLt o w) (m : SwMid d0 V0 k x y Wt (extOf d0) done d V)
 (hk : Dag d0.vars.length (levN d0) (nodesOf d0) V0) (hacy : Acy (nodesOf d) (rkSw d0.vars.length (levN d0) (nodesOf d0) x y (nodesOf d))) (hx : x < d0.vars.length) (hvl : d.vars.length = d0.vars.length) (lo hi : Nat) (hlo : lowE d0.vars.length (levN d0) (nodesOf d0) y lo) (hhi : lowE d0.vars.length (levN d0) (nodesOf d0) y hi)
 (hkey : lo ≠ hi -> d.tab x (bkey lo hi) = none -> bkey lo hi ∈ Wt) (hWn : Wt.Nodup) (hroom : d0.pool.many + Wt.length <= d0.pool.room) :
 Calls Tryz.prog 138 #[.pointer (some ⟨sb, 0, none⟩), .int .i64 x, .int .i64 lo, .int .i64 hi] w fun e w' => ∃ r : Nat, e = .returned (.int .i64 r) /\ ∃ o' d' V', StoreAt o' w' sb d' /\ OwnLt o' w' /\ BelowR d0 V0 k x y Wt done d V lo hi r d' V' /\ d'.vars.length = d0.vars.length /\ Chg RStore o o' w w' := by
 obtain ⟨s, h⟩ := h;have okL := okE_mid m.mid hlo.1;have okH := okE_mid m.mid hhi.1;have hlol := h.edge_lt okL;have hhil := h.edge_lt okH;have hlom : lo < eMax := by unfold eMax; omega
 have hhim : hi < eMax := by unfold eMax; omega
 by_cases hne : lo = hi
 ·
  subst hne;have HF : Hid (∃ r : Nat, Ending.returned (.int .i64 (lo : Nat)) = .returned (.int .i64 r) /\ ∃ o' d' V', StoreAt o' w sb d' /\ OwnLt o' w /\ BelowR d0 V0 k x y Wt done d V lo lo r d' V' /\ d'.vars.length = d0.vars.length /\ Chg RStore o o' w w) := Lib.hid ⟨lo, rfl, o, d, V, ⟨s, h⟩, hlt, below_same m hlo, hvl, Chg.refl _ _ _⟩;clear h hlt m hk hacy hlo hhi hkey hlom hhim hlol hhil okL okH
  go_enter Tryz.func138, Tryz.ntmps138
  go_wp2_with fail;go_ret;exact HF.out
 have hnei : ((lo : Int) == hi) = false := by simp; omega
 have hv : x < d.vars.length := by rw [hvl]; exact hx
 have HNORM := Lib.hid (fun W => norm_any lo hi W hlom hhim);have HTAB := Lib.hid (h.tab x (by rw [h.tlen]; exact hv));obtain ⟨gt, ct, hvt, hct, hvtl, hts⟩ := h.tabAt hv;obtain ⟨c0, c1, c2, c3, c4, f0⟩ := cells5 h.blk;rw [hvt] at c2;obtain ⟨t, ht⟩ : ∃ t, t = s.ts.getD x 0 := ⟨_, rfl⟩;rw [<- ht] at hct HTAB;have hxi : (x : Int) < s.ts.length := by omega
 obtain ⟨lo2, hlo2⟩ : ∃ q, q = eflip lo (eneg hi) := ⟨_, rfl⟩;obtain ⟨hi2, hhi2⟩ : ∃ q, q = eflip hi (eneg hi) := ⟨_, rfl⟩;obtain ⟨ng, hng⟩ : ∃ q, q = eneg hi := ⟨_, rfl⟩;have hkk : bkey lo hi = (lo2, hi2) := by unfold bkey; rw [hlo2, hhi2]
 rw [<- hlo2, <- hhi2] at HNORM;cases htab : d.tab x (lo2, hi2) with
 | some id =>
   have HFI := Lib.hid (fun W (hb : Below w.heap.size w W) => find_yes o x t (d.tab x) lo2 hi2 id W (HTAB.out.below hb hlt) htab);have hnode := ((m.tabX _ _ id).1 htab).1;have hidl := (h.tk_lt hnode).2;have HOF := Lib.hid (fun W => of_any id (eneg hi) W (by omega));have HF : Hid (∀ W, Below w.heap.size w W -> ∃ r : Nat, Ending.returned (.int .i64 (eflip (2 * id) (eneg hi) : Nat)) = .returned (.int .i64 r) /\ ∃ o' d' V', StoreAt o' W sb d' /\ OwnLt o' W /\ BelowR d0 V0 k x y Wt done d V lo hi r d' V' /\ d'.vars.length = d0.vars.length /\ Chg RStore o o' w W) :=
    Lib.hid fun W hb => ⟨_, rfl, o, d, V, ⟨s, h.below hlt hb⟩, hlt.mono hb.size, below_found m hk hlo hhi (by rw [hkk]; exact htab), hvl, Chg.of_below hb _ _⟩
   rw [<- hng] at HNORM HOF HF;clear h hlt m hk hacy hlo hhi hkey hlom hhim hlol hhil okL okH htab hnode hidl hlo2 hhi2 hng hkk hv hne hvl ht hvt
   go_enter Tryz.func138, Tryz.ntmps138
   go_wp2_with fail;refine (HNORM.out _).mono ?_;rintro e w' ⟨rfl, rfl⟩;go_wp2_with fail;refine (HFI.out _ (Below.refl _ _)).mono ?_;rintro e w' ⟨rfl, rfl⟩;go_wp2_with fail;refine (HOF.out _).mono ?_;rintro e w' ⟨rfl, rfl⟩;go_wp2_with fail;go_ret;exact HF.out _ (Below.refl _ _)
 | none =>
   have HFI := Lib.hid (find_no o x t (d.tab x) lo2 hi2 w HTAB.out htab);have hW : bkey lo hi ∈ Wt := hkey hne (by rw [hkk]; exact htab);have HADD := Lib.hid (storeAdd_any h hlt (by rw [m.ext]; exact m.live) (fun i b hb => ⟨hacy.okLo i b hb, hacy.okHi i b hb⟩) x lo2 hi2 hv htab m.clen);have HFULL : Hid (d.pool.many ≠ d.pool.room) := Lib.hid fun e => by have := m.fits hW (by rw [hkk]; exact htab) hroom; omega
   have HF : Hid (∀ id d' o' W, StoreAt o' W sb d' -> OwnLt o' W -> AddRel d d' id x lo2 hi2 -> Chg RStore o o' w W -> ∃ r : Nat, Ending.returned (.int .i64 (eflip (2 * id) (eneg hi) : Nat)) = .returned (.int .i64 r) /\ ∃ o' d' V', StoreAt o' W sb d' /\ OwnLt o' W /\ BelowR d0 V0 k x y Wt done d V lo hi r d' V' /\ d'.vars.length = d0.vars.length /\ Chg RStore o o' w W) := by
    refine Lib.hid fun id d' o' W h1 h2 h3 h4 => ⟨_, rfl, o', d', _, h1, h2, below_new m hk hlo hhi hne (by rw [hkk]; exact htab) (by rw [hkk]; exact h3) hW hWn, by rw [h3.vars]; exact hvl, h4⟩
   rw [<- hng] at HNORM HF;clear h hlt m hk hacy hlo hhi hkey hlom hhim hlol hhil okL okH htab hlo2 hhi2 hkk hv hne hvl ht hvt hW hng
   go_enter Tryz.func138, Tryz.ntmps138
   go_wp2_with fail;refine (HNORM.out _).mono ?_;rintro e w' ⟨rfl, rfl⟩;go_wp2_with fail;refine HFI.out.mono ?_;rintro e w' ⟨rfl, rfl⟩;go_wp2_with fail;refine HADD.out.mono ?_;rintro e w6 (⟨hm, rfl, hb6⟩ | ⟨id, d', o', rfl, hs, hl6, hr, hc⟩)
   ·
    exact (HFULL.out hm).elim
   ·
    have hidl : id < 1048578 := by
     obtain ⟨s', hs'⟩ := hs;have hn : nodesOf d' id = some ⟨x, lo2, hi2⟩ := by rw [hr.nodes, addN_same]
     have := hs'.tk_lt hn; omega
    have HOF := Lib.hid (of_any id ng w6 (by omega));have HFF := Lib.hid (HF.out id d' o' w6 hs hl6 hr hc);clear hs hl6 hr hc c0 c1 c2 c3 c4 f0 hct;go_wp2_with fail;refine HOF.out.mono ?_;rintro e w' ⟨rfl, rfl⟩;go_wp2_with fail;go_ret;exact HFF.out
open Go.RowKit
section
variable {d0 d : StoreD} {V0 V : Nat -> BF} {k x y : Nat} {Wt : List (Nat × Nat)} {E : Nat -> Int} {done : Nat -> Prop}
structure TurnV (d0 : StoreD) (V0 : Nat -> BF) (x y i ll lh hl hh : Nat) : Prop where
 f1 : lowE d0.vars.length (levN d0) (nodesOf d0) y ll
 f2 : lowE d0.vars.length (levN d0) (nodesOf d0) y lh
 f3 : lowE d0.vars.length (levN d0) (nodesOf d0) y hl
 f4 : lowE d0.vars.length (levN d0) (nodesOf d0) y hh
 val : ∀ ρ, V0 i ρ = if ρ x then (if ρ y then ef V0 hh ρ else ef V0 hl ρ) else (if ρ y then ef V0 lh ρ else ef V0 ll ρ)
 reg : hh % 2 = 0
theorem turn_vals (hk : StoreOK d0 V0) (hy : y < d0.vars.length) (hl : levN d0 y = levN d0 x + 1) {i : Nat} {b : BN} (hb : nodesOf d0 i = some b) (hbx : b.v = x) :
 TurnV d0 V0 x y i (cofs d0 b.lo y).1 (cofs d0 b.lo y).2 (cofs d0 b.hi y).1 (cofs d0 b.hi y).2 := by
 have l1 := hk.dag.lvLo _ _ hb;have l2 := hk.dag.lvHi _ _ hb;rw [hbx] at l1 l2;obtain ⟨a1, a2, a3, a4, a5⟩ := cofs_ok hk (hk.dag.okLo _ _ hb) hy (by omega);obtain ⟨c1, c2, c3, c4, c5⟩ := cofs_ok hk (hk.dag.okHi _ _ hb) hy (by omega);refine ⟨⟨a1, a3⟩, ⟨a2, a4⟩, ⟨c1, c3⟩, ⟨c2, c4⟩, fun ρ => ?_, ?_⟩
 ·
  rw [hk.dag.eqn _ _ hb, hbx];unfold iteF;rw [a5 ρ, c5 ρ]
 ·
  have hr := hk.dag.reg _ _ hb;unfold cofs;cases hc : nodesOf d0 (b.hi / 2) with
  | none => exact hr
  | some c =>
    dsimp only;split
    ·
     have : eneg b.hi = false := by unfold eneg; rw [hr]; rfl
     dsimp only;rw [this];exact hk.dag.reg _ _ hc
    ·
     exact hr
theorem turn_edges (hk : StoreOK d0 V0) (hx : x < d0.vars.length) (hy : y < d0.vars.length) (hxy : x ≠ y) (hl : levN d0 y = levN d0 x + 1) {i ll lh hl' hh lo hi : Nat} (t : TurnV d0 V0 x y i ll lh hl' hh) (hne : ll ≠ lh \/ hl' ≠ hh)
 (h1 : ef V lo = iteF x (ef V0 hl') (ef V0 ll)) (h2 : ef V hi = iteF x (ef V0 hh) (ef V0 lh)) : V0 i = iteF y (ef V hi) (ef V lo) /\ lo ≠ hi := by
 constructor
 ·
  funext ρ;rw [t.val ρ, h1, h2];unfold iteF;cases ρ x <;> cases ρ y <;> rfl
 ·
  rintro rfl;rw [h1] at h2;have ind : ∀ {e : Nat}, lowE d0.vars.length (levN d0) (nodesOf d0) y e -> ∀ (ρ : Nat -> Bool) (b : Bool), ef V0 e (upd ρ x b) = ef V0 e ρ := fun he ρ b => hk.dag.indep_var he.1 (by have := he.2; omega) ρ b
  have e1 : ef V0 hl' = ef V0 hh := by
   funext ρ;have := congrFun h2 (upd ρ x true);unfold iteF at this;rw [upd_same, ind t.f3, ind t.f4] at this;simpa using this
  have e2 : ef V0 ll = ef V0 lh := by
   funext ρ;have := congrFun h2 (upd ρ x false);unfold iteF at this;rw [upd_same, ind t.f1, ind t.f2] at this;simpa using this
  rcases hne with h | h
  ·
   exact h (hk.dag.canon t.f1.1 t.f2.1 e2)
  ·
   exact h (hk.dag.canon t.f3.1 t.f4.1 e1)
theorem deadN_set {kk : Nat} {N : Nat -> Option BN} {c : Nat -> Nat} {i : Nat} {b b' : BN} (hb : N i = some b) : deadN kk (setN N i b') c = deadN kk N c := by
 unfold deadN;refine sumTo_congr _ fun j _ => ?_
 unfold dead1 setN
 by_cases e : j = i
 ·
  subst e; rw [if_pos rfl, hb]
 ·
  rw [if_neg e]
theorem SwMid.set {i lo hi : Nat} {b : BN} {p' : PoolD} (m : SwMid d0 V0 k x y Wt E done d V) (hxy : x ≠ y) (hk : Dag d0.vars.length (levN d0) (nodesOf d0) V0) (hy : y < d0.vars.length) (hT : Turns (nodesOf d0) x y i) (hd : ¬ done i) (hb : nodesOf d0 i = some b)
 (hlo : midE d0.vars.length (levN d0) (nodesOf d0) (nodesOf d) x y lo) (hhi : midE d0.vars.length (levN d0) (nodesOf d0) (nodesOf d) x y hi) (hr : hi % 2 = 0) (hne : lo ≠ hi) (hV : V0 i = iteF y (ef V hi) (ef V lo))
 (hn : nodesOf { d with pool := p' } = setN (nodesOf d) i ⟨y, lo, hi⟩) (he : extOf { d with pool := p' } = extOf d) (h1 : p'.room = d.pool.room) (h2 : p'.many = d.pool.many) (h3 : p'.at_.length = d.pool.at_.length) :
 SwMid d0 V0 k x y Wt (addE (addE (addE (addE E b.lo 1) b.hi 1) lo (-1)) hi (-1)) (fun j => done j \/ j = i) { d with pool := p', tab := fun u => if u = y then putF (d.tab u) (lo, hi) (some i) else d.tab u } V := by
 have hfr := m.fresh_y hk hxy hy hT hd hV;have hbd : nodesOf d i = some b := m.mid.keep i b hb hd;have hbx : b.v = x := turns_v hb hT;have hnn : nodesOf { d with pool := p', tab := fun u => if u = y then putF (d.tab u) (lo, hi) (some i) else d.tab u } = setN (nodesOf d) i ⟨y, lo, hi⟩ := hn;refine ⟨by rw [hnn]; exact m.mid.turn hxy hT hlo hhi hr hne hV, m.vars, m.level, h1.trans m.room, he.trans m.ext, ⟨?_, ?_, fun j c hc => ?_⟩, fun v hv hvx lo' hi' j => ?_, fun lo' hi' j => ?_, m.clen, m.pos, ?_⟩
 ·
  show Cnt p'.at_.length _ (cntOf d) _
  rw [hnn, h3];exact m.live.cnt.setLive hbd (m.pos i hT)
 ·
  show (d.dead : Int) = deadN p'.at_.length _ (cntOf d)
  rw [hnn, h3, deadN_set hbd];exact m.live.dead
 ·
  rw [hnn] at hc
  show j < d.counts.length
  unfold setN at hc;split at hc
  ·
   rename_i e; rw [e]; exact m.live.has i b hbd
  ·
   exact m.live.has j c hc
 ·
  rw [hnn];dsimp only
  by_cases e : v = y
  ·
   subst e;rw [if_pos rfl];unfold putF
   by_cases e2 : (lo', hi') = (lo, hi)
   ·
    cases e2;rw [if_pos rfl];constructor
    ·
     intro e3; cases e3; simp [setN]
    ·
     intro e3;unfold setN at e3;split at e3
     ·
      rename_i e4; rw [e4]
     ·
      have := (m.tabO v hv hvx _ _ j).2 e3;rw [hfr] at this; cases this
   ·
    rw [if_neg e2, m.tabO v hv hvx];unfold setN
    by_cases e4 : j = i
    ·
     subst e4;rw [if_pos rfl, hbd];constructor
     ·
      intro e5; cases e5; exact absurd hbx (Ne.symm hxy)
     ·
      intro e5; cases e5; exact absurd rfl e2
    ·
     rw [if_neg e4]
  ·
   rw [if_neg e, m.tabO v hv hvx];unfold setN
   by_cases e4 : j = i
   ·
    subst e4;rw [if_pos rfl, hbd];constructor
    ·
     intro e5; cases e5; exact absurd hbx hvx
    ·
     intro e5; cases e5; exact absurd rfl e
   ·
    rw [if_neg e4]
 ·
  rw [hnn];dsimp only;rw [if_neg hxy, m.tabX];unfold setN
  by_cases e4 : j = i
  ·
   subst e4;rw [if_pos rfl];constructor
   ·
    rintro ⟨_, h⟩; exact (h hT).elim
   ·
    rintro ⟨_, h⟩; exact (h hT).elim
  ·
   rw [if_neg e4]
 ·
  show p'.many = _
  rw [h2, m.many];dsimp only;rw [if_neg hxy]
end
end Go.Proofs.YtchliiaknmknhaaGreat
