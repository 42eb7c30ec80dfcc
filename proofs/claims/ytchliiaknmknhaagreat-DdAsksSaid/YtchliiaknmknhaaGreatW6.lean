/- Several texts in one file: contracts of the program's functions and what follows from them. -/
import Derived.Test.YtchliiaknmknhaaGreatW5
import Derived.Shelf.SlSortCmp.NoneTotal
import Derived.Sort.CutIn
import Derived.Shelf.Slices.Reverse
import Derived.Ground.Names2Prog
import Derived.Shelf.Slices.Cells
import Derived.Shelf.Slices.Empties
set_option linter.unusedSimpArgs false
set_option linter.unusedVariables false
set_option linter.unusedSectionVars false
set_option linter.unnecessarySimpa false
set_option maxRecDepth 100000
set_option maxHeartbeats 8000000
namespace Go.Proofs.YtchliiaknmknhaaGreat
open Go.RowKit
structure TRow (w : World) (base : Nat) (v : Value) (ts : List TN) : Prop where
 small : ts.length <= 1048578
 ex : ∃ a c, v = .slice a ts.length c /\ ∀ k, ∀ hk : k < ts.length, ∃ g, a = some ⟨g, 0, none⟩ /\ base <= g /\ ∀ j u, (tnV ts[k])[j]? = some u -> w.cell? ⟨g, k * 9 + j, none⟩ = some u
theorem TRow.keep {w w' : World} {base : Nat} {v : Value} {ts : List TN} (h : TRow w base v ts) (hk : ∀ g, base <= g -> g < w.heap.size -> v.ownBlock = some g -> w'.heap[g]? = w.heap[g]?) : TRow w' base v ts := by
 obtain ⟨a, c, rfl, h1⟩ := h.ex;refine ⟨h.small, a, c, rfl, fun k hlt => ?_⟩;obtain ⟨g, rfl, hb, hc⟩ := h1 k hlt;refine ⟨g, rfl, hb, fun j u hu => ?_⟩;have := hc j u hu;exact (World.cell?_of_block (w := w) (a := ⟨g, k * 9 + j, none⟩) (hk g hb (lt_of_cell this) rfl)).trans this
theorem TRow.below {w w' : World} {base : Nat} {v : Value} {ts : List TN} (h : TRow w base v ts) (hb : Below w.heap.size w w') : TRow w' base v ts := h.keep fun g _ hg _ => hb.block g hg
def tnPairs (t : TN) : List (Nat × Nat) := [(t.ll, t.hl), (t.lh, t.hh)]
structure WantP (f : Nat × Nat -> Option Nat) (ps : List (Nat × Nat)) (Wt : List (Nat × Nat)) : Prop where
 nodup : Wt.Nodup
 free : ∀ κ ∈ Wt, f κ = none
 has : ∀ p ∈ ps, p.1 ≠ p.2 -> f (bkey p.1 p.2) = none -> bkey p.1 p.2 ∈ Wt
 len : Wt.length <= ps.length
theorem WantP.skip {f : Nat × Nat -> Option Nat} {ps Wt : List (Nat × Nat)} (h : WantP f ps Wt) {p : Nat × Nat} (hp : p.1 ≠ p.2 -> f (bkey p.1 p.2) = none -> bkey p.1 p.2 ∈ Wt) : WantP f (ps ++ [p]) Wt :=
 ⟨h.nodup, h.free, fun q hq => by
  rcases List.mem_append.1 hq with hq | hq
  ·
   exact h.has q hq
  ·
   simp only [List.mem_singleton] at hq; subst hq; exact hp, by have := h.len; simp; omega⟩
theorem WantP.add {f : Nat × Nat -> Option Nat} {ps Wt : List (Nat × Nat)} (h : WantP f ps Wt) {p : Nat × Nat} (h1 : f (bkey p.1 p.2) = none) (h2 : bkey p.1 p.2 ∉ Wt) : WantP f (ps ++ [p]) (Wt ++ [bkey p.1 p.2]) :=
 ⟨List.nodup_append.2 ⟨h.nodup, by simp, fun a ha b hb => by simp only [List.mem_singleton] at hb; subst hb; rintro rfl; exact h2 ha⟩, fun κ hκ => by
  rcases List.mem_append.1 hκ with hκ | hκ
  ·
   exact h.free κ hκ
  ·
   simp only [List.mem_singleton] at hκ; subst hκ; exact h1, fun q hq h3 h4 => by
  rcases List.mem_append.1 hq with hq | hq
  ·
   exact List.mem_append_left _ (h.has q hq h3 h4)
  ·
   simp only [List.mem_singleton] at hq; subst hq; simp, by have := h.len; simp; omega⟩
def seenL (Wt : List (Nat × Nat)) : List ((Nat × Nat) × Value) := Wt.map fun κ => (κ, .bool true)
theorem seen_find (κ : Nat × Nat) : ∀ (Wt : List (Nat × Nat)) (i : Nat), (findL κ (seenL Wt) i).map (·.2) = if κ ∈ Wt then some (.bool true) else none
 | [], _ => rfl
 | a :: l, i => by
   show (if a = κ then some (i, Value.bool true) else findL κ (seenL l) (i + 1)).map (·.2) = _
   by_cases e : a = κ
   ·
    rw [if_pos e]; simp [e]
   ·
    rw [if_neg e, seen_find κ l (i + 1)];simp [Ne.symm e]
theorem seen_get (Wt : List (Nat × Nat)) (κ : Nat × Nat) : (getL (seenL Wt) κ).getD (.bool false) = .bool (decide (κ ∈ Wt)) := by
 unfold getL;rw [seen_find]
 by_cases h : κ ∈ Wt
 ·
  rw [if_pos h, decide_eq_true h]; rfl
 ·
  rw [if_neg h, decide_eq_false h]; rfl
theorem seen_put {Wt : List (Nat × Nat)} {κ : Nat × Nat} (h : κ ∉ Wt) : putL κ (.bool true) (seenL Wt) = seenL (Wt ++ [κ]) := by
 have h1 := seen_find κ Wt 0;rw [if_neg h] at h1;unfold putL;cases e : findL κ (seenL Wt) 0 with
 | none => simp [seenL]
 | some p => rw [e] at h1; cases h1
theorem wants_any {o : Own} {w : World} {sb : Nat} {d : StoreD} {s : StoreW} (h : StoreIn o w sb d s) (hlt : OwnLt o w) (x : Nat) (hx : x < d.vars.length) {v : Value} {ts : List TN} {base : Nat} (hr : TRow w base v ts) (hok : ∀ t ∈ ts, t.ll < eMax /\ t.lh < eMax /\ t.hl < eMax /\ t.hh < eMax) :
 Calls Tryz.prog 135 #[.pointer (some ⟨sb, 0, none⟩), .int .i64 x, v] w fun e w' => ∃ Wt, e = .returned (.int .i64 (Wt : List (Nat × Nat)).length) /\ WantP (d.tab x) (ts.flatMap tnPairs) Wt /\ Below w.heap.size w w' := by
 obtain ⟨a, c, rfl, hcells⟩ := hr.ex;have hsm := hr.small;have HR := Lib.hid hr;obtain ⟨gt, ct, hvt, hct, hvtl, hts⟩ := h.tabAt hx;obtain ⟨c0, c1, c2, c3, c4, f0⟩ := cells5 h.blk;rw [hvt] at c2;have HTAB := Lib.hid (h.tab x (by rw [h.tlen]; exact hx));have HLT := Lib.hid hlt;obtain ⟨t, ht⟩ : ∃ t, t = s.ts.getD x 0 := ⟨_, rfl⟩;rw [<- ht] at hct HTAB;have hxi : (x : Int) < s.ts.length := by omega
 have HCE := Lib.hid hcells;have HOK : Hid (∀ k, ∀ hk : k < ts.length, ts[k].ll < eMax /\ ts[k].lh < eMax /\ ts[k].hl < eMax /\ ts[k].hh < eMax) := Lib.hid fun k hk => hok _ (List.getElem_mem hk)
 clear h hlt hr ht hvt hcells hok c0 c1 c3 c4 f0;have hmk := makeMap_run (P := Tryz.prog) w 201;obtain ⟨w1, hw1⟩ : ∃ w1, w1 = w.alloc (.map #[] 0) := ⟨_, rfl⟩;have HM1 : Hid (MapIs w1 w.heap.size encE (seenL [])) := by rw [hw1]; exact Lib.hid (mapIs_new w encE)
 have HB1 : Hid (Below w.heap.size w w1) := by rw [hw1]; exact Lib.hid (below_new1 _ _)
 have hs1 : w1.heap.size = w.heap.size + 1 := by rw [hw1]; simp
 rw [<- hw1] at hmk;clear hw1
 go_enter Tryz.func135, Tryz.ntmps135
 go_wp2_with fail
 go_loopw [8, 22] (fun s8 s22 wr => ∃ (k : Nat) (Wt : List (Nat × Nat)), k <= ts.length /\ s22 = .int .i64 k /\ s8 = .int .i64 Wt.length /\ Below w.heap.size w wr /\ w1.heap.size <= wr.heap.size /\ MapIs wr w.heap.size encE (seenL Wt) /\ Hid (WantP (d.tab x) ((ts.take k).flatMap tnPairs) Wt)) (fun _ s22 _ => ts.length - (intOf s22).toNat)
 case atStart => exact ⟨0, [], Nat.zero_le _, rfl, rfl, HB1.out, Nat.le_refl _, HM1.out, Lib.hid ⟨List.nodup_nil, fun _ h => by simp at h, fun _ h => by simp at h, Nat.le_refl _⟩⟩
 case round =>
  obtain ⟨k, Wt, hk, rfl, rfl, hbel, hsz, hmap, HW⟩ := hrel;have HBEL := Lib.hid hbel;have HMAP := Lib.hid hmap;clear hbel hmap
  by_cases hlt : k < ts.length
  ·
   obtain ⟨g, rfl, hbg, hc⟩ := HCE.out k hlt;obtain ⟨ok1, ok2, ok3, ok4⟩ := HOK.out k hlt
   have HTK : Hid ((ts.take (k + 1)).flatMap tnPairs = (ts.take k).flatMap tnPairs ++ [(ts[k].ll, ts[k].hl), (ts[k].lh, ts[k].hh)]) := Lib.hid (by
    rw [List.take_succ_eq_append_getElem hlt, List.flatMap_append]; rfl)
   have hb' := HBEL.out;obtain ⟨tn, htn⟩ : ∃ tn, tn = ts[k] := ⟨_, rfl⟩;rw [<- htn] at hc ok1 ok2 ok3 ok4 HTK;obtain ⟨⟨i0, i1, i2, i3, i4⟩, ll, lh, hl, hh⟩ := tn;have e0 := (hb'.cell (p := ⟨g, k * 9, none⟩) (lt_of_cell (hc 0 _ rfl))).trans (hc 0 _ rfl);have e1 := (hb'.cell (p := ⟨g, k * 9 + 1, none⟩) (lt_of_cell (hc 1 _ rfl))).trans (hc 1 _ rfl);have e2 := (hb'.cell (p := ⟨g, k * 9 + 2, none⟩) (lt_of_cell (hc 2 _ rfl))).trans (hc 2 _ rfl);have e3 := (hb'.cell (p := ⟨g, k * 9 + 3, none⟩) (lt_of_cell (hc 3 _ rfl))).trans (hc 3 _ rfl);have e4 := (hb'.cell (p := ⟨g, k * 9 + 4, none⟩) (lt_of_cell (hc 4 _ rfl))).trans (hc 4 _ rfl);have e5 := (hb'.cell (p := ⟨g, k * 9 + 5, none⟩) (lt_of_cell (hc 5 _ rfl))).trans (hc 5 _ rfl);have e6 := (hb'.cell (p := ⟨g, k * 9 + 6, none⟩) (lt_of_cell (hc 6 _ rfl))).trans (hc 6 _ rfl);have e7 := (hb'.cell (p := ⟨g, k * 9 + 7, none⟩) (lt_of_cell (hc 7 _ rfl))).trans (hc 7 _ rfl);have e8 := (hb'.cell (p := ⟨g, k * 9 + 8, none⟩) (lt_of_cell (hc 8 _ rfl))).trans (hc 8 _ rfl);dsimp only at ok1 ok2 ok3 ok4 HTK;have hkz : (k : Int) < ts.length := by omega
   clear hc hb' htn;go_upto_region 7 with fail;obtain ⟨wi, hwi⟩ : ∃ wi, wi = (wr.alloc (.cells #[.int .i64 i0, .int .i64 i1, .int .i64 i2, .int .i64 i3, .int .i64 i4, .int .i64 ll, .int .i64 lh, .int .i64 hl, .int .i64 hh] 181)).alloc (.cells #[.int .i64 ll, .int .i64 hl, .int .i64 lh, .int .i64 hh] 168) := ⟨_, rfl⟩;rw [<- hwi];have hbi : Below wr.heap.size wr wi := by rw [hwi]; exact (below_new1 _ _).alloc (by simp) _
   have hblk : wi.heap[wr.heap.size + 1]? = some (.cells #[.int .i64 ll, .int .i64 hl, .int .i64 lh, .int .i64 hh] 168 (0, 0)) := by
    rw [hwi];have := heap_alloc_new (wr.alloc (.cells #[.int .i64 i0, .int .i64 i1, .int .i64 i2, .int .i64 i3, .int .i64 i4, .int .i64 ll, .int .i64 lh, .int .i64 hl, .int .i64 hh] 181)) (.cells #[.int .i64 ll, .int .i64 hl, .int .i64 lh, .int .i64 hh] 168);rw [World.size_alloc] at this; exact this
   have HP : Hid (∀ j, j < 2 -> ∃ p1 p2 : Nat, wi.cell? ⟨wr.heap.size + 1, j * 2, none⟩ = some (.int .i64 p1) /\ wi.cell? ⟨wr.heap.size + 1, j * 2 + 1, none⟩ = some (.int .i64 p2) /\ p1 < eMax /\ p2 < eMax /\ [(ll, hl), (lh, hh)].take (j + 1) = [(ll, hl), (lh, hh)].take j ++ [(p1, p2)]) := by
    refine Lib.hid fun j hj => ?_
    rcases (by omega : j = 0 \/ j = 1) with rfl | rfl
    ·
     exact ⟨ll, hl, by rw [cell_of_row _ _ _ _ _ _ hblk]; rfl, by rw [cell_of_row _ _ _ _ _ _ hblk]; rfl, ok1, ok3, rfl⟩
    ·
     exact ⟨lh, hh, by rw [cell_of_row _ _ _ _ _ _ hblk]; rfl, by rw [cell_of_row _ _ _ _ _ _ hblk]; rfl, ok2, ok4, rfl⟩
   have HBI := Lib.hid (HBEL.out.trans (hbi.mono HBEL.out.size));have hmi := HMAP.out.below hbi;have hszi : w1.heap.size <= wi.heap.size := Nat.le_trans hsz hbi.size;have hnb : wr.heap.size + 1 < wi.heap.size := (Array.getElem?_eq_some_iff.1 hblk).1;clear hwi hblk e0 e1 e2 e3 e4 e5 e6 e7 e8 ok1 ok2 ok3 ok4 HMAP HBEL hbi
   go_loopw [8, 38] (fun s8 s38 wx => ∃ (j : Nat) (Wt : List (Nat × Nat)), j <= 2 /\ s38 = .int .i64 j /\ s8 = .int .i64 Wt.length /\ Below w.heap.size w wx /\ wi.heap.size <= wx.heap.size /\ (∀ q, q ≠ w.heap.size -> q < wi.heap.size -> wx.heap[q]? = wi.heap[q]?) /\ MapIs wx w.heap.size encE (seenL Wt) /\ Hid (WantP (d.tab x) ((ts.take k).flatMap tnPairs ++ [(ll, hl), (lh, hh)].take j) Wt)) (fun _ s38 _ => 2 - (intOf s38).toNat)
   case atStart => exact ⟨0, Wt, Nat.zero_le _, rfl, rfl, HBI.out, Nat.le_refl _, fun _ _ _ => rfl, hmi, Lib.hid (by simpa using HW.out)⟩
   case round =>
    rename World => wy
    clear HW hmi;obtain ⟨j, W2, hj, rfl, rfl, hbel, hszy, hkeep, hmap, HW⟩ := hrel
    by_cases hlt2 : j < 2
    ·
     obtain ⟨p1, p2, k1, k2, b1, b2, hpt⟩ := HP.out j hlt2;have q1 := (World.cell?_of_block (w := wi) (w' := wy) (a := ⟨wr.heap.size + 1, j * 2, none⟩) (hkeep _ (by dsimp only; omega) hnb)).trans k1;have q2 := (World.cell?_of_block (w := wi) (w' := wy) (a := ⟨wr.heap.size + 1, j * 2 + 1, none⟩) (hkeep _ (by dsimp only; omega) hnb)).trans k2;have HPT := Lib.hid hpt;have HKEEP := Lib.hid hkeep;have HBY := Lib.hid hbel;have HMY := Lib.hid hmap;have hjz : (j : Int) < 2 := by omega
     clear k1 k2 hpt hkeep hbel hmap;go_upto_region 9 with fail;obtain ⟨wz, hwz⟩ : ∃ wz, wz = wy.alloc (.cells #[.int .i64 p1, .int .i64 p2] 168) := ⟨_, rfl⟩;rw [<- hwz];have hbz : Below wy.heap.size wy wz := by rw [hwz]; exact below_new1 _ _
     have hblk : wz.heap[wy.heap.size]? = some (.cells #[.int .i64 p1, .int .i64 p2] 168 (0, 0)) := by rw [hwz]; exact heap_alloc_new _ _
     have z1 : wz.cell? ⟨wy.heap.size, 0, none⟩ = some (.int .i64 p1) := by rw [cell_of_row _ _ 0 _ _ _ hblk]; rfl
     have z2 : wz.cell? ⟨wy.heap.size, 1, none⟩ = some (.int .i64 p2) := by rw [cell_of_row _ _ 1 _ _ _ hblk]; rfl
     have HBZ := Lib.hid (HBY.out.trans (hbz.mono HBY.out.size));have HMZ := Lib.hid (HMY.out.below hbz);have HKZ : Hid (∀ q, q ≠ w.heap.size -> q < wi.heap.size -> wz.heap[q]? = wi.heap[q]?) := Lib.hid fun q h1 h2 => (hbz.block q (by omega)).trans (HKEEP.out q h1 h2)
     have hsz2 : wi.heap.size <= wz.heap.size := Nat.le_trans hszy hbz.size;have v2 := (HBZ.out.cell (p := ⟨sb, 2, none⟩) (lt_of_cell c2)).trans c2;have vt := (HBZ.out.cell (p := ⟨gt, x, none⟩) (lt_of_cell hct)).trans hct;clear hwz hbz hblk q1 q2 HMY HKEEP HBY;obtain ⟨a1, ha1⟩ : ∃ q, q = eflip p1 (eneg p2) := ⟨_, rfl⟩;obtain ⟨a2, ha2⟩ : ∃ q, q = eflip p2 (eneg p2) := ⟨_, rfl⟩;have HBK : Hid (bkey p1 p2 = (a1, a2)) := Lib.hid (by unfold bkey; rw [ha1, ha2])
     have HNE : Hid (a1 = a2 ↔ p1 = p2) := Lib.hid ⟨fun e => by
      by_cases e2 : p1 = p2
      ·
       exact e2
      ·
       exact (eflip_ne (b := eneg p2) e2 (by rw [<- ha1, <- ha2, e])).elim, fun e => by rw [ha1, ha2, e]⟩
     have HNORM := Lib.hid (norm_any p1 p2 wz b1 b2);rw [<- ha1, <- ha2] at HNORM;obtain ⟨ng, hng⟩ : ∃ q, q = eneg p2 := ⟨_, rfl⟩;rw [<- hng] at HNORM;have HTZ := Lib.hid (HTAB.out.below HBZ.out HLT.out);clear ha1 ha2 hng b1 b2;go_wp2_with fail;refine HNORM.out.mono ?_;rintro e w' ⟨rfl, rfl⟩;clear HNORM z1 z2;have hk1 : ∃ fd : Option Nat, fd = d.tab x (a1, a2) := ⟨_, rfl⟩;obtain ⟨fd, hfd⟩ := hk1;have HFIND : Hid (Calls Tryz.prog 128 #[.pointer (some ⟨t, 0, none⟩), .int .i64 a1, .int .i64 a2] wz fun x w' => x = .returned (.tuple #[.int .i64 ((fd.getD 0 : Nat) : Int), .bool fd.isSome]) /\ wz = w') := by
      refine Lib.hid ?_;cases fd with
      | none => exact find_no o x t (d.tab x) a1 a2 wz HTZ.out hfd.symm
      | some id => exact find_yes o x t (d.tab x) a1 a2 id wz HTZ.out hfd.symm
     have HFD := Lib.hid hfd;clear hfd;go_wp2_with fail;refine HFIND.out.mono ?_;rintro e w' ⟨rfl, rfl⟩;clear HFIND v2 vt;go_upto_region 12 with fail;obtain ⟨wk, hwk⟩ : ∃ wk, wk = wz.alloc (.cells #[.int .i64 a1, .int .i64 a2] 168) := ⟨_, rfl⟩;rw [<- hwk];have hbk : Below wz.heap.size wz wk := by rw [hwk]; exact below_new1 _ _
     have hblk : wk.heap[wz.heap.size]? = some (.cells #[.int .i64 a1, .int .i64 a2] 168 (0, 0)) := by rw [hwk]; exact heap_alloc_new _ _
     have z1 : wk.cell? ⟨wz.heap.size, 0, none⟩ = some (.int .i64 a1) := by rw [cell_of_row _ _ 0 _ _ _ hblk]; rfl
     have z2 : wk.cell? ⟨wz.heap.size, 1, none⟩ = some (.int .i64 a2) := by rw [cell_of_row _ _ 1 _ _ _ hblk]; rfl
     have HBK2 := Lib.hid (HBZ.out.trans (hbk.mono HBZ.out.size));have HMK := Lib.hid (HMZ.out.below hbk);have HKK : Hid (∀ q, q ≠ w.heap.size -> q < wi.heap.size -> wk.heap[q]? = wi.heap[q]?) := Lib.hid fun q h1 h2 => (hbk.block q (by omega)).trans (HKZ.out q h1 h2)
     have hsz3 : wi.heap.size <= wk.heap.size := Nat.le_trans hsz2 hbk.size;clear hwk hbk hblk HMZ HKZ HBZ HTZ
     by_cases hpp : p1 = p2
     ·
      have heq : a1 = a2 := HNE.out.2 hpp;have HW2 : Hid (WantP (d.tab x) ((ts.take k).flatMap tnPairs ++ [(ll, hl), (lh, hh)].take (j + 1)) W2) := Lib.hid (by rw [HPT.out, <- List.append_assoc]; exact HW.out.skip fun h => (h hpp).elim);have heqi : ((a1 : Int) == a2) = true := by simp [heq]
      clear hpp heq;go_wp2_with fail;go_roundw
      case rel => exact ⟨j + 1, W2, by omega, by go_num, rfl, HBK2.out, hsz3, HKK.out, HMK.out, HW2⟩
      case measure => simp [intOf]; omega
     have heqi : ((a1 : Int) == a2) = false := by
      have h1 : a1 ≠ a2 := fun e => hpp (HNE.out.1 e)
      simp; omega
     cases fd with
     | some id =>
       have HW2 : Hid (WantP (d.tab x) ((ts.take k).flatMap tnPairs ++ [(ll, hl), (lh, hh)].take (j + 1)) W2) := Lib.hid (by
        rw [HPT.out, <- List.append_assoc];exact HW.out.skip fun _ h => by rw [HBK.out, <- HFD.out] at h; cases h)
       clear hpp;go_wp2_with fail;go_roundw
       case rel => exact ⟨j + 1, W2, by omega, by go_num, rfl, HBK2.out, hsz3, HKK.out, HMK.out, HW2⟩
       case measure => simp [intOf]; omega
     | none =>
       have hlook := HMK.out.lookup (P := Tryz.prog) kEdge Tryz.underlying201 Tryz.zeroValue4 (a1, a2) false;rw [seen_get] at hlook;simp only [Bool.false_eq_true, if_false] at hlook
       by_cases hin : (a1, a2) ∈ W2
       ·
        rw [decide_eq_true hin] at hlook
        have HW2 : Hid (WantP (d.tab x) ((ts.take k).flatMap tnPairs ++ [(ll, hl), (lh, hh)].take (j + 1)) W2) := Lib.hid (by
         rw [HPT.out, <- List.append_assoc];exact HW.out.skip fun _ _ => by rw [HBK.out]; exact hin)
        unfold encE at hlook;dsimp only at hlook;clear hpp hin;go_wp2_with fail;go_roundw
        case rel => exact ⟨j + 1, W2, by omega, by go_num, rfl, HBK2.out, hsz3, HKK.out, HMK.out, HW2⟩
        case measure => simp [intOf]; omega
       ·
        rw [decide_eq_false hin] at hlook
        have HW2 : Hid (WantP (d.tab x) ((ts.take k).flatMap tnPairs ++ [(ll, hl), (lh, hh)].take (j + 1)) (W2 ++ [(a1, a2)])) := Lib.hid (by
         rw [HPT.out, <- List.append_assoc];have := HW.out.add (p := (p1, p2)) (by rw [HBK.out, <- HFD.out]) (by rw [HBK.out]; exact hin);rw [HBK.out] at this;exact this)
        have HPUT := Lib.hid (seen_put hin);have hwl : W2.length <= 4194312 := by
         have h1 := HW.out.len;have h2 : ((ts.take k).flatMap tnPairs).length <= 2 * ts.length := by
          rw [List.length_flatMap];have : ((ts.take k).map fun a => (tnPairs a).length) = List.replicate (ts.take k).length 2 := by
           rw [List.eq_replicate_iff];exact ⟨by simp, fun b hb => by obtain ⟨q, _, rfl⟩ := List.mem_map.1 hb; rfl⟩
          rw [this]; simp; omega
         have h3 : ([(ll, hl), (lh, hh)].take j).length <= 2 := by simp; omega
         rw [List.length_append] at h1;omega
        unfold encE at hlook;dsimp only at hlook;clear hpp hin;go_wp2_with (refine wpList_updateM (l := seenL W2) (enc := encE) rfl _ _ _ rfl kEdge Tryz.underlying201 (a1, a2) (.bool true) rfl rfl rfl HMK.out ?_; intro w6 hm6 hg6);rw [HPUT.out] at hm6;have HB6 := Lib.hid (HBK2.out.grown hg6 HBK2.out.size (fun q hq => by cases hq; exact Nat.le_refl _));have HM6 := Lib.hid hm6;have hs6 : wi.heap.size <= w6.heap.size := Nat.le_trans hsz3 hg6.size;have HK6 : Hid (∀ q, q ≠ w.heap.size -> q < wi.heap.size -> w6.heap[q]? = wi.heap[q]?) := Lib.hid fun q h1 h2 => (hg6.block q (by omega) (fun e => h1 (by injection e))).trans (HKK.out q h1 h2)
        clear hm6 hg6;go_roundw
        case rel => exact ⟨j + 1, W2 ++ [(a1, a2)], by omega, by go_num, by simp, HB6.out, hs6, HK6.out, HM6.out, HW2⟩
        case measure => simp [intOf]; omega
    ·
     have hj2 : j = 2 := by omega
     subst hj2;have HW3 : Hid (WantP (d.tab x) ((ts.take (k + 1)).flatMap tnPairs) W2) := Lib.hid (by rw [HTK.out]; exact HW.out);have HBY := Lib.hid hbel;have HMY := Lib.hid hmap;have hs9 : w1.heap.size <= wy.heap.size := Nat.le_trans hszi hszy;clear hbel hmap hkeep;go_wp2_with fail;go_roundw
     case rel => exact ⟨k + 1, W2, by omega, by go_num, rfl, HBY.out, hs9, HMY.out, HW3⟩
     case measure => simp [intOf]; omega
  ·
   have hke : k = ts.length := by omega
   have HWF : Hid (∃ W' : List (Nat × Nat), Ending.returned (.int .i64 (Wt.length : Nat)) = .returned (.int .i64 (W'.length : Nat)) /\ WantP (d.tab x) (ts.flatMap tnPairs) W' /\ Below w.heap.size w wr) := Lib.hid ⟨Wt, rfl, by have := HW.out; rw [hke, List.take_length] at this; exact this, HBEL.out⟩;have hkz : ¬ (k : Int) < ts.length := by omega
   clear hke;go_wp2_with fail;go_ret;exact HWF.out
end Go.Proofs.YtchliiaknmknhaaGreat

namespace Go.Proofs.YtchliiaknmknhaaGreat
open Go.RowKit Go.Shelf
open Go.ChangeMaps (setBlock)
def KeysAt (n : Nat) (w : World) (v : Value) (ks : List (Nat × Nat)) : Prop := ∃ a c, v = .slice a ks.length c /\ ∀ j q, ks[j]? = some q -> ∃ g, a = some ⟨g, 0, none⟩ /\ n <= g /\ w.cell? ⟨g, j * 2, none⟩ = some (.int .i64 q.1) /\ w.cell? ⟨g, j * 2 + 1, none⟩ = some (.int .i64 q.2)
theorem flatK_get (ks : List (Nat × Nat)) {j : Nat} {q : Nat × Nat} (h : ks[j]? = some q) (i : Nat) (hi : i < 2) : (Go.Sort.flatK keyCs 2 ks.toArray)[j * 2 + i]! = (keyCs q)[i]! := by
 obtain ⟨hj, rfl⟩ := List.getElem?_eq_some_iff.1 h;rw [Go.Sort.get_flatK _ _ _ _ (by simp; omega)];have e1 : (j * 2 + i) / 2 = j := by omega
 have e2 : (j * 2 + i) % 2 = i := by omega
 rw [e1, e2];congr 2;simp [hj]
theorem keys_len (ks : List (Nat × Nat)) : (ks.flatMap keyCs).length = ks.length * 2 := flat_length keyCs 2 (fun _ => rfl) ks
theorem holdsK_row {oG : Own} {w : World} {g cap m : Nat} {ks : List (Nat × Nat)} (h : RowR oG w .slots 168 2 (.slice (some ⟨g, 0, none⟩) m cap) ks.length (ks.flatMap keyCs)) : Go.Sort.HoldsK keyCs 2 w g 0 ks.toArray := by
 intro j hj;have hj' : j < ks.length * 2 := by simpa using hj
 refine ⟨?_, by rw [Nat.zero_add]; exact h.frozen j⟩;rw [Nat.zero_add, h.cell j (by rw [keys_len]; exact hj')];have hd : j / 2 < ks.length := by omega
 have hm : j % 2 < 2 := by omega
 have e : j = j / 2 * 2 + j % 2 := by omega
 obtain ⟨q, hq⟩ : ∃ q, ks[j / 2]? = some q := ⟨_, List.getElem?_eq_getElem hd⟩;have h1 := flat_get keyCs 2 (fun _ => rfl) ks (j / 2) (j % 2) q hq hm;have h2 := flatK_get ks hq (j % 2) hm;rw [<- e] at h1 h2;rw [h1, h2];obtain h0 | h0 : j % 2 = 0 \/ j % 2 = 1 := by omega
 ·
  rw [h0]; rfl
 ·
  rw [h0]; rfl
theorem keysAt_holds {n : Nat} {w : World} {g cap : Nat} {ks : List (Nat × Nat)} (hg : n <= g) (h : Go.Sort.HoldsK keyCs 2 w g 0 ks.toArray) : KeysAt n w (.slice (some ⟨g, 0, none⟩) ks.length cap) ks := by
 refine ⟨_, _, rfl, fun j q hq => ⟨g, rfl, hg, ?_, ?_⟩⟩
 ·
  have hj := (List.getElem?_eq_some_iff.1 hq).1;have h1 := (h (j * 2) (by simp; omega)).1;have h2 := flatK_get ks hq 0 (by omega);rw [Nat.add_zero] at h2;rw [Nat.zero_add] at h1;rw [h1, h2]; rfl
 ·
  have hj := (List.getElem?_eq_some_iff.1 hq).1;have h1 := (h (j * 2 + 1) (by simp; omega)).1;have h2 := flatK_get ks hq 1 (by omega);rw [Nat.zero_add] at h1;rw [h1, h2]; rfl
theorem sortStep {f : Nat × Nat -> Option Nat} {W w : World} {v : Value} {ks : List (Nat × Nat)} {oG : Own} {Bx t mb : Nat} {lm : List ((Nat × Nat) × Value)} (row : RowR oG w .slots 168 2 v ks.length (ks.flatMap keyCs)) (hlen : ks.length < 1000000000) (hlow : Below W.heap.size W w)
 (cB : W.cell? ⟨Bx, 0, none⟩ = some (.pointer (some ⟨t, 0, none⟩))) (cT : W.cell? ⟨t, 0, none⟩ = some (.map (some mb))) (ge : ∀ k r, oG k = some r -> W.heap.size <= k) (lt : OwnLt oG w) (hmap : ∀ W' : World, W'.heap[mb]? = W.heap[mb]? -> MapIs W' mb encE lm) (hget : ∀ k, getL lm k = (f k).map (fun (id : Nat) => Value.int .i64 id))
 (lB : Bx < W.heap.size) (lT : t < W.heap.size) (lM : mb < W.heap.size) :
 Calls Tryz.prog 164 #[v, .func (.func 165) #[] #[.pointer (some ⟨Bx, 0, none⟩)]] w fun e w' => e = .returned (.tuple #[]) /\ ∃ ks' : List (Nat × Nat), ks'.Perm ks /\ KeysAt W.heap.size w' v ks' /\ Below W.heap.size W w' := by
 rcases row.ex with ⟨rfl, h0⟩ | ⟨g, cap, cur, rfl, hog, hg, _⟩
 ·
  have hk : ks = [] := List.eq_nil_of_length_eq_zero h0;subst hk;have hcon := AnyF.slices_SortFunc_none Tryz.sortKeys none 0 (.func (.func 165) #[] #[.pointer (some ⟨Bx, 0, none⟩)]) w
  change Calls Tryz.prog 164 _ _ _ at hcon
  refine hcon.mono ?_;rintro e w' ⟨rfl, rfl⟩;exact ⟨rfl, [], List.Perm.refl _, ⟨none, 0, rfl, fun j q h => by simp at h⟩, hlow⟩
 ·
  have h1 := ge g _ hog;refine (keySort_any (f := f) (holdsK_row row) (lt g _ hog) hlen ((hlow.cell (p := ⟨Bx, 0, none⟩) lB).trans cB) ((hlow.cell (p := ⟨t, 0, none⟩) lT).trans cT) (hmap w (hlow.block mb lM)) hget (by omega) (by omega) (by omega)).mono ?_;rintro e w' ⟨rfl, ks', hp, hh, hs, e1, e2, e3, hk⟩;have := hp.length_eq;refine ⟨rfl, ks', hp, ?_, ⟨e1.trans hlow.os, e2.trans hlow.tape, e3.trans hlow.output, Nat.le_trans hlow.size hs, fun b hb => (hk b (Nat.lt_of_lt_of_le hb hlow.size) (by omega)).trans (hlow.block b hb)⟩⟩;rw [<- this];exact keysAt_holds h1 hh
theorem wpIn_sameR {F : Fence} {n : Nat} {P : Program} {c : Code} {Q : Exit -> Act -> World -> Prop} {a : Act} {w : World} (R : World -> Prop) (h : ∃ A, c.wpIn F n P (fun e a' W' => match e with | .normal => a' = A /\ R W' | _ => False) a w /\ ∀ W', R W' -> Q .normal A W') : c.wpIn F n P Q a w := by
 obtain ⟨A, h1, h2⟩ := h;refine wpIn_mono h1 ?_;intro e a' W' h;cases e with
 | normal => obtain ⟨rfl, h3⟩ := h; exact h2 _ h3
 | _ => exact h.elim
structure YS (n₀ : Nat) (W w2 : World) (Bx t : Nat) (ak : Option Addr) (ks : List (Nat × Nat)) (M M1 : Nat -> Prop) (wr : World) : Prop where
 low : Below n₀ W wr
 box : wr.cell? ⟨Bx, 0, none⟩ = some (.pointer (some ⟨t, 0, none⟩))
 keys : ∀ j q, ks[j]? = some q -> ∃ g, ak = some ⟨g, 0, none⟩ /\ W.heap.size <= g /\ g < w2.heap.size /\ wr.cell? ⟨g, j * 2, none⟩ = some (.int .i64 q.1) /\ wr.cell? ⟨g, j * 2 + 1, none⟩ = some (.int .i64 q.2)
 nb : ¬ M1 Bx
 sub : ∀ k, M1 k -> M k \/ w2.heap.size <= k
 lt : ∀ k, M k -> k < W.heap.size
 ge : ∀ k, M1 k -> n₀ <= k
 wr : Wr (fun k => n₀ <= k) w2 wr
theorem YS.go {n₀ : Nat} {W w2 : World} {Bx t : Nat} {ak : Option Addr} {ks : List (Nat × Nat)} {M M1 M2 : Nat -> Prop} {wr wx w' : World} (h : YS n₀ W w2 Bx t ak ks M M1 wr) (hn : n₀ <= W.heap.size) (hx : Below wr.heap.size wr wx) (hw : Wr M1 wx w') (hM : ∀ k, M2 k -> M1 k \/ wx.heap.size <= k) : YS n₀ W w2 Bx t ak ks M M2 w' := by
 have s0 := h.low.size;have s1 := h.wr.size;have s2 := hx.size;have keep : ∀ {b k : Nat} {v : Value}, wr.cell? ⟨b, k, none⟩ = some v -> ¬ M1 b -> w'.cell? ⟨b, k, none⟩ = some v := fun {b k v} hc hb => by
  have hb' : b < wr.heap.size := lt_of_cell hc;exact (World.cell?_of_block (w := wx) (a := ⟨b, k, none⟩) (hw.keep b (by omega) hb)).trans ((hx.cell (p := ⟨b, k, none⟩) hb').trans hc)
 refine ⟨h.low.trans ((hx.mono (by omega)).trans (hw.below h.ge (by omega))), keep h.box h.nb, fun j q hq => ?_, fun e => ?_, fun k hk => ?_, h.lt, fun k hk => ?_, h.wr.trans ((Wr.of_below hx (fun k => n₀ <= k)).trans hw (fun _ _ e => e) (fun k _ hk => h.ge k hk)) (fun _ _ e => e) (fun _ _ e => e)⟩
 ·
  obtain ⟨g, e, a1, a2, a3, a4⟩ := h.keys j q hq;have hg : ¬ M1 g := fun hg => by
   rcases h.sub g hg with h1 | h1
   ·
    have := h.lt g h1; omega
   ·
    omega
  exact ⟨g, e, a1, a2, keep a3 hg, keep a4 hg⟩
 ·
  rcases hM Bx e with h1 | h1
  ·
   exact h.nb h1
  ·
   have := lt_of_cell h.box; simp at this; omega
 ·
  rcases hM k hk with h1 | h1
  ·
   exact h.sub k h1
  ·
   right; omega
 ·
  rcases hM k hk with h1 | h1
  ·
   exact h.ge k h1
  ·
   omega
theorem tabEach1_gives (n n₀ Bx t v : Nat) {o : Own} {w0 : World} {f : Nat × Nat -> Option Nat} (ht : TabIs o w0 v t f) (hlt : OwnLt o w0) (h0 : w0.heap.size <= n₀) (w : World) (hw : Below n₀ w0 w) (hn0 : n₀ <= w.heap.size) (hBn : n₀ <= Bx) (hBp : w.cell? ⟨Bx, 0, none⟩ = some (.pointer (some ⟨t, 0, none⟩)))
 (hcard : ∀ l : List ((Nat × Nat) × Value), (l.map Prod.fst).Nodup -> (∀ k, getL l k = (f k).map (fun (id : Nat) => Value.int .i64 id)) -> l.length < 1000000000) :
 GivesE Fence.wide n 0 Tryz.prog 163 #[.pointer (some ⟨Bx, 0, none⟩)] (fun p : (Nat × Nat) × Nat => #[encE p.1, .int .i64 p.2]) n₀ (· = Bx) (fun xs => (xs.map Prod.fst).Nodup /\ ∀ k id, (k, id) ∈ xs ↔ f k = some id) w := by
 intro l J M W hOw hMi hWr hBM hY hJ;have hBW : Bx < W.heap.size := Nat.lt_of_lt_of_le (lt_of_cell hBp) hWr.size;have hlow : Below n₀ w0 W := hw.trans (hWr.below (fun k h => h.1) hn0);have cB : W.cell? ⟨Bx, 0, none⟩ = some (.pointer (some ⟨t, 0, none⟩)) := (World.cell?_of_block (w := w) (a := ⟨Bx, 0, none⟩) (hWr.keep Bx (lt_of_cell hBp) (fun h => h.2 rfl))).trans hBp;obtain ⟨mb, lm, h1, h2, h3, h4⟩ := ht.ex;have htl : t < w0.heap.size := (Array.getElem?_eq_some_iff.1 h1).1;have hT : W.heap[t]? = some (.cells #[.map (some mb)] 193 (0, 0)) := (hlow.block t (by omega)).trans h1;have cT := cell1 hT;have hmb : mb < w0.heap.size := h3.lt;obtain ⟨es, clock, hme, hel, hborn, hbn⟩ := h3.ex;have hM : W.heap[mb]? = some (.map es clock) := (hlow.block mb (by omega)).trans hme;have hrg := run_range_map (P := Tryz.prog) W 191 _ _ mb es clock Tryz.underlying191 hM;obtain ⟨W1, hW1⟩ : ∃ W1, W1 = W.alloc (.mapIter (some mb) clock #[] clock) := ⟨_, rfl⟩;have hb1 : Below W.heap.size W W1 := by rw [hW1]; exact below_new1 _ _
 have hi1 : W1.heap[W.heap.size]? = some (.mapIter (some mb) clock #[] clock) := by rw [hW1]; exact heap_alloc_new _ _
 rw [<- hW1] at hrg;have hmW : mb < W.heap.size := by have := hlow.size; omega
 have hesz : es.size < 1000000000 := by
  have e1 := congrArg List.length hel;have e2 := hcard lm h3.nodup h4;simp at e1;omega
 have HESZ := Lib.hid hesz;have HMAP : Hid (∀ W', W'.heap[mb]? = W.heap[mb]? -> MapIs W' mb encE lm) := Lib.hid fun W' hh => ⟨⟨es, clock, hh.trans hM, hel, hborn, hbn⟩, h3.nodup⟩
 have HGET := Lib.hid h4;have HLM := Lib.hid (hcard lm h3.nodup h4);have HND := Lib.hid h3.nodup;have HM := Lib.hid hM;have HBORN := Lib.hid hborn;have HBN := Lib.hid hbn;have HEL := Lib.hid hel;have HB1 := Lib.hid hb1;have HI1 := Lib.hid hi1;have HJ := Lib.hid hJ;have HNB := Lib.hid (hBM Bx rfl);have HY := Lib.hid hY;have HOW := Lib.hid hOw;have HMI := Lib.hid hMi;obtain ⟨r, hr⟩ : ∃ r, r = W.heap.size := ⟨_, rfl⟩;rw [<- hr] at hrg HI1;have HR := Lib.hid hr;clear hcard hesz hJ hY hOw hMi hb1 hi1 hW1 hM hborn hbn hel h1 h2 h3 h4 hT hme ht hWr hBM hw hr;refine callsIn_of_wp Tryz.func163 rfl trivial ?_ rfl;refine wpIn_wide.2 ?_;simp only [Tryz.ntmps163, List.size_toArray, List.length_cons, List.length_nil, Nat.reduceAdd, Nat.reduceSub, Array.replicate_succ, Array.replicate_zero, List.push_toArray, List.append_toArray, List.nil_append, List.cons_append];go_wp2_with fail
 go_loopg [3] (leftOf es #[]).size (fun gk s3 wr => ∃ seen ks sl oG, KeyS W mb r clock es seen ks sl s3 oG wr /\ gk = (leftOf es seen).size)
 case atStart => exact ⟨#[], [], [], fun _ => none, ⟨HB1.out, HI1.out, SeenS.start es clock, RowR.nil _ _ _ _ _, fun k q h => (by cases h), fun k q h => (by cases h), rfl, by have h : (leftOf es #[]).size <= es.size := (by unfold leftOf; exact Array.size_filter_le); simpa using h⟩, rfl⟩
 case round =>
  obtain ⟨seen, ks, sl, oG, hS, hgk⟩ := hrel;have hMr := (hS.low.block mb hmW).trans HM.out;have hlen : ks.length < 1000000000 := by have := hS.cnt; have := HESZ.out; omega
  rcases run_next_at (P := Tryz.prog) wr 0 r mb clock clock seen es clock hS.it hMr HBORN.out (Nat.le_refl _) with ⟨hz, hrun⟩ | ⟨e, he, w1, hw1, hrun⟩
  ·
   have hperm := hS.came.keysOf (w := W) (b := mb) HBN.out hz HEL.out;have hsort := sortStep hS.row hlen (hS.low.trans (Below.refl _ _)) cB cT (fun k q h => (hS.ge k q h).2) hS.lt HMAP.out HGET.out (lt_of_cell cB) (lt_of_cell cT) hmW;have HPERM := Lib.hid hperm;have HSORT := Lib.hid hsort;clear hS hz hperm hsort;go_wp2_with fail;refine HSORT.out.mono ?_;rintro x w2 ⟨rfl, ks', hp, hka, hb2⟩;obtain ⟨ak, ck, rfl, hcells⟩ := hka;have HP := Lib.hid (hp.trans HPERM.out);have HCL := Lib.hid hcells;have HB2 := Lib.hid hb2;have hJ2 : J [] M w2 := HMI.out _ _ _ _ HJ.out ⟨hb2.os, hb2.tape, hb2.output, hb2.size, fun k hk _ => hb2.block k hk⟩;have HJ2 := Lib.hid hJ2;clear hp hcells hb2 hJ2 hrun hMr hlen hgk;go_wp2_with fail;refine (wpIn_wide (n := n)).1 ?_;obtain ⟨xs, hxs⟩ : ∃ xs, xs = ks'.map (fun k => (k, (f k).getD 0)) := ⟨_, rfl⟩;have hgood := good_keys HP.out HND.out HGET.out hxs;have hkl : ks'.length < 1000000000 := by have h1 := HP.out.length_eq; have h2 := HLM.out; simp at h1; omega
   have HXS := Lib.hid hxs;have HGOOD := Lib.hid hgood;have hys : YS n₀ W w2 Bx t ak ks' M M w2 := by
    refine ⟨HB2.out.mono (by omega), (HB2.out.cell (p := ⟨Bx, 0, none⟩) (lt_of_cell cB)).trans cB, fun j q hq => ?_, HNB.out, fun k h => .inl h, fun k hk => (HOW.out _ _ _ HJ.out k hk).2, fun k hk => (HOW.out _ _ _ HJ.out k hk).1, Wr.refl _ _⟩;obtain ⟨g, a1, a2, a3, a4⟩ := HCL.out j q hq;exact ⟨g, a1, a2, lt_of_cell a3, a3, a4⟩
   have HYS := Lib.hid hys;have hmx : Tryz.prog.follows .mixedOrders = true := by kernel_rfl
   clear hxs hgood hys
   gi_loopw [27] (fun i wr => ∃ (k : Nat) (M1 : Nat -> Prop), k <= ks'.length /\ i = .int .i64 k /\ J (xs.take k) M1 wr /\ YS n₀ W w2 Bx t ak ks' M M1 wr) (fun i _ => ks'.length - (intOf i).toNat)
   case atStart => exact ⟨0, M, Nat.zero_le _, rfl, HJ2.out, HYS.out⟩
   case round =>
    obtain ⟨k, M1, hk, rfl, hJs, hS⟩ := hrel
    by_cases hlt1 : k < ks'.length
    ·
     obtain ⟨q, hq⟩ : ∃ q, ks'[k]? = some q := ⟨_, List.getElem?_eq_getElem hlt1⟩;obtain ⟨g, hag, hg1, hg2, e0, e1⟩ := hS.keys k q hq;subst hag;have hk1 : (k : Int) < ks'.length := by omega
     have cB3 := hS.box;have cT3 := (hS.low.cell (p := ⟨t, 0, none⟩) (by show t < n₀; omega)).trans cT;obtain ⟨w3, hw3⟩ : ∃ w3, w3 = wr.alloc (.cells #[.int .i64 q.1, .int .i64 q.2] 168) := ⟨_, rfl⟩;have hb3 : Below wr.heap.size wr w3 := by rw [hw3]; exact below_new1 _ _
     have hJ3 : J (xs.take k) M1 w3.drew := HMI.out _ _ _ _ hJs (by
      have := (Wr.of_below hb3 (fun k => n₀ <= k /\ ¬ M1 k)).drew; exact this)
     have hsuf := suf_keys (G := fun xs : List ((Nat × Nat) × Nat) => (xs.map Prod.fst).Nodup /\ ∀ k id, (k, id) ∈ xs ↔ f k = some id) HGOOD.out (k := k) (x := (q, (f q).getD 0)) (by rw [HXS.out, List.getElem?_map, hq]; rfl);obtain ⟨suf, hsuf, htake⟩ := hsuf;obtain ⟨fn, tmps, assign, body, hy, hRR⟩ := HY.out _ (q, (f q).getD 0) M1 w3.drew hJ3 ⟨suf, hsuf⟩;have hmbn : mb < n₀ := by omega
     have hlook := lookK (HMAP.out w3.drew ((hb3.block mb (by have := hS.low.size; omega)).trans (hS.low.block mb hmbn))) HGET.out q;have hbx : w3.heap[wr.heap.size]? = some (.cells #[.int .i64 q.1, .int .i64 q.2] 168 (0, 0)) := by rw [hw3]; exact heap_alloc_new _ _
     obtain ⟨x0, x1, _⟩ := cells2 hbx;have b3 := (hb3.cell (p := ⟨Bx, 0, none⟩) (lt_of_cell cB3)).trans cB3;have t3 := (hb3.cell (p := ⟨t, 0, none⟩) (lt_of_cell cT3)).trans cT3;simp only [encE] at hy;have HRR := Lib.hid hRR;have HS := Lib.hid hS;have HB3 := Lib.hid hb3;have HTK := Lib.hid htake;have HW3 : Hid (_ = w3) := Lib.hid hw3.symm;obtain ⟨b6, hb6⟩ : ∃ b6, b6 = wr.heap.size := ⟨_, rfl⟩;have HB6 : Hid (_ = b6) := Lib.hid hb6.symm;rw [<- hb6] at x0 x1;clear hbx hS hb3 hJ3 hJs hsuf hRR htake hw3 hb6 hlt1 hg1 hg2 hq cB3 cT3
     gi_wp2
     rw [HW3.out, HB6.out];refine wpIn_sameR (fun W' => ∃ M3, J (xs.take k ++ [(q, (f q).getD 0)]) M3 W' /\ Wr M1 w3.drew W' /\ ∀ k, M3 k -> M1 k \/ w3.drew.heap.size <= k) ?_;apply Exists.intro;refine ⟨?_, ?_⟩
     ·
      gi_region_with_o (refine ⟨fun h => (by cases h), HRR.out.mono ?_⟩; rintro e W4 ⟨rfl, M3, hJ4, hw4, hM4⟩)
      all_goals exact ⟨rfl, M3, hJ4, hw4, hM4⟩
     ·
      rintro W4 ⟨M3, hJ4, hw4, hM4⟩;have HJ4 := Lib.hid hJ4;have HS4 := Lib.hid (HS.out.go (by omega) (HB3.out.trans ((below_draw w3 1).mono HB3.out.size)) hw4 hM4);clear hJ4 hw4 hM4 x0 x1 b3 t3 e0 e1 hlook hy
      gi_wp2
      go_roundw
      case rel => exact ⟨k + 1, M3, by omega, by go_num, by rw [HTK.out]; exact HJ4.out, HS4.out⟩
      case measure => simp [intOf]; omega
    ·
     obtain rfl : k = ks'.length := by omega
     have HJS := Lib.hid hJs;have HS := Lib.hid hS;clear hJs hS
     gi_wp2
     go_end0;have ht : xs.take ks'.length = xs := List.take_of_length_le (by rw [HXS.out]; simp);rw [ht] at HJS;exact ⟨⟨_, rfl⟩, xs, M1, HGOOD.out, HJS.out, (Wr.of_below HB2.out (fun k => n₀ <= k)).trans HS.out.wr (fun _ _ e => e) (fun _ _ e => e), fun k hk => (HS.out.sub k hk).imp id fun h => Nat.le_trans HB2.out.size h⟩
  ·
   have hem := (mem_left he).1;obtain ⟨q, hq⟩ : ∃ q, e.key = encE q := by
    have h1 : (e.key, e.val) ∈ es.toList.map (fun e => (e.key, e.val)) := List.mem_map.2 ⟨e, hem, rfl⟩;rw [HEL.out] at h1;obtain ⟨p, _, h2⟩ := List.mem_map.1 h1;exact ⟨p.1, (Prod.mk.inj h2).1.symm⟩
   obtain ⟨w2, hw2⟩ : ∃ w2, w2 = setBlock w1 r (.mapIter (some mb) clock (seen.push e.born) clock) := ⟨_, rfl⟩;have hw2s := hw2;obtain ⟨w3, hw3⟩ : ∃ w3, w3 = w2.alloc (.cells #[.int .i64 q.1, .int .i64 q.2] 168) := ⟨_, rfl⟩;have hb3 : Below w2.heap.size w2 w3 := by rw [hw3]; exact below_new1 _ _
   obtain ⟨row3, lt3⟩ := hS.row3 hw1 hw2 hb3;have z2 : w2.heap.size = wr.heap.size := by rw [hw2]; rcases hw1 with rfl | rfl <;> simp [setBlock]
   have hrl : r < wr.heap.size := (Array.getElem?_eq_some_iff.1 hS.it).1;have hmr : mb ≠ r := by have := HR.out; omega
   have hM2 : w2.heap[mb]? = some (.map es clock) := by rw [hw2]; rcases hw1 with rfl | rfl <;> simp [setBlock, Array.getElem?_setIfInBounds, Ne.symm hmr] <;> exact hMr
   have i2 : w2.heap[r]? = some (.mapIter (some mb) clock (seen.push e.born) clock) := by rw [hw2]; rcases hw1 with rfl | rfl <;> simp [setBlock, hrl]
   have hent := run_entry_at (P := Tryz.prog) w2 r mb clock seen es clock e i2 hM2 hem HBN.out;have HNX : Hid (∀ (g1 k1 : Nat) (w4 : World) (o1 : Own), RowR o1 w4 .slots 168 2 (.slice (some ⟨g1, 0, none⟩) (ks.length + 1) k1) (ks.length + 1) (ks.flatMap keyCs ++ keyCs q) -> Chg (· = .slots) oG o1 w3 w4 -> OwnLt o1 w4 -> KeyS W mb r clock es (seen.push e.born) (ks ++ [q]) (sl ++ [e]) (.slice (some ⟨g1, 0, none⟩) (ks.length + 1) k1) o1 w4) :=
    Lib.hid fun g1 k1 w4 o1 a b c => hS.next (by have := HR.out; omega) he hq hw1 hw2 hb3 a b c
   have HSH := Lib.hid (left_shrinks es seen e he);have cB2 : w3.cell? ⟨w2.heap.size, 0, none⟩ = some (.int .i64 q.1) := by rw [hw3, cell_of_row _ _ 0 _ _ _ (heap_alloc_new w2 _)]; rfl
   have cB3 : w3.cell? ⟨w2.heap.size, 1, none⟩ = some (.int .i64 q.2) := by rw [hw3, cell_of_row _ _ 1 _ _ _ (heap_alloc_new w2 _)]; rfl
   have HGK := Lib.hid hgk;have HLEN := Lib.hid hlen;have HROW := Lib.hid row3;have HLT3 := Lib.hid lt3;rw [hq] at hrun hent;rw [<- hw2] at hrun;unfold encE at hrun hent;have HW3 : Hid (_ = w3) := Lib.hid hw3.symm;clear hS he hem hq hw1 hw2 hw2s hw3 hb3 row3 lt3 z2 hrl hmr hM2 i2 hMr hgk hlen;go_upto_region 5 with fail;rw [HW3.out]
   go_wp2_with (at_builtin
                refine wpList_appOne (wr := w3) 202 168 2 16 _ Tryz.underlying202 infoKey rfl (by decide) rfl _ _ rfl rfl rfl rfl rfl rfl (by simp [Value.oneCell']) HROW.out HLT3.out HLEN.out (by decide) ?_;intro g1 k1 w4 o1 hr1 hc1 hl1;have HN4 := Lib.hid (HNX.out g1 k1 w4 o1 hr1 hc1 hl1);clear hr1 hc1 hl1)
   go_roundg (leftOf es (seen.push e.born)).size
   case rel => exact ⟨_, _, _, _, HN4.out, rfl⟩
   case measure => have h1 := HSH.out; have h2 := HGK.out; omega
open Go.RowKit
theorem nodup_lt : ∀ (n : Nat) (l : List Nat), l.Nodup -> (∀ x ∈ l, x < n) -> l.length <= n
 | 0, l, _, h => by
   cases l with
   | nil => simp
   | cons a l => have := h a (by simp); omega
 | n + 1, l, hn, h => by
   by_cases hm : n ∈ l
   ·
    have h1 := nodup_lt n (l.erase n) (hn.erase n) (fun x hx => by
     have h2 := h x (List.mem_of_mem_erase hx);have h3 : x ≠ n := fun e => by subst e; exact (List.Nodup.not_mem_erase hn) hx
     omega)
    rw [List.length_erase_of_mem hm] at h1;omega
   ·
    have h1 := nodup_lt n l hn (fun x hx => by
     have h2 := h x hx;have h3 : x ≠ n := fun e => by subst e; exact hm hx
     omega)
    omega
theorem tab_card {d : StoreD} {x : Nat} (ht : ∀ lo hi id, d.tab x (lo, hi) = some id -> nodesOf d id = some ⟨x, lo, hi⟩) {n : Nat} (hlt : ∀ i b, nodesOf d i = some b -> i < n) (hn : n < 1000000000) (l : List ((Nat × Nat) × Value)) (hnd : (l.map Prod.fst).Nodup) (hf : ∀ k, getL l k = (d.tab x k).map (fun (id : Nat) => Value.int .i64 id)) : l.length < 1000000000 := by
 have hk : ∀ k ∈ l.map Prod.fst, ∃ id, d.tab x k = some id := fun k hk => by
  cases h : d.tab x k with
  | some id => exact ⟨id, rfl⟩
  | none =>
    have h1 := getL_none (l := l) (k := k);rw [hf k, h] at h1;obtain ⟨p, hp, rfl⟩ := List.mem_map.1 hk;exact absurd rfl (h1.1 rfl p hp)
 have hinj : (((l.map Prod.fst)).map fun k => (d.tab x k).getD 0).Nodup := by
  refine List.pairwise_map.2 (hnd.imp_of_mem ?_);intro a b ha hb hab e;obtain ⟨i, hi⟩ := hk a ha;obtain ⟨j, hj⟩ := hk b hb;rw [hi, hj] at e;simp only [Option.getD_some] at e;subst e;have e1 := ht a.1 a.2 _ hi;have e2 := ht b.1 b.2 _ hj;rw [e1] at e2;simp only [Option.some.injEq, BN.mk.injEq, true_and] at e2;exact hab (Prod.ext e2.1 e2.2)
 have := nodup_lt n _ hinj (fun i hi => by
  obtain ⟨k, hk1, rfl⟩ := List.mem_map.1 hi;obtain ⟨id, h1⟩ := hk k hk1;rw [h1];exact hlt _ _ (ht k.1 k.2 _ h1))
 simp at this;omega
end Go.Proofs.YtchliiaknmknhaaGreat

namespace Go.Proofs.YtchliiaknmknhaaGreat
open Go.RowKit Go.Shelf
attribute [local go_sem] Oper.semAt_some
theorem tabEach_any (t : Nat) (w : World) : Calls Tryz.prog 155 #[.pointer (some ⟨t, 0, none⟩)] w fun e w' => e = .returned (.func (.func 163) #[] #[.pointer (some ⟨w.heap.size, 0, none⟩)]) /\ w' = w.alloc (.cells #[.pointer (some ⟨t, 0, none⟩)] 146) := by
 have hmf : ∀ (fn : Fn) (first cap : Array Value) (w : World), (Instr.makeFunc fn first cap).run Tryz.prog w = .ok (.func fn first cap) w := fun _ _ _ _ => rfl
 go_enter Tryz.func155, Tryz.ntmps155
 go_wp2_with fail;go_ret;exact ⟨rfl, rfl⟩
def turnL (d : StoreD) (y : Nat) (pre : List ((Nat × Nat) × Nat)) : List TN := (pre.filter (fun p => turnsB d y p.2)).map (fun p => tnOf d y p.2)
structure TurS (d : StoreD) (y : Nat) (w : World) (sb : Nat) (pre : List ((Nat × Nat) × Nat)) (M : Nat -> Prop) (W : World) (v : Value) (oG : Own) : Prop where
 mm : ∀ k, M k ↔ (k = w.heap.size \/ k = w.heap.size + 1 \/ k = w.heap.size + 2 \/ oG k = some .slots)
 low : Below w.heap.size w W
 boxs : W.heap[w.heap.size]? = some (.cells #[.pointer (some ⟨sb, 0, none⟩)] 98 (0, 0))
 boxy : W.heap[w.heap.size + 1]? = some (.cells #[.int .i64 y] 3 (0, 0))
 boxg : W.heap[w.heap.size + 2]? = some (.cells #[v] 176 (0, 0))
 row : RowR oG W .slots 181 9 v (turnL d y pre).length ((turnL d y pre).flatMap tnV)
 lt : OwnLt oG W
 ge : ∀ k r, oG k = some r -> r = .slots /\ w.heap.size + 3 <= k
theorem TurS.no {d : StoreD} {y : Nat} {w : World} {sb : Nat} {pre : List ((Nat × Nat) × Nat)} {M : Nat -> Prop} {W : World} {v : Value} {oG : Own} (h : TurS d y w sb pre M W v oG) (k : Nat) (hk : k < w.heap.size + 3) : oG k = none := by
 cases e : oG k with
 | none => rfl
 | some r => have := (h.ge k r e).2; omega
theorem TurS.minds {d : StoreD} {y : Nat} {w : World} {sb : Nat} {pre : List ((Nat × Nat) × Nat)} {M : Nat -> Prop} {W W' : World} {v : Value} {oG : Own} (h : TurS d y w sb pre M W v oG) (hw : Wr (fun k => w.heap.size <= k /\ ¬ M k) W W') : TurS d y w sb pre M W' v oG := by
 have hk : ∀ k, k < W.heap.size -> M k -> W'.heap[k]? = W.heap[k]? := fun k h1 h2 => hw.keep k h1 (fun e => e.2 h2)
 have hm := h.mm
 refine ⟨hm, h.low.trans (hw.below (fun k h => h.1) h.low.size), (hk _ (Array.getElem?_eq_some_iff.1 h.boxs).1 ((hm _).2 (.inl rfl))).trans h.boxs, (hk _ (Array.getElem?_eq_some_iff.1 h.boxy).1 ((hm _).2 (.inr (.inl rfl)))).trans h.boxy,
  (hk _ (Array.getElem?_eq_some_iff.1 h.boxg).1 ((hm _).2 (.inr (.inr (.inl rfl))))).trans h.boxg, h.row.keep (fun g hg => hk g (h.lt g _ hg) ((hm g).2 (.inr (.inr (.inr hg))))) (fun _ h => h), h.lt.mono hw.size, h.ge⟩
theorem turnL_no {d : StoreD} {y : Nat} {pre : List ((Nat × Nat) × Nat)} {p : (Nat × Nat) × Nat} (h : turnsB d y p.2 = false) : turnL d y (pre ++ [p]) = turnL d y pre := by unfold turnL; rw [List.filter_append]; simp [h]
theorem turnL_yes {d : StoreD} {y : Nat} {pre : List ((Nat × Nat) × Nat)} {p : (Nat × Nat) × Nat} (h : turnsB d y p.2 = true) : turnL d y (pre ++ [p]) = turnL d y pre ++ [tnOf d y p.2] := by unfold turnL; rw [List.filter_append]; simp [h]
theorem TurS.skip {d : StoreD} {y : Nat} {w : World} {sb : Nat} {pre : List ((Nat × Nat) × Nat)} {M : Nat -> Prop} {W : World} {v : Value} {oG : Own} {p : (Nat × Nat) × Nat} (h : TurS d y w sb pre M W v oG) (hp : turnsB d y p.2 = false) : TurS d y w sb (pre ++ [p]) M W v oG :=
 ⟨h.mm, h.low, h.boxs, h.boxy, h.boxg, by rw [turnL_no hp]; exact h.row, h.lt, h.ge⟩
theorem TurS.add {d : StoreD} {y : Nat} {w : World} {sb : Nat} {pre : List ((Nat × Nat) × Nat)} {M : Nat -> Prop} {W W1 : World} {v v' : Value} {oG oG' : Own} {p : (Nat × Nat) × Nat} (h : TurS d y w sb pre M W v oG) (hp : turnsB d y p.2 = true)
 (hr : RowR oG' W1 .slots 181 9 v' ((turnL d y pre).length + 1) (((turnL d y pre).flatMap tnV) ++ tnV (tnOf d y p.2))) (hg : Chg (· = .slots) oG oG' W W1) (hl : OwnLt oG' W1) {n : Nat} (hn : n <= W.heap.size) :
 ∃ M', (∃ v oG, TurS d y w sb (pre ++ [p]) M' (W1.setCell ⟨w.heap.size + 2, 0, none⟩ v') v oG) /\ Wr (fun k => M k \/ n <= k) W (W1.setCell ⟨w.heap.size + 2, 0, none⟩ v') /\ ∀ k, M' k -> M k \/ n <= k := by
 have hb1 : w.heap.size + 2 < W.heap.size := (Array.getElem?_eq_some_iff.1 h.boxg).1;have k0 := (hg.alien (by omega) (h.no w.heap.size (by omega))).trans h.boxs;have ky := (hg.alien (by omega) (h.no (w.heap.size + 1) (by omega))).trans h.boxy;have k1 := (hg.alien hb1 (h.no (w.heap.size + 2) (by omega))).trans h.boxg;have ge' : ∀ k r, oG' k = some r -> r = .slots /\ w.heap.size + 3 <= k := fun k r hk => by
  by_cases e : oG' k = oG k
  ·
   rw [e] at hk; exact h.ge k r hk
  ·
   obtain ⟨a1, q, a2, a3⟩ := hg.new k e;rw [hk] at a2; cases a2
   exact ⟨a3, by omega⟩
 refine ⟨fun k => k = w.heap.size \/ k = w.heap.size + 1 \/ k = w.heap.size + 2 \/ oG' k = some .slots, ⟨v', oG', ⟨fun k => Iff.rfl, ?_, ?_, ?_, heap_setCell_same k1 _, ?_, hl.mono (by simp [World.setCell]), ge'⟩⟩, ?_, fun k hk => ?_⟩
 ·
  have : Below w.heap.size w W1 := h.low.trans ⟨hg.os, hg.tape, hg.output, hg.size, fun k hk => hg.alien (Nat.lt_of_lt_of_le hk h.low.size) (h.no k (by omega))⟩;exact this.setCell (p := ⟨w.heap.size + 2, 0, Option.none⟩) (by show _ <= w.heap.size + 2; omega) _
 ·
  exact (heap_setCell_ne (by show _ ≠ w.heap.size + 2; omega) _).trans k0
 ·
  exact (heap_setCell_ne (by show _ ≠ w.heap.size + 2; omega) _).trans ky
 ·
  rw [turnL_yes hp, List.length_append, List.flatMap_append];simp only [List.length_singleton, List.flatMap_cons, List.flatMap_nil, List.append_nil];exact hr.setCell_other (fun e => by have := (ge' _ _ e).2; simp at this) _
 ·
  have : Wr (fun k => M k \/ n <= k) W W1 := ⟨hg.os, hg.tape, hg.output, hg.size, fun k hk hm => hg.block k hk fun r hr e => hm (.inl ((h.mm k).2 (.inr (.inr (.inr (by rw [hr, e]))))))⟩;exact this.setCell (p := ⟨w.heap.size + 2, 0, Option.none⟩) (.inl (.inl ((h.mm _).2 (.inr (.inr (.inl rfl)))))) _
 ·
  rcases hk with hk | hk | hk | hk
  ·
   exact .inl ((h.mm k).2 (.inl hk))
  ·
   exact .inl ((h.mm k).2 (.inr (.inl hk)))
  ·
   exact .inl ((h.mm k).2 (.inr (.inr (.inl hk))))
  ·
   by_cases e : oG' k = oG k
   ·
    rw [e] at hk; exact .inl ((h.mm k).2 (.inr (.inr (.inr hk))))
   ·
    have := (hg.new k e).1; right; omega
theorem xs_len {d : StoreD} {x : Nat} (ht : ∀ lo hi id, d.tab x (lo, hi) = some id -> nodesOf d id = some ⟨x, lo, hi⟩) {n : Nat} (hlt : ∀ i b, nodesOf d i = some b -> i < n) {xs : List ((Nat × Nat) × Nat)} (hnd : (xs.map Prod.fst).Nodup) (hf : ∀ k id, (k, id) ∈ xs -> d.tab x k = some id) : xs.length <= n := by
 have h1 : (xs.map Prod.snd).Nodup := by
  rw [List.nodup_iff_pairwise_ne, List.pairwise_map];rw [List.nodup_iff_pairwise_ne, List.pairwise_map] at hnd;refine hnd.imp_of_mem fun {a b} ha hb hne e => hne ?_
  have q1 := ht _ _ _ (hf a.1 a.2 ha);have q2 := ht _ _ _ (hf b.1 b.2 hb);rw [e, q2] at q1;cases a; cases b
  simp at q1;exact Prod.ext q1.1.symm q1.2.symm
 have h2 := nodup_lt n (xs.map Prod.snd) h1 (fun i hi => by
  obtain ⟨q, hq, rfl⟩ := List.mem_map.1 hi;exact hlt _ _ (ht _ _ _ (hf q.1 q.2 hq)))
 simpa using h2
theorem infoTurned : (Tryz.prog.info? 181).map (fun i => (i.zero, i.size, i.bytes)) = some (some (.agg #[.int .i64 0, .int .i64 0, .int .i64 0, .int .i64 0, .int .i64 0, .int .i64 0, .int .i64 0, .int .i64 0, .int .i64 0]), 9, 72) := by kernel_rfl
theorem tnV_out (N : RN) (ll lh hl hh : Nat) : tnV ⟨N, ll, lh, hl, hh⟩ = [.int .i64 N.id, .int .i64 N.v, .int .i64 N.lo, .int .i64 N.hi, .int .i64 N.refs, .int .i64 ll, .int .i64 lh, .int .i64 hl, .int .i64 hh] := rfl
theorem turn_any {o : Own} {w : World} {sb : Nat} {d : StoreD} {V : Nat -> BF} (h : StoreAt o w sb d) (hlt : OwnLt o w) (hk : StoreOK d V) (x y : Nat) (hx : x < d.vars.length) :
 Calls Tryz.prog 134 #[.pointer (some ⟨sb, 0, none⟩), .int .i64 x, .int .i64 y] w fun e w' => ∃ (v : Value) (ids : List Nat), e = .returned v /\ ids.Nodup /\ (∀ i, i ∈ ids ↔ Turns (nodesOf d) x y i) /\ TRow w' w.heap.size v (ids.map (tnOf d y)) /\ Below w.heap.size w w' := by
 obtain ⟨s, h⟩ := h;obtain ⟨gt, ct, hvt, hct, hvl, hts⟩ := h.tabAt hx;obtain ⟨c0, c1, c2, c3, c4, f0⟩ := cells5 h.blk;rw [hvt] at c2;obtain ⟨t, ht⟩ : ∃ t, t = s.ts.getD x 0 := ⟨_, rfl⟩;rw [<- ht] at hct;have htab := h.tab x hvl;rw [<- ht] at htab;have HTAB := Lib.hid htab;have HST := Lib.hid h;have HLT := Lib.hid hlt;have HK := Lib.hid hk;clear ht htab;have hxi : (x : Int) < s.ts.length := by omega
 obtain ⟨w1, hw1⟩ : ∃ w1, w1 = ((w.alloc (.cells #[.pointer (some ⟨sb, 0, none⟩)] 98)).alloc (.cells #[.int .i64 y] 3)).alloc (.cells #[.slice none 0 0] 176) := ⟨_, rfl⟩;have HW1 : Hid (_ = w1) := Lib.hid hw1.symm;have hb1 : Below w.heap.size w w1 := by rw [hw1]; exact ((below_new1 _ _).alloc (by simp) _).alloc (by simp; omega) _
 have c2' := (hb1.cell (p := ⟨sb, 2, none⟩) (lt_of_cell c2)).trans c2;have hct' := (hb1.cell (p := ⟨gt, x, none⟩) (lt_of_cell hct)).trans hct;have cB : w1.cell? ⟨w.heap.size, 0, none⟩ = some (.pointer (some ⟨sb, 0, none⟩)) := by rw [hw1]; exact cell1 ((Below.heap_alloc _ _ _ (by simp; omega)).trans ((Below.heap_alloc _ _ _ (by simp)).trans (heap_alloc_new w _)))
 have HE := Lib.hid (fun t W => tabEach_any t W);clear c0 c1 c2 c3 c4 f0 hct hw1;refine (callsIn_wide (n := 9)).1 ?_;refine callsIn_of_wp_marks Tryz.func134 rfl trivial ?_;refine wpIn_wide.2 ?_;simp only [Tryz.ntmps134, List.size_toArray, List.length_cons, List.length_nil, Nat.reduceAdd, Nat.reduceSub, Array.replicate_succ, Array.replicate_zero, List.push_toArray, List.append_toArray, List.nil_append, List.cons_append];go_upto_region 2 with fail;rw [HW1.out];go_wp2_with fail;refine (HE.out _ _).mono ?_;rintro e w2 ⟨rfl, hw2⟩;go_wp2_with fail;obtain ⟨w2', hw2'⟩ : ∃ w2', w2' = w1.alloc (.cells #[.pointer (some ⟨t, 0, none⟩)] 146) := ⟨_, rfl⟩;rw [<- hw2'];have hb2 : Below w.heap.size w w2' := by rw [hw2']; exact hb1.alloc hb1.size _
 have hs1 : w1.heap.size = w.heap.size + 3 := by rw [<- HW1.out]; simp
 have hs2 : w2'.heap.size = w.heap.size + 4 := by rw [hw2']; simp [hs1]
 have hBs : w2'.heap[w.heap.size]? = some (.cells #[.pointer (some ⟨sb, 0, none⟩)] 98 (0, 0)) := by rw [hw2', <- HW1.out]; exact (Below.heap_alloc _ _ _ (by simp <;> omega)).trans ((Below.heap_alloc _ _ _ (by simp <;> omega)).trans ((Below.heap_alloc _ _ _ (by simp)).trans (heap_alloc_new w _)))
 have hBy : w2'.heap[w.heap.size + 1]? = some (.cells #[.int .i64 y] 3 (0, 0)) := by
  rw [hw2', <- HW1.out];have h0 := heap_alloc_new (w.alloc (.cells #[.pointer (some ⟨sb, 0, none⟩)] 98)) (.cells #[.int .i64 y] 3);rw [World.size_alloc] at h0;exact (Below.heap_alloc _ _ _ (by simp <;> omega)).trans ((Below.heap_alloc _ _ _ (by simp)).trans h0)
 have hBg : w2'.heap[w.heap.size + 2]? = some (.cells #[.slice none 0 0] 176 (0, 0)) := by
  rw [hw2', <- HW1.out];have h0 := heap_alloc_new ((w.alloc (.cells #[.pointer (some ⟨sb, 0, none⟩)] 98)).alloc (.cells #[.int .i64 y] 3)) (.cells #[.slice none 0 0] 176);rw [World.size_alloc, World.size_alloc] at h0;exact (Below.heap_alloc _ _ _ (by simp)).trans h0
 have hBt : w2'.cell? ⟨w1.heap.size, 0, none⟩ = some (.pointer (some ⟨t, 0, none⟩)) := by rw [hw2']; exact cell1 (heap_alloc_new w1 _)
 have hcard := tab_card (d := d) (x := x) (fun lo hi id e => (HK.out.tab x hx lo hi id).1 e) (n := 1048577) (fun i b e => by have := HST.out.tk_lt e; omega) (by omega);have HG := Lib.hid (tabEach1_gives 8 w.heap.size w1.heap.size t x HTAB.out HLT.out (Nat.le_refl _) w2' hb2 (by omega) (by omega) hBt hcard);clear hcard hBt hw2' hw2 c2' hct' cB HE hts hb1;refine (wpIn_wide (n := 9)).1 ?_;refine wp_rangeE rfl (by omega) (gf := 163) (lb := #[.pointer (some ⟨w1.heap.size, 0, none⟩)]) rfl trivial (enters_of Tryz.func163 (by kernel_rfl) rfl) HG.out (by omega) (by rintro k rfl; omega) (fun p => rfl)
  (fun pre M W => ∃ v oG, TurS d y w sb pre M W v oG) ?_ ?_ (fun k => k = w.heap.size \/ k = w.heap.size + 1 \/ k = w.heap.size + 2) (by rintro k rfl h; omega) ⟨.slice none 0 0, fun _ => none, (⟨fun k => by simp, hb2, hBs, hBy, hBg, RowR.nil _ _ _ _ _, fun k r h => (by cases h), fun k r h => (by cases h)⟩ : TurS d y w sb [] _ w2' (.slice none 0 0) (fun _ => none))⟩
  (fun p a' W W1 => a' = { tmps := #[Value.pointer (some { block := sb, off := 0 }), Value.int IntKind.i64 ↑x, Value.int IntKind.i64 ↑y, Value.pointer (some { block := w.heap.size, off := 0 }), undef, Value.pointer (some { block := w.heap.size + 1, off := 0 }), Value.slice none 0 0, Value.pointer (some { block := w.heap.size + 1 + 1, off := 0 }), undef, Value.int IntKind.i64 ↑p.2, undef, undef, undef, Value.pointer (some { block := sb, off := 0 }), Value.pointer (some { block := sb, off := 0 }), Value.pointer (some { block := sb, off := 2 }), Value.slice (some { block := gt, off := 0 }) s.ts.length ct, Value.int IntKind.i64 ↑x, Value.pointer (some { block := gt, off := x }), Value.pointer (some { block := t, off := 0 }), Value.func (Fn.func 163) #[] #[Value.pointer (some { block := w.heap.size + 3, off := 0 })], encE p.1, Value.int IntKind.i64 ↑p.2, undef, undef, undef, undef, undef, undef, undef, undef, undef, undef, undef, undef, undef, undef, undef, undef, undef, undef, undef, undef, undef, undef, undef, undef, undef, undef, undef, undef, undef, undef, undef, undef, undef, undef, undef, undef, undef, undef, undef, undef, undef, undef, undef, undef, undef, undef, undef, undef], defers := [] }) ?_ ?_ ?_ ?_
 ·
  rintro pre M W ⟨v, oG, hS⟩ k hk;rcases (hS.mm k).1 hk with rfl | rfl | rfl | hg
  ·
   exact ⟨Nat.le_refl _, (Array.getElem?_eq_some_iff.1 hS.boxs).1⟩
  ·
   exact ⟨by omega, (Array.getElem?_eq_some_iff.1 hS.boxy).1⟩
  ·
   exact ⟨by omega, (Array.getElem?_eq_some_iff.1 hS.boxg).1⟩
  ·
   have := (hS.ge k _ hg).2; exact ⟨by omega, hS.lt k _ hg⟩
 ·
  rintro pre M W W' ⟨v, oG, hS⟩ hw;exact ⟨v, oG, hS.minds hw⟩
 ·
  intro p a' W W1 W2 l _ h _;exact h
 ·
  intro l pre p M W K hI hK
  gi_wp2
  exact hK _ _ (Wr.refl _ _) rfl
 ·
  rintro l pre p a' M W0 W ⟨v, oG, hS⟩ rfl hs0 hs3 ⟨suf, hnd, hgood⟩;have hlenx := xs_len (d := d) (x := x) (fun lo hi id e => (HK.out.tab x hx lo hi id).1 e) (n := 1048577) (fun i b e => by have := HST.out.tk_lt e; omega) hnd (fun k id h => (hgood k id).1 h);have hlent : (turnL d y pre).length < 1000000000 := by
   have h1 : (turnL d y pre).length <= pre.length := by unfold turnL; rw [List.length_map]; exact List.length_filter_le _ _
   simp at hlenx;omega
  have HLEN := Lib.hid hlent;clear hlenx hlent hnd;have hp : d.tab x p.1 = some p.2 := (hgood p.1 p.2).1 (by simp);obtain ⟨i, hi⟩ : ∃ i, i = p.2 := ⟨_, rfl⟩;have hni : nodesOf d i = some ⟨x, p.1.1, p.1.2⟩ := (HK.out.tab x hx _ _ _).1 (by rw [hi]; exact hp);obtain ⟨htk, hhas, hbn⟩ := nodesOf_some hni;rw [hhas] at hbn;obtain ⟨N, hN⟩ : ∃ N, N = d.pool.nd i := ⟨_, rfl⟩;have hst := HST.out.below HLT.out hS.low;have hltW := HLT.out.mono hS.low.size;obtain ⟨q0, q1, q2, q3, q4, _⟩ := cells5 hst.blk;have cs := cell1 hS.boxs;have cy := cell1 hS.boxy;have HAT := Lib.hid (poolAt_yes o s.pb d.pool i W hst.pool hltW htk);rw [<- hN] at HAT hbn;rw [<- hi];have HI := Lib.hid hi;have HS := Lib.hid hS;have HN := Lib.hid hN;have HBN := Lib.hid hbn;have HNI := Lib.hid hni;clear hS hi hN hbn hni hst hltW htk hhas hp hgood q0 q2 q3 q4
  gi_wp2
  refine ⟨trivial, (CallsIn.inRound l (callsIn_wide.2 HAT.out)).mono ?_⟩;rintro e W3 ⟨rfl, hb3⟩;have cs3 := (hb3.cell (p := ⟨w.heap.size, 0, none⟩) (lt_of_cell cs)).trans cs;have cy3 := (hb3.cell (p := ⟨w.heap.size + 1, 0, none⟩) (lt_of_cell cy)).trans cy;simp only [rnAgg];have lb0 : w.heap.size < W3.heap.size := lt_of_cell cs3;have lb1 : w.heap.size + 1 < W3.heap.size := lt_of_cell cy3;have lb2 : w.heap.size + 1 + 1 < W3.heap.size := Nat.lt_of_lt_of_le (Array.getElem?_eq_some_iff.1 HS.out.boxg).1 hb3.size;have HB3 := Lib.hid hb3;clear hb3 cs cy q1
  gi_wp2
  obtain ⟨W4, hW4⟩ : ∃ W4, W4 = (W3.alloc (.cells #[.int .i64 N.id, .int .i64 N.v, .int .i64 N.lo, .int .i64 N.hi, .int .i64 N.refs] 157)).alloc (.cells #[.int .i64 N.id, .int .i64 N.v, .int .i64 N.lo, .int .i64 N.hi, .int .i64 N.refs, .int .i64 0, .int .i64 0, .int .i64 0, .int .i64 0] 181) := ⟨_, rfl⟩;rw [<- hW4];have n4 : W4.heap[W3.heap.size]? = some (.cells #[.int .i64 N.id, .int .i64 N.v, .int .i64 N.lo, .int .i64 N.hi, .int .i64 N.refs] 157 (0, 0)) := by rw [hW4]; exact (Below.heap_alloc _ _ _ (by simp)).trans (heap_alloc_new W3 _)
  have t4 : W4.heap[W3.heap.size + 1]? = some (.cells #[.int .i64 N.id, .int .i64 N.v, .int .i64 N.lo, .int .i64 N.hi, .int .i64 N.refs, .int .i64 0, .int .i64 0, .int .i64 0, .int .i64 0] 181 (0, 0)) := by
   rw [hW4];have := heap_alloc_new (W3.alloc (.cells #[.int .i64 N.id, .int .i64 N.v, .int .i64 N.lo, .int .i64 N.hi, .int .i64 N.refs] 157)) (.cells #[.int .i64 N.id, .int .i64 N.v, .int .i64 N.lo, .int .i64 N.hi, .int .i64 N.refs, .int .i64 0, .int .i64 0, .int .i64 0, .int .i64 0] 181);rw [World.size_alloc] at this; exact this
  have HWR4 : Hid (Wr (fun _ => False) W W4) := by rw [hW4]; exact Lib.hid (((Wr.of_below HB3.out (fun _ => False)).alloc _).alloc _)
  have hsz3 : W.heap.size <= W3.heap.size := HB3.out.size;have hb34 : Below W3.heap.size W3 W4 := by rw [hW4]; exact (below_new1 _ _).alloc (by simp) _
  obtain ⟨b1, hb1'⟩ : ∃ b1, b1 = W3.heap.size := ⟨_, rfl⟩;have cs4 := (hb34.cell (p := ⟨w.heap.size, 0, none⟩) lb0).trans cs3;have cy4 := (hb34.cell (p := ⟨w.heap.size + 1, 0, none⟩) lb1).trans cy3;have HMIN : Hid (∀ Wc, Wr (fun _ => False) W Wc -> TurS d y w sb pre M Wc v oG) := Lib.hid fun Wc h => HS.out.minds (h.mono fun k e => e.elim)
  have HSTO : Hid (∀ Wc, Wr (fun _ => False) W Wc -> StoreAt o Wc sb d /\ OwnLt o Wc) := Lib.hid fun Wc h => ⟨⟨s, HST.out.below HLT.out (HMIN.out Wc h).low⟩, HLT.out.mono (HMIN.out Wc h).low.size⟩
  have hokN : okE (nodesOf d) N.lo /\ okE (nodesOf d) N.hi := by
   have e := HBN.out;have h1 := HK.out.dag.okLo _ _ HNI.out;have h2 := HK.out.dag.okHi _ _ HNI.out;have e1 : p.1.1 = N.lo := by have := congrArg BN.lo e; exact this.symm
   have e2 : p.1.2 = N.hi := by have := congrArg BN.hi e; exact this.symm
   dsimp only at h1 h2;rw [e1] at h1;rw [e2] at h2;exact ⟨h1, h2⟩
  have HOKN := Lib.hid hokN;obtain ⟨⟨ll, lh⟩, hc1⟩ : ∃ c, c = cofs d N.lo y := ⟨_, rfl⟩;obtain ⟨⟨hl, hh⟩, hc2⟩ : ∃ c, c = cofs d N.hi y := ⟨_, rfl⟩;have HSP1 := Lib.hid (storeSplit_any (HSTO.out W4 HWR4.out).1 (HSTO.out W4 HWR4.out).2 HK.out N.lo hokN.1 y);rw [<- hc1] at HSP1;have HC1 := Lib.hid hc1;have HC2 := Lib.hid hc2;rw [<- hb1'] at n4 t4 hsz3 ⊢;clear hW4 cs3 cy3 hokN hc1 hc2 hb34 HB3 hb1' lb0 lb1 lb2;refine ⟨trivial, (CallsIn.inRound l (callsIn_wide.2 HSP1.out)).mono ?_⟩;rintro e W5 ⟨rfl, hb5⟩;have lW4 : b1 + 1 < W4.heap.size := (Array.getElem?_eq_some_iff.1 t4).1;have cs5 := (hb5.cell (p := ⟨w.heap.size, 0, none⟩) (lt_of_cell cs4)).trans cs4;have cy5 := (hb5.cell (p := ⟨w.heap.size + 1, 0, none⟩) (lt_of_cell cy4)).trans cy4;have n5 := (hb5.block b1 (by omega)).trans n4;have t5 := (hb5.block (b1 + 1) lW4).trans t4;have HWR5 : Hid (Wr (fun _ => False) W W5) := Lib.hid (HWR4.out.trans (Wr.of_below hb5 (fun _ => False)) (fun _ _ e => e) (fun _ _ e => e));have f5 : ∀ q, W5.frozen? ⟨b1 + 1, q, none⟩ = false := fun q => by simp [World.frozen?, t5]
  have k5 : W5.cell? ⟨b1 + 1, 5, none⟩ = some (.int .i64 0) := by rw [cell_of_row _ _ 5 _ _ _ t5]; rfl
  have k6 : W5.cell? ⟨b1 + 1, 6, none⟩ = some (.int .i64 0) := by rw [cell_of_row _ _ 6 _ _ _ t5]; rfl
  have m3 : W5.cell? ⟨b1, 3, none⟩ = some (.int .i64 N.hi) := by rw [cell_of_row _ _ 3 _ _ _ n5]; rfl
  have lW5 : b1 + 1 < W5.heap.size := (Array.getElem?_eq_some_iff.1 t5).1;clear hb5 cs4 cy4 n4 t4 HSP1 lW4
  gi_wp2
  obtain ⟨W6, hW6⟩ : ∃ W6, W6 = (W5.setCell ⟨b1 + 1, 5, none⟩ (.int .i64 (ll : Nat))).setCell ⟨b1 + 1, 6, none⟩ (.int .i64 (lh : Nat)) := ⟨_, rfl⟩;rw [<- hW6];have t6 : W6.heap[b1 + 1]? = some (.cells #[.int .i64 N.id, .int .i64 N.v, .int .i64 N.lo, .int .i64 N.hi, .int .i64 N.refs, .int .i64 (ll : Nat), .int .i64 (lh : Nat), .int .i64 0, .int .i64 0] 181 (0, 0)) := by
   rw [hW6];exact heap_setCell_same (k := 6) (heap_setCell_same (k := 5) t5 (.int .i64 (ll : Nat))) (.int .i64 (lh : Nat))
  have HWR6 : Hid (Wr (fun _ => False) W W6) := by rw [hW6]; exact Lib.hid ((HWR5.out.setCell (p := ⟨b1 + 1, 5, none⟩) (.inr (by show W.heap.size <= b1 + 1; omega)) _).setCell (p := ⟨b1 + 1, 6, none⟩) (.inr (by show W.heap.size <= b1 + 1; omega)) _)
  have hlow6 := (HMIN.out W6 HWR6.out);have cs6 := cell1 hlow6.boxs;have cy6 := cell1 hlow6.boxy;have HSP2 := Lib.hid (storeSplit_any (HSTO.out W6 HWR6.out).1 (HSTO.out W6 HWR6.out).2 HK.out N.hi HOKN.out.2 y);rw [<- HC2.out] at HSP2;clear hW6 cs5 cy5 n5 t5 f5 k5 k6 m3 lW5 hlow6;refine ⟨trivial, (CallsIn.inRound l (callsIn_wide.2 HSP2.out)).mono ?_⟩;rintro e W7 ⟨rfl, hb7⟩;have lW6 : b1 + 1 < W6.heap.size := (Array.getElem?_eq_some_iff.1 t6).1;have t7 := (hb7.block (b1 + 1) lW6).trans t6;have HWR7 : Hid (Wr (fun _ => False) W W7) := Lib.hid (HWR6.out.trans (Wr.of_below hb7 (fun _ => False)) (fun _ _ e => e) (fun _ _ e => e));have f7 : ∀ q, W7.frozen? ⟨b1 + 1, q, none⟩ = false := fun q => by simp [World.frozen?, t7]
  have k5 : W7.cell? ⟨b1 + 1, 5, none⟩ = some (.int .i64 (ll : Nat)) := by rw [cell_of_row _ _ 5 _ _ _ t7]; rfl
  have k6 : W7.cell? ⟨b1 + 1, 6, none⟩ = some (.int .i64 (lh : Nat)) := by rw [cell_of_row _ _ 6 _ _ _ t7]; rfl
  have k7 : W7.cell? ⟨b1 + 1, 7, none⟩ = some (.int .i64 0) := by rw [cell_of_row _ _ 7 _ _ _ t7]; rfl
  have k8 : W7.cell? ⟨b1 + 1, 8, none⟩ = some (.int .i64 0) := by rw [cell_of_row _ _ 8 _ _ _ t7]; rfl
  have lW7 : b1 + 1 < W7.heap.size := (Array.getElem?_eq_some_iff.1 t7).1;clear hb7 cs6 cy6 t6 HSP2 lW6;obtain ⟨W8, hW8⟩ : ∃ W8, W8 = (W7.setCell ⟨b1 + 1, 7, none⟩ (.int .i64 (hl : Nat))).setCell ⟨b1 + 1, 8, none⟩ (.int .i64 (hh : Nat)) := ⟨_, rfl⟩;have t8 : W8.heap[b1 + 1]? = some (.cells #[.int .i64 N.id, .int .i64 N.v, .int .i64 N.lo, .int .i64 N.hi, .int .i64 N.refs, .int .i64 (ll : Nat), .int .i64 (lh : Nat), .int .i64 (hl : Nat), .int .i64 (hh : Nat)] 181 (0, 0)) := by
   rw [hW8];exact heap_setCell_same (k := 8) (heap_setCell_same (k := 7) t7 (.int .i64 (hl : Nat))) (.int .i64 (hh : Nat))
  have HWR8 : Hid (Wr (fun _ => False) W W8) := by rw [hW8]; exact Lib.hid ((HWR7.out.setCell (p := ⟨b1 + 1, 7, none⟩) (.inr (by show W.heap.size <= b1 + 1; omega)) _).setCell (p := ⟨b1 + 1, 8, none⟩) (.inr (by show W.heap.size <= b1 + 1; omega)) _)
  have HT8 := Lib.hid (HMIN.out W8 HWR8.out);have g8 := cell1 HT8.out.boxg;have r0 : W8.cell? ⟨b1 + 1, 0, none⟩ = some (.int .i64 N.id) := by rw [cell_of_row _ _ 0 _ _ _ t8]; rfl
  have r1 : W8.cell? ⟨b1 + 1, 1, none⟩ = some (.int .i64 N.v) := by rw [cell_of_row _ _ 1 _ _ _ t8]; rfl
  have r2 : W8.cell? ⟨b1 + 1, 2, none⟩ = some (.int .i64 N.lo) := by rw [cell_of_row _ _ 2 _ _ _ t8]; rfl
  have r3 : W8.cell? ⟨b1 + 1, 3, none⟩ = some (.int .i64 N.hi) := by rw [cell_of_row _ _ 3 _ _ _ t8]; rfl
  have r4 : W8.cell? ⟨b1 + 1, 4, none⟩ = some (.int .i64 N.refs) := by rw [cell_of_row _ _ 4 _ _ _ t8]; rfl
  have r5 : W8.cell? ⟨b1 + 1, 5, none⟩ = some (.int .i64 (ll : Nat)) := by rw [cell_of_row _ _ 5 _ _ _ t8]; rfl
  have r6 : W8.cell? ⟨b1 + 1, 6, none⟩ = some (.int .i64 (lh : Nat)) := by rw [cell_of_row _ _ 6 _ _ _ t8]; rfl
  have r7 : W8.cell? ⟨b1 + 1, 7, none⟩ = some (.int .i64 (hl : Nat)) := by rw [cell_of_row _ _ 7 _ _ _ t8]; rfl
  have r8 : W8.cell? ⟨b1 + 1, 8, none⟩ = some (.int .i64 (hh : Nat)) := by rw [cell_of_row _ _ 8 _ _ _ t8]; rfl
  have HW8 : Hid (_ = W8) := Lib.hid hW8.symm;have HB8 : Hid (b1 + 1 < W8.heap.size) := Lib.hid (Array.getElem?_eq_some_iff.1 t8).1;clear hW8 t8;have tin : tnOf d y i = ⟨N, ll, lh, hl, hh⟩ := by
   unfold tnOf;rw [<- HN.out, <- HC1.out, <- HC2.out]
  have HTIN := Lib.hid tin;clear tin
  gi_upto_region 8 with fail
  rw [HW8.out];clear t7 f7 k5 k6 k7 k8 lW7
  by_cases hturn : ll ≠ lh \/ hl ≠ hh
  ·
   have HTB : Hid (turnsB d y p.2 = true) := Lib.hid (by rw [<- HI.out]; unfold turnsB; rw [HTIN.out]; exact decide_eq_true hturn);have n1 : ((ll : Int) != lh) = true \/ ((ll : Int) != lh) = false := by cases ((ll : Int) != lh) <;> simp
   have n2 : ((ll : Int) != lh) = false -> ((hl : Int) != hh) = true := fun e => by
    have h1' : (ll : Int) = lh := by simpa using e
    have h1 : ll = lh := by omega
    have h2 := hturn.resolve_left (fun h => h h1);simp; omega
   rcases n1 with n1 | n1
   ·
    clear n2
    gi_wp2_with (gi_at_builtin
                 refine wpListIn_appOne (wr := W8) 176 181 9 72 _ Tryz.underlying176 infoTurned rfl (by decide) rfl _ _ rfl rfl rfl rfl rfl rfl (by simp [Value.oneCell']) HT8.out.row HT8.out.lt HLEN.out (by decide) ?_;intro g1 k1 w1 o1 hr1 hc1 hl1;have HR1 := Lib.hid hr1;have HC1' := Lib.hid hc1;have HL1 := Lib.hid hl1;clear hr1 hc1 hl1;have hbg1 := (HC1'.out.alien (Array.getElem?_eq_some_iff.1 HT8.out.boxg).1 (HT8.out.no _ (by omega))).trans HT8.out.boxg;have cg1 := cell1 hbg1;have fz : ∀ k, w1.frozen? ⟨w.heap.size + 2, k, none⟩ = false := fun k => by simp [World.frozen?, hbg1]
                 clear g8 hbg1)
    obtain ⟨M', a1, a2, a3⟩ := HT8.out.add HTB.out (W1 := w1) (v' := .slice (some ⟨g1, 0, none⟩) ((turnL d y pre).length + 1) k1) (by
     rw [<- HI.out, HTIN.out, tnV_out];exact HR1.out) HC1'.out HL1.out (n := W0.heap.size) (Nat.le_trans hs0 HWR8.out.size)
    exact ⟨M', a1, Wr.trans HWR8.out a2 (fun _ _ e => e.elim) (fun _ _ e => e), a3⟩
   ·
    have n3 := n2 n1;clear n2
    gi_wp2_with (gi_at_builtin
                 refine wpListIn_appOne (wr := W8) 176 181 9 72 _ Tryz.underlying176 infoTurned rfl (by decide) rfl _ _ rfl rfl rfl rfl rfl rfl (by simp [Value.oneCell']) HT8.out.row HT8.out.lt HLEN.out (by decide) ?_;intro g1 k1 w1 o1 hr1 hc1 hl1;have HR1 := Lib.hid hr1;have HC1' := Lib.hid hc1;have HL1 := Lib.hid hl1;clear hr1 hc1 hl1;have hbg1 := (HC1'.out.alien (Array.getElem?_eq_some_iff.1 HT8.out.boxg).1 (HT8.out.no _ (by omega))).trans HT8.out.boxg;have cg1 := cell1 hbg1;have fz : ∀ k, w1.frozen? ⟨w.heap.size + 2, k, none⟩ = false := fun k => by simp [World.frozen?, hbg1]
                 clear g8 hbg1)
    obtain ⟨M', a1, a2, a3⟩ := HT8.out.add HTB.out (W1 := w1) (v' := .slice (some ⟨g1, 0, none⟩) ((turnL d y pre).length + 1) k1) (by
     rw [<- HI.out, HTIN.out, tnV_out];exact HR1.out) HC1'.out HL1.out (n := W0.heap.size) (Nat.le_trans hs0 HWR8.out.size)
    exact ⟨M', a1, Wr.trans HWR8.out a2 (fun _ _ e => e.elim) (fun _ _ e => e), a3⟩
  ·
   have HTB : Hid (turnsB d y p.2 = false) := Lib.hid (by rw [<- HI.out]; unfold turnsB; rw [HTIN.out]; exact decide_eq_false hturn);have n1 : ((ll : Int) != lh) = false := by
    have : ll = lh := Decidable.byContradiction fun h => hturn (.inl h)
    simp [this]
   have n2 : ((hl : Int) != hh) = false := by
    have : hl = hh := Decidable.byContradiction fun h => hturn (.inr h)
    simp [this]
   clear hturn
   gi_wp2
   exact ⟨M, ⟨v, oG, HT8.out.skip HTB.out⟩, HWR8.out.mono (fun _ e => e.elim), fun k hk => .inl hk⟩
 ·
  rintro xs D M W ⟨hnd, hgood⟩ hD hMD ⟨v, oG, hS⟩ hM hw hdef;have g9 := cell1 hS.boxg;have HS := Lib.hid hS;have HND := Lib.hid hnd;have HGOOD := Lib.hid hgood;have hlow := hS.low;have hlDW : D < W.heap.size := (Array.getElem?_eq_some_iff.1 hdef).1;have HDEF := Lib.hid hdef;have HMD := Lib.hid hMD;have HF : Hid (∃ (v' : Value) (ids : List Nat), Ending.returned v = .returned v' /\ ids.Nodup /\ (∀ i, i ∈ ids ↔ Turns (nodesOf d) x y i) /\ TRow (W.putObj D (.deferred none)) w.heap.size v' (ids.map (tnOf d y)) /\ Below w.heap.size w (W.putObj D (.deferred none))) := by
   refine Lib.hid ⟨v, (xs.filter fun p => turnsB d y p.2).map Prod.snd, rfl, ?_, fun i => ?_, ?_, ?_⟩
   ·
    rw [List.nodup_iff_pairwise_ne, List.pairwise_map];have h1 := hnd;rw [List.nodup_iff_pairwise_ne, List.pairwise_map] at h1;refine (h1.sublist List.filter_sublist).imp_of_mem fun {a b} ha hb hne e => hne ?_
    have q1 := (HK.out.tab x hx a.1.1 a.1.2 a.2).1 ((hgood a.1 a.2).1 ((List.mem_filter.1 ha).1));have q2 := (HK.out.tab x hx b.1.1 b.1.2 b.2).1 ((hgood b.1 b.2).1 ((List.mem_filter.1 hb).1));rw [e, q2] at q1;obtain ⟨⟨a1, a2⟩, a3⟩ := a;obtain ⟨⟨b1, b2⟩, b3⟩ := b;simp at q1;exact Prod.ext q1.1.symm q1.2.symm
   ·
    rw [List.mem_map];constructor
    ·
     rintro ⟨q, hq, rfl⟩;obtain ⟨hq1, hq2⟩ := List.mem_filter.1 hq;have hn := (HK.out.tab x hx q.1.1 q.1.2 q.2).1 ((hgood q.1 q.2).1 hq1);exact (turnsB_iff HK.out hn rfl).1 hq2
    ·
     intro hT;obtain ⟨b, hb, hbx, _⟩ := id hT;have ht := (HK.out.tab x hx b.lo b.hi i).2 (by rw [hb, <- hbx]);exact ⟨((b.lo, b.hi), i), List.mem_filter.2 ⟨(hgood _ _).2 ht, (turnsB_iff HK.out hb hbx).2 hT⟩, rfl⟩
   ·
    have e' : ((xs.filter fun p => turnsB d y p.2).map Prod.snd).map (tnOf d y) = turnL d y xs := by unfold turnL; rw [List.map_map]; rfl
    rw [e'];have hxl := xs_len (d := d) (x := x) (fun lo hi id e => (HK.out.tab x hx lo hi id).1 e) (n := 1048577) (fun i b e => by have := HST.out.tk_lt e; omega) hnd (fun k id h => (hgood k id).1 h);have hlt2 : (turnL d y xs).length <= 1048578 := by
     have h1 : (turnL d y xs).length <= xs.length := by unfold turnL; rw [List.length_map]; exact List.length_filter_le _ _
     omega
    obtain ⟨ag, cpg, rfl, _⟩ := hS.row.slice;refine ⟨hlt2, ag, cpg, rfl, fun k hk => ?_⟩;obtain ⟨g, cp, he, hog, _⟩ := hS.row.shape (by omega);cases he;have hgD : g ≠ D := fun e => hMD ((hS.mm D).2 (.inr (.inr (.inr (e ▸ hog)))))
    refine ⟨g, rfl, by have := (hS.ge g _ hog).2; omega, fun j u hj => ?_⟩;have h9 : j < 9 := by have := (List.getElem?_eq_some_iff.1 hj).1; simpa [tnV, rnV] using this
    have hf := flat_get tnV 9 (fun _ => rfl) (turnL d y xs) k j _ (List.getElem?_eq_getElem hk) h9;have hlen : ((turnL d y xs).flatMap tnV).length = (turnL d y xs).length * 9 := flat_length _ 9 (fun _ => rfl) _;have hc := hS.row.cell (k * 9 + j) (by rw [hlen]; omega);have hc2 : W.cell? ⟨g, k * 9 + j, none⟩ = some u := hc.trans (hf.trans hj);exact (World.cell?_of_block (w := W) (a := ⟨g, k * 9 + j, none⟩) (World.putObj_heap_other hgD)).trans hc2
   ·
    exact ⟨hlow.os, hlow.tape, hlow.output, by simpa using hlow.size, fun q hq => (World.putObj_heap_other (by omega)).trans (hlow.block q hq)⟩
  clear hS hnd hgood hdef hM hw hMD hlow;go_wp2_with fail;refine ⟨by simp, .inl ⟨D, _, rfl, run_takeDeferred HDEF.out, ?_⟩⟩;refine ⟨_, results_tmp rfl _ _ _, ?_⟩;exact HF.out
open Go.RowKit
structure SwV (d0 : StoreD) (k x y : Nat) : Prop where
 k1 : k + 1 < d0.vars.length
 x : d0.vars.getD k 0 = x
 y : d0.vars.getD (k + 1) 0 = y
section
variable {d0 d d' : StoreD} {V0 V : Nat -> BF} {k x y : Nat} {Wt : List (Nat × Nat)} {gone : Nat -> Prop}
theorem SwV.facts (s : SwV d0 k x y) (hk : StoreOK d0 V0) : x < d0.vars.length /\ y < d0.vars.length /\ levN d0 x = k /\ levN d0 y = k + 1 /\ x ≠ y := by
 obtain ⟨a1, a2⟩ := hk.vlt k (by have := s.k1; omega);obtain ⟨c1, c2⟩ := hk.vlt (k + 1) s.k1;rw [s.x] at a1 a2;rw [s.y] at c1 c2;exact ⟨a1, c1, a2, c2, by rintro rfl; omega⟩
structure CutS (d0 : StoreD) (k x : Nat) (gone : Nat -> Prop) (d : StoreD) : Prop where
 vars : d.vars = (swapD d0 k).vars
 level : d.level = (swapD d0 k).level
 pool : d.pool = d0.pool
 counts : d.counts = d0.counts
 dead : d.dead = d0.dead
 tabO : ∀ v, v ≠ x -> d.tab v = d0.tab v
 tabX : ∀ lo hi id, d.tab x (lo, hi) = some id ↔ d0.tab x (lo, hi) = some id /\ ¬ gone id
theorem CutS.start (d0 : StoreD) (k x : Nat) : CutS d0 k x (fun _ => False) (swapD d0 k) := ⟨rfl, rfl, rfl, rfl, rfl, fun _ _ => rfl, fun lo hi id => by simp [swapD]⟩
theorem CutS.next (c : CutS d0 k x gone d) (hk : StoreOK d0 V0) (hx : x < d0.vars.length) {i lo hi : Nat} (hti : d0.tab x (lo, hi) = some i) : CutS d0 k x (fun j => gone j \/ j = i) { d with tab := fun u => if u = x then putF (d.tab u) (lo, hi) none else d.tab u } := by
 refine ⟨c.vars, c.level, c.pool, c.counts, c.dead, fun v hv => by dsimp only; rw [if_neg hv]; exact c.tabO v hv, fun lo' hi' id => ?_⟩;dsimp only;rw [if_pos rfl];unfold putF
 by_cases e : (lo', hi') = (lo, hi)
 ·
  cases e;rw [if_pos rfl, hti];constructor
  ·
   intro h; cases h
  ·
   rintro ⟨h1, h2⟩; cases h1; exact (h2 (.inr rfl)).elim
 ·
  rw [if_neg e, c.tabX];constructor
  ·
   rintro ⟨h1, h2⟩;refine ⟨h1, fun h3 => ?_⟩;rcases h3 with h3 | h3
   ·
    exact h2 h3
   ·
    subst h3;have q1 := (hk.tab x hx _ _ _).1 h1;have q2 := (hk.tab x hx _ _ _).1 hti;rw [q1] at q2;cases q2;exact e rfl
  ·
   rintro ⟨h1, h2⟩;exact ⟨h1, fun h3 => h2 (.inl h3)⟩
theorem CutS.has (c : CutS d0 k x gone d) {i lo hi : Nat} (h : d0.tab x (lo, hi) = some i) (hg : ¬ gone i) : d.tab x (lo, hi) = some i := (c.tabX _ _ _).2 ⟨h, hg⟩
theorem SwMid.start (c : CutS d0 k x gone d) (hk : StoreOK d0 V0) (hx : x < d0.vars.length) (hd : d0.dead = 0) (hg : ∀ i, Turns (nodesOf d0) x y i ↔ gone i) {ps : List (Nat × Nat)} (hw : WantP (d0.tab x) ps Wt) : SwMid d0 V0 k x y Wt (extOf d0) (fun _ => False) d V0 := by
 have hn : nodesOf d = nodesOf d0 := by unfold nodesOf; rw [c.pool]
 have he : extOf d = extOf d0 := by unfold extOf; rw [c.pool]
 have hc : cntOf d = cntOf d0 := by unfold cntOf; rw [c.counts]
 refine ⟨by rw [hn]; exact MidSw.start hk.dag x y, c.vars, c.level, by rw [c.pool], he, ⟨by rw [hn, hc, c.pool]; exact hk.live.cnt, by rw [hn, hc, c.pool, c.dead]; exact hk.live.dead, by rw [hn, c.counts]; exact hk.live.has⟩,
  fun v hv hvx lo hi id => by rw [c.tabO v hvx, hn]; exact hk.tab v hv lo hi id, fun lo hi id => by rw [c.tabX, hn, hk.tab x hx, hg], by rw [c.counts]; exact hk.clen, fun i hT => ?_, ?_⟩
 ·
  obtain ⟨b, hb, _⟩ := hT;rw [hc];exact live_pos hk.live hd hb
 ·
  rw [c.pool];have : (Wt.filter fun κ => (d.tab x κ).isSome) = [] := by
   rw [List.filter_eq_nil_iff];intro κ hκ;cases e : d.tab x κ with
   | none => simp
   | some id =>
     have h1 := ((c.tabX κ.1 κ.2 id).1 e).1;have h2 := hw.free κ hκ;rw [h1] at h2; cases h2
  rw [this]; rfl
theorem SwMid.congr {E : Nat -> Int} {done done' : Nat -> Prop} (m : SwMid d0 V0 k x y Wt E done d V) (h : ∀ i, done i ↔ done' i) : SwMid d0 V0 k x y Wt E done' d V := by
 have e : done = done' := funext fun i => propext (h i)
 rw [<- e]; exact m
theorem swapD_lev (s : SwV d0 k x y) (hk : StoreOK d0 V0) (hl : d0.level.length = d0.vars.length) (v : Nat) : (swapD d0 k).level.getD v 0 = swLev (levN d0) x y v := by
 obtain ⟨hx, hy, lx, ly, hxy⟩ := s.facts hk;unfold swapD swLev levN;dsimp only;rw [s.x, s.y];unfold levN at lx ly;rw [lx, ly];simp only [List.getD, List.getElem?_set, List.length_set]
 by_cases e1 : v = x
 ·
  subst e1;rw [if_neg (Ne.symm hxy), if_pos rfl, if_pos (by omega), if_pos rfl]; rfl
 ·
  by_cases e2 : v = y
  ·
   subst e2;rw [if_pos rfl, if_pos (by omega), if_neg e1, if_pos rfl]; rfl
  ·
   rw [if_neg (Ne.symm e2), if_neg (Ne.symm e1), if_neg e1, if_neg e2]
theorem swapD_vars (s : SwV d0 k x y) (i : Nat) : (swapD d0 k).vars.getD i 0 = if i = k then y else if i = k + 1 then x else d0.vars.getD i 0 := by
 have h1 := s.k1;unfold swapD;dsimp only;rw [s.x, s.y];simp only [List.getD, List.getElem?_set, List.length_set]
 by_cases e1 : i = k
 ·
  subst e1;rw [if_neg (by omega), if_pos rfl, if_pos (by omega), if_pos rfl]; rfl
 ·
  by_cases e2 : i = k + 1
  ·
   subst e2;rw [if_pos rfl, if_pos h1, if_neg e1, if_pos rfl]; rfl
  ·
   rw [if_neg (Ne.symm e2), if_neg (Ne.symm e1), if_neg e1, if_neg e2]
theorem swapD_len (d0 : StoreD) (k : Nat) : (swapD d0 k).vars.length = d0.vars.length := by simp [swapD]
theorem SwMid.final {done : Nat -> Prop} (m : SwMid d0 V0 k x y Wt (extOf d0) done d V) (s : SwV d0 k x y) (hk : StoreOK d0 V0) (hl : d0.level.length = d0.vars.length) (hall : ∀ i, Turns (nodesOf d0) x y i -> done i) : StoreOK d V := by
 obtain ⟨hx, hy, lx, ly, hxy⟩ := s.facts hk;have hlev : levN d = swLev (levN d0) x y := by funext v; unfold levN; rw [m.level]; exact swapD_lev s hk hl v
 have hvl : d.vars.length = d0.vars.length := by rw [m.vars, swapD_len]
 have hdag := m.mid.final hk.dag hx hy (by omega) hall;have hsw : ∀ v, v < d0.vars.length -> (v = x /\ swLev (levN d0) x y v = k + 1) \/ (v = y /\ swLev (levN d0) x y v = k) \/ (v ≠ x /\ v ≠ y /\ swLev (levN d0) x y v = levN d0 v /\ levN d0 v ≠ k /\ levN d0 v ≠ k + 1) := by
  intro v hv
  by_cases e1 : v = x
  ·
   subst e1; exact .inl ⟨rfl, by rw [swLev_x, ly]⟩
  ·
   by_cases e2 : v = y
   ·
    subst e2; exact .inr (.inl ⟨rfl, by rw [swLev_y _ hxy, lx]⟩)
   ·
    exact .inr (.inr ⟨e1, e2, swLev_o _ e1 e2, fun h => e1 (hk.dag.inj v x hv hx (by rw [h, lx])), fun h => e2 (hk.dag.inj v y hv hy (by rw [h, ly]))⟩)
 refine ⟨by rw [hvl, hlev]; exact hdag, by rw [m.ext]; exact m.live, fun v hv lo hi id => ?_, m.clen, by rw [hvl]; exact hk.small, fun v hv => ?_, fun i hi => ?_⟩
 ·
  rw [hvl] at hv
  by_cases e : v = x
  ·
   subst e;rw [m.tabX];refine ⟨fun h => h.1, fun h => ⟨h, fun hT => ?_⟩⟩;obtain ⟨_, b, hb, hby, _⟩ := m.mid.dn id (hall id hT);rw [h] at hb;cases hb;exact hxy hby
  ·
   exact m.tabO v hv e lo hi id
 ·
  rw [hvl] at hv;rw [hlev, m.vars, swapD_vars s];rcases hsw v hv with ⟨rfl, e⟩ | ⟨rfl, e⟩ | ⟨_, _, e, h1, h2⟩
  ·
   rw [e, if_neg (by omega), if_pos rfl]
  ·
   rw [e, if_pos rfl]
  ·
   rw [e, if_neg h1, if_neg h2]; exact hk.inv v hv
 ·
  rw [hvl] at hi ⊢;rw [hlev, m.vars, swapD_vars s]
  by_cases e1 : i = k
  ·
   rw [if_pos e1]; exact ⟨hy, by rw [swLev_y _ hxy, lx, e1]⟩
  ·
   rw [if_neg e1]
   by_cases e2 : i = k + 1
   ·
    rw [if_pos e2]; exact ⟨hx, by rw [swLev_x, ly, e2]⟩
   ·
    rw [if_neg e2];obtain ⟨h1, h2⟩ := hk.vlt i hi;refine ⟨h1, ?_⟩;rw [swLev_o _ (fun e => e1 (by rw [<- h2, e, lx])) (fun e => e2 (by rw [<- h2, e, ly]))];exact h2
structure SwapOut (d0 : StoreD) (V0 : Nat -> BF) (k : Nat) (d' : StoreD) (V' : Nat -> BF) : Prop where
 ok : StoreOK d' V'
 vars : d'.vars = (swapD d0 k).vars
 level : d'.level = (swapD d0 k).level
 room : d'.pool.room = d0.pool.room
 dead : d'.dead = 0
 val : ∀ i, (i = 0 \/ ∃ b, nodesOf d0 i = some b) -> V' i = V0 i
 live : ∀ i b, nodesOf d0 i = some b -> 1 <= extOf d0 i -> ∃ b', nodesOf d' i = some b'
 ext : ∀ i b', nodesOf d' i = some b' -> extOf d' i = extOf d0 i
theorem SwMid.out {done : Nat -> Prop} (m : SwMid d0 V0 k x y Wt (extOf d0) done d V) (hok : StoreOK d V) (r : CollRel d d') : SwapOut d0 V0 k d' V := by
 refine ⟨r.ok hok, r.vars.trans m.vars, r.level.trans m.level, r.room.trans m.room, r.dead, m.mid.ext, fun i b hb he => ?_, fun i b' hb' => by rw [r.ext i b' hb', m.ext]⟩;obtain ⟨b', hb'⟩ := m.mid.has hb;refine ⟨b', ?_⟩;rw [r.nodes, if_pos (hok.live.cnt.pos_of_ext hb' (by rw [m.ext]; exact he))];exact hb'
end
open Go.RowKit
section
variable {d0 d : StoreD} {V0 V : Nat -> BF} {k x y : Nat} {Wt : List (Nat × Nat)} {E : Nat -> Int} {done : Nat -> Prop} {o : Own} {w : World} {sb : Nat}
structure SwF (d0 : StoreD) (V0 : Nat -> BF) (k x y : Nat) : Prop where
 v : SwV d0 k x y
 ok : StoreOK d0 V0
 lev : d0.level.length = d0.vars.length
 top : ∀ i, extOf d0 i <= 549755813888
theorem SwF.facts (f : SwF d0 V0 k x y) : x < d0.vars.length /\ y < d0.vars.length /\ levN d0 x = k /\ levN d0 y = k + 1 /\ x ≠ y := f.v.facts f.ok
theorem SwMid.acy (m : SwMid d0 V0 k x y Wt E done d V) (f : SwF d0 V0 k x y) : Acy (nodesOf d) (rkSw d0.vars.length (levN d0) (nodesOf d0) x y (nodesOf d)) := by
 obtain ⟨hx, hy, lx, ly, hxy⟩ := f.facts;exact mid_acy f.ok.dag hx (by omega) m.mid
theorem SwMid.vlen (m : SwMid d0 V0 k x y Wt E done d V) : d.vars.length = d0.vars.length := by rw [m.vars, swapD_len]
theorem rcnt_chg {o' : Own} {w' : World} (h : Chg RCnt o o' w w') : Chg RStore o o' w w' := h.mono rcnt_store
theorem mid_more (st : StoreAt o w sb d) (hlt : OwnLt o w) (f : SwF d0 V0 k x y) (m : SwMid d0 V0 k x y Wt E done d V) {e : Nat} (he : midE d0.vars.length (levN d0) (nodesOf d0) (nodesOf d) x y e) (hE : ∀ i, E i <= 549755813898) :
 Calls Tryz.prog 139 #[.pointer (some ⟨sb, 0, none⟩), .int .i64 e] w fun q w' => q = .returned (.tuple #[]) /\ ∃ d', StoreAt o w' sb d' /\ OwnLt o w' /\ SwMid d0 V0 k x y Wt (addE E e 1) done d' V /\ nodesOf d' = nodesOf d /\ d'.pool = d.pool /\ Chg RStore o o w w' := by
 obtain ⟨s, st⟩ := st;obtain ⟨hx, hy, lx, ly, hxy⟩ := f.facts;have ho := okE_midE m.mid he;refine (storeMore_any o sb s _ (2 * (d0.vars.length - levN d0 x)) w d E e ⟨st, hlt, m.acy f, ho, m.live, fun q b _ => ?_, ?_⟩).mono ?_
 ·
  have h1 := hE q;have h2 : toE e q <= 1 := by unfold toE; split <;> omega
  omega
 ·
  rcases ho with h0 | ⟨c, hc⟩
  ·
   exact .inl h0
  ·
   right; have := rk_mid f.ok.dag hx (by omega) m.mid he hc; omega
 ·
  rintro q w' ⟨cs, dd, rfl, h1, h2, h3, h4, _, h6⟩;exact ⟨rfl, _, ⟨s, h1⟩, hlt.mono h6.size, m.counts h2 h3 h4 (Nat.le_refl _), rfl, rfl, rcnt_chg h6⟩
theorem mid_less (st : StoreAt o w sb d) (hlt : OwnLt o w) (f : SwF d0 V0 k x y) (m : SwMid d0 V0 k x y Wt E done d V) {i e : Nat} {b : BN} (hb : nodesOf d0 i = some b) (hbx : b.v = x) (he : e = b.lo \/ e = b.hi) (hE : ∀ i, E i <= 549755813898) (hp : ∀ i, 0 <= E i - toE e i) :
 Calls Tryz.prog 142 #[.pointer (some ⟨sb, 0, none⟩), .int .i64 e] w fun q w' => q = .returned (.tuple #[]) /\ ∃ d', StoreAt o w' sb d' /\ OwnLt o w' /\ SwMid d0 V0 k x y Wt (addE E e (-1)) done d' V /\ Chg RStore o o w w' := by
 obtain ⟨s, st⟩ := st;obtain ⟨hx, hy, lx, ly, hxy⟩ := f.facts;have ho0 : okE (nodesOf d0) e := by rcases he with rfl | rfl; exact f.ok.dag.okLo _ _ hb; exact f.ok.dag.okHi _ _ hb
 have hlv : levN d0 b.v < lvE d0.vars.length (levN d0) (nodesOf d0) e := by rcases he with rfl | rfl; exact f.ok.dag.lvLo _ _ hb; exact f.ok.dag.lvHi _ _ hb
 have ho := okE_mid m.mid ho0;have hat := st.pool.top;have hrm := st.pool.room;refine (storeLess_any o sb s _ (2 * (d0.vars.length - levN d0 x)) w d E e ⟨st, hlt, m.acy f, ho, m.live, fun q c hc => ?_, fun q _ _ => hp q, ?_⟩).mono ?_
 ·
  have h1 := m.live.cnt.le hc;have h2 := hE q;omega
 ·
  rcases ho0 with h0 | ⟨c0, hc0⟩
  ·
   exact .inl h0
  ·
   right;rw [lvE_of hc0, hbx] at hlv;have hcn := f.ok.dag.lt _ (f.ok.dag.var _ _ hc0);rcases ho with h0 | ⟨c, hc⟩
   ·
    rw [h0, f.ok.dag.none0] at hc0; cases hc0
   ·
    rcases rk_old m.mid hc0 hc with ⟨_, hv, _⟩ | ⟨_, _, h3, _⟩
    ·
     rw [hv] at hlv; omega
    ·
     omega
 ·
  rintro q w' ⟨cs, dd, rfl, h1, h2, h3, h4, _, h6⟩;exact ⟨rfl, _, ⟨s, h1⟩, hlt.mono h6.size, m.counts h2 h3 h4 (Nat.le_refl _), rcnt_chg h6⟩
theorem collect_all {V : Nat -> BF} (st : StoreAt o w sb d) (hlt : OwnLt o w) (hk : StoreOK d V) :
 Calls Tryz.prog 101 #[.pointer (some ⟨sb, 0, none⟩)] w fun q w' => q = .returned (.int .i64 d.dead) /\ ∃ o' d', StoreAt o' w' sb d' /\ OwnLt o' w' /\ CollRel d d' /\ Chg RStore o o' w w' := by
 by_cases h0 : d.dead = 0
 ·
  refine (collect_early st h0).mono ?_;rintro q w' ⟨rfl, hb⟩;obtain ⟨s, st⟩ := st;exact ⟨by rw [h0]; rfl, o, d, ⟨s, st.below hlt hb⟩, hlt.mono hb.size, CollRel.none hk h0, Chg.of_below hb _ _⟩
 ·
  exact collect_any st hlt hk h0
end
open Go.RowKit
section
variable {R : Role -> Prop} {o o' : Own} {w w' : World}
structure Box (o : Own) (w : World) (b : Nat) (O : Obj) : Prop where
 blk : w.heap[b]? = some O
 no : o b = none
theorem Box.chg {b : Nat} {O : Obj} (h : Box o w b O) (hc : Chg R o o' w w') : Box o' w' b O :=
 ⟨(hc.alien (Array.getElem?_eq_some_iff.1 h.blk).1 h.no).trans h.blk, hc.alien' (Array.getElem?_eq_some_iff.1 h.blk).1 h.no⟩
theorem Box.cell {b : Nat} {cs : Array Value} {T : TypeId} (h : Box o w b (.cells cs T (0, 0))) (i : Nat) : w.cell? ⟨b, i, none⟩ = cs[i]? := cell_of_row w b i _ _ _ h.blk
theorem Box.other {b : Nat} {O : Obj} {p : Addr} {u : Value} (h : Box o w b O) (hne : b ≠ p.block) : Box o (w.setCell p u) b O := ⟨(heap_setCell_ne hne _).trans h.blk, h.no⟩
theorem Box.set {b : Nat} {cs : Array Value} {T : TypeId} (h : Box o w b (.cells cs T (0, 0))) (i : Nat) (u : Value) : Box o (w.setCell ⟨b, i, none⟩ u) b (.cells (cs.setIfInBounds i u) T (0, 0)) :=
 ⟨heap_setCell_same h.blk u, h.no⟩
theorem TRow.chg {base : Nat} {v : Value} {ts : List TN} (h : TRow w base v ts) (hc : Chg R o o' w w') (hn : 0 < ts.length -> ∀ g, v.ownBlock = some g -> o g = none) : TRow w' base v ts := by
 by_cases hp : 0 < ts.length
 ·
  exact h.keep fun g _ hg hv => hc.alien hg (hn hp g hv)
 ·
  obtain ⟨a, c, h1, _⟩ := h.ex;exact ⟨h.small, a, c, h1, fun k hk => by omega⟩
theorem TRow.blk {base : Nat} {v : Value} {ts : List TN} (h : TRow w base v ts) (hp : 0 < ts.length) : ∀ g, v.ownBlock = some g -> base <= g /\ g < w.heap.size := by
 obtain ⟨a, c, rfl, h1⟩ := h.ex;obtain ⟨g0, rfl, hb, hc⟩ := h1 0 hp;intro g hg;cases hg;exact ⟨hb, lt_of_cell (hc 0 _ rfl)⟩
end
structure RndI (sb : Nat) (o1 : Own) (w1 : World) (base : Nat) (v : Value) (ts : List TN) (W : World) (o : Own) (d : StoreD) : Prop where
 st : StoreAt o W sb d
 lt : OwnLt o W
 row : TRow W base v ts
 no : 0 < ts.length -> ∀ g, v.ownBlock = some g -> o g = none
 chg : Chg RStore o1 o w1 W
section
variable {sb : Nat} {o1 o o' : Own} {w1 W W' : World} {base : Nat} {v : Value} {ts : List TN} {d d' : StoreD} {R : Role -> Prop}
theorem RndI.move (h : RndI sb o1 w1 base v ts W o d) (st : StoreAt o' W' sb d') (lt : OwnLt o' W') (hc : Chg R o o' W W') (hR : ∀ r, R r -> RStore r) : RndI sb o1 w1 base v ts W' o' d' :=
 ⟨st, lt, h.row.chg hc h.no, fun hp g hg => hc.alien' (h.row.blk hp g hg).2 (h.no hp g hg), h.chg.trans (hc.mono hR)⟩
theorem RndI.below (h : RndI sb o1 w1 base v ts W o d) (hb : Below W.heap.size W W') : RndI sb o1 w1 base v ts W' o d :=
 h.move (R := RStore) (h.st.below h.lt hb) (h.lt.mono hb.size) (Chg.of_below hb _ _) (fun _ h => h)
theorem RndI.write (h : RndI sb o1 w1 base v ts W o d) {b : Nat} (hb : o b = none) (h1 : w1.heap.size <= b) (hv : ∀ g, 0 < ts.length -> v.ownBlock = some g -> g ≠ b) (i : Nat) (u : Value) : RndI sb o1 w1 base v ts (W.setCell ⟨b, i, none⟩ u) o d := by
 refine ⟨h.st.keepR (fun g r hg _ => heap_setCell_ne (by rintro rfl; rw [hb] at hg; cases hg) _) (fun _ _ h => h), h.lt.mono (by simp [World.setCell]), ?_, h.no, h.chg.setCell_new h1 u⟩
 by_cases hp : 0 < ts.length
 ·
  exact h.row.keep fun g _ _ hg => heap_setCell_ne (hv g hp hg) _
 ·
  obtain ⟨a, c, h2, _⟩ := h.row.ex;exact ⟨h.row.small, a, c, h2, fun k hk => by omega⟩
end
section
variable {d0 d : StoreD} {V0 V : Nat -> BF} {k x y : Nat} {Wt : List (Nat × Nat)} {E : Nat -> Int} {done : Nat -> Prop}
theorem addE_turn (E : Nat -> Int) (a b lo hi : Nat) : addE (addE (addE (addE (addE (addE E lo 1) hi 1) a 1) b 1) lo (-1)) hi (-1) = addE (addE E a 1) b 1 := by
 funext i; unfold addE; omega
theorem addE_back (E : Nat -> Int) (a b : Nat) : addE (addE (addE (addE E a 1) b 1) a (-1)) b (-1) = E := by
 funext i; unfold addE; omega
theorem setNode_nodes {i : Nat} {n : RN} (hk : i < d.pool.at_.length) (ht : d.pool.tk i = true) : nodesOf { d with pool := d.pool.setNd i n } = setN (nodesOf d) i (bnOf n) := by
 funext j;unfold nodesOf setN;rw [PoolD.setNd_get hk ht]
 by_cases e : j = i
 ·
  rw [if_pos e, if_pos e]; rfl
 ·
  rw [if_neg e, if_neg e]
theorem setNode_ext {i : Nat} {n : RN} (hk : i < d.pool.at_.length) (ht : d.pool.tk i = true) (he : (n.refs : Int) = extOf d i) : extOf { d with pool := d.pool.setNd i n } = extOf d := by
 funext j;have hb : extOf d i = ((d.pool.nd i).refs : Int) := extOf_node ht;unfold extOf;have h1 : (d.pool.setNd i n).tk j = d.pool.tk j := rfl;have h2 : (d.pool.setNd i n).nd j = if j = i then n else d.pool.nd j := nd_set hk j
 dsimp only;rw [h1, h2]
 by_cases e : j = i
 ·
  subst e; rw [if_pos rfl, he, hb]
 ·
  rw [if_neg e]
theorem SwMid.turned {i lo hi : Nat} {b : BN} {n : RN} (m : SwMid d0 V0 k x y Wt (addE (addE (extOf d0) lo 1) hi 1) done d V) (f : SwF d0 V0 k x y) (hT : Turns (nodesOf d0) x y i) (hd : ¬ done i) (hb : nodesOf d0 i = some b)
 (hlo : midE d0.vars.length (levN d0) (nodesOf d0) (nodesOf d) x y lo) (hhi : midE d0.vars.length (levN d0) (nodesOf d0) (nodesOf d) x y hi) (hr : hi % 2 = 0) (hne : lo ≠ hi) (hV : V0 i = iteF y (ef V hi) (ef V lo))
 (hn : bnOf n = ⟨y, lo, hi⟩) (hrf : (n.refs : Int) = extOf d0 i) (hk : i < d.pool.at_.length) :
 d.tab y (lo, hi) = none /\ SwMid d0 V0 k x y Wt (addE (addE (extOf d0) b.lo 1) b.hi 1) (fun j => done j \/ j = i) { d with pool := d.pool.setNd i n, tab := fun u => if u = y then putF (d.tab y) (lo, hi) (some i) else d.tab u } V := by
 obtain ⟨hx, hy, lx, ly, hxy⟩ := f.facts;have hbd : nodesOf d i = some b := m.mid.keep i b hb hd;have ht := (nodesOf_some hbd).1;refine ⟨m.fresh_y f.ok.dag hxy hy hT hd hV, ?_⟩;have h1 := m.set (p' := d.pool.setNd i n) hxy f.ok.dag hy hT hd hb hlo hhi hr hne hV (by rw [setNode_nodes hk ht, hn]) (setNode_ext hk ht (by rw [hrf, m.ext])) rfl rfl (by simp [PoolD.setNd]);rw [addE_turn] at h1;have e : (fun u => if u = y then putF (d.tab u) (lo, hi) (some i) else d.tab u) = (fun u => if u = y then putF (d.tab y) (lo, hi) (some i) else d.tab u) := by
  funext u; by_cases e : u = y
  ·
   subst e; rfl
  ·
   rw [if_neg e, if_neg e]
 rw [e] at h1;exact h1
end
theorem turn_set {sb : Nat} {o1 o : Own} {w1 W : World} {base : Nat} {v : Value} {ts : List TN} {d : StoreD} {s : StoreW} (h : RndI sb o1 w1 base v ts W o d) (st : StoreIn o W sb d s) {n : RN} (ht : d.pool.tk n.id = true) {O1 O2 : Obj} {b1 b2 : Nat} (x1 : Box o W b1 O1) (x2 : Box o W b2 O2) :
 Calls Tryz.prog 140 #[.pointer (some ⟨s.pb, 0, none⟩), rnAgg n] W fun e w' => ∃ q, e = .returned q /\ (q = .int .i64 0 /\ RndI sb o1 w1 base v ts w' o { d with pool := d.pool.setNd n.id n } /\ StoreIn o w' sb { d with pool := d.pool.setNd n.id n } s /\ Box o w' b1 O1 /\ Box o w' b2 O2) := by
 refine (poolSet_any o s.pb d.pool n W st.pool h.lt ht).mono ?_;rintro e w' ⟨rfl, hp, hc, hl'⟩;have st' := st.setPool h.lt hp (hc.mono (fun r hr => by simp [RPool, hr]));exact ⟨_, rfl, rfl, h.move ⟨s, st'⟩ hl' hc rslots_store, st', x1.chg hc, x2.chg hc⟩
theorem turn_put {sb : Nat} {o1 o : Own} {w1 W : World} {base : Nat} {v : Value} {ts : List TN} {d : StoreD} {s : StoreW} (h : RndI sb o1 w1 base v ts W o d) (st : StoreIn o W sb d s) {y lo hi id : Nat} (hy : y < s.ts.length) (hf : d.tab y (lo, hi) = none) {O1 O2 : Obj} {b1 b2 : Nat} (x1 : Box o W b1 O1) (x2 : Box o W b2 O2) :
 Calls Tryz.prog 141 #[.pointer (some ⟨s.ts.getD y 0, 0, none⟩), .int .i64 lo, .int .i64 hi, .int .i64 id] W fun e w' => ∃ q, e = .returned q /\ (q = .int .i64 0 /\ RndI sb o1 w1 base v ts w' o { d with tab := fun u => if u = y then putF (d.tab y) (lo, hi) (some id) else d.tab u } /\ Box o w' b1 O1 /\ Box o w' b2 O2) := by
 refine (put_any o y (s.ts.getD y 0) (d.tab y) lo hi id W (st.tab y hy) h.lt hf).mono ?_;rintro e w' ⟨rfl, ht, hc, hl'⟩;have st' := st.setTab h.lt ht hc;exact ⟨_, rfl, rfl, h.move ⟨s, st'⟩ hl' hc (fun r hr => by simp [RStore, hr]), x1.chg hc, x2.chg hc⟩
structure TurnI (d0 : StoreD) (V0 : Nat -> BF) (x y i : Nat) (b : BN) : Prop where
 node : nodesOf d0 i = some b
 v : b.v = x
 lo : (d0.pool.nd i).lo = b.lo
 hi : (d0.pool.nd i).hi = b.hi
 id : (d0.pool.nd i).id = i
 val : TurnV d0 V0 x y i (tnOf d0 y i).ll (tnOf d0 y i).lh (tnOf d0 y i).hl (tnOf d0 y i).hh
 ne : (tnOf d0 y i).ll ≠ (tnOf d0 y i).lh \/ (tnOf d0 y i).hl ≠ (tnOf d0 y i).hh
theorem turn_info {d0 : StoreD} {V0 : Nat -> BF} {k x y i : Nat} {o : Own} {w : World} {sb : Nat} {s : StoreW} (f : SwF d0 V0 k x y) (h : StoreIn o w sb d0 s) (hT : Turns (nodesOf d0) x y i) : ∃ b, TurnI d0 V0 x y i b := by
 obtain ⟨hx, hy, lx, ly, hxy⟩ := f.facts;obtain ⟨b, hb, hbx, hby⟩ := id hT;obtain ⟨ht, hhas, he⟩ := nodesOf_some hb;rw [hhas] at he;have e1 : (d0.pool.nd i).lo = b.lo := by rw [<- he]; rfl
 have e2 : (d0.pool.nd i).hi = b.hi := by rw [<- he]; rfl
 refine ⟨b, hb, hbx, e1, e2, h.pool.id i ht, ?_, ?_⟩
 ·
  have := turn_vals f.ok hy (by omega) hb hbx;unfold tnOf;rw [e1, e2];exact this
 ·
  have := (turnsB_iff f.ok hb hbx).2 hT;unfold turnsB at this;exact of_decide_eq_true this
structure BothR (d0 : StoreD) (V0 : Nat -> BF) (k x y : Nat) (Wt : List (Nat × Nat)) (done : Nat -> Prop) (i : Nat) (r1 r2 : Nat) (d : StoreD) (V : Nat -> BF) : Prop where
 mid : SwMid d0 V0 k x y Wt (extOf d0) done d V
 e1 : midE d0.vars.length (levN d0) (nodesOf d0) (nodesOf d) x y r1
 e2 : midE d0.vars.length (levN d0) (nodesOf d0) (nodesOf d) x y r2
 reg : r2 % 2 = 0
 ne : r1 ≠ r2
 val : V0 i = iteF y (ef V r2) (ef V r1)
theorem BothR.of {d0 : StoreD} {V0 : Nat -> BF} {k x y : Nat} {Wt : List (Nat × Nat)} {done : Nat -> Prop} {i r1 r2 : Nat} {d d1 d2 : StoreD} {V V1 V2 : Nat -> BF} {b : BN} (f : SwF d0 V0 k x y) (t : TurnI d0 V0 x y i b)
 (h1 : BelowR d0 V0 k x y Wt done d V (tnOf d0 y i).ll (tnOf d0 y i).hl r1 d1 V1) (h2 : BelowR d0 V0 k x y Wt done d1 V1 (tnOf d0 y i).lh (tnOf d0 y i).hh r2 d2 V2) : BothR d0 V0 k x y Wt done i r1 r2 d2 V2 := by
 obtain ⟨hx, hy, lx, ly, hxy⟩ := f.facts;obtain ⟨k1, k2⟩ := h2.keep r1 h1.edge;obtain ⟨q1, q2⟩ := turn_edges (V := V2) f.ok hx hy hxy (by omega) t.val t.ne (k2.trans h1.val) h2.val;exact ⟨h2.mid, k1, h2.edge, h2.reg t.val.reg, q2, q1⟩
theorem want_key {d0 d : StoreD} {V0 V : Nat -> BF} {k x y : Nat} {Wt : List (Nat × Nat)} {E : Nat -> Int} {done : Nat -> Prop} {ps : List (Nat × Nat)} (m : SwMid d0 V0 k x y Wt E done d V) (f : SwF d0 V0 k x y) (hw : WantP (d0.tab x) ps Wt) {lo hi : Nat} (hp : (lo, hi) ∈ ps)
 (hlo : lowE d0.vars.length (levN d0) (nodesOf d0) y lo) (hhi : lowE d0.vars.length (levN d0) (nodesOf d0) y hi) (hne : lo ≠ hi) (ht : d.tab x (bkey lo hi) = none) : bkey lo hi ∈ Wt := by
 obtain ⟨hx, hy, lx, ly, hxy⟩ := f.facts;refine hw.has (lo, hi) hp hne ?_
 show d0.tab x (bkey lo hi) = none
 cases e : d0.tab x (bkey lo hi) with
 | none => rfl
 | some id =>
   exfalso;have hb := (f.ok.tab x hx _ _ id).1 e;have low : ∀ {e : Nat}, lowE d0.vars.length (levN d0) (nodesOf d0) y e -> ¬ isV (nodesOf d0) y e := by
    rintro e ⟨_, h2⟩ ⟨c, hc, hcv⟩;rw [lvE_of hc, hcv] at h2;omega
   by_cases hT : Turns (nodesOf d0) x y id
   ·
    obtain ⟨b, hb', hbx, hby⟩ := hT;rw [hb] at hb';cases hb';rcases hby with h | h
    ·
     exact low (lowE_eflip hlo) h
    ·
     exact low (lowE_eflip hhi) h
   ·
    have h1 := (m.tabX (bkey lo hi).1 (bkey lo hi).2 id).2 ⟨m.mid.keep id _ hb (fun hd => hT (m.mid.dn id hd).1), hT⟩;rw [show ((bkey lo hi).1, (bkey lo hi).2) = bkey lo hi from rfl, ht] at h1;cases h1
open Go.RowKit
theorem ids_many {d : StoreD} {ids : List Nat} (hn : ids.Nodup) (ht : ∀ i ∈ ids, d.pool.tk i = true) (hlt : ∀ i, d.pool.tk i = true -> i < d.pool.at_.length) (hc : (d.pool.many : Int) = sumTo d.pool.at_.length (fun i => if d.pool.tk i = true then 1 else 0)) : ids.length <= d.pool.many := by
 have key : ∀ (l : List Nat), l.Nodup -> (∀ i ∈ l, d.pool.tk i = true) -> ∀ kk, (∀ i ∈ l, i < kk) -> (l.length : Int) <= sumTo kk (fun i => if d.pool.tk i = true then 1 else 0) := by
  intro l hl htl kk
  induction kk generalizing l with
  | zero =>
    intro h;cases l with
    | nil => simp [sumTo]
    | cons a l => have := h a (by simp); omega
  | succ kk ih =>
    intro h
    show (l.length : Int) <= sumTo kk (fun i => if d.pool.tk i = true then 1 else 0) + (if d.pool.tk kk = true then 1 else 0)
    by_cases hm : kk ∈ l
    ·
     have h1 := ih (l.erase kk) (hl.erase kk) (fun i hi => htl i (List.mem_of_mem_erase hi)) (fun i hi => by
      have h2 := h i (List.mem_of_mem_erase hi);have h3 : i ≠ kk := fun e => by subst e; exact (List.Nodup.not_mem_erase hl) hi
      omega)
     rw [List.length_erase_of_mem hm] at h1;have hpos : 0 < l.length := List.length_pos_of_mem hm;have := htl kk hm;simp only [this, if_true];omega
    ·
     have h1 := ih l hl htl (fun i hi => by
      have h2 := h i hi;have h3 : i ≠ kk := fun e => by subst e; exact hm hi
      omega)
     have : (0 : Int) <= if d.pool.tk kk = true then 1 else 0 := by split <;> omega
     omega
 have := key ids hn ht d.pool.at_.length (fun i hi => hlt i (ht i hi));omega
theorem pairs_len (ts : List TN) : (ts.flatMap tnPairs).length = 2 * ts.length := by
 induction ts with
 | nil => rfl
 | cons a l ih => simp [List.flatMap_cons, tnPairs, ih]; omega
structure CutI (d0 : StoreD) (k x : Nat) (ids : List Nat) (sb : Nat) (s : StoreW) (o1 : Own) (w1 : World) (base : Nat) (v : Value) (ts : List TN) (j : Nat) (W : World) (o : Own) (d : StoreD) : Prop where
 st : StoreIn o W sb d s
 lt : OwnLt o W
 cut : CutS d0 k x (fun i => i ∈ ids.take j) d
 row : TRow W base v ts
 no : 0 < ts.length -> ∀ g, v.ownBlock = some g -> o g = none
 chg : Chg RStore o1 o w1 W
theorem CutI.move {d0 : StoreD} {k x : Nat} {ids : List Nat} {sb : Nat} {s : StoreW} {o1 : Own} {w1 : World} {base : Nat} {v : Value} {ts : List TN} {j : Nat} {W W' : World} {o o' : Own} {d d' : StoreD} {R : Role -> Prop} (h : CutI d0 k x ids sb s o1 w1 base v ts j W o d) (st : StoreIn o' W' sb d' s) (hc : Chg R o o' W W') (hR : ∀ r, R r -> RStore r) (lt : OwnLt o' W') {j' : Nat} (cut : CutS d0 k x (fun i => i ∈ ids.take j') d') :
 CutI d0 k x ids sb s o1 w1 base v ts j' W' o' d' :=
 ⟨st, lt, cut, h.row.chg hc h.no, fun hp g hg => hc.alien' (h.row.blk hp g hg).2 (h.no hp g hg), h.chg.trans (hc.mono hR)⟩
theorem CutS.congr {d0 d : StoreD} {k x : Nat} {g g' : Nat -> Prop} (h : CutS d0 k x g d) (e : ∀ i, g i ↔ g' i) : CutS d0 k x g' d := by
 have e' : g = g' := funext fun i => propext (e i)
 rw [<- e']; exact h
theorem storeSwap_any {o : Own} {w : World} {sb : Nat} {d : StoreD} {V : Nat -> BF} (st : StoreAt o w sb d) (hlt : OwnLt o w) (hk : StoreOK d V) (k : Nat) (hk1 : k + 1 < d.vars.length) (htop : ∀ i, extOf d i <= 549755813888) :
 Calls Tryz.prog 100 #[.pointer (some ⟨sb, 0, none⟩), .int .i64 k] w fun q w' => ∃ o' d0, CollRel d d0 /\ OwnLt o' w' /\ Chg RStore o o' w w' /\
  ((q = .returned (.int .i64 7) /\ StoreAt o' w' sb d0 /\ d0.pool.room < 3 * d0.pool.many) \/ (q = .returned (.int .i64 0) /\ ∃ d' V', StoreAt o' w' sb d' /\ SwapOut d0 V k d' V')) := by
 obtain ⟨P, hP⟩ : ∃ P : Ending -> World -> Prop, P = fun q w' => ∃ o' d0, CollRel d d0 /\ OwnLt o' w' /\ Chg RStore o o' w w' /\
  ((q = .returned (.int .i64 7) /\ StoreAt o' w' sb d0 /\ d0.pool.room < 3 * d0.pool.many) \/ (q = .returned (.int .i64 0) /\ ∃ d' V', StoreAt o' w' sb d' /\ SwapOut d0 V k d' V')) := ⟨_, rfl⟩
 rw [<- hP];have HPP := Lib.hid hP;clear hP;obtain ⟨s0, h0⟩ := id st;obtain ⟨c0, c1, c2, c3, c4, f0⟩ := cells5 h0.blk;obtain ⟨l0, l1, _⟩ := cells2 h0.lev;obtain ⟨gv, cv, hvv, hogv, _⟩ := h0.vars.shape (by omega);rw [hvv] at l0;have hsm := hk.small;have HCOL := Lib.hid (collect_all st hlt hk);have HK := Lib.hid hk;have hz1 : ¬ ((k : Int) >= (d.vars.length : Int) - 1) := by omega
 have HTOP := Lib.hid htop;clear h0 hvv st hlt hk hogv htop c1 c2 c3 c4 f0 l1
 go_enter Tryz.func100, Tryz.ntmps100
 go_wp2_with fail;refine HCOL.out.mono ?_;rintro q w1 ⟨rfl, o1, d0, ⟨s, h1⟩, hl1, hr1, hc1⟩;have hok1 := hr1.ok HK.out;obtain ⟨x, hx⟩ : ∃ x, x = d0.vars.getD k 0 := ⟨_, rfl⟩;obtain ⟨y, hy⟩ : ∃ y, y = d0.vars.getD (k + 1) 0 := ⟨_, rfl⟩;have hv1 : d0.vars.length = d.vars.length := by rw [hr1.vars]
 have FR : SwF d0 V k x y := ⟨⟨by omega, hx.symm, hy.symm⟩, hok1, h1.len, fun i => by
  cases hi : nodesOf d0 i with
  | none => rw [extOf_none hi]; omega
  | some b => rw [hr1.ext i b hi]; exact HTOP.out i⟩
 have hxl := FR.facts.1;have hyl := FR.facts.2.1;obtain ⟨c0, c1, c2, c3, c4, f0⟩ := cells5 h1.blk;obtain ⟨l0, l1, _⟩ := cells2 h1.lev;obtain ⟨gv, cv, hvv, hogv, _⟩ := h1.vars.shape (by omega);have r1 := h1.vars;rw [hvv] at r1 l0;have a0 := r1.cell k (by simp; omega);have a1 := r1.cell (k + 1) (by simp; omega);rw [nat64_get (by omega), <- hx] at a0;rw [nat64_get (by omega), <- hy] at a1;have hk0 : (k : Int) < d0.vars.length := by omega
 have hk2 : (k : Int) + 1 < d0.vars.length := by omega
 have HTURN := Lib.hid (turn_any ⟨s, h1.below hl1 (below_draw w1 1)⟩ (hl1.mono (below_draw w1 1).size) hok1 x y hxl);have HFR := Lib.hid FR;have H1 := Lib.hid h1;have HL1 := Lib.hid hl1;have HR1 := Lib.hid hr1;have HC1 := Lib.hid hc1;have hsm0 : d0.vars.length <= 64 := by omega
 have HV1 := Lib.hid hv1;have hwr : IntKind.i64.wrap ((k : Int) + 1) = ((k + 1 : Nat) : Int) := by rw [IntWalk.i64_in _ (by omega)]; rfl
 clear h1 hl1 hr1 hc1 hok1 hvv hogv r1 hx hy FR HCOL hv1 hz1;go_upto_region 6 with fail;refine wp_region_mix (fun W : World => W.cell? ⟨sb, 0, none⟩ = some (.pointer (some ⟨s.lb, 0, none⟩)) /\ W.cell? ⟨s.lb, 0, none⟩ = some (.slice (some ⟨gv, 0, none⟩) d0.vars.length cv) /\ W.cell? ⟨gv, k, none⟩ = some (.int .i64 (x : Nat)) /\ W.cell? ⟨gv, k + 1, none⟩ = some (.int .i64 (y : Nat))) false 23 [(0, false), (1, false), (2, false), (3, false), (4, false), (5, false), (6, false), (7, false), (8, false), (9, false), (10, false), (11, false), (12, false), (13, false), (14, false), (15, false), (16, false), (17, false), (18, false), (19, false), (20, false), (21, false), (22, false)] (by kernel_rfl) (by kernel_rfl) ⟨c0, l0, a0, a1⟩ ?_;simp only [planned, plnLz]
 iterate 23
  refine mix_readE rfl ?_;apply Exists.intro;refine ⟨fun w' hw => ?_, ?_⟩
  ·
   obtain ⟨h1, h2, h3, h4⟩ := hw;go_simp;rfl
  simp only [putLz]
 refine mix_end ?_;go_wp2_with fail;refine HTURN.out.mono ?_;rintro q w2 ⟨v, ids, rfl, hnd, hids, hrow, hb2⟩;obtain ⟨ts, hts⟩ : ∃ ts, ts = ids.map (tnOf d0 y) := ⟨_, rfl⟩;rw [<- hts] at hrow;have hb2' : Below w1.heap.size w1 w2 := ⟨hb2.os, hb2.tape, hb2.output, hb2.size, fun q hq => hb2.block q hq⟩;have h2 := H1.out.below HL1.out hb2';have hl2 := HL1.out.mono hb2'.size;have HTI : Hid (∀ i ∈ ids, ∃ b, TurnI d0 V x y i b) := Lib.hid fun i hi => turn_info HFR.out H1.out ((hids i).1 hi)
 have hbnd : ∀ t ∈ ts, t.ll < eMax /\ t.lh < eMax /\ t.hl < eMax /\ t.hh < eMax := by
  intro t ht;rw [hts] at ht;obtain ⟨i, hi, rfl⟩ := List.mem_map.1 ht;obtain ⟨b, tb⟩ := HTI.out i hi;have q1 := H1.out.edge_lt tb.val.f1.1;have q2 := H1.out.edge_lt tb.val.f2.1;have q3 := H1.out.edge_lt tb.val.f3.1;have q4 := H1.out.edge_lt tb.val.f4.1;unfold eMax;omega
 have HWANT := Lib.hid (wants_any h2 hl2 x hxl hrow hbnd);have HRO := Lib.hid fun W (hb : Below w2.heap.size w2 W) => storeRoom_any ⟨s, h2.below hl2 hb⟩
 have HLE := Lib.hid fun W (hb : Below w2.heap.size w2 W) => storeLen_any ⟨s, h2.below hl2 hb⟩
 have hpm := H1.out.pool.many;have hpt := H1.out.pool.top;have hpr := H1.out.pool.room
 have HIM : Hid (ids.length <= d0.pool.many) := Lib.hid (ids_many hnd (fun i hi => by
  obtain ⟨b, tb⟩ := HTI.out i hi;exact (nodesOf_some tb.node).1) (fun i hi => (H1.out.pool.tk_lt hi).2) H1.out.pool.cnt)
 have HH2 := Lib.hid h2;have HL2 := Lib.hid hl2;have HB2 := Lib.hid hb2';have HROW := Lib.hid hrow;have HIDS := Lib.hid hids;have HND := Lib.hid hnd;have HTS := Lib.hid hts;have hb0 : w1.heap.size <= w2.heap.size := hb2'.size;clear hb2 hb2' h2 hl2 hrow hids hnd hbnd c0 c1 c2 c3 c4 f0 l0 l1 a0 a1 hk0 hk2 hwr hts;go_wp2_with fail;refine HWANT.out.mono ?_;rintro q w3 ⟨Wt, rfl, hwp, hb3⟩;have HWP := Lib.hid hwp;have HB3 := Lib.hid hb3;have hwl : Wt.length <= 2 * ts.length := by have := hwp.len; rw [pairs_len] at this; exact this
 have htl : ts.length = ids.length := by rw [HTS.out, List.length_map]
 have him := HIM.out;have HRO3 := Lib.hid (HRO.out w3 hb3);have HLE3 := Lib.hid (HLE.out w3 hb3);clear hwp hb3 HWANT;go_wp2_with fail;refine HRO3.out.mono ?_;rintro q w' ⟨rfl, rfl⟩;go_wp2_with fail;refine HLE3.out.mono ?_;rintro q w' ⟨rfl, rfl⟩
 by_cases hfit : (Wt.length : Int) > (d0.pool.room : Int) - (d0.pool.many : Int)
 ·
  have HF : Hid (P (.returned (.int .i64 7)) w3) := by
   rw [HPP.out];exact Lib.hid ⟨o1, d0, HR1.out, HL2.out.mono HB3.out.size, HC1.out.trans ((Chg.of_below HB2.out _ _).trans (Chg.of_below HB3.out _ _)), .inl ⟨rfl, ⟨s, HH2.out.below HL2.out HB3.out⟩, by omega⟩⟩
  clear htl;go_wp2_with fail;exact HF.out
 have HFIT : Hid (d0.pool.many + Wt.length <= d0.pool.room) := Lib.hid (by omega);have h3 := HH2.out.below HL2.out HB3.out;have hl3 := HL2.out.mono HB3.out.size;obtain ⟨c0, c1, c2, c3, c4, f0⟩ := cells5 h3.blk;have HSWAP := Lib.hid (levelsSwap_any h3 k (by have := HFR.out.v.k1; exact this) HFR.out.ok.small (by rw [h3.len]; rw [HFR.out.v.x]; exact hxl) (by rw [h3.len]; rw [HFR.out.v.y]; exact hyl));have HH3 := Lib.hid h3;have HL3 := Lib.hid hl3;clear h3 hl3;go_wp2_with fail;refine HSWAP.out.mono ?_;rintro q w4 ⟨rfl, h4, hc4⟩;have hrow3 := (HROW.out.below HB3.out);have hno3 : 0 < ts.length -> ∀ g, v.ownBlock = some g -> o1 g = none := fun hp g hg => HL1.out.none (HROW.out.blk hp g hg).1
 have HI0 : Hid (CutI d0 k x ids sb s o1 w1 w1.heap.size v ts 0 w4 o1 (swapD d0 k)) := Lib.hid ⟨h4, HL3.out.mono hc4.size, (CutS.start d0 k x).congr (fun i => by simp), hrow3.chg hc4 hno3, hno3, (Chg.of_below HB2.out _ _).trans ((Chg.of_below HB3.out _ _).trans hc4)⟩;obtain ⟨av, cvv, hvs, _⟩ := HROW.out.ex;rw [htl] at hvs;have HIB : Hid (ids.length <= 1048578) := Lib.hid (by have := HROW.out.small; omega);clear hrow3 hno3 h4 hc4 HSWAP c0 c1 c2 c3 c4 f0 him hwl;subst hvs;go_wp2_with fail
 go_loopw [77] (fun s77 wr => ∃ j : Nat, j <= ids.length /\ s77 = .int .i64 j /\ Hid (∃ o d, CutI d0 k x ids sb s o1 w1 w1.heap.size (.slice av ids.length cvv) ts j wr o d)) (fun s77 _ => ids.length - (intOf s77).toNat)
 case atStart => exact ⟨0, Nat.zero_le _, rfl, Lib.hid ⟨o1, _, HI0.out⟩⟩
 case round =>
  obtain ⟨j, hj, rfl, HCI⟩ := hrel
  by_cases hlt : j < ids.length
  ·
   obtain ⟨oj, dj, hci⟩ := HCI.out;obtain ⟨a', c', ea, hcells⟩ := hci.row.ex;rw [htl] at ea;injection ea with ea1 ea2 ea3
   obtain ⟨g, hg, _, hcell⟩ := hcells j (by omega);rw [hg] at ea1;subst ea1;obtain ⟨i, hi⟩ : ∃ i, i = ids[j] := ⟨_, rfl⟩;have htj : ts[j]'(by omega) = tnOf d0 y i := by rw [hi]; simp [HTS.out]
   rw [htj] at hcell;obtain ⟨b, tb⟩ := HTI.out i (by rw [hi]; exact List.getElem_mem hlt);have htn : tnOf d0 y i = ⟨d0.pool.nd i, (tnOf d0 y i).ll, (tnOf d0 y i).lh, (tnOf d0 y i).hl, (tnOf d0 y i).hh⟩ := rfl;obtain ⟨N, hN⟩ : ∃ N, N = d0.pool.nd i := ⟨_, rfl⟩;obtain ⟨ll, hll⟩ : ∃ q, q = (tnOf d0 y i).ll := ⟨_, rfl⟩;obtain ⟨lh, hlh⟩ : ∃ q, q = (tnOf d0 y i).lh := ⟨_, rfl⟩;obtain ⟨hl, hhl⟩ : ∃ q, q = (tnOf d0 y i).hl := ⟨_, rfl⟩;obtain ⟨hh, hhh⟩ : ∃ q, q = (tnOf d0 y i).hh := ⟨_, rfl⟩;rw [htn, <- hN, <- hll, <- hlh, <- hhl, <- hhh] at hcell;have e0 : wr.cell? ⟨g, j * 9, none⟩ = some _ := hcell 0 _ rfl;have e1 := hcell 1 _ rfl;have e2 := hcell 2 _ rfl;have e3 := hcell 3 _ rfl;have e4 := hcell 4 _ rfl;have e5 := hcell 5 _ rfl;have e6 := hcell 6 _ rfl;have e7 := hcell 7 _ rfl;have e8 := hcell 8 _ rfl;have hlo : N.lo = b.lo := by rw [hN]; exact tb.lo
   have hhi : N.hi = b.hi := by rw [hN]; exact tb.hi
   have HCIJ := Lib.hid hci;have HIJ := Lib.hid hi;have HTB := Lib.hid tb;have HLO := Lib.hid hlo;have HHI := Lib.hid hhi;have hjz : (j : Int) < ids.length := by omega
   have hib := HIB.out;have hjs : (j : Int) + 1 <= 1048578 := by omega
   have hxl := HFR.out.facts.1;have hti : d0.tab x (N.lo, N.hi) = some i := by
    rw [hlo, hhi];refine (HFR.out.ok.tab x hxl _ _ _).2 ?_;rw [tb.node, <- tb.v]
   have hnt : ¬ i ∈ ids.take j := by
    intro hm;have hnn := HND.out;rw [<- List.take_append_drop j ids, List.nodup_append] at hnn;refine hnn.2.2 i hm i ?_ rfl;rw [List.drop_eq_getElem_cons hlt, hi];exact List.mem_cons_self
   have hft : dj.tab x (N.lo, N.hi) = some i := hci.cut.has hti hnt;have hvd : x < dj.vars.length := by rw [hci.cut.vars, swapD_len]; exact hxl
   have hTE : (fun u => if u = x then putF (dj.tab u) (N.lo, N.hi) none else dj.tab u) = (fun u => if u = x then putF (dj.tab x) (N.lo, N.hi) none else dj.tab u) := by funext u; by_cases e : u = x <;> simp [e]
   have HNXT : Hid (CutS d0 k x (fun q => q ∈ ids.take (j + 1)) { dj with tab := fun u => if u = x then putF (dj.tab x) (N.lo, N.hi) none else dj.tab u }) := Lib.hid (by
    have q1 := (hci.cut.next HFR.out.ok hxl hti).congr (g' := fun q => q ∈ ids.take (j + 1)) (fun q => by
     rw [List.take_succ_eq_append_getElem hlt, List.mem_append, List.mem_singleton, hi])
    rw [hTE] at q1;exact q1)
   obtain ⟨wz, hwz⟩ : ∃ W, W = wr.alloc (.cells #[.int .i64 N.id, .int .i64 N.v, .int .i64 N.lo, .int .i64 N.hi, .int .i64 N.refs, .int .i64 ll, .int .i64 lh, .int .i64 hl, .int .i64 hh] 181) := ⟨_, rfl⟩;have hbz : Below wr.heap.size wr wz := by rw [hwz]; exact below_new1 wr _
   have hz := heap_alloc_new wr (.cells #[.int .i64 N.id, .int .i64 N.v, .int .i64 N.lo, .int .i64 N.hi, .int .i64 N.refs, .int .i64 ll, .int .i64 lh, .int .i64 hl, .int .i64 hh] 181);rw [<- hwz] at hz;have z2 : wz.cell? ⟨wr.heap.size, 2, none⟩ = some (.int .i64 N.lo) := by rw [cell_of_row wz _ 2 _ _ _ hz]; rfl
   have z3 : wz.cell? ⟨wr.heap.size, 3, none⟩ = some (.int .i64 N.hi) := by rw [cell_of_row wz _ 3 _ _ _ hz]; rfl
   have hstz := hci.st.below hci.lt hbz;have hltz := hci.lt.mono hbz.size;obtain ⟨gt, ct, hvt, cellx, hvl⟩ := hstz.tabAt hvd;obtain ⟨c0, c1, c2, c3, c4, f0⟩ := cells5 hstz.blk;rw [hvt] at c2;have hxs : x < s.ts.length := by rw [hstz.tlen]; exact hvd
   have hxi : (x : Int) < s.ts.length := by omega
   have HCUT := Lib.hid (cut_any oj x (s.ts.getD x 0) (dj.tab x) N.lo N.hi i wz.drew ((hstz.below hltz (below_draw wz 1)).tab x hxs) (hltz.mono (below_draw wz 1).size) hft);have HCI1 : Hid (CutI d0 k x ids sb s o1 w1 w1.heap.size (.slice (some ⟨g, 0, none⟩) ids.length cvv) ts j wz.drew oj dj) := Lib.hid (hci.move ((hstz.below hltz (below_draw wz 1))) (Chg.of_below (hbz.trans ((below_draw wz 1).mono hbz.size)) RStore oj) (fun _ h => h) (hltz.mono (below_draw wz 1).size) hci.cut);have HWZ := Lib.hid hwz;have HJL := Lib.hid hlt;clear hcells hcell htj htn hci tb hN hll hlh hhl hhh hi hlo hhi HCI hti hnt hft hvd hbz hz hstz hltz hvt hxs hwz c0 c1 c3 c4 f0;go_upto_region 14 with fail;rw [<- HWZ.out];refine wp_region_mix (fun W : World => W = wz.drew) true 13 [(0, false), (1, false), (2, false), (3, false), (4, false), (5, false), (6, false), (7, false), (8, false), (9, false), (10, false), (11, false), (12, false), (13, true)] (by kernel_rfl) (by kernel_rfl) rfl ?_;simp only [planned, plnLz]
   iterate 13
    refine mix_readE rfl ?_;apply Exists.intro;refine ⟨fun w' hw => ?_, ?_⟩
    ·
     subst hw;go_simp;rfl
    simp only [putLz]
   refine mix_lastCall rfl (by go_simp) (HCUT.out.mono (R' := fun e w' => ∃ v, e = .returned v /\ (v = .int .i64 0 /\ TabIs oj w' x (s.ts.getD x 0) (putF (dj.tab x) (N.lo, N.hi) none) /\ Chg (· = .tmap x) oj oj wz.drew w' /\ OwnLt oj w')) (fun e w' h => ⟨_, h.1, rfl, h.2⟩)) ?_;rintro _ w5 ⟨rfl, ht5, hc5, hl5⟩;simp only [putLz];refine np_normal ?_;have HNX := Lib.hid (HCI1.out.move (HCI1.out.st.setTab HCI1.out.lt ht5 hc5) hc5 (fun r hr => by simp [RStore, hr]) hl5 HNXT.out);clear ht5 hc5 hl5 c2 cellx hxi e0 e1 e2 e3 e4 e5 e6 e7 e8 z2 z3;go_wp2_with fail;go_roundw
   case rel => exact ⟨j + 1, Nat.succ_le_of_lt HJL.out, by go_num, Lib.hid ⟨_, _, HNX.out⟩⟩
   case measure =>
    have := HJL.out;have := HIB.out;simp [intOf];omega
  ·
   obtain rfl : j = ids.length := by omega
   obtain ⟨oe, de, hce⟩ := HCI.out;have HRI0 : Hid (∃ o d V', RndI sb o1 w1 w1.heap.size (.slice av ids.length cvv) ts wr o d /\ SwMid d0 V k x y Wt (extOf d0) (fun i => i ∈ ids.take 0) d V') := Lib.hid ⟨oe, de, V, ⟨⟨s, hce.st⟩, hce.lt, hce.row, hce.no, hce.chg⟩, (SwMid.start hce.cut HFR.out.ok HFR.out.facts.1 HR1.out.dead (fun i => by rw [List.take_length]; exact (HIDS.out i).symm) HWP.out).congr (fun i => by simp)⟩;clear hce HCI;go_wp2_with fail
   go_loopw [98] (fun s98 wr => ∃ j : Nat, j <= ids.length /\ s98 = .int .i64 j /\ Hid (∃ o d V', RndI sb o1 w1 w1.heap.size (.slice av ids.length cvv) ts wr o d /\ SwMid d0 V k x y Wt (extOf d0) (fun i => i ∈ ids.take j) d V')) (fun s98 _ => ids.length - (intOf s98).toNat)
   case atStart => exact ⟨0, Nat.zero_le _, rfl, HRI0⟩
   case round =>
    clear HRI0;obtain ⟨j, hj, rfl, HRI⟩ := hrel
    by_cases hlt : j < ids.length
    ·
     obtain ⟨oj, dj, Vj, hri, hmid⟩ := HRI.out;obtain ⟨a', c', ea, hcells⟩ := hri.row.ex;rw [htl] at ea;injection ea with ea1 ea2 ea3
     clear ea2 ea3;obtain ⟨g, hg, hgb, hcell⟩ := hcells j (by omega);rw [hg] at ea1;subst ea1;obtain ⟨i, hi⟩ : ∃ i, i = ids[j] := ⟨_, rfl⟩;have htj : ts[j]'(by omega) = tnOf d0 y i := by rw [hi]; simp [HTS.out]
     rw [htj] at hcell;have himem : i ∈ ids := by rw [hi]; exact List.getElem_mem hlt
     obtain ⟨b, tb⟩ := HTI.out i himem;have htn : tnOf d0 y i = ⟨d0.pool.nd i, (tnOf d0 y i).ll, (tnOf d0 y i).lh, (tnOf d0 y i).hl, (tnOf d0 y i).hh⟩ := rfl
     have HPR : Hid (((tnOf d0 y i).ll, (tnOf d0 y i).hl) ∈ ts.flatMap tnPairs /\ ((tnOf d0 y i).lh, (tnOf d0 y i).hh) ∈ ts.flatMap tnPairs) := Lib.hid (by
      have hm : tnOf d0 y i ∈ ts := by rw [HTS.out]; exact List.mem_map.2 ⟨i, himem, rfl⟩
      exact ⟨List.mem_flatMap.2 ⟨_, hm, by simp [tnPairs]⟩, List.mem_flatMap.2 ⟨_, hm, by simp [tnPairs]⟩⟩)
     obtain ⟨N, hN⟩ : ∃ N, N = d0.pool.nd i := ⟨_, rfl⟩;obtain ⟨ll, hll⟩ : ∃ q, q = (tnOf d0 y i).ll := ⟨_, rfl⟩;obtain ⟨lh, hlh⟩ : ∃ q, q = (tnOf d0 y i).lh := ⟨_, rfl⟩;obtain ⟨hl, hhl⟩ : ∃ q, q = (tnOf d0 y i).hl := ⟨_, rfl⟩;obtain ⟨hh, hhh⟩ : ∃ q, q = (tnOf d0 y i).hh := ⟨_, rfl⟩;rw [htn, <- hN, <- hll, <- hlh, <- hhl, <- hhh] at hcell;rw [<- hll, <- hlh, <- hhl, <- hhh] at HPR;have e0 : wr.cell? ⟨g, j * 9, none⟩ = some _ := hcell 0 _ rfl;have e1 := hcell 1 _ rfl;have e2 := hcell 2 _ rfl;have e3 := hcell 3 _ rfl;have e4 := hcell 4 _ rfl;have e5 := hcell 5 _ rfl;have e6 := hcell 6 _ rfl;have e7 := hcell 7 _ rfl;have e8 := hcell 8 _ rfl;have hnt : ¬ i ∈ ids.take j := by
      intro hm;have hnn := HND.out;rw [<- List.take_append_drop j ids, List.nodup_append] at hnn;refine hnn.2.2 i hm i ?_ rfl;rw [List.drop_eq_getElem_cons hlt, hi];exact List.mem_cons_self
     obtain ⟨wz, hwz⟩ : ∃ W, W = wr.alloc (.cells #[.int .i64 N.id, .int .i64 N.v, .int .i64 N.lo, .int .i64 N.hi, .int .i64 N.refs, .int .i64 ll, .int .i64 lh, .int .i64 hl, .int .i64 hh] 181) := ⟨_, rfl⟩;have hbz : Below wr.heap.size wr wz.drew := by rw [hwz]; exact below_newdraw wr 1 _
     have hz := heap_alloc_new wr (.cells #[.int .i64 N.id, .int .i64 N.v, .int .i64 N.lo, .int .i64 N.hi, .int .i64 N.refs, .int .i64 ll, .int .i64 lh, .int .i64 hl, .int .i64 hh] 181);rw [<- hwz] at hz;obtain ⟨bz, hbzz⟩ : ∃ q, q = wr.heap.size := ⟨_, rfl⟩;rw [<- hbzz] at hz;have z5 : wz.cell? ⟨bz, 5, none⟩ = some (.int .i64 ll) := by rw [cell_of_row wz _ 5 _ _ _ hz]; rfl
     have z6 : wz.cell? ⟨bz, 6, none⟩ = some (.int .i64 lh) := by rw [cell_of_row wz _ 6 _ _ _ hz]; rfl
     have z7 : wz.cell? ⟨bz, 7, none⟩ = some (.int .i64 hl) := by rw [cell_of_row wz _ 7 _ _ _ hz]; rfl
     have z8 : wz.cell? ⟨bz, 8, none⟩ = some (.int .i64 hh) := by rw [cell_of_row wz _ 8 _ _ _ hz]; rfl
     have HBOX : Hid (Box oj wz.drew bz (.cells #[.int .i64 N.id, .int .i64 N.v, .int .i64 N.lo, .int .i64 N.hi, .int .i64 N.refs, .int .i64 ll, .int .i64 lh, .int .i64 hl, .int .i64 hh] 181 (0, 0))) := Lib.hid ⟨hz, hri.lt.none (by rw [hbzz]; exact Nat.le_refl _)⟩;have HRZ := Lib.hid (hri.below hbz)
     have HGB : Hid (w1.heap.size <= bz /\ g ≠ bz) := Lib.hid (by
      have h1 := hri.chg.size;have h2 : g < wr.heap.size := lt_of_cell e0;exact ⟨by omega, by omega⟩)
     have tv := tb.val;rw [<- hll, <- hlh, <- hhl, <- hhh] at tv;have HB1 := Lib.hid (below_any HRZ.out.st HRZ.out.lt hmid HFR.out.ok.dag (hmid.acy HFR.out) HFR.out.facts.1 hmid.vlen ll hl tv.f1 tv.f3 (fun h1 h2 => want_key hmid HFR.out HWP.out HPR.out.1 tv.f1 tv.f3 h1 h2) HWP.out.nodup HFIT.out);have HB2 : Hid (∀ W o d V', StoreAt o W sb d -> OwnLt o W -> SwMid d0 V k x y Wt (extOf d0) (fun i => i ∈ ids.take j) d V' -> _) := Lib.hid (fun W o d V' st lt m => below_any st lt m HFR.out.ok.dag (m.acy HFR.out) HFR.out.facts.1 m.vlen lh hh tv.f2 tv.f4 (fun h1 h2 => want_key m HFR.out HWP.out HPR.out.2 tv.f2 tv.f4 h1 h2) HWP.out.nodup HFIT.out)
     have HBOTH : Hid (∀ r1 r2 d1 d2 V1 V2, BelowR d0 V k x y Wt (fun i => i ∈ ids.take j) dj Vj ll hl r1 d1 V1 -> BelowR d0 V k x y Wt (fun i => i ∈ ids.take j) d1 V1 lh hh r2 d2 V2 -> BothR d0 V k x y Wt (fun i => i ∈ ids.take j) i r1 r2 d2 V2) := Lib.hid (by
      intro r1 r2 d1 d2 V1 V2 h1 h2;rw [hll, hhl] at h1;rw [hlh, hhh] at h2;exact BothR.of HFR.out tb h1 h2)
     have HN : Hid (N.lo = b.lo /\ N.hi = b.hi /\ N.id = i /\ (N.refs : Int) = extOf d0 i) := Lib.hid (by rw [hN]; exact ⟨tb.lo, tb.hi, tb.id, (extOf_node (nodesOf_some tb.node).1).symm⟩);have HT : Hid (Turns (nodesOf d0) x y i) := Lib.hid ((HIDS.out i).1 himem);have HNT := Lib.hid hnt;have HTB := Lib.hid tb;have HTK : Hid (∀ q, (q ∈ ids.take j \/ q = i) ↔ q ∈ ids.take (j + 1)) := Lib.hid (fun q => by rw [List.take_succ_eq_append_getElem hlt, List.mem_append, List.mem_singleton, hi]);have hjz : (j : Int) < ids.length := by omega
     have hib := HIB.out;have hjs : (j : Int) + 1 <= 1048578 := by omega
     have HWZ := Lib.hid hwz;have HBZ := Lib.hid hbzz;have HJL := Lib.hid hlt;clear hcells hcell htj htn hri hmid tb tv hN hll hlh hhl hhh hi HRI hnt hbz hz hwz hbzz himem hgb;go_upto_region 19 with fail;rw [<- HBZ.out, <- HWZ.out];clear e0 e1 e2 e3 e4 e5 e6 e7 e8;refine wp_region_mix (fun W : World => W.cell? ⟨bz, 5, none⟩ = some (.int .i64 ll) /\ W.cell? ⟨bz, 6, none⟩ = some (.int .i64 lh) /\ W.cell? ⟨bz, 7, none⟩ = some (.int .i64 hl) /\ W.cell? ⟨bz, 8, none⟩ = some (.int .i64 hh)) false 16 [(0, false), (1, false), (2, false), (3, false), (4, false), (5, false), (7, false), (8, false), (9, false), (10, false), (11, false), (12, false), (6, true), (13, true), (14, false), (15, false)] (by kernel_rfl) (by kernel_rfl) ⟨z5, z6, z7, z8⟩ ?_;simp only [planned, plnLz]
     iterate 12
      refine mix_readE rfl ?_;apply Exists.intro;refine ⟨fun w' hw => ?_, ?_⟩
      ·
       obtain ⟨q5, q6, q7, q8⟩ := hw;go_simp;rfl
      simp only [putLz]
     refine mix_callR (R := fun v w' => ∃ r : Nat, v = .int .i64 r /\ ∃ o' d' V', RndI sb o1 w1 w1.heap.size (.slice (some ⟨g, 0, none⟩) ids.length cvv) ts w' o' d' /\ BelowR d0 V k x y Wt (fun i => i ∈ ids.take j) dj Vj ll hl r d' V' /\ Box o' w' bz (.cells #[.int .i64 N.id, .int .i64 N.v, .int .i64 N.lo, .int .i64 N.hi, .int .i64 N.refs, .int .i64 ll, .int .i64 lh, .int .i64 hl, .int .i64 hh] 181 (0, 0))) rfl (by go_simp) (HB1.out.mono (fun e w' he => ?_)) ?_
     ·
      obtain ⟨r, rfl, o', d', V', st', lt', hbr, hvl', hc'⟩ := he;have hb' := HBOX.out.chg hc';exact ⟨_, rfl, ⟨hb'.cell 5, hb'.cell 6, hb'.cell 7, hb'.cell 8⟩, r, rfl, o', d', V', HRZ.out.move st' lt' hc' (fun _ h => h), hbr, hb'⟩
     rintro v w5 - ⟨r1, rfl, o5, d5, V5, hr5, hbr5, hbx5⟩;simp only [putLz];refine mix_callR (R := fun v w' => ∃ r : Nat, v = .int .i64 r /\ ∃ o' d' V', RndI sb o1 w1 w1.heap.size (.slice (some ⟨g, 0, none⟩) ids.length cvv) ts w' o' d' /\ BothR d0 V k x y Wt (fun i => i ∈ ids.take j) i r1 r d' V' /\ Box o' w' bz (.cells #[.int .i64 N.id, .int .i64 N.v, .int .i64 N.lo, .int .i64 N.hi, .int .i64 N.refs, .int .i64 ll, .int .i64 lh, .int .i64 hl, .int .i64 hh] 181 (0, 0))) rfl (by go_simp) ((HB2.out w5 o5 d5 V5 hr5.st hr5.lt hbr5.mid).mono (fun e w' he => ?_)) ?_
     ·
      obtain ⟨r, rfl, o', d', V', st', lt', hbr, hvl', hc'⟩ := he;have hb' := hbx5.chg hc';exact ⟨_, rfl, ⟨hb'.cell 5, hb'.cell 6, hb'.cell 7, hb'.cell 8⟩, r, rfl, o', d', V', hr5.move st' lt' hc' (fun _ h => h), HBOTH.out _ _ _ _ _ _ hbr5 hbr, hb'⟩
     rintro v w6 - ⟨r2, rfl, o6, d6, V6, hr6, hbo, hbx6⟩;simp only [putLz]
     iterate 2
      refine mix_readE rfl ?_;apply Exists.intro;refine ⟨fun w' hw => ?_, ?_⟩
      ·
       obtain ⟨q5, q6, q7, q8⟩ := hw;go_simp;rfl
      simp only [putLz]
     refine mix_end ?_;have HR6 := Lib.hid hr6;have HBO := Lib.hid hbo;have HBX6 := Lib.hid hbx6;have HM1 := Lib.hid (mid_more hr6.st hr6.lt HFR.out hbo.mid hbo.e1 (fun i => by have := HFR.out.top i; omega));clear hr6 hbo hbx6 hr5 hbr5 hbx5 z5 z6 z7 z8 HB1 HB2;go_wp2_with fail;refine HM1.out.mono ?_;rintro q w7 ⟨rfl, d7, st7, lt7, m7, n7, p7, c7⟩;have HR7 := Lib.hid (HR6.out.move st7 lt7 c7 (fun _ h => h));have HBX7 := Lib.hid (HBX6.out.chg c7)
     have HM2 := Lib.hid (mid_more st7 lt7 HFR.out m7 (n7 ▸ HBO.out.e2) (fun i => by
      have := HFR.out.top i;have h2 : toE r1 i <= 1 := by unfold toE; split <;> omega
      unfold addE; omega))
     have HN7 : Hid (nodesOf d7 = nodesOf d6 /\ d7.pool = d6.pool) := Lib.hid ⟨n7, p7⟩;clear st7 lt7 m7 n7 p7 c7;go_wp2_with fail;refine HM2.out.mono ?_;rintro q w8 ⟨rfl, d8, st8, lt8, m8, n8, p8, c8⟩;have HR8 := Lib.hid (HR7.out.move st8 lt8 c8 (fun _ h => h));have HBX8 := Lib.hid (HBX7.out.chg c8);have HM8 := Lib.hid m8;have HN8 : Hid (nodesOf d8 = nodesOf d6 /\ d8.pool = d6.pool) := Lib.hid ⟨n8.trans HN7.out.1, p8.trans HN7.out.2⟩;clear st8 lt8 m8 n8 p8 c8;have x0 : w8.cell? ⟨bz, 0, none⟩ = some (.int .i64 N.id) := HBX8.out.cell 0;have x1 : w8.cell? ⟨bz, 1, none⟩ = some (.int .i64 N.v) := HBX8.out.cell 1;have x2 : w8.cell? ⟨bz, 2, none⟩ = some (.int .i64 N.lo) := HBX8.out.cell 2;have x3 : w8.cell? ⟨bz, 3, none⟩ = some (.int .i64 N.hi) := HBX8.out.cell 3;have x4 : w8.cell? ⟨bz, 4, none⟩ = some (.int .i64 N.refs) := HBX8.out.cell 4;have xf : ∀ q, w8.frozen? ⟨bz, q, none⟩ = false := fun q => by simp [World.frozen?, HBX8.out.blk]
     go_upto_region 23 with fail;obtain ⟨wo, hwo⟩ : ∃ W, W = w8.alloc (.cells #[.int .i64 N.id, .int .i64 N.v, .int .i64 N.lo, .int .i64 N.hi, .int .i64 N.refs] 157) := ⟨_, rfl⟩;have hbo : Below w8.heap.size w8 wo := by rw [hwo]; exact below_new1 w8 _
     have hob := heap_alloc_new w8 (.cells #[.int .i64 N.id, .int .i64 N.v, .int .i64 N.lo, .int .i64 N.hi, .int .i64 N.refs] 157);rw [<- hwo] at hob;obtain ⟨bo, hboo⟩ : ∃ q, q = w8.heap.size := ⟨_, rfl⟩;rw [<- hboo] at hob;have hne : bz ≠ bo := by
      have := lt_of_cell x0;have h2 : bz < w8.heap.size := this;omega
     have HBXO : Hid (Box o6 wo bz (.cells #[.int .i64 N.id, .int .i64 N.v, .int .i64 N.lo, .int .i64 N.hi, .int .i64 N.refs, .int .i64 ll, .int .i64 lh, .int .i64 hl, .int .i64 hh] 181 (0, 0))) := Lib.hid (HBX8.out.chg (Chg.of_below hbo RStore o6));have HRO := Lib.hid (HR8.out.below hbo);have HBOO : Hid (Box o6 wo bo (.cells #[.int .i64 N.id, .int .i64 N.v, .int .i64 N.lo, .int .i64 N.hi, .int .i64 N.refs] 157 (0, 0))) := Lib.hid ⟨hob, HR8.out.lt.none (by rw [hboo]; exact Nat.le_refl _)⟩;obtain ⟨wa, hwa⟩ : ∃ W, W = (wo.setCell ⟨bz, 1, none⟩ (.int .i64 y)).setCell ⟨bz, 2, none⟩ (.int .i64 r1) := ⟨_, rfl⟩;obtain ⟨wb, hwb⟩ : ∃ W, W = wa.setCell ⟨bz, 3, none⟩ (.int .i64 r2) := ⟨_, rfl⟩;have HV : ∀ q, 0 < ts.length -> Value.ownBlock (.slice (some ⟨g, 0, none⟩) ids.length cvv) = some q -> q ≠ bz := fun q _ hq => by cases hq; exact HGB.out.2
     have HRB : Hid (RndI sb o1 w1 w1.heap.size (.slice (some ⟨g, 0, none⟩) ids.length cvv) ts wb.drew o6 d8) := Lib.hid (by
      rw [hwb, hwa];exact (((HRO.out.write HBXO.out.no HGB.out.1 HV 1 _).write HBXO.out.no HGB.out.1 HV 2 _).write HBXO.out.no HGB.out.1 HV 3 _).below (below_draw _ 1))
     have hrefs := HN.out.2.2.2
     have HBXB : Hid (Box o6 wb.drew bz (.cells #[.int .i64 i, .int .i64 y, .int .i64 r1, .int .i64 r2, .int .i64 N.refs, .int .i64 ll, .int .i64 lh, .int .i64 hl, .int .i64 hh] 181 (0, 0))) := Lib.hid (by
      rw [hwb, hwa];have h := ((HBXO.out.set 1 (.int .i64 y)).set 2 (.int .i64 r1)).set 3 (.int .i64 r2);rw [HN.out.2.2.1] at h;exact ⟨h.blk, h.no⟩)
     have HBOB : Hid (Box o6 wb.drew bo (.cells #[.int .i64 i, .int .i64 N.v, .int .i64 b.lo, .int .i64 b.hi, .int .i64 N.refs] 157 (0, 0))) := Lib.hid (by
      rw [hwb, hwa];have h := ((HBOO.out.other (p := ⟨bz, 1, none⟩) (u := .int .i64 y) (Ne.symm hne)).other (p := ⟨bz, 2, none⟩) (u := .int .i64 r1) (Ne.symm hne)).other (p := ⟨bz, 3, none⟩) (u := .int .i64 r2) (Ne.symm hne);rw [HN.out.2.2.1, HN.out.1, HN.out.2.1] at h;exact ⟨h.blk, h.no⟩)
     have y1 : wo.cell? ⟨bz, 1, none⟩ = some (.int .i64 N.v) := HBXO.out.cell 1;have y2 : wo.cell? ⟨bz, 2, none⟩ = some (.int .i64 N.lo) := HBXO.out.cell 2;have y3 : wo.cell? ⟨bz, 3, none⟩ = some (.int .i64 N.hi) := HBXO.out.cell 3;have yf : ∀ q, wo.frozen? ⟨bz, q, none⟩ = false := fun q => by simp [World.frozen?, HBXO.out.blk]
     have HWO := Lib.hid hwo;have HBOE := Lib.hid hboo;have HWA := Lib.hid hwa;have HWB := Lib.hid hwb;have HNE := Lib.hid hne;clear hwo hbo hob hboo hne hwa hwb HV hrefs x0 x1 x2 x3 x4 xf;rw [<- HWO.out, <- HBOE.out];go_upto_region 24 with fail;rw [<- HWA.out, <- HWB.out];obtain ⟨s9, h9⟩ := HRB.out.st;obtain ⟨k0, k1, k2, k3, k4, kf⟩ := cells5 h9.blk;have hdi : d8.pool.tk i = true := by
      have h1 : nodesOf d8 i = some b := HM8.out.mid.keep i b HTB.out.node HNT.out;exact (nodesOf_some h1).1
     have HTD := Lib.hid (HM8.out.turned (n := ⟨i, y, r1, r2, N.refs⟩) HFR.out HT.out HNT.out HTB.out.node (HN8.out.1 ▸ HBO.out.e1) (HN8.out.1 ▸ HBO.out.e2) HBO.out.reg HBO.out.ne HBO.out.val rfl HN.out.2.2.2 (h9.pool.tk_lt hdi).2);have HSET := Lib.hid (turn_set (n := ⟨i, y, r1, r2, N.refs⟩) HRB.out h9 hdi HBXB.out HBOB.out);unfold rnAgg at HSET;have n0 : wb.cell? ⟨bz, 0, none⟩ = some (.int .i64 i) := HBXB.out.cell 0;have n1 : wb.cell? ⟨bz, 1, none⟩ = some (.int .i64 y) := HBXB.out.cell 1;have n2 : wb.cell? ⟨bz, 2, none⟩ = some (.int .i64 r1) := HBXB.out.cell 2;have n3 : wb.cell? ⟨bz, 3, none⟩ = some (.int .i64 r2) := HBXB.out.cell 3;have n4 : wb.cell? ⟨bz, 4, none⟩ = some (.int .i64 N.refs) := HBXB.out.cell 4;have k1' : wb.cell? ⟨sb, 1, none⟩ = some (.pointer (some ⟨s9.pb, 0, none⟩)) := k1;have HL9 : Hid (s9.ts.length = d0.vars.length) := Lib.hid (by rw [h9.tlen, HM8.out.vlen]);clear k0 k1 k2 k3 k4 kf h9 hdi y1 y2 y3 yf;refine wp_region_mix (fun W : World => W = wb.drew) true 6 [(0, false), (1, false), (2, false), (3, false), (4, false), (5, false), (6, true)] (by kernel_rfl) (by kernel_rfl) rfl ?_;simp only [planned, plnLz]
     iterate 6
      refine mix_readE rfl ?_;apply Exists.intro;refine ⟨fun w' hw => ?_, ?_⟩
      ·
       subst hw;go_simp;rfl
      simp only [putLz]
     refine mix_lastCall rfl (by go_simp) HSET.out ?_;rintro _ w10 ⟨rfl, hr10, h10, hx10, hy10⟩;simp only [putLz];refine np_normal ?_;clear n0 n1 n2 n3 n4 k1';have hd10 := h10.below hr10.lt (below_draw w10 1);have hyl2 : y < s9.ts.length := by rw [HL9.out]; exact HFR.out.facts.2.1
     have hyi : (y : Int) < s9.ts.length := by omega
     obtain ⟨gt, ct, hvt, celly, hvl⟩ := h10.tabAt (v := y) (by show y < d8.vars.length; rw [HM8.out.vlen]; exact HFR.out.facts.2.1);obtain ⟨k0, k1, k2, k3, k4, kf⟩ := cells5 h10.blk;rw [hvt] at k2;have HPUT := Lib.hid (turn_put (id := i) (hr10.below (below_draw w10 1)) hd10 hyl2 HTD.out.1 (hx10.chg (Chg.of_below (below_draw w10 1) RStore o6)) (hy10.chg (Chg.of_below (below_draw w10 1) RStore o6)));have n0 : w10.cell? ⟨bz, 0, none⟩ = some (.int .i64 i) := hx10.cell 0;clear hr10 h10 hx10 hy10 hd10 hvt k0 k1 k3 k4 kf hyl2;go_upto_region 25 with fail;refine wp_region_mix (fun W : World => W = w10.drew) true 12 [(0, false), (1, false), (2, false), (3, false), (4, false), (5, false), (6, false), (7, false), (8, false), (9, false), (10, false), (11, false), (12, true)] (by kernel_rfl) (by kernel_rfl) rfl ?_;simp only [planned, plnLz]
     iterate 12
      refine mix_readE rfl ?_;apply Exists.intro;refine ⟨fun w' hw => ?_, ?_⟩
      ·
       subst hw;go_simp;rfl
      simp only [putLz]
     refine mix_lastCall rfl (by go_simp) HPUT.out ?_;rintro _ w11 ⟨rfl, hr11, hx11, hy11⟩;simp only [putLz];refine np_normal ?_;have HR11 := Lib.hid hr11;have HY11 := Lib.hid hy11
     have HLS := Lib.hid (mid_less hr11.st hr11.lt HFR.out HTD.out.2 HTB.out.node HTB.out.v (.inl rfl) (fun q => by
      have h1 := HFR.out.top q;have h2 : toE b.lo q <= 1 := by unfold toE; split <;> omega
      have h3 : toE b.hi q <= 1 := by unfold toE; split <;> omega
      unfold addE; omega) (fun q => by
      have h1 : 0 <= extOf d0 q := by unfold extOf; split <;> omega
      have h3 : 0 <= toE b.hi q := by unfold toE; split <;> omega
      unfold addE; omega))
     have u2 : w11.cell? ⟨bo, 2, none⟩ = some (.int .i64 b.lo) := hy11.cell 2;clear hr11 hx11 hy11 n0 k2 celly hyi;go_wp2_with fail;refine HLS.out.mono ?_;rintro q w12 ⟨rfl, d12, st12, lt12, m12, c12⟩;have HR12 := Lib.hid (HR11.out.move st12 lt12 c12 (fun _ h => h));have hy12 := HY11.out.chg c12
     have HLS2 := Lib.hid (mid_less st12 lt12 HFR.out m12 HTB.out.node HTB.out.v (.inr rfl) (fun q => by
      have h1 := HFR.out.top q;have h2 : toE b.lo q <= 1 := by unfold toE; split <;> omega
      have h3 : toE b.hi q <= 1 := by unfold toE; split <;> omega
      have h4 : 0 <= toE b.lo q := by unfold toE; split <;> omega
      unfold addE; omega) (fun q => by
      have h1 : 0 <= extOf d0 q := by unfold extOf; split <;> omega
      unfold addE; omega))
     have u3 : w12.cell? ⟨bo, 3, none⟩ = some (.int .i64 b.hi) := hy12.cell 3;clear st12 lt12 m12 c12 hy12 u2;go_wp2_with fail;refine HLS2.out.mono ?_;rintro q w13 ⟨rfl, d13, st13, lt13, m13, c13⟩;rw [addE_back] at m13;have HNX := Lib.hid (And.intro (HR12.out.move st13 lt13 c13 (fun _ h => h)) (m13.congr HTK.out));clear st13 lt13 m13 c13 u3;go_wp2_with fail;go_roundw
     case rel => exact ⟨j + 1, Nat.succ_le_of_lt HJL.out, by go_num, Lib.hid ⟨_, _, _, HNX.out.1, HNX.out.2⟩⟩
     case measure =>
      have := HJL.out;have := HIB.out;simp [intOf];omega
    ·
     obtain rfl : j = ids.length := by omega
     obtain ⟨oe, de, Ve, hre, hme⟩ := HRI.out;have hok := hme.final HFR.out.v HFR.out.ok HFR.out.lev (fun i hT => by rw [List.take_length]; exact (HIDS.out i).2 hT);have HCE := Lib.hid (collect_all hre.st hre.lt hok)
     have HFIN : Hid (∀ w' o' d', StoreAt o' w' sb d' -> OwnLt o' w' -> CollRel de d' -> Chg RStore oe o' wr w' -> P (.returned (.int .i64 0)) w') := Lib.hid (by
      intro w' o' d' st' lt' cr' ch';rw [HPP.out];exact ⟨o', d0, HR1.out, lt', HC1.out.trans (hre.chg.trans ch'), .inr ⟨rfl, d', Ve, st', hme.out hok cr'⟩⟩)
     clear hre hme hok HRI;go_wp2_with fail;refine HCE.out.mono ?_;rintro q w14 ⟨rfl, o14, d14, st14, lt14, cr14, ch14⟩;have HF := Lib.hid (HFIN.out w14 o14 d14 st14 lt14 cr14 ch14);clear st14 lt14 cr14 ch14;go_wp2_with fail;exact HF.out
open Go.RowKit
section
variable {m : ManD} {V V' : Nat -> BF} {d0 d' : StoreD} {k : Nat}
theorem HandlesOK.big (h : HandlesOK m) {p : Int × Nat} (hp : p ∈ m.hs) : p.2 / 2 = 0 \/ 1 < p.1 := by
 by_cases h1 : 1 < p.1
 ·
  exact .inr h1
 ·
  left;have hlt := h.lt p hp;have hu : ∀ q ∈ m.hs, q.1 = p.1 -> q = p := by
   intro q hq e;have hnd := h.nodup;have h1 := getL_of_mem (l := encH m.hs) (encH_nodup hnd) (List.mem_map.2 ⟨q, hq, rfl⟩);have h2 := getL_of_mem (l := encH m.hs) (encH_nodup hnd) (List.mem_map.2 ⟨p, hp, rfl⟩);rw [e, h2] at h1;have e2 : (p.2 : Int) = (q.2 : Int) := by injection h1 with h1; injection h1
   exact Prod.ext e (by omega)
  rcases (by omega : p.1 = 0 \/ p.1 = 1) with e | e
  ·
   rw [<- hu _ h.zero e.symm]; rfl
  ·
   rw [<- hu _ h.one e.symm]; rfl
theorem refs_pos {hs : List (Int × Nat)} {p : Int × Nat} (hp : p ∈ hs) (h1 : 1 < p.1) : 0 < refsOf hs (p.2 / 2) := by
 unfold refsOf;refine List.length_pos_of_mem (List.mem_filter.2 ⟨hp, ?_⟩);simp [h1]
theorem refs_le (hs : List (Int × Nat)) (i : Nat) : refsOf hs i <= hs.length := List.length_filter_le _ _
theorem ext_le (h : HandlesOK m) (i : Nat) : extOf m.d i <= m.next := by
 cases hb : nodesOf m.d i with
 | none => rw [extOf_none hb]; have := h.next; omega
 | some b =>
   rw [h.refs i b hb];have h1 := refs_le m.hs i;have h2 := h.len;omega
theorem handles_swap (h : HandlesOK { m with d := d0 }) (hk : StoreOK d0 V) (s : SwapOut d0 V k d' V') : HandlesOK { m with d := d' } := by
 have hok : ∀ p ∈ m.hs, okE (nodesOf d') p.2 := by
  intro p hp;rcases h.ok p hp with h0 | ⟨b, hb⟩
  ·
   exact .inl h0
  ·
   rcases h.big hp with h1 | h1
   ·
    exact .inl h1
   ·
    refine .inr (s.live _ b hb ?_);have h2 := h.refs _ b hb;have h3 : 0 < refsOf m.hs (p.2 / 2) := refs_pos hp h1;have h4 : extOf d0 (p.2 / 2) = (refsOf m.hs (p.2 / 2) : Int) := h2;omega
 refine ⟨h.nodup, h.zero, h.one, h.lt, h.next, hok, h.len, fun i b hb => ?_⟩
 show extOf d' i = (refsOf m.hs i : Int)
 rw [s.ext i b hb];cases hn : nodesOf d0 i with
 | some b0 => exact h.refs i b0 hn
 | none =>
   rw [extOf_none hn];have hi : i ≠ 0 := by
    rintro rfl;have h0 : nodesOf d' 0 = none := s.ok.dag.none0;have h1 : nodesOf d' 0 = some b := hb;rw [h0] at h1; cases h1
   have : refsOf m.hs i = 0 := by
    unfold refsOf;rw [List.length_eq_zero_iff, List.filter_eq_nil_iff];intro p hp;have ho := h.ok p hp;simp only [Bool.and_eq_true, decide_eq_true_eq, beq_iff_eq, not_and];rintro _ rfl;rcases ho with h0 | ⟨b1, hb1⟩
    ·
     exact hi h0
    ·
     have hb2 : nodesOf d0 (p.2 / 2) = some b1 := hb1;rw [hn] at hb2; cases hb2
   rw [this]; rfl
end
structure SwapM (K : Law) (n room : Nat) (w0 : World) (mb : Nat) (fs : List (Int × BF)) (nx : Int) (k : Nat) (o : Own) (w : World) (m : ManD) (V : Nat -> BF) (e : Ending) (o' : Own) (w' : World) (m' : ManD) (V' : Nat -> BF) : Prop where
 sat : SatE K n (fun _ => True) room w0 mb fs nx w' o' m' V'
 waits : m'.waits = m.waits
 calls : m'.calls = m.calls
 chg : Chg (fun _ => True) o o' w w'
 way : ∃ d0, CollRel m.d d0 /\ ((e = .returned (.int .i64 7) /\ m'.d = d0 /\ V' = V /\ d0.pool.room < 3 * d0.pool.many) \/ (e = .returned (.int .i64 0) /\ SwapOut d0 V k m'.d V'))
section
variable {K : Law} {n : Nat} {Od : List Nat -> Prop} {room : Nat} {w0 w w' : World} {mb : Nat} {fs : List (Int × BF)} {nx : Int} {o o' : Own} {m : ManD} {V : Nat -> BF}
theorem satSwap {k : Nat} {s : ManW} {w1 : World} (h : SatE K n Od room w0 mb fs nx w o m V) (g1 : ManIn (fun _ _ _ _ _ => False) o w1 mb m s) (g2 : Chg (· = .entries) o o w w1) (g3 : OwnLt o w1) (hk1 : k + 1 < n) (hn : nx <= 549755813888) :
 Calls Tryz.prog 100 #[.pointer (some ⟨s.sb, 0, none⟩), .int .i64 k] w1 fun e w' => ∃ o' m' V', SwapM K n room w0 mb fs nx k o w m V e o' w' m' V' := by
 have hnext := h.next
 refine (storeSwap_any g1.store g3 h.ok.store k (by rw [h.vars]; exact hk1) (fun i => by have := ext_le h.ok.handles i; omega)).mono ?_;rintro e w' ⟨o', d0, cr, lt, ch, hw⟩;have hc : Chg (fun _ => True) o o' w w' := g2.any.trans ch.any;have h0 := handles_coll h.ok.handles h.ok.store cr;rcases hw with ⟨rfl, st, hr⟩ | ⟨rfl, d', V', st, so⟩
 ·
  refine ⟨o', { m with d := d0 }, V, ⟨⟨s, (g1.setStore g3 st ch).mono fun _ _ _ _ _ e => e.elim⟩, lt, ⟨cr.ok h.ok.store, h0⟩, by dsimp only; rw [cr.vars]; exact h.vars, trivial, by dsimp only; rw [cr.room]; exact h.room, h.next, h.hs, h.chg.lower (ChgX.of_chg hc NoB) (fun _ e => e.elim)⟩, rfl, rfl, hc, d0, cr, .inl ⟨rfl, rfl, rfl, hr⟩⟩
 ·
  refine ⟨o', { m with d := d' }, V', ⟨⟨s, (g1.setStore g3 st ch).mono fun _ _ _ _ _ e => e.elim⟩, lt, ⟨so.ok, handles_swap h0 (cr.ok h.ok.store) so⟩, ?_, trivial, ?_, h.next, ?_, h.chg.lower (ChgX.of_chg hc NoB) (fun _ e => e.elim)⟩, rfl, rfl, hc, d0, cr, .inr ⟨rfl, so⟩⟩
  ·
   show d'.vars.length = n
   rw [so.vars, swapD_len, cr.vars]; exact h.vars
  ·
   show d'.pool.room = room
   rw [so.room, cr.room]; exact h.room
  ·
   show m.hs.map (fun p => (p.1, ef V' p.2)) = fs
   rw [hs_ext (d := d0) h0.ok so.val]; exact h.hs
end
open Go.RowKit
theorem storeSwap_bad {o : Own} {w : World} {sb : Nat} {d : StoreD} (st : StoreAt o w sb d) (hs : d.vars.length <= 64) (z : Int) (hz : z < 0 \/ (d.vars.length : Int) - 1 <= z) :
 Calls Tryz.prog 100 #[.pointer (some ⟨sb, 0, none⟩), .int .i64 z] w fun x w' => x = .returned (.int .i64 2) /\ w' = w := by
 obtain ⟨s0, h0⟩ := id st;obtain ⟨c0, c1, c2, c3, c4, f0⟩ := cells5 h0.blk;obtain ⟨l0, l1, _⟩ := cells2 h0.lev;obtain ⟨av, cv, hvv⟩ : ∃ a c, s0.vv = .slice a d.vars.length c := by
  rcases h0.vars with ⟨_, h1 | ⟨g, cap, c, hv, _⟩⟩
  ·
   exact ⟨_, _, by rw [h1.1, h1.2]⟩
  ·
   exact ⟨_, _, hv⟩
 rw [hvv] at l0;clear st h0 hvv c1 c2 c3 c4 f0 l1
 by_cases hn : z < 0
 ·
  clear l0 c0
  go_enter Tryz.func100, Tryz.ntmps100
  go_wp2_with fail;go_ret;exact ⟨rfl, rfl⟩
 ·
  have h1 : z >= (d.vars.length : Int) - 1 := by omega
  clear hz
  go_enter Tryz.func100, Tryz.ntmps100
  go_wp2_with fail;go_ret;exact ⟨rfl, rfl⟩
section
variable {K : Law} {n : Nat} {Od : List Nat -> Prop} {room : Nat} {w0 w w' : World} {mb : Nat} {fs : List (Int × BF)} {nx : Int} {o o' : Own} {m : ManD} {V : Nat -> BF}
theorem manSwap_of (h : SatE K n Od room w0 mb fs nx w o m V) (z : Int) (P : Ending -> World -> Prop)
 (hsw : ∀ s w1, ManIn (K m.d V) o w mb m s -> ManIn (fun _ _ _ _ _ => False) o w1 mb m s -> Chg (· = .entries) o o w w1 -> OwnLt o w1 -> Calls Tryz.prog 100 #[.pointer (some ⟨s.sb, 0, none⟩), .int .i64 z] w1 fun x w' => ∃ q : Int, x = .returned (.int .i64 q) /\ P x w') :
 Calls Tryz.prog 45 #[.pointer (some ⟨mb, 0, none⟩), .int .i64 z] w P := by
 obtain ⟨s, hs⟩ := h.is;obtain ⟨c0, c1, c2, c3, c4, c5, f0⟩ := cells6 hs.blk;have HC := Lib.hid (fun w1 => hsw s w1 hs);have HCL := Lib.hid (wclear h hs (fun _ _ _ _ _ => False));clear h hs hsw
 go_enter Tryz.func45, Tryz.ntmps45
 go_wp2_with fail;refine HCL.out.mono ?_;rintro x w1 ⟨rfl, g1, g2, g3⟩;obtain ⟨d0, d1, d2, d3, d4, d5, f1⟩ := cells6 g1.blk;have HC1 := Lib.hid (HC.out w1 g1 g2 g3);clear g1 g2 g3 c0 c1 c2 c3 c4 c5 f0 HCL HC;go_wp2_with fail;refine HC1.out.mono ?_;rintro x w2 ⟨q, rfl, hq⟩;have HQ := Lib.hid hq;clear hq;go_wp2_with fail;exact HQ.out
theorem manSwap_any (h : SatE K n Od room w0 mb fs nx w o m V) {k : Nat} (hk1 : k + 1 < n) (hn : nx <= 549755813888) :
 Calls Tryz.prog 45 #[.pointer (some ⟨mb, 0, none⟩), .int .i64 k] w fun e w' => ∃ o' m' V', SwapM K n room w0 mb fs nx k o w m V e o' w' m' V' :=
 manSwap_of h k _ fun s w1 _ g1 g2 g3 => (satSwap h g1 g2 g3 hk1 hn).mono fun e w' ⟨o', m', V', hs⟩ => by
  obtain ⟨d0, cr, hw⟩ := hs.way;rcases hw with ⟨e1, _⟩ | ⟨e1, _⟩
  ·
   exact ⟨7, e1, o', m', V', hs⟩
  ·
   exact ⟨0, e1, o', m', V', hs⟩
end
open Go.RowKit
theorem sumTo_add (f g : Nat -> Int) : ∀ k, sumTo k (fun i => f i + g i) = sumTo k f + sumTo k g
 | 0 => by simp [sumTo]
 | k + 1 => by simp only [sumTo]; rw [sumTo_add f g k]; omega
theorem sumTo_mono {f g : Nat -> Int} : ∀ k, (∀ i, i < k -> f i <= g i) -> sumTo k f <= sumTo k g
 | 0, _ => by simp [sumTo]
 | k + 1, h => by
   have h1 := sumTo_mono k (fun i hi => h i (by omega));have h2 := h k (by omega);simp only [sumTo]; omega
theorem sumTo_mul (c : Int) (f : Nat -> Int) : ∀ k, c * sumTo k f = sumTo k (fun i => c * f i)
 | 0 => by simp [sumTo]
 | k + 1 => by simp only [sumTo]; rw [Int.mul_add, sumTo_mul c f k]
theorem sumTo_swap (f : Nat -> Nat -> Int) (m : Nat) : ∀ k, sumTo k (fun i => sumTo m (fun j => f i j)) = sumTo m (fun j => sumTo k (fun i => f i j))
 | 0 => by simp only [sumTo]; rw [sumTo_zero]
 | k + 1 => by
   simp only [sumTo];rw [sumTo_swap f m k, <- sumTo_add]
theorem sumTo_toE {g : Nat -> Int} (hg : ∀ i, 0 <= g i) (e k : Nat) : sumTo k (fun i => g i * toE e i) <= g (e / 2) := by
 by_cases hk : e / 2 < k
 ·
  have h1 := sumTo_upd (f := fun _ => 0) (g := fun i => g i * toE e i) (j := e / 2) (fun i hi => by
   have : toE e i = 0 := by unfold toE; rw [if_neg (Ne.symm hi)]
   simp [this]) k hk
  rw [h1, sumTo_zero];have : toE e (e / 2) = 1 := toE_hit e;simp [this]
 ·
  rw [sumTo_congr (g := fun _ => 0) k (fun i hi => by
   have : toE e i = 0 := by unfold toE; rw [if_neg (by omega)]
   simp [this]), sumTo_zero]
  exact hg _
def gW (d : StoreD) (i : Nat) : Int := match nodesOf d i with
 | some b => ((2 ^ (d.vars.length - levN d b.v) : Nat) : Int) - 1
 | none => 0
theorem gW_nonneg (d : StoreD) (i : Nat) : 0 <= gW d i := by
 unfold gW;split
 ·
  have : 0 < 2 ^ (d.vars.length - levN d (by assumption : BN).v) := Nat.pow_pos (by decide);omega
 ·
  omega
theorem gW_le (d : StoreD) (i l : Nat) (h : ∀ b, nodesOf d i = some b -> l <= levN d b.v) : gW d i <= ((2 ^ (d.vars.length - l) : Nat) : Int) - 1 := by
 unfold gW;split
 ·
  rename_i b hb
  have h1 := h b hb;have : 2 ^ (d.vars.length - levN d b.v) <= 2 ^ (d.vars.length - l) := Nat.pow_le_pow_right (by decide) (by omega);omega
 ·
  have : 0 < 2 ^ (d.vars.length - l) := Nat.pow_pos (by decide);omega
theorem gW_edges {d : StoreD} {V : Nat -> BF} (hk : StoreOK d V) {j : Nat} {b : BN} (hb : nodesOf d j = some b) : gW d (b.lo / 2) + gW d (b.hi / 2) <= gW d j - 1 := by
 have hl := hk.dag.lt _ (hk.dag.var _ _ hb);have key : ∀ e, levN d b.v < lvE d.vars.length (levN d) (nodesOf d) e -> gW d (e / 2) <= ((2 ^ (d.vars.length - (levN d b.v + 1)) : Nat) : Int) - 1 := fun e he => gW_le d _ _ (fun c hc => by rw [lvE_of hc] at he; omega)
 have h1 := key _ (hk.dag.lvLo _ _ hb);have h2 := key _ (hk.dag.lvHi _ _ hb);have h3 : gW d j = ((2 ^ (d.vars.length - levN d b.v) : Nat) : Int) - 1 := by unfold gW; rw [hb]
 have h4 : d.vars.length - levN d b.v = (d.vars.length - (levN d b.v + 1)) + 1 := by omega
 rw [h3, h4, Nat.pow_succ];omega
theorem many_ext {d : StoreD} {V : Nat -> BF} (hk : StoreOK d V) (h0 : d.dead = 0) (hc : (d.pool.many : Int) = sumTo d.pool.at_.length (fun i => if d.pool.tk i = true then 1 else 0)) :
 (d.pool.many : Int) <= sumTo d.pool.at_.length (fun i => gW d i * extOf d i) := by
 obtain ⟨k, hkk⟩ : ∃ k, k = d.pool.at_.length := ⟨_, rfl⟩;rw [<- hkk] at hc ⊢;have e1 : sumTo k (fun i => gW d i * (cntOf d i : Int)) = sumTo k (fun i => gW d i * extOf d i) + sumTo k (fun i => gW d i * sumTo k (from1 (nodesOf d) (cntOf d) i)) := by
  rw [<- sumTo_add];refine sumTo_congr k fun i _ => ?_
  cases hb : nodesOf d i with
  | none => simp [gW, hb]
  | some b => rw [hk.live.cnt.eq i b hb, Int.mul_add, hkk]
 have e2 : sumTo k (fun i => gW d i * sumTo k (from1 (nodesOf d) (cntOf d) i)) = sumTo k (fun j => sumTo k (fun i => gW d i * from1 (nodesOf d) (cntOf d) i j)) := by
  rw [<- sumTo_swap];exact sumTo_congr k fun i _ => sumTo_mul _ _ _
 have e3 : sumTo k (fun j => sumTo k (fun i => gW d i * from1 (nodesOf d) (cntOf d) i j)) <= sumTo k (fun j => gW d j + -(if d.pool.tk j = true then 1 else 0)) := by
  refine sumTo_mono k fun j _ => ?_
  cases hb : nodesOf d j with
  | none =>
    have ht : d.pool.tk j = false := nodesOf_none hb;rw [sumTo_congr (g := fun _ => 0) k (fun i _ => by simp [from1, hb]), sumTo_zero];simp [gW, hb, ht]
  | some b =>
    have ht : d.pool.tk j = true := (nodesOf_some hb).1;have hp := live_pos hk.live h0 hb
    rw [sumTo_congr (g := fun i => gW d i * toE b.lo i + gW d i * toE b.hi i) k (fun i _ => by
     simp only [from1, hb, if_pos hp, edgesOf]; rw [Int.mul_add]), sumTo_add, ht, if_pos rfl]
    have h1 := sumTo_toE (gW_nonneg d) b.lo k;have h2 := sumTo_toE (gW_nonneg d) b.hi k;have h3 := gW_edges hk hb;omega
 have e4 : sumTo k (fun i => gW d i) <= sumTo k (fun i => gW d i * (cntOf d i : Int)) := by
  refine sumTo_mono k fun i _ => ?_
  cases hb : nodesOf d i with
  | none => simp [gW, hb]
  | some b =>
    have hp := live_pos hk.live h0 hb;have hg := gW_nonneg d i;have h1 : (1 : Int) <= (cntOf d i : Int) := by omega
    have h2 := Int.mul_le_mul_of_nonneg_left h1 hg;omega
 have e5 : sumTo k (fun j => gW d j + -(if d.pool.tk j = true then 1 else 0)) = sumTo k (fun j => gW d j) + sumTo k (fun j => -(if d.pool.tk j = true then 1 else 0)) := sumTo_add _ _ _;have e6 : sumTo k (fun j => -(if d.pool.tk j = true then (1 : Int) else 0)) = -sumTo k (fun j => if d.pool.tk j = true then 1 else 0) := by
  have := sumTo_mul (-1) (fun j => if d.pool.tk j = true then (1 : Int) else 0) k;rw [sumTo_congr (g := fun i => -1 * if d.pool.tk i = true then (1 : Int) else 0) k (fun i _ => by omega), <- this]; omega
 omega
theorem refs_sum (d : StoreD) (k : Nat) : ∀ hs : List (Int × Nat), sumTo k (fun i => gW d i * (refsOf hs i : Int)) <= hs.length * ((2 ^ d.vars.length : Nat) : Int)
 | [] => by
   rw [sumTo_congr (g := fun _ => 0) k (fun i _ => by simp [refsOf]), sumTo_zero];simp
 | p :: l => by
   have ih := refs_sum d k l;have h1 : sumTo k (fun i => gW d i * (refsOf (p :: l) i : Int)) <= sumTo k (fun i => gW d i * (refsOf l i : Int) + gW d i * toE p.2 i) := by
    refine sumTo_mono k fun i _ => ?_
    rw [<- Int.mul_add];refine Int.mul_le_mul_of_nonneg_left ?_ (gW_nonneg d i);unfold refsOf toE
    by_cases e : p.2 / 2 = i
    ·
     rw [if_pos e];have : (List.filter (fun p => decide (1 < p.1) && p.2 / 2 == i) (p :: l)).length <= (List.filter (fun p => decide (1 < p.1) && p.2 / 2 == i) l).length + 1 := by
      rw [List.filter_cons]; split <;> simp
     omega
    ·
     rw [if_neg e, List.filter_cons_of_neg (by simp [e])]; omega
   have h2 := sumTo_toE (gW_nonneg d) p.2 k;have h3 := gW_le d (p.2 / 2) 0 (fun _ _ => Nat.zero_le _);rw [sumTo_add] at h1;rw [List.length_cons, Int.natCast_add, Int.add_mul];simp only [Nat.sub_zero] at h3;have h4 : ((1 : Nat) : Int) * ((2 ^ d.vars.length : Nat) : Int) = ((2 ^ d.vars.length : Nat) : Int) := by simp
   omega
section
variable {K : Law} {n : Nat} {Od : List Nat -> Prop} {room : Nat} {w0 w w' : World} {mb : Nat} {fs : List (Int × BF)} {nx : Int} {o o' : Own} {m m' : ManD} {V V' : Nat -> BF}
theorem SatE.few (h : SatE K n Od room w0 mb fs nx w o m V) (h0 : m.d.dead = 0) : m.d.pool.many <= fs.length * 2 ^ n := by
 obtain ⟨s, hs⟩ := h.is;obtain ⟨s2, h2⟩ := hs.store;have h1 := many_ext h.ok.store h0 h2.pool.cnt;have h3 := refs_sum m.d m.d.pool.at_.length m.hs;have h4 : sumTo m.d.pool.at_.length (fun i => gW m.d i * extOf m.d i) = sumTo m.d.pool.at_.length (fun i => gW m.d i * (refsOf m.hs i : Int)) := by
  refine sumTo_congr _ fun i _ => ?_
  cases hb : nodesOf m.d i with
  | none => simp [gW, hb]
  | some b => rw [h.ok.handles.refs i b hb]
 have h5 : fs.length = m.hs.length := by rw [<- h.hs, List.length_map]
 rw [h5, <- h.vars];have h6 : ((m.hs.length * 2 ^ m.d.vars.length : Nat) : Int) = m.hs.length * ((2 ^ m.d.vars.length : Nat) : Int) := by rw [Int.natCast_mul]
 omega
end
open Go.RowKit
theorem bubTo_eq (zs : List Int) (x : Int) (i : Nat) : bubTo zs x i = bub zs i (placeZ zs x - i).toNat := rfl
theorem bub_succ2 (zs : List Int) (i d : Nat) : (bub zs i (d + 1)).2 = ((i + d : Nat) : Int) :: (bub (swapZ zs ((i + d : Nat) : Int)) i d).2 := rfl
def RefStepsPost (a b : List Int) (w : World) (e : Ending) (w' : World) : Prop :=
 ∃ v, e = .returned (.tuple #[v, .int .i64 (stepsErr a b)]) /\ OwnI w' w.heap.size v (stepsOf a b) /\ Below w.heap.size w w'
theorem steps_close {a b r : List Int} {w w' : World} {v : Value} {E : Int} (hE : stepsErr a b = E) (hr : stepsOf a b = r) (hs : OwnI w' w.heap.size v r) (hb : Below w.heap.size w w') :
 RefStepsPost a b w (.returned (.tuple #[v, .int .i64 E])) w' := ⟨v, by rw [hE], by rw [hr]; exact hs, hb⟩
def metB (zs : List Int) (k : Nat) (v : Int) : Bool := decide (∃ j, j < k /\ at0 zs j = v)
theorem metB_zero (zs : List Int) (v : Int) : metB zs 0 v = false := by simp [metB]
theorem metB_succ_eq (zs : List Int) (k : Nat) : metB zs (k + 1) (at0 zs k) = true := by simp only [metB, decide_eq_true_eq]; exact ⟨k, by omega, rfl⟩
theorem metB_succ_ne (zs : List Int) (k : Nat) (v : Int) (h : at0 zs k ≠ v) : metB zs (k + 1) v = metB zs k v := by
 simp only [metB, decide_eq_decide];constructor
 ·
  rintro ⟨j, hj, he⟩;refine ⟨j, ?_, he⟩
  by_cases e : j = k
  ·
   subst e; exact (h he).elim
  ·
   omega
 ·
  rintro ⟨j, hj, he⟩; exact ⟨j, by omega, he⟩
theorem metB_true {zs : List Int} {k : Nat} {v : Int} (h : metB zs k v = true) : ∃ j, j < k /\ at0 zs j = v := by simpa [metB] using h
theorem metB_false {zs : List Int} {k : Nat} {v : Int} (h : metB zs k v = false) : ∀ j, j < k -> at0 zs j ≠ v := by
 intro j hj he;have : metB zs k v = true := by simp only [metB, decide_eq_true_eq]; exact ⟨j, hj, he⟩
 rw [h] at this; cases this
def Marks (w : World) (g : Nat) (zs : List Int) (k base : Nat) : Prop :=
 ∃ cur, w.heap[g]? = some (.cells cur 214 (0, 0)) /\ cur.size = 64 /\ ∀ u, u < 64 -> cur[u]? = some (.bool (metB zs k ((base + u : Nat) : Int)))
theorem Marks.cell {w : World} {g : Nat} {zs : List Int} {k base : Nat} (h : Marks w g zs k base) (u : Nat) (hu : u < 64) : w.cell? ⟨g, u, none⟩ = some (.bool (metB zs k ((base + u : Nat) : Int))) := by
 obtain ⟨cur, h1, h2, h3⟩ := h;simp only [World.cell?, h1]; exact h3 u hu
theorem Marks.frozen {w : World} {g : Nat} {zs : List Int} {k base : Nat} (h : Marks w g zs k base) (u : Nat) : w.frozen? ⟨g, u, none⟩ = false := by
 obtain ⟨cur, h1, h2, h3⟩ := h;simp [World.frozen?, h1]
theorem Marks.step_out {w : World} {g : Nat} {zs : List Int} {k base : Nat} (h : Marks w g zs k base) (hx : ¬ ((base : Int) <= at0 zs k /\ at0 zs k < base + 64)) : Marks w g zs (k + 1) base := by
 obtain ⟨cur, h1, h2, h3⟩ := h;exact ⟨cur, h1, h2, fun u hu => by rw [metB_succ_ne _ _ _ (by omega)]; exact h3 u hu⟩
theorem Marks.step_in {w : World} {g : Nat} {zs : List Int} {k base u : Nat} (h : Marks w g zs k base) (hx : at0 zs k = ((base + u : Nat) : Int)) (hu : u < 64) :
 Marks (w.setCell ⟨g, u, none⟩ (.bool true)) g zs (k + 1) base := by
 obtain ⟨cur, h1, h2, h3⟩ := h;refine ⟨cur.setIfInBounds u (.bool true), ?_, by simpa using h2, fun v hv => ?_⟩
 ·
  simp [World.setCell, Array.getElem?_modify, h1]
 ·
  by_cases e : v = u
  ·
   subst e;rw [Array.getElem?_setIfInBounds_self_of_lt (by omega), <- hx, metB_succ_eq]
  ·
   rw [Array.getElem?_setIfInBounds_ne (by omega), metB_succ_ne _ _ _ (by omega)]; exact h3 v hv
theorem marks_new (w : World) (zs : List Int) (base : Nat) (cs : List Value) (hcs : cs = List.replicate 64 (.bool false)) : Marks (w.alloc (.cells cs.toArray 214)) w.heap.size zs 0 base :=
 ⟨_, heap_alloc_new w _, by simp [hcs], fun u hu => by rw [metB_zero, List.getElem?_toArray, hcs, List.getElem?_replicate, if_pos hu]⟩
def RightTo (zs : List Int) (B : Nat) : Prop :=
 1 <= B -> (∀ j, j < zs.length -> 0 <= at0 zs j /\ at0 zs j < zs.length) /\ ∀ i, i < zs.length -> ∀ l, l < i -> at0 zs l = at0 zs i -> (B : Int) <= at0 zs i
def RightIn (zs : List Int) (B k : Nat) : Prop :=
 (∀ j, j < k -> 0 <= at0 zs j /\ at0 zs j < zs.length) /\ (∀ i, i < k -> ∀ l, l < i -> at0 zs l = at0 zs i -> ¬ ((B : Int) <= at0 zs i /\ at0 zs i < (B : Int) + 64))
theorem rightTo_zero (zs : List Int) : RightTo zs 0 := fun h => by omega
theorem rightIn_zero (zs : List Int) (B : Nat) : RightIn zs B 0 := ⟨by omega, by omega⟩
theorem rightIn_step {zs : List Int} {B k : Nat} (h : RightIn zs B k) (h1 : 0 <= at0 zs k) (h2 : at0 zs k < zs.length)
 (h3 : ¬ ((B : Int) <= at0 zs k /\ at0 zs k < (B : Int) + 64) \/ metB zs k (at0 zs k) = false) : RightIn zs B (k + 1) := by
 refine ⟨fun j hj => ?_, fun i hi l hl he => ?_⟩
 ·
  by_cases e : j = k
  ·
   subst e; exact ⟨h1, h2⟩
  ·
   exact h.1 j (by omega)
 ·
  by_cases e : i = k
  ·
   subst e;rcases h3 with h3 | h3
   ·
    exact h3
   ·
    exact (metB_false h3 l hl he).elim
  ·
   exact h.2 i (by omega) l hl he
theorem rightTo_step {zs : List Int} {B : Nat} (h : RightTo zs B) (hi : RightIn zs B zs.length) : RightTo zs (B + 64) := by
 refine fun _ => ⟨hi.1, fun i hlt l hl he => ?_⟩
 have h2 := hi.2 i hlt l hl he;have h3 := (hi.1 i hlt).1
 by_cases hB : 1 <= B
 ·
  have := (h hB).2 i hlt l hl he;omega
 ·
  omega
theorem rightB_of_to {zs : List Int} {B : Nat} (h : RightTo zs B) (hB : zs.length <= B) : rightB zs = true := by
 rw [rightB_iff]
 by_cases h0 : 1 <= B
 ·
  obtain ⟨h1, h2⟩ := h h0;exact ⟨h1, fun i hi k hk he => by have := h2 i hi k hk he; have := (h1 i hi).2; omega⟩
 ·
  exact ⟨by omega, by omega⟩
theorem rightB_of_range {zs : List Int} {k : Nat} (hk : k < zs.length) (h : ¬ (0 <= at0 zs k /\ at0 zs k < zs.length)) : rightB zs = false := rightB_false fun hh => h (hh.1 k hk)
theorem rightB_of_met {zs : List Int} {k : Nat} (hk : k < zs.length) (h : metB zs k (at0 zs k) = true) : rightB zs = false := by
 obtain ⟨j, hj, he⟩ := metB_true h;exact rightB_false fun hh => hh.2 k hk j hj he
theorem permRight_any (a : Option Addr) (c : Nat) (zs : List Int) (w : World) (h : IntsAt w a zs) (hlen : zs.length < 1000000) :
 Calls Tryz.prog 159 #[.slice a zs.length c] w fun e w' => e = .returned (.bool (rightB zs)) /\ Below w.heap.size w w' := by
 obtain ⟨hl, hc⟩ := h;have HC1 : Hid (∀ k, k < zs.length -> ∃ b off, a = some ⟨b, off, none⟩ /\ b < w.heap.size /\ w.cell? ⟨b, off + k, none⟩ = some (.int .i64 (at0 zs k))) := fun k hk => by
  obtain ⟨b, off, h1, h2⟩ := hc k hk;exact ⟨b, off, h1, lt_of_cell h2, h2⟩
 clear hc
 go_enter Tryz.func159, Tryz.ntmps159
 go_wp2
 go_loopw [3] (fun s3 wr => ∃ B : Nat, s3 = .int .i64 B /\ B <= zs.length + 63 /\ RightTo zs B /\ Below w.heap.size w wr /\ w.heap.size <= wr.heap.size) (fun i _ => zs.length + 64 - (intOf i).toNat)
 case atStart => exact ⟨0, rfl, by omega, rightTo_zero zs, Below.refl _ _, Nat.le_refl _⟩
 case round =>
  obtain ⟨B, rfl, hB, hrel, hbel, hsz⟩ := hrel;have HR := Lib.hid hrel;clear hrel
  by_cases hlt : B < zs.length
  ·
   go_wp2
   obtain ⟨wo, rfl⟩ : ∃ wo : World, wo = wr := ⟨_, rfl⟩
   go_loopw [16] (fun i wi => ∃ k : Nat, k <= zs.length /\ i = .int .i64 k /\ RightIn zs B k /\ Marks wi wo.heap.size zs k B /\ Below w.heap.size w wi /\ w.heap.size <= wi.heap.size) (fun i _ => zs.length - (intOf i).toNat)
   case atStart => exact ⟨0, by omega, rfl, rightIn_zero zs B, marks_new _ _ _ _ rfl, hbel.alloc hsz _, by simp; omega⟩
   case round =>
    obtain ⟨k, hk, rfl, hr1, hm, hbel2, hsz2⟩ := hrel;have HR1 := Lib.hid hr1;have HM := Lib.hid hm;clear hr1 hm
    by_cases hkn : k < zs.length
    ·
     obtain ⟨b, off, rfl, hbw, hcw⟩ := HC1.out k hkn;have hcell := (hbel2.cell (p := ⟨b, off + k, none⟩) hbw).trans hcw;clear hcw
     by_cases hx : 0 <= at0 zs k /\ at0 zs k < zs.length
     ·
      obtain ⟨hx1, hx2⟩ := hx
      by_cases hwin : (B : Int) <= at0 zs k /\ at0 zs k < (B : Int) + 64
      ·
       obtain ⟨hwin1, hwin2⟩ := hwin;have hu64 : ((at0 zs k).toNat - B) < 64 := by omega
       have hu0 : at0 zs k = ((B + ((at0 zs k).toNat - B) : Nat) : Int) := by omega
       have hcm := HM.out.cell _ hu64;have hfm := HM.out.frozen ((at0 zs k).toNat - B);rw [<- hu0] at hcm;have HU := Lib.hid hu0
       generalize hmb : metB zs k (at0 zs k) = mb at hcm
       have HMB := Lib.hid hmb;clear hmb hu0;cases mb
       ·
        go_wp2
        go_roundw
        case rel => exact ⟨k + 1, by omega, by go_num, rightIn_step HR1.out hx1 hx2 (.inr HMB.out), HM.out.step_in HU.out hu64, hbel2.setCell hsz _, by simp; omega⟩
        case measure => simp [intOf]; omega
       ·
        go_wp2
        go_ret;exact ⟨ret_bool (rightB_of_met hkn HMB.out).symm, hbel2⟩
      ·
       have HW := Lib.hid hwin
       by_cases hlo : at0 zs k < (B : Int)
       ·
        clear hwin
        go_wp2
        go_roundw
        case rel => exact ⟨k + 1, by omega, by go_num, rightIn_step HR1.out hx1 hx2 (.inl HW.out), HM.out.step_out HW.out, hbel2, hsz2⟩
        case measure => simp [intOf]; omega
       ·
        have hhi : (B : Int) + 64 <= at0 zs k := by omega
        clear hwin
        go_wp2
        go_roundw
        case rel => exact ⟨k + 1, by omega, by go_num, rightIn_step HR1.out hx1 hx2 (.inl HW.out), HM.out.step_out HW.out, hbel2, hsz2⟩
        case measure => simp [intOf]; omega
     ·
      have HX := Lib.hid hx
      by_cases hneg : at0 zs k < 0
      ·
       clear hx
       go_wp2
       go_ret;exact ⟨ret_bool (rightB_of_range hkn HX.out).symm, hbel2⟩
      ·
       have hge : (zs.length : Int) <= at0 zs k := by omega
       clear hx
       go_wp2
       go_ret;exact ⟨ret_bool (rightB_of_range hkn HX.out).symm, hbel2⟩
    ·
     obtain rfl : k = zs.length := by omega
     go_wp2
     go_roundw
     case rel => exact ⟨B + 64, by go_num, by omega, rightTo_step HR.out HR1.out, hbel2, hsz2⟩
     case measure => simp [intOf]; omega
  ·
   go_wp2
   go_ret;exact ⟨ret_bool (rightB_of_to HR.out (by omega)).symm, hbel⟩
theorem wpList_copyFull {ops : Array Oper} {rest : List Oper} {o : Oper} {a : Act} {Q : Exit -> Act -> World -> Prop} {wr : World} (hgd : o.guard = none) (d s : Operand)
 (ho : o.op = .call { callee := .builtin .copy, args := #[d, s], argTypes := #[22, 22] })
 (base g : Nat) (w0 : World) (zs : List Int) (xs : List Value) (ao : Option Addr) (c : Nat) (hd : a.eval d = .slice (some ⟨g, 0, none⟩) zs.length zs.length) (hs : a.eval s = .slice ao zs.length c)
 (hown : wr.ownsRow base 3 1 (.slice (some ⟨g, 0, none⟩) zs.length zs.length) zs.length xs) (hzs : IntsAt wr ao zs) (hb : Below base w0 wr)
 (h : ∀ v' w', OwnI w' base (.slice (some ⟨g, 0, none⟩) zs.length zs.length) zs -> Below base w0 w' -> base <= w'.heap.size -> wpList Tryz.prog ops Q rest (a.put o.dst v') w') :
 wpList Tryz.prog ops Q (o :: rest) a wr := by
 obtain ⟨hxl, hx⟩ := hown;rcases hx with ⟨hv, _⟩ | ⟨g', cap, cur, hv, hbg, hg, hnc, hcm, hcs, htake⟩
 ·
  cases hv
 ·
  simp only [Value.slice.injEq, Option.some.injEq, Addr.mk.injEq, and_true, true_and] at hv;obtain ⟨rfl, rfl⟩ := hv;refine wpList_copy_splice (w := wr) hgd d s 22 22 ho 3 Tryz.underlying22 (by obtain ⟨i, hi, _, hsz, _⟩ := info_parts infoInt; rw [hi]; simp [hsz])
   _ _ _ _ _ _ hd hs g 0 cur.toList 3 (by simpa using hg) (intsV zs) (by simp [intsV]) ?_ (by simp [intsV, hcs]) (ints_oneCell .i64 zs) base w0 hb hbg ?_
  ·
   intro hp;rw [intsV_length] at hp;obtain ⟨b, off, rfl, _⟩ := hzs.cells 0 hp;refine ⟨rfl, _, rfl, fun j v hj => ?_⟩;have hlt : j < zs.length := by
    rcases Nat.lt_or_ge j zs.length with h' | h'
    ·
     exact h'
    ·
     simp [intsV, List.getElem?_eq_none h'] at hj
   obtain ⟨b', off', hab, hc⟩ := hzs.cells j hlt;cases hab;simp [intsV, getElem?_at0 hlt] at hj;subst hj;have hadd : (⟨b, off, none⟩ : Addr).add j = ⟨b, off + j, none⟩ := by unfold Addr.add; split <;> simp_all
   rw [hadd]; exact hc
  ·
   intro w' hh hb';refine h _ w' ⟨by simp [intsV], .inr ⟨g, _, (intsV zs).toArray, rfl, hbg, ?_, Nat.le_refl _, hcm, by simp [intsV], by simp [intsV, List.take_of_length_le]⟩⟩ hb' ?_
   ·
    have := hh.out;rw [this];have hl : cur.toList.length = zs.length := by simp [hcs]
    simp [splice, intsV, List.drop_eq_nil_of_le, hl]
   ·
    have h1 := hh.out;have := (Array.getElem?_eq_some_iff.1 h1).1;omega
theorem clone_any (a : Option Addr) (c : Nat) (zs : List Int) (w : World) (h : IntsAt w a zs) (hlen : zs.length < 1000000) :
 Calls Tryz.prog 160 #[.slice a zs.length c] w fun e w' => ∃ g, e = .returned (.slice (some ⟨g, 0, none⟩) zs.length zs.length) /\ OwnI w' w.heap.size (.slice (some ⟨g, 0, none⟩) zs.length zs.length) zs /\ Below w.heap.size w w' := by
 obtain ⟨i, hi, hz, hsz, hby⟩ := info_parts infoInt;have HI := Lib.hid h;clear h
 go_enter Tryz.func160, Tryz.ntmps160
 go_wp2_with (first
  | (at_make; refine wpList_make_full _ rfl _ _ 22 rfl w.heap.size 3 i (.int .i64 0) 1 Tryz.underlying22 hi hz hsz .i64 .i64 _ _ zs.length rfl rfl rfl rfl (by rw [hby]; omega) (by unfold maxLen; omega) (Nat.le_refl _) ?_; intro w1 hown1 hg1)
  | (with_reducible refine wpList_copyFull rfl (.tmp 7) (.tmp 8) rfl w.heap.size w.heap.size w zs _ a c rfl rfl (by exact hown1) (HI.out.keep (keepBut_of_grown0 hg1) (by simp)) ((Below.refl _ _).grown hg1 (Nat.le_refl _) (by simp)) ?_; intro v2 w2 hown2 hb2 hs2))
 go_ret;exact ⟨_, rfl, hown2, hb2⟩
theorem index_any (a : Option Addr) (c : Nat) (zs : List Int) (x : Int) (w : World) (h : IntsAt w a zs) :
 Calls Tryz.prog 161 #[.slice a zs.length c, .int .i64 x] w fun e w' => e = .returned (.int .i64 (placeZ zs x)) /\ ∃ n, w' = w.drewN n := by
 obtain ⟨hl, hc⟩ := h;have HC := Lib.hid hc;clear hc
 go_enter Tryz.func161, Tryz.ntmps161
 go_wp2
 go_loop [8] (fun i => ∃ k : Nat, k <= zs.length /\ i = .int .i64 k /\ ∀ j, j < k -> at0 zs j ≠ x) (fun i => zs.length - (intOf i).toNat)
 case atStart => exact ⟨0, Nat.zero_le _, rfl, by omega⟩
 case round =>
  obtain ⟨k, hk, rfl, hrel⟩ := hrel;have HR := Lib.hid hrel;clear hrel
  by_cases hlt : k < zs.length
  ·
   obtain ⟨b, off, rfl, hcell⟩ := HC.out k hlt
   by_cases hx : at0 zs k = x
   ·
    have H1 : (x == at0 zs k) = true := by simpa using hx.symm
    have HX := Lib.hid hx;clear hx
    go_wp2
    go_ret;exact ⟨ret_i64 (placeZ_found hlt HX.out HR.out).symm, 0, rfl⟩
   ·
    have H1 : (x == at0 zs k) = false := by simpa using (fun e => hx e.symm)
    go_wp2
    go_round
    case rel => exact ⟨k + 1, by omega, by go_num, fun j hj => by
     by_cases e : j = k
     ·
      subst e; exact hx
     ·
      exact HR.out j (by omega)⟩
    case measure => simp [intOf]; omega
  ·
   go_wp2
   go_ret;exact ⟨ret_i64 (placeZ_none (fun j hj => HR.out j (by omega))).symm, 0, rfl⟩
theorem OwnI.len {w : World} {base n c : Nat} {a : Option Addr} {zs : List Int} (h : OwnI w base (.slice a n c) zs) : n = zs.length := by
 rcases h.2 with ⟨hv, h0⟩ | ⟨g, cap, cur, hv, _⟩
 ·
  simp only [Value.slice.injEq] at hv; omega
 ·
  simp only [Value.slice.injEq] at hv; omega
theorem OwnI.intsAt {w : World} {base n c : Nat} {a : Option Addr} {zs : List Int} (h : OwnI w base (.slice a n c) zs) (hl : zs.length <= 9223372036854775807) : IntsAt w a zs := by
 obtain rfl := h.len;exact intsAt_of_owns hl h
theorem index_at {a : Option Addr} {n c : Nat} {zs : List Int} {x : Int} {w : World} (hn : n = zs.length) (h : IntsAt w a zs) :
 Calls Tryz.prog 161 #[.slice a n c, .int .i64 x] w fun e w' => e = .returned (.int .i64 (placeZ zs x)) /\ ∃ n, w' = w.drewN n := by
 subst hn; exact index_any a c zs x w h
theorem permSteps_any (va vb : Value) (xs ys : List Int) (w : World) (h : SliceIs w va xs) (h' : SliceIs w vb ys) (hlen : xs.length <= 1000) (hlen' : ys.length <= 1000) :
 Calls Tryz.prog 151 #[va, vb] w (RefStepsPost xs ys w) := by
 obtain ⟨a, c, rfl, ha, hna⟩ := h;obtain ⟨b, c', rfl, hb, hnb⟩ := h';have HA := Lib.hid ha;have HB := Lib.hid hb;clear ha hb hna hnb
 by_cases hr : rightB xs = true
 ·
  by_cases hr' : rightB ys = true
  ·
   by_cases hl : xs.length = ys.length
   ·
    have HE : Hid (stepsErr xs ys = 0) := by unfold stepsErr; rw [if_pos ⟨hr, hr'⟩, if_pos hl]; rfl
    have HF : Hid (stepsOf xs ys = stepsZ xs ys 0) := by unfold stepsOf; rw [if_pos ⟨hr, hr', hl⟩]; rfl
    have HR := Lib.hid hr;have HR' := Lib.hid hr';have H3 : ((xs.length : Int) != ys.length) = false := by simp [hl]
    clear hr hr' hl
    go_enter Tryz.func151, Tryz.ntmps151
    go_wp2_with fail;refine (permRight_any _ _ xs _ HA.out (by omega)).mono ?_;rintro e w1 ⟨rfl, hb1⟩;rw [HR.out];go_wp2_with fail;refine (permRight_any _ _ ys _ (HB.out.below hb1) (by omega)).mono ?_;rintro e w2 ⟨rfl, hb2⟩;rw [HR'.out];have hb12 : Below w.heap.size w w2 := hb1.trans (hb2.mono hb1.size);go_wp2_with fail;refine (clone_any _ _ xs _ (HA.out.below hb12) (by omega)).mono ?_;rintro e w3 ⟨g, rfl, hown3, hb3⟩;have hs2 := hb12.size;have hg : w2.heap.size <= g := (hown3.lt g rfl).1;have hbel3 : Below w.heap.size w w3 := hb12.trans (hb3.mono hs2);have hs3 : w2.heap.size <= w3.heap.size := hb3.size;go_wp2_with fail
    go_loopw [6, 30] (fun s6 s30 wr => ∃ (k : Nat) (cur out : List Int), k <= ys.length /\ s30 = .int .i64 k /\ OwnI wr w2.heap.size (.slice (some ⟨g, 0, none⟩) xs.length xs.length) cur /\ cur.length = xs.length /\ OwnI wr w2.heap.size s6 out /\ s6.ownBlock ≠ some g /\ out.length <= k * 1000 /\ out ++ stepsZ cur (ys.drop k) k = stepsZ xs ys 0 /\ w2.heap.size <= wr.heap.size /\ Below w2.heap.size w2 wr) (fun _ s30 _ => ys.length - (intOf s30).toNat)
    case atStart => exact ⟨0, xs, [], by omega, rfl, hown3, rfl, ownI_nil _ _, by simp [Value.ownBlock], by simp, by simp, hs3, hb3⟩
    case round =>
     obtain ⟨k, cur, out, hk, rfl, hcur, hcl, hown, hne, hol, hst, hsz, hbel⟩ := hrel;have HST := Lib.hid hst;have HCL := Lib.hid hcl;have HNE := Lib.hid hne;have hcl1 : cur.length <= 1000 := by omega
     clear hst hcl hne;have HB1 := Lib.hid (HB.out.below (hb12.trans (hbel.mono hs2)))
     by_cases hlt : k < ys.length
     ·
      obtain ⟨bb, off, rfl, hcell⟩ := HB1.out.cells k hlt;have HDR := Lib.hid (stepsZ_drop cur ys k hlt);have HCI := Lib.hid (hcur.intsAt (by omega));go_wp2_with fail;refine (index_at HCL.out.symm (HCI.out.drewN 0)).mono ?_;rintro e w' ⟨rfl, n, rfl⟩;have hp1 := placeZ_lo cur (at0 ys k);have hp2 := placeZ_lt cur (at0 ys k);have HBT := Lib.hid (bubTo_eq cur (at0 ys k) k)
      generalize placeZ cur (at0 ys k) = p at hp1 hp2 HBT ⊢
      go_wp2_with fail;have hpl : p < xs.length \/ p <= 0 := by have := HCL.out; omega
      obtain ⟨N, F, HN⟩ : ∃ (N F : List Int), Hid (N = (bub cur k (p - k).toNat).1 /\ F = out ++ (bub cur k (p - k).toNat).2) := ⟨_, _, rfl, rfl⟩
      go_loopw [6, 10] (fun s6 s10 wi => ∃ (d : Nat) (c1 o1 : List Int) (q : Int), s10 = .int .i64 q /\ -1 <= q /\ q <= 1000 /\ (q < xs.length \/ q <= 0) /\ (q <= k -> d = 0) /\ (k < q -> q = k + d) /\ OwnI wi w2.heap.size (.slice (some ⟨g, 0, none⟩) xs.length xs.length) c1 /\ c1.length = xs.length /\ OwnI wi w2.heap.size s6 o1 /\ s6.ownBlock ≠ some g /\ o1.length + d <= (k + 1) * 1000 /\ N = (bub c1 k d).1 /\ F = o1 ++ (bub c1 k d).2 /\ w2.heap.size <= wi.heap.size /\ Below w2.heap.size w2 wi) (fun _ s10 _ => (intOf s10 + 1).toNat)
      case atStart => exact ⟨(p - k).toNat, cur, out, p, rfl, hp1, by omega, hpl, by omega, by omega, hcur.drewN n, HCL.out, hown.drewN n, HNE.out, by omega, HN.out.1, HN.out.2, hsz, below_drewN hbel n⟩
      case round =>
       obtain ⟨d, c1, o1, q, rfl, hq1, hq2, hq3, hd1, hd2, hc1, hc1l, hown1, hne1, hol1, hN, hF, hsz1, hbel1⟩ := hrel;have HN1 := Lib.hid hN;have HF1 := Lib.hid hF;have HC1 := Lib.hid hc1l;have HNE1 := Lib.hid hne1;have hc1m : c1.length <= 1000 := by omega
       clear hN hF hc1l hne1
       by_cases hqk : (k : Int) < q
       ·
        obtain ⟨d, rfl⟩ : ∃ l, d = l + 1 := ⟨d - 1, by omega⟩;have hqe : q = (k : Int) + d + 1 := by omega
        subst hqe;have hkd : k + d + 1 < xs.length := by omega
        have hkd1 : k + d + 1 < c1.length := by rw [HC1.out]; exact hkd
        clear hd1 hd2 hq3;have hw1 : IntKind.i64.wrap ((k : Int) + d + 1 - 1) = ((k + d : Nat) : Int) := by rw [IntWalk.i64_in _ (by omega)]; omega
        have q0 := hc1.cell (k + d) (by omega);have q1 := hc1.cell (k + d + 1) (by omega);have p0 := hc1.frozen (k + d);have p1 := hc1.frozen (k + d + 1);have t0 : ((k : Int) + d).toNat = k + d := by omega
        have t1 : ((k : Int) + d + 1).toNat = k + d + 1 := by omega
        go_wp2_with fail
        go_region
        have HSW := Lib.hid (swapZ_in (zs := c1) (k := k + d) hkd1);have hc3 := ((hc1.stored (k + d) (at0 c1 (k + d + 1))).stored (k + d + 1) (at0 c1 (k + d))).drewN 1;have ho3 := ((hown1.setCell_other (a := ⟨g, k + d, none⟩) HNE1.out (.int .i64 (at0 c1 (k + d + 1)))).setCell_other (a := ⟨g, k + d + 1, none⟩) HNE1.out (.int .i64 (at0 c1 (k + d)))).drewN 1;have hb4 := below_drewN ((hbel1.setCell (p := ⟨g, k + d, none⟩) hg (.int .i64 (at0 c1 (k + d + 1)))).setCell (p := ⟨g, k + d + 1, none⟩) hg (.int .i64 (at0 c1 (k + d)))) 1;have hg1 := (hc1.lt g rfl).2;go_wp2_with (at_builtin; go_loud (refine wpList_app1 _ rfl _ _ rfl w2.heap.size w2 _ o1 _ rfl rfl (by rfl) (by simp) ho3 (by omega) (by simpa using hsz1) hb4 ?_); intro v2 w4 hown4 hbel4 hsz4 hkb4);have hc4 := hc3.keep hkb4.keep (fun x hx hxx => by cases hx; exact HNE1.out hxx.symm);rw [<- HSW.out] at hc4;have hne4 := hkb4.ne HNE1.out (by simpa using hg1);go_roundw
        case rel => exact ⟨d, swapZ c1 ((k + d : Nat) : Int), o1 ++ [((k + d : Nat) : Int)], ((k + d : Nat) : Int), by go_num, by omega, by omega, by omega, by omega, by omega, hc4, by rw [swapZ_length]; exact HC1.out, hown4, hne4, by simp; omega, HN1.out, by rw [HF1.out, bub_succ2]; simp, hsz4, hbel4⟩
        case measure => simp [intOf]; omega
       ·
        obtain rfl := hd1 (by omega);have HOW := Lib.hid hown1;have hN2 : N = c1 := HN1.out;have hF2 : F = o1 := by rw [HF1.out]; simp [bub]
        have HNN := Lib.hid hN2;have HFF := Lib.hid hF2;clear hN2 hF2 hd1 hd2 hown1
        go_wp2
        go_roundw
        case rel => exact ⟨k + 1, N, F, by omega, by go_num, by rw [HNN.out]; exact hc1, by rw [HNN.out]; exact HC1.out, by rw [HFF.out]; exact HOW.out, HNE1.out, by rw [HFF.out]; omega, by
         rw [HN.out.1, HN.out.2, <- HST.out, HDR.out, HBT.out]; simp, hsz1, hbel1⟩
        case measure => simp [intOf]; omega
     ·
      obtain rfl : k = ys.length := by omega
      have hfin : stepsZ xs ys 0 = out := by rw [<- HST.out]; simp [stepsZ]
      have HFIN := Lib.hid hfin;clear hfin
      go_wp2
      go_ret2
      exact steps_close HE.out (HF.out.trans HFIN.out) (hown.lower hs2) (hb12.trans (hbel.mono hs2))
   ·
    have HE : Hid (stepsErr xs ys = 3) := by unfold stepsErr; rw [if_pos ⟨hr, hr'⟩, if_neg hl]; rfl
    have HF : Hid (stepsOf xs ys = []) := by unfold stepsOf; rw [if_neg (fun hh => hl hh.2.2)]; rfl
    have HR := Lib.hid hr;have HR' := Lib.hid hr';have H3 : ((xs.length : Int) != ys.length) = true := by simp; omega
    clear hr hr' hl
    go_enter Tryz.func151, Tryz.ntmps151
    go_wp2_with fail;refine (permRight_any _ _ xs _ HA.out (by omega)).mono ?_;rintro e w1 ⟨rfl, hb1⟩;rw [HR.out];go_wp2_with fail;refine (permRight_any _ _ ys _ (HB.out.below hb1) (by omega)).mono ?_;rintro e w2 ⟨rfl, hb2⟩;rw [HR'.out];go_wp2_with fail
    go_ret2
    exact steps_close HE.out HF.out (ownI_nil _ _) (hb1.trans (hb2.mono hb1.size))
  ·
   have HE : Hid (stepsErr xs ys = 1) := by unfold stepsErr; rw [if_neg (fun hh => hr' hh.2)]; rfl
   have HF : Hid (stepsOf xs ys = []) := by unfold stepsOf; rw [if_neg (fun hh => hr' hh.2.1)]; rfl
   have hr'' : rightB ys = false := by simpa using hr'
   have HR := Lib.hid hr;have HR' := Lib.hid hr'';clear hr hr' hr''
   go_enter Tryz.func151, Tryz.ntmps151
   go_wp2_with fail;refine (permRight_any _ _ xs _ HA.out (by omega)).mono ?_;rintro e w1 ⟨rfl, hb1⟩;rw [HR.out];go_wp2_with fail;refine (permRight_any _ _ ys _ (HB.out.below hb1) (by omega)).mono ?_;rintro e w2 ⟨rfl, hb2⟩;rw [HR'.out];go_wp2_with fail
   go_ret2
   exact steps_close HE.out HF.out (ownI_nil _ _) (hb1.trans (hb2.mono hb1.size))
 ·
  have HE : Hid (stepsErr xs ys = 1) := by unfold stepsErr; rw [if_neg (fun hh => hr hh.1)]; rfl
  have HF : Hid (stepsOf xs ys = []) := by unfold stepsOf; rw [if_neg (fun hh => hr hh.1)]; rfl
  have hr'' : rightB xs = false := by simpa using hr
  have HR := Lib.hid hr'';clear hr hr''
  go_enter Tryz.func151, Tryz.ntmps151
  go_wp2_with fail;refine (permRight_any _ _ xs _ HA.out (by omega)).mono ?_;rintro e w1 ⟨rfl, hb1⟩;rw [HR.out];go_wp2_with fail
  go_ret2
  exact steps_close HE.out HF.out (ownI_nil _ _) hb1
end Go.Proofs.YtchliiaknmknhaaGreat
namespace Go.Proofs
open Go.Shelf
def Tryz.lays112_ren : Go.Shelf.Ren := ⟨fun | 112 => 162 | n => n, fun | 28 => 22 | 3 => 3 | 4 => 4 | 0 => 0 | n => n, fun | n => n⟩
theorem Tryz.lays112 : Go.Proofs.Lays.n112 Tryz.prog Tryz.lays112_ren := {
 mixed := by kernel_rfl
 f112 := Tryz.func162.trans (congrArg some (by kernel_rfl))
 t0 := Tryz.underlying0
 a0 := Tryz.isAgg0
 z0 := Tryz.sizeOf0
 v0 := Tryz.zeroValue0
 t3 := Tryz.underlying3
 a3 := Tryz.isAgg3
 z3 := Tryz.sizeOf3
 v3 := Tryz.zeroValue3
 t4 := Tryz.underlying4
 a4 := Tryz.isAgg4
 z4 := Tryz.sizeOf4
 v4 := Tryz.zeroValue4
 t28 := Tryz.underlying22
 a28 := Tryz.isAgg22
 z28 := Tryz.sizeOf22
 v28 := Tryz.zeroValue22 }
open Go.RowKit Go.Lib Go.Sort in
theorem Tryz.slices_Reverse_int_arr (blk off cap : Nat) (d : Array Int) (w : World) (hH : Holds encI w blk off d) (hsz : d.size <= 9223372036854775807) :
 Calls Tryz.prog 162 #[.slice (some ⟨blk, off, none⟩) d.size cap] w fun e w' => e = .returned (.tuple #[]) /\ ∃ n, w' = putRow encI (Sort.ahead w n) blk off d.reverse := Any.slices_Reverse_int_arr Tryz.lays112 blk off cap d w hH hsz
open Go.RowKit Go.Lib Go.Sort in
theorem Tryz.slices_Reverse_int (blk off cap : Nat) (zs : List Int) (w : World) (hH : Holds (Value.int .i64) w blk off zs.toArray) (hsz : zs.length <= 9223372036854775807) :
 Calls Tryz.prog 162 #[.slice (some ⟨blk, off, none⟩) zs.length cap] w fun e w' => e = .returned (.tuple #[]) /\ ∃ n, w' = putRow (Value.int .i64) (Sort.ahead w n) blk off zs.reverse.toArray := Any.slices_Reverse_int Tryz.lays112 blk off cap zs w hH hsz
open Go.RowKit Go.Lib Go.Sort in
theorem Tryz.slices_Reverse_int_empty (a : Option Addr) (cap : Nat) (w : World) :
 Calls Tryz.prog 162 #[.slice a 0 cap] w fun e w' => e = .returned (.tuple #[]) /\ w' = w := Any.slices_Reverse_int_empty Tryz.lays112 a cap w
theorem Tryz.slices_Reverse_int_cells (b off n c : Nat) (zs : List Int) (w : World) (hz : n <= zs.length) (hbig : n <= 9223372036854775807) (hc : ∀ j, j < zs.length -> w.cell? ⟨b, off + j, none⟩ = some (.int .i64 (zs.getD j 0))) (hf : ∀ j, j < n -> w.frozen? ⟨b, off + j, none⟩ = false) :
 Calls Tryz.prog 162 #[.slice (some ⟨b, off, none⟩) n c] w fun e w' => e = .returned (.tuple #[]) /\ ∃ q, w' = (w.drewN q).setCells b off ((zs.take n).reverse.map (Value.int .i64)) := Any.slices_Reverse_int_cells Tryz.lays112 b off n c zs w hz hbig hc hf
end Go.Proofs
namespace Go.Proofs.YtchliiaknmknhaaGreat
open Go.RowKit
theorem below_setCells {B g : Nat} {a : World} (hg : B <= g) (ys : List Value) : ∀ (w : World) (o : Nat), Below B a w -> Below B a (w.setCells g o ys) := by
 induction ys with
 | nil => intro w o h; exact h
 | cons y ys ih => intro w o h; exact ih _ _ (h.setCell hg _)
theorem OwnI.setCells {base g n c : Nat} (ys : List Int) : ∀ (w : World) (o : Nat) (zs : List Int), OwnI w base (.slice (some ⟨g, 0, none⟩) n c) zs -> o + ys.length <= zs.length ->
 OwnI (w.setCells g o (intsV ys)) base (.slice (some ⟨g, 0, none⟩) n c) (zs.take o ++ ys ++ zs.drop (o + ys.length)) := by
 induction ys with
 | nil => intro w o zs h _; simpa [intsV, World.setCells] using h
 | cons y ys ih =>
   intro w o zs h hl;simp only [List.length_cons] at hl;have h1 := ih (w.setCell ⟨g, o, none⟩ (.int .i64 y)) (o + 1) (zs.set o y) (h.stored o y) (by simp; omega);have e : (zs.set o y).take (o + 1) ++ ys ++ (zs.set o y).drop (o + 1 + ys.length) = zs.take o ++ (y :: ys) ++ zs.drop (o + (y :: ys).length) := by
    have e1 : (zs.set o y).take (o + 1) = zs.take o ++ [y] := by
     rw [List.set_eq_take_append_cons_drop, if_pos (by omega), List.take_append];simp;have : min o zs.length = o := by omega
     rw [this]; simp
     exact List.take_of_length_le (by simp; omega)
    have e2 : (zs.set o y).drop (o + 1 + ys.length) = zs.drop (o + 1 + ys.length) := by
     rw [List.drop_set]; rw [if_pos (by omega)]
    rw [e1, e2]; simp [Nat.add_assoc, Nat.add_comm 1 ys.length]
   rw [e] at h1;exact h1
theorem permTurn_any (a : Option Addr) (c : Nat) (zs : List Int) (w : World) (h : IntsAt w a zs) (hlen : zs.length < 1000000) :
 Calls Tryz.prog 152 #[.slice a zs.length c] w fun e w' => ∃ v, e = .returned v /\ SliceIs w' v zs.reverse /\ Below w.heap.size w w' := by
 have HI := Lib.hid h;clear h
 go_enter Tryz.func152, Tryz.ntmps152
 go_wp2_with fail;refine (clone_any _ _ zs _ HI.out hlen).mono ?_;rintro e w1 ⟨g, rfl, hown, hbel⟩;have hg : w.heap.size <= g := (hown.lt g rfl).1;go_wp2_with fail;refine (Tryz.slices_Reverse_int_cells g 0 zs.length zs.length zs w1 (Nat.le_refl _) (by omega) (fun j hj => by rw [Nat.zero_add]; exact hown.cell j hj) (fun j hj => by rw [Nat.zero_add]; exact hown.frozen j)).mono ?_;rintro e w2 ⟨rfl, q, hw2⟩;have h2 := OwnI.setCells zs.reverse (w1.drewN q) 0 zs (hown.drewN q) (by simp);have e : zs.drop (0 + zs.reverse.length) = [] := List.drop_of_length_le (by simp);rw [e, List.take_zero, List.nil_append, List.append_nil] at h2;have hb2 : Below w.heap.size w ((w1.drewN q).setCells g 0 (intsV zs.reverse)) := below_setCells hg _ _ _ (below_drewN hbel _);rw [List.take_length] at hw2
 change w2 = (w1.drewN q).setCells g 0 (intsV zs.reverse) at hw2
 rw [<- hw2] at h2 hb2;clear hw2;go_wp2_with fail;go_ret;exact ⟨_, rfl, h2.sliceIs (by simp; omega), hb2⟩
open Go.RowKit
abbrev KF : Law := fun _ _ _ _ _ _ _ => False
section
variable {K : Law} {n : Nat} {Od : List Nat -> Prop} {room : Nat} {w0 w w' : World} {mb : Nat} {fs : List (Int × BF)} {nx : Int} {o o' : Own} {m m' : ManD} {V V' : Nat -> BF}
theorem SatE.full (h : SatE KF n Od room w0 mb fs nx w o m V) : SatE K n Od room w0 mb fs nx w o m V := by
 obtain ⟨s, hs⟩ := h.is;exact ⟨⟨s, hs.mono fun _ _ _ _ _ e => e.elim⟩, h.lt, h.ok, h.vars, h.od, h.room, h.next, h.hs, h.chg⟩
theorem SatE.cleared {s : ManW} {w1 : World} (h : SatE K n Od room w0 mb fs nx w o m V) (g1 : ManIn (fun _ _ _ _ _ => False) o w1 mb m s) (g2 : Chg (· = .entries) o o w w1) (g3 : OwnLt o w1) : SatE KF n Od room w0 mb fs nx w1 o m V :=
 ⟨⟨s, g1⟩, g3, h.ok, h.vars, h.od, h.room, h.next, h.hs, h.chg.lower (ChgX.of_chg g2.any NoB) (fun _ e => e.elim)⟩
structure HapS (n room : Nat) (w0 : World) (mb : Nat) (fs : List (Int × BF)) (nx : Int) (o : Own) (w : World) (m : ManD) (o' : Own) (w' : World) (m' : ManD) (V' : Nat -> BF) : Prop where
 sat : SatE KF n (fun _ => True) room w0 mb fs nx w' o' m' V'
 waits : m'.waits = m.waits
 calls : m'.calls = m.calls
 chg : Chg (fun _ => True) o o' w w'
 many : m'.d.pool.many <= m.d.pool.many \/ m'.d.pool.many <= fs.length * 2 ^ n
theorem HapS.trans {o'' : Own} {w'' : World} {m'' : ManD} {V'' : Nat -> BF} (h : HapS n room w0 mb fs nx o w m o' w' m' V') (h' : HapS n room w0 mb fs nx o' w' m' o'' w'' m'' V'') : HapS n room w0 mb fs nx o w m o'' w'' m'' V'' :=
 ⟨h'.sat, h'.waits.trans h.waits, h'.calls.trans h.calls, h.chg.trans h'.chg, by
  rcases h'.many with h1 | h1
  ·
   exact h.many.imp (fun h2 => Nat.le_trans h1 h2) (fun h2 => Nat.le_trans h1 h2)
  ·
   exact .inr h1⟩
theorem hapSwap {s : ManW} (h : SatE KF n (fun _ => True) room w0 mb fs nx w o m V) (hs : ManIn (fun _ _ _ _ _ => False) o w mb m s) (hn : nx <= 549755813888) (z : Int) :
 Calls Tryz.prog 100 #[.pointer (some ⟨s.sb, 0, none⟩), .int .i64 z] w fun e w' => ∃ q : Int, e = .returned (.int .i64 q) /\ ∃ o' m' V', HapS n room w0 mb fs nx o w m o' w' m' V' := by
 by_cases hz : z < 0 \/ (n : Int) - 1 <= z
 ·
  refine (storeSwap_bad hs.store h.ok.store.small z (by rw [h.vars]; exact hz)).mono ?_;rintro e w' ⟨rfl, rfl⟩;exact ⟨2, rfl, o, m, V, h, rfl, rfl, Chg.refl _ _ _, .inl (Nat.le_refl _)⟩
 ·
  obtain ⟨k, rfl⟩ : ∃ k : Nat, z = k := ⟨z.toNat, by omega⟩;refine (satSwap h hs (Chg.refl _ _ _) h.lt (by omega) hn).mono ?_;rintro e w' ⟨o', m', V', hm⟩;obtain ⟨d0, cr, hw⟩ := hm.way;rcases hw with ⟨e1, e2, _⟩ | ⟨e1, so⟩
  ·
   exact ⟨7, e1, o', m', V', hm.sat, hm.waits, hm.calls, hm.chg, .inr (hm.sat.few (by rw [e2]; exact cr.dead))⟩
  ·
   exact ⟨0, e1, o', m', V', hm.sat, hm.waits, hm.calls, hm.chg, .inr (hm.sat.few so.dead)⟩
theorem hapCollect {s : ManW} (h : SatE KF n (fun _ => True) room w0 mb fs nx w o m V) (hs : ManIn (fun _ _ _ _ _ => False) o w mb m s) :
 Calls Tryz.prog 101 #[.pointer (some ⟨s.sb, 0, none⟩)] w fun e w' => ∃ q : Int, e = .returned (.int .i64 q) /\ ∃ o' m' V', HapS n room w0 mb fs nx o w m o' w' m' V' := by
 refine (collect_all hs.store h.lt h.ok.store).mono ?_;rintro e w' ⟨rfl, o', d', st, lt, cr, ch⟩;have hst : SatE KF n (fun _ => True) room w0 mb fs nx w' o' { m with d := d' } V := ⟨⟨s, hs.setStore h.lt st ch⟩, lt, ⟨cr.ok h.ok.store, handles_coll h.ok.handles h.ok.store cr⟩, by dsimp only; rw [cr.vars]; exact h.vars, trivial, by dsimp only; rw [cr.room]; exact h.room, h.next, h.hs, h.chg.lower (ChgX.of_chg ch.any NoB) (fun _ e => e.elim)⟩;exact ⟨_, rfl, o', { m with d := d' }, V, hst, rfl, rfl, ch.any, .inr (hst.few cr.dead)⟩
theorem ownI_len_le {base : Nat} {v : Value} {zs : List Int} (h : OwnI w base v zs) : zs.length <= 9223372036854775807 := by
 rcases h.2 with ⟨_, h0⟩ | ⟨g, cap, cur, _, _, _, h1, h2, _⟩
 ·
  omega
 ·
  unfold maxLen at h2; omega
theorem IntsAt.chg {R : Role -> Prop} {a : Option Addr} {zs : List Int} (h : IntsAt w a zs) (hc : Chg R o o' w w') (hn : ∀ x, a = some x -> o x.block = none) : IntsAt w' a zs :=
 ⟨h.len, fun k hk => by
  obtain ⟨b, off, rfl, hc1⟩ := h.cells k hk;exact ⟨b, off, rfl, hc.cell (p := ⟨b, off + k, none⟩) hc1 (hn ⟨b, off, none⟩ rfl)⟩⟩
theorem happen_any (hn : nx <= 549755813888) (ev : Ev) : HapG K n (fun _ => True) room w0 mb fs nx ev := by
 intro o W m V h;obtain ⟨P, hP⟩ : ∃ P : Ending -> World -> Prop, P = fun x w' => x = .returned (.tuple #[]) /\
  ∃ o' m' V', SatE K n (fun _ => True) room w0 mb fs nx w' o' m' V' /\ m'.waits = m.waits /\ m'.calls = m.calls /\ (m'.d.pool.many <= m.d.pool.many \/ m'.d.pool.many <= fs.length * 2 ^ n) /\ ChgX NoB o o' W w' := ⟨_, rfl⟩
 rw [<- hP];obtain ⟨W1, hW1⟩ : ∃ W1, W1 = W.alloc (.cells #[.int .i64 ev.after, .int .i64 ev.kind, .int .i64 ev.level] 94) := ⟨_, rfl⟩;have hb1 : Below W.heap.size W W1 := by rw [hW1]; exact below_new1 W _
 obtain ⟨bx, hbx⟩ : ∃ q, q = W.heap.size := ⟨_, rfl⟩;have HB1 : Hid (Box o W1 bx (.cells #[.int .i64 ev.after, .int .i64 ev.kind, .int .i64 ev.level] 94 (0, 0))) := Lib.hid ⟨by rw [hW1, hbx]; exact heap_alloc_new W _, h.lt.none (by rw [hbx]; exact Nat.le_refl _)⟩;have h1 := h.below hb1
 have HP : Hid (∀ o' w' m' V', HapS n room w0 mb fs nx o W1 m o' w' m' V' -> P (.returned (.tuple #[])) w') := Lib.hid (by
  intro o' w' m' V' hh;rw [hP];exact ⟨rfl, o', m', V', hh.sat.full, hh.waits, hh.calls, hh.many, (ChgX.of_below hb1 o NoB).trans (ChgX.of_chg hh.chg NoB) (fun _ _ e => e)⟩)
 obtain ⟨s, hs⟩ := h1.is;obtain ⟨c0, c1, c2, c3, c4, c5, f0⟩ := cells6 hs.blk;have HCL := Lib.hid (wclear h1 hs (fun _ _ _ _ _ => False));have H1 := Lib.hid h1;obtain ⟨kd, hkd⟩ : ∃ z, z = ev.kind := ⟨_, rfl⟩;obtain ⟨lv, hlv⟩ : ∃ z, z = ev.level := ⟨_, rfl⟩;obtain ⟨af, haf⟩ : ∃ z, z = ev.after := ⟨_, rfl⟩;have HN := Lib.hid hn;unfold evA;rw [<- hkd, <- hlv, <- haf] at HB1 hW1 ⊢;have HW := Lib.hid hW1;have HX := Lib.hid hbx;clear h h1 hs hP hb1 hbx hkd hlv haf hn hW1
 go_enter Tryz.func122, Tryz.ntmps122
 go_upto_region 1 with fail;rw [<- HW.out, <- HX.out];go_wp2_with fail;refine HCL.out.mono ?_;rintro x w1 ⟨rfl, g1, g2, g3⟩;have HS1 := Lib.hid (H1.out.cleared g1 g2 g3);have HB2 := Lib.hid (HB1.out.chg g2);have HG := Lib.hid g1;have HCH : Hid (Chg (fun _ => True) o o W1 w1) := Lib.hid g2.any;have b1 : w1.cell? ⟨bx, 1, none⟩ = some (.int .i64 kd) := HB2.out.cell 1;have b2 : w1.cell? ⟨bx, 2, none⟩ = some (.int .i64 lv) := HB2.out.cell 2;clear c0 c1 c2 c3 c4 c5 f0 HCL g1 g2 g3;obtain ⟨c0, c1, c2, c3, c4, c5, f0⟩ := cells6 HG.out.blk
 by_cases k1 : kd = 1
 ·
  subst k1;have HC := Lib.hid (hapCollect HS1.out HG.out);go_wp2_with fail;refine HC.out.mono ?_;rintro x w2 ⟨q, rfl, o', m', V', hh⟩;have HF := Lib.hid (HP.out o' w2 m' V' ⟨hh.sat, hh.waits, hh.calls, HCH.out.trans hh.chg, hh.many⟩);clear hh;go_wp2_with fail;refine bodyPost_end (results_none rfl _ _ _) rfl ?_;exact HF.out
 ·
  have e1 : (kd == 1) = false := by simp [k1]
  by_cases k2 : kd = 2
  ·
   subst k2;clear k1 e1;have HC := Lib.hid (hapSwap (HS1.out.below (below_draw w1 1)) (HG.out.below HS1.out.lt (below_draw w1 1)) HN.out lv);go_upto_region 13 with fail;refine wp_region_mix (fun W : World => W = w1.drew) true 6 [(0, false), (1, false), (2, false), (3, false), (4, false), (5, false), (6, true)] (by kernel_rfl) (by kernel_rfl) rfl ?_;simp only [planned, plnLz]
   iterate 6
    refine mix_readE rfl ?_;apply Exists.intro;refine ⟨fun w' hw => ?_, ?_⟩
    ·
     subst hw;go_simp;rfl
    simp only [putLz]
   refine mix_lastCall rfl (by go_simp) (HC.out.mono (R' := fun e w' => ∃ v, e = .returned v /\ ∃ o' m' V', HapS n room w0 mb fs nx o w1.drew m o' w' m' V') (fun e w' h => by obtain ⟨q, e1, h2⟩ := h; exact ⟨_, e1, h2⟩)) ?_;rintro v w2 ⟨o', m', V', hh⟩;simp only [putLz];refine np_normal ?_;have HF := Lib.hid (HP.out o' w2 m' V' ⟨hh.sat, hh.waits, hh.calls, HCH.out.trans ((Chg.of_below (below_draw w1 1) _ _).trans hh.chg), hh.many⟩);clear hh;go_wp2_with fail;refine bodyPost_end (results_none rfl _ _ _) rfl ?_;exact HF.out
  ·
   have e2 : (kd == 2) = false := by simp [k2]
   clear k1 k2;have hvl : m.d.vars.length <= 64 := HS1.out.ok.store.small;have HO := Lib.hid (storeOrder_any HG.out.store HS1.out.lt hvl);go_wp2_with fail;refine HO.out.mono ?_;rintro x w2 ⟨v, rfl, hown, hb2⟩;obtain ⟨zs, hzs⟩ : ∃ zs, zs = m.d.vars.map Int.ofNat := ⟨_, rfl⟩;have hzl : zs.length <= 64 := by rw [hzs, List.length_map]; exact hvl
   rw [<- hzs] at hown;obtain ⟨a, c, rfl, ha, hna⟩ := hown.sliceIs (by omega);have HT := Lib.hid (permTurn_any a c zs w2 ha (by omega));have HSL : Hid (SliceIs w2 (.slice a zs.length c) zs) := Lib.hid ⟨a, c, rfl, ha, hna⟩;have HB22 := Lib.hid hb2;have HZL := Lib.hid hzl;clear hown hb2 hzs ha hna hvl c0 c1 c2 c3 c4 c5 f0 b1 b2 HO;go_wp2_with fail;refine HT.out.mono ?_;rintro x w3 ⟨vt, rfl, hst, hb3⟩;obtain ⟨at', ct', hvt, q1, q2⟩ := hst;rw [List.length_reverse] at hvt;subst hvt;have HST := Lib.hid (permSteps_any (.slice a zs.length c) (.slice at' zs.length ct') zs zs.reverse w3 (HSL.out.below hb3) ⟨at', ct', by rw [List.length_reverse], q1, q2⟩ (by omega) (by simp; omega));have HB3 := Lib.hid hb3;clear hb3 HT q1 q2;go_wp2_with fail;refine HST.out.mono ?_;rintro x w4 ⟨vr, rfl, hor, hb4⟩;obtain ⟨rs, hrs⟩ : ∃ rs, rs = stepsOf zs zs.reverse := ⟨_, rfl⟩;obtain ⟨er, her⟩ : ∃ z, z = stepsErr zs zs.reverse := ⟨_, rfl⟩;rw [<- hrs] at hor;rw [<- her];have hbx : Below w1.heap.size w1 w4 := HB22.out.trans ((HB3.out.trans (hb4.mono HB3.out.size)).mono HB22.out.size);have hlow := hor.lt;have hrl : rs.length <= 9223372036854775807 := ownI_len_le hor;obtain ⟨ar, cr, rfl, hi, _⟩ := hor.sliceIs hrl
   have HI0 : Hid (∃ o' m' V', HapS n room w0 mb fs nx o w1 m o' w4 m' V' /\ IntsAt w4 ar rs /\ (∀ x, ar = some x -> o' x.block = none)) := Lib.hid ⟨o, m, V, (⟨HS1.out.below hbx, rfl, rfl, Chg.of_below hbx _ _, .inl (Nat.le_refl _)⟩ : HapS n room w0 mb fs nx o w1 m o w4 m V), hi, fun x hx => by
    subst hx;refine HS1.out.lt.none ?_;have h1 := (hlow _ rfl).1;have h2 := HB22.out.size;have h3 := HB3.out.size;omega⟩
   clear her hrs hor hb4 hbx hlow hi HST;go_wp2_with fail
   go_loopw [30] (fun s30 wr => ∃ j : Nat, j <= rs.length /\ s30 = .int .i64 j /\ Hid (∃ o' m' V', HapS n room w0 mb fs nx o w1 m o' wr m' V' /\ IntsAt wr ar rs /\ (∀ x, ar = some x -> o' x.block = none))) (fun s30 _ => rs.length - (intOf s30).toNat)
   case atStart => exact ⟨0, Nat.zero_le _, rfl, HI0⟩
   case round =>
    obtain ⟨j, hj, rfl, HH⟩ := hrel;obtain ⟨oj, mj, Vj, hh, hi, hno⟩ := HH.out
    by_cases hlt : j < rs.length
    ·
     obtain ⟨b, off, rfl, hcell⟩ := hi.cells j hlt;obtain ⟨s', hs'⟩ := hh.sat.is;obtain ⟨c0, c1, c2, c3, c4, c5, f0⟩ := cells6 hs'.blk;have hjz : (j : Int) < rs.length := by omega
     obtain ⟨z, hz⟩ : ∃ z, z = at0 rs j := ⟨_, rfl⟩;rw [<- hz] at hcell;have HC := Lib.hid (hapSwap hh.sat hs' HN.out z);have HHJ := Lib.hid hh;have HIJ := Lib.hid hi;have HNO := Lib.hid hno;have hblt : b < wr.heap.size := lt_of_cell hcell;have HBL := Lib.hid hblt;have HJL := Lib.hid hlt;clear hh hi hno hs' HH HI0 hz hblt;go_wp2_with fail;refine HC.out.mono ?_;rintro x w5 ⟨q, rfl, o5, m5, V5, h5⟩;have HNX := Lib.hid (And.intro (HHJ.out.trans h5) (And.intro (HIJ.out.chg h5.chg HNO.out) (fun x (hx : some _ = some x) => h5.chg.alien' (by cases hx; exact HBL.out) (HNO.out x hx))));clear h5 c0 c1 c2 c3 c4 c5 f0 hcell;go_wp2_with fail;go_roundw
     case rel => exact ⟨j + 1, Nat.succ_le_of_lt HJL.out, by go_num, Lib.hid ⟨_, _, _, HNX.out.1, HNX.out.2.1, HNX.out.2.2⟩⟩
     case measure =>
      have := HJL.out;simp [intOf];omega
    ·
     obtain rfl : j = rs.length := by omega
     have HF := Lib.hid (HP.out oj wr mj Vj ⟨hh.sat, hh.waits, hh.calls, HCH.out.trans hh.chg, hh.many⟩);clear hh hi hno HH HI0;go_wp2_with fail;refine bodyPost_end (results_none rfl _ _ _) rfl ?_;exact HF.out
end
open Go.RowKit
section
variable {K : Law} {n : Nat} {Od : List Nat -> Prop} {room : Nat} {w0 w w' : World} {mb : Nat} {fs : List (Int × BF)} {nx : Int} {o o' : Own} {m m' : ManD} {V V' : Nat -> BF}
structure NewH (K : Law) (n : Nat) (Od : List Nat -> Prop) (room : Nat) (w0 : World) (mb : Nat) (fs : List (Int × BF)) (nx : Int) (o : Own) (w : World) (m : ManD) (V : Nat -> BF) (F : BF) (o' : Own) (w' : World) (m' : ManD) : Prop where
 sat : SatE K n Od room w0 mb (fs ++ [(nx, F)]) (nx + 1) w' o' m' V
 waits : m'.waits = m.waits
 calls : m'.calls = m.calls
 nodes : nodesOf m'.d = nodesOf m.d
 vars : m'.d.vars = m.d.vars
 many : m'.d.pool.many = m.d.pool.many
 chg : Chg (fun _ => True) o o' w w'
theorem manCopy_any (hK : LawOK K) (h : SatE K n Od room w0 mb fs nx w o m V) (hn : nx < 549755813888) {k : Int} {F : BF} (hk : (k, F) ∈ fs) :
 Calls Tryz.prog 48 #[.pointer (some ⟨mb, 0, none⟩), .int .i64 k] w fun x w' => x = .returned (.tuple #[.int .i64 nx, .int .i64 0]) /\ ∃ o' m', NewH K n Od room w0 mb fs nx o w m V F o' w' m' := by
 obtain ⟨f, hf, rfl⟩ := h.find hk;obtain ⟨s, hs⟩ := h.is;obtain ⟨c0, c1, c2, c3, c4, c5, f0⟩ := cells6 hs.blk;have hl := look_yes hs h.ok.handles.nodup hf;have hnx := h.next
 have HG := Lib.hid (give_any hK h.is h.lt h.ok f (h.ok.handles.ok _ hf) (by rw [hnx]; omega));have H := Lib.hid h;rw [hnx] at HG;clear hs h hf hk hnx
 go_enter Tryz.func48, Tryz.ntmps48
 go_wp2_with fail;refine HG.out.mono ?_;rintro x w1 ⟨rfl, o', m', hg⟩;have HQ : Hid (NewH K n Od room w0 mb fs nx o w m V (ef V f) o' w1 m') := Lib.hid ⟨H.out.gave hg, hg.waits, hg.calls, hg.nodes, hg.vars, hg.many, hg.chg⟩;clear hg;go_wp2_with fail
 go_ret2
 exact ⟨rfl, _, _, HQ.out⟩
theorem okE_not {N : Nat -> Option BN} {e : Nat} (h : okE N e) : okE N (enot e) := by
 unfold okE at h ⊢;rw [enot_half]; exact h
theorem manNot_any (hK : LawOK K) (h : SatE K n Od room w0 mb fs nx w o m V) (hn : nx < 549755813888) {k : Int} {F : BF} (hk : (k, F) ∈ fs) :
 Calls Tryz.prog 47 #[.pointer (some ⟨mb, 0, none⟩), .int .i64 k] w fun x w' => x = .returned (.tuple #[.int .i64 nx, .int .i64 0]) /\ ∃ o' m', NewH K n Od room w0 mb fs nx o w m V (fun ρ => !F ρ) o' w' m' := by
 obtain ⟨f, hf, rfl⟩ := h.find hk;obtain ⟨s, hs⟩ := h.is;obtain ⟨c0, c1, c2, c3, c4, c5, f0⟩ := cells6 hs.blk;have hl := look_yes hs h.ok.handles.nodup hf;have hnx := h.next
 have hok := h.ok.handles.ok _ hf;have hlt : f < eMax := by
  obtain ⟨s2, h2⟩ := hs.store;have := h2.edge_lt hok;unfold eMax; omega
 have HG := Lib.hid (give_any hK h.is h.lt h.ok (enot f) (okE_not hok) (by rw [hnx]; omega));have HNOT := Lib.hid (not_any f w hlt);have H := Lib.hid h;rw [hnx] at HG;clear hs h hf hk hnx hok hlt
 go_enter Tryz.func47, Tryz.ntmps47
 go_wp2_with fail;refine HNOT.out.mono ?_;rintro x w1 ⟨rfl, rfl⟩;go_wp2_with fail;refine HG.out.mono ?_;rintro x w1 ⟨rfl, o', m', hg⟩
 have HQ : Hid (NewH K n Od room w0 mb fs nx o w m V (fun ρ => !ef V f ρ) o' w1 m') := Lib.hid (by
  have e : (fun ρ => !ef V f ρ) = ef V (enot f) := by funext ρ; rw [ef_enot]
  rw [e];exact ⟨H.out.gave hg, hg.waits, hg.calls, hg.nodes, hg.vars, hg.many, hg.chg⟩)
 clear hg;go_wp2_with fail
 go_ret2
 exact ⟨rfl, _, _, HQ.out⟩
end
open Go.RowKit
def delK {α : Type} (k : Int) (l : List (Int × α)) : List (Int × α) := l.filter fun p => decide (p.1 ≠ k)
theorem delK_none {α : Type} {k : Int} {l : List (Int × α)} (h : ∀ p ∈ l, p.1 ≠ k) : delK k l = l := by
 unfold delK;rw [List.filter_eq_self];intro p hp;simp [h p hp]
theorem nodup_tail_ne {α : Type} {x : Int × α} {l : List (Int × α)} (h : ((x :: l).map Prod.fst).Nodup) : ∀ p ∈ l, p.1 ≠ x.1 := by
 intro p hp e;rw [List.map_cons, List.nodup_cons] at h;exact h.1 (List.mem_map.2 ⟨p, hp, e⟩)
theorem delK_cons_eq {α : Type} {x : Int × α} {l : List (Int × α)} (h : ((x :: l).map Prod.fst).Nodup) : delK x.1 (x :: l) = l := by
 have h1 := delK_none (nodup_tail_ne h);unfold delK at h1 ⊢;rw [List.filter_cons_of_neg (by simp), h1]
theorem delK_cons_ne {α : Type} {k : Int} {x : Int × α} {l : List (Int × α)} (h : x.1 ≠ k) : delK k (x :: l) = x :: delK k l := by
 unfold delK;rw [List.filter_cons_of_pos (by simp [h])]
theorem eraseIdx_delK {α : Type} {k : Int} : ∀ (l : List (Int × α)) (j : Nat) (hj : j < l.length), (l.map Prod.fst).Nodup -> l[j].1 = k -> l.eraseIdx j = delK k l
 | x :: l, 0, _, hn, hk => by
   have e : x.1 = k := hk;subst e;rw [delK_cons_eq hn]; rfl
 | x :: l, j + 1, hj, hn, hk => by
   have hj' : j < l.length := by simpa using hj
   have hk' : l[j].1 = k := by simpa using hk
   have hx : x.1 ≠ k := by
    intro e;exact nodup_tail_ne hn l[j] (List.getElem_mem hj') (hk'.trans e.symm)
   have hn' : (l.map Prod.fst).Nodup := by rw [List.map_cons, List.nodup_cons] at hn; exact hn.2
   rw [delK_cons_ne hx, List.eraseIdx_cons_succ, eraseIdx_delK l j hj' hn' hk']
theorem delK_map {α β : Type} (k : Int) (l : List (Int × α)) (g : Int × α -> Int × β) (hg : ∀ p, (g p).1 = p.1) : (delK k l).map g = delK k (l.map g) := by
 unfold delK;rw [List.filter_map];congr 1;refine List.filter_congr fun p _ => ?_
 simp [hg]
theorem delL_eq {k : Int} {l : List (Int × Value)} (hn : (l.map Prod.fst).Nodup) {v : Value} (hk : (k, v) ∈ l) : delL k l = delK k l := by
 unfold delL;cases e : findL k l 0 with
 | none =>
   have h1 := getL_of_mem hn hk;unfold getL at h1;rw [e] at h1; cases h1
 | some p =>
   obtain ⟨j, u⟩ := p;have h2 := findL_some e;obtain ⟨q, h3, h4⟩ := h2;have hq : j = q := by omega
   subst hq;obtain ⟨h5, h6⟩ := List.getElem?_eq_some_iff.1 h4;exact eraseIdx_delK l j h5 hn (by rw [h6])
theorem mem_delK {α : Type} {k : Int} {l : List (Int × α)} {p : Int × α} : p ∈ delK k l ↔ p ∈ l /\ p.1 ≠ k := by
 unfold delK;rw [List.mem_filter];simp
theorem refs_del {k : Int} {f : Nat} (h1 : 1 < k) : ∀ (hs : List (Int × Nat)), (hs.map Prod.fst).Nodup -> (k, f) ∈ hs -> ∀ i, refsOf hs i = refsOf (delK k hs) i + (if f / 2 = i then 1 else 0)
 | [], _, h, _ => by cases h
 | x :: l, hn, hm, i => by
   have hn' : (l.map Prod.fst).Nodup := by rw [List.map_cons, List.nodup_cons] at hn; exact hn.2
   by_cases e : x.1 = k
   ·
    have hx : x = (k, f) := by
     rcases List.mem_cons.1 hm with h | h
     ·
      exact h.symm
     ·
      exact ((nodup_tail_ne hn _ h) e.symm).elim
    subst hx;rw [delK_cons_eq hn];unfold refsOf
    by_cases e2 : f / 2 = i
    ·
     rw [List.filter_cons_of_pos (by simp [h1, e2]), List.length_cons, if_pos e2]
    ·
     rw [List.filter_cons_of_neg (by simp [e2]), if_neg e2]; rfl
   ·
    have hm' : (k, f) ∈ l := by
     rcases List.mem_cons.1 hm with h | h
     ·
      rw [<- h] at e; exact (e rfl).elim
     ·
      exact h
    have ih := refs_del h1 l hn' hm' i;rw [delK_cons_ne e];unfold refsOf at ih ⊢
    by_cases e3 : (decide (1 < x.1) && x.2 / 2 == i) = true
    ·
     rw [List.filter_cons_of_pos (p := fun p : Int × Nat => decide (1 < p.1) && p.2 / 2 == i) e3, List.filter_cons_of_pos (p := fun p : Int × Nat => decide (1 < p.1) && p.2 / 2 == i) e3, List.length_cons, List.length_cons]; omega
    ·
     rw [List.filter_cons_of_neg (p := fun p : Int × Nat => decide (1 < p.1) && p.2 / 2 == i) e3, List.filter_cons_of_neg (p := fun p : Int × Nat => decide (1 < p.1) && p.2 / 2 == i) e3]; exact ih
theorem handles_drop {m : ManD} {d' : StoreD} {k : Int} {f : Nat} (h : HandlesOK m) (r : HoldRel m.d d' f (-1)) (hk : (k, f) ∈ m.hs) (h1 : 1 < k) (h0 : nodesOf m.d 0 = none) : HandlesOK { m with d := d', hs := delK k m.hs } := by
 have hne : ∀ {p : Int × Nat}, p ∈ delK k m.hs -> p ∈ m.hs := fun hp => (mem_delK.1 hp).1
 refine ⟨?_, mem_delK.2 ⟨h.zero, by dsimp only; omega⟩, mem_delK.2 ⟨h.one, by dsimp only; omega⟩, fun p hp => h.lt p (hne hp), h.next, fun p hp => ?_, ?_, fun i b hb => ?_⟩
 ·
  exact h.nodup.sublist ((List.filter_sublist).map _)
 ·
  show okE (nodesOf d') p.2
  rw [r.nodes]; exact h.ok p (hne hp)
 ·
  have h2 : (delK k m.hs).length <= m.hs.length := List.length_filter_le _ _;have h3 := h.len
  show ((delK k m.hs).length : Int) <= m.next
  omega
 ·
  have hb' : nodesOf m.d i = some b := by
   have : nodesOf d' i = some b := hb;rw [r.nodes] at this; exact this
  have hi : i ≠ 0 := by rintro rfl; rw [h0] at hb'; cases hb'
  show extOf d' i = (refsOf (delK k m.hs) i : Int)
  rw [r.ext i hi, h.refs i b hb', refs_del h1 m.hs h.nodup hk i];unfold toE;split <;> (simp; try omega)
section
variable {K : Law} {n : Nat} {Od : List Nat -> Prop} {room : Nat} {w0 w w' : World} {mb : Nat} {fs : List (Int × BF)} {nx : Int} {o o' : Own} {m m' : ManD} {V V' : Nat -> BF}
theorem storeDrop_ok {sb : Nat} (h : StoreAt o w sb m.d) (hlt : OwnLt o w) (hk : ManOK m V) {k : Int} {f : Nat} (hf : (k, f) ∈ m.hs) (h1 : 1 < k) (hn : m.next < 549755813888) :
 Calls Tryz.prog 103 #[.pointer (some ⟨sb, 0, none⟩), .int .i64 f] w fun x w' => x = .returned (.int .i64 0) /\ ∃ d', StoreAt o w' sb d' /\ OwnLt o w' /\ HoldRel m.d d' f (-1) /\ Chg RStore o o w w' := by
 have htop : ∀ y b, nodesOf m.d y = some b -> extOf m.d y < 1099511627776 := fun y b _ => by have := ext_le hk.handles y; omega
 have hok := hk.handles.ok _ hf;obtain ⟨s, h⟩ := h;have hlt' := h.edge_lt hok;rcases hok with h0 | ⟨b, hb⟩
 ·
  refine (storeDrop_none h hlt hk.store.live f (by unfold eMax; omega) h0).mono ?_;rintro e w' ⟨d', h1, h2, h3, h4, h5⟩;exact ⟨h1, d', ⟨s, h2⟩, h3, h4, h5⟩
 ·
  have hat := h.pool.top;have hrm := h.pool.room;refine (storeDrop_node h hlt hk.store.live (acy_of hk.store) f (b := b) hb htop ?_ (fun y c hc => ?_)).mono ?_
  ·
   have h2 := hk.handles.refs (enode f) b hb;have h3 : 0 < refsOf m.hs (f / 2) := refs_pos hf h1;have h4 : extOf m.d (enode f) = (refsOf m.hs (f / 2) : Int) := h2;omega
  ·
   have h1 := hk.store.live.cnt.le hc;have h2 := htop y c hc;omega
  ·
   rintro e w' ⟨d', h1, h2, h3, h4, h5⟩;exact ⟨h1, d', ⟨s, h2⟩, h3, h4, h5⟩
end
end Go.Proofs.YtchliiaknmknhaaGreat
