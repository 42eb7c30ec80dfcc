/- Several texts in one file: contracts of the program's functions and what follows from them. -/
import Derived.Test.YtchliiaknmknhaaGreatS9
import Derived.Shelf.Slices.Reverse
import Derived.Ground.Names2Prog
import Derived.Shelf.Slices.Cells
import Derived.Shelf.Slices.Empties
set_option linter.unusedSimpArgs false
set_option linter.unusedVariables false
set_option linter.unusedSectionVars false
set_option linter.unnecessarySimpa false
namespace Go.Proofs.YtchliiaknmknhaaGreat
open Go.RowKit
theorem ids_many {d : StoreD} {ids : List Nat} (hn : ids.Nodup) (ht : ∀ i ∈ ids, d.pool.tk i = true) (hlt : ∀ i, d.pool.tk i = true → i < d.pool.at_.length) (hc : (d.pool.many : Int) = sumTo d.pool.at_.length (fun i => if d.pool.tk i = true then 1 else 0)) : ids.length ≤ d.pool.many := by
 have key : ∀ (l : List Nat), l.Nodup → (∀ i ∈ l, d.pool.tk i = true) → ∀ kk, (∀ i ∈ l, i < kk) → (l.length : Int) ≤ sumTo kk (fun i => if d.pool.tk i = true then 1 else 0) := by
  intro l hl htl kk
  induction kk generalizing l with
  | zero =>
    intro h
    cases l with
    | nil => simp [sumTo]
    | cons a l => have := h a (by simp); omega
  | succ kk ih =>
    intro h
    show (l.length : Int) ≤ sumTo kk (fun i => if d.pool.tk i = true then 1 else 0) + (if d.pool.tk kk = true then 1 else 0)
    by_cases hm : kk ∈ l
    ·
     have h1 := ih (l.erase kk) (hl.erase kk) (fun i hi => htl i (List.mem_of_mem_erase hi)) (fun i hi => by
      have h2 := h i (List.mem_of_mem_erase hi)
      have h3 : i ≠ kk := fun e => by subst e; exact (List.Nodup.not_mem_erase hl) hi
      omega)
     rw [List.length_erase_of_mem hm] at h1
     have hpos : 0 < l.length := List.length_pos_of_mem hm
     have := htl kk hm
     simp only [this, if_true]
     omega
    ·
     have h1 := ih l hl htl (fun i hi => by
      have h2 := h i hi
      have h3 : i ≠ kk := fun e => by subst e; exact hm hi
      omega)
     have : (0 : Int) ≤ if d.pool.tk kk = true then 1 else 0 := by split <;> omega
     omega
 have := key ids hn ht d.pool.at_.length (fun i hi => hlt i (ht i hi))
 omega
theorem pairs_len (ts : List TN) : (ts.flatMap tnPairs).length = 2 * ts.length := by
 induction ts with
 | nil => rfl
 | cons a l ih => simp [List.flatMap_cons, tnPairs, ih]; omega
structure CutI (d0 : StoreD) (k x : Nat) (ids : List Nat) (sb : Nat) (s : StoreW) (o1 : Own) (w1 : World) (base : Nat) (v : Value) (ts : List TN) (j : Nat) (W : World) (o : Own) (d : StoreD) : Prop where
 st : StoreIn o W sb d s
 lt : OwnLt o W
 cut : CutS d0 k x (fun i => i ∈ ids.take j) d
 row : TRow W base v ts
 no : 0 < ts.length → ∀ g, v.ownBlock = some g → o g = none
 chg : Chg RStore o1 o w1 W
theorem CutI.move {d0 : StoreD} {k x : Nat} {ids : List Nat} {sb : Nat} {s : StoreW} {o1 : Own} {w1 : World} {base : Nat} {v : Value} {ts : List TN} {j : Nat} {W W' : World} {o o' : Own} {d d' : StoreD} {R : Role → Prop} (h : CutI d0 k x ids sb s o1 w1 base v ts j W o d) (st : StoreIn o' W' sb d' s) (hc : Chg R o o' W W') (hR : ∀ r, R r → RStore r) (lt : OwnLt o' W') {j' : Nat} (cut : CutS d0 k x (fun i => i ∈ ids.take j') d') :
 CutI d0 k x ids sb s o1 w1 base v ts j' W' o' d' :=
 ⟨st, lt, cut, h.row.chg hc h.no, fun hp g hg => hc.alien' (h.row.blk hp g hg).2 (h.no hp g hg), h.chg.trans (hc.mono hR)⟩
theorem CutS.congr {d0 d : StoreD} {k x : Nat} {g g' : Nat → Prop} (h : CutS d0 k x g d) (e : ∀ i, g i ↔ g' i) : CutS d0 k x g' d := by
 have e' : g = g' := funext fun i => propext (e i)
 rw [← e']; exact h
set_option maxRecDepth 100000 in
set_option maxHeartbeats 16000000 in
theorem storeSwap_any {o : Own} {w : World} {sb : Nat} {d : StoreD} {V : Nat → BF} (st : StoreAt o w sb d) (hlt : OwnLt o w) (hk : StoreOK d V) (k : Nat) (hk1 : k + 1 < d.vars.length) (htop : ∀ i, extOf d i ≤ 549755813888) :
 Calls Tryz.prog 100 #[.pointer (some ⟨sb, 0, none⟩), .int .i64 k] w fun q w' => ∃ o' d0, CollRel d d0 ∧ OwnLt o' w' ∧ Chg RStore o o' w w' ∧
  ((q = .returned (.int .i64 7) ∧ StoreAt o' w' sb d0 ∧ d0.pool.room < 3 * d0.pool.many) ∨ (q = .returned (.int .i64 0) ∧ ∃ d' V', StoreAt o' w' sb d' ∧ SwapOut d0 V k d' V')) := by
 obtain ⟨P, hP⟩ : ∃ P : Ending → World → Prop, P = fun q w' => ∃ o' d0, CollRel d d0 ∧ OwnLt o' w' ∧ Chg RStore o o' w w' ∧
  ((q = .returned (.int .i64 7) ∧ StoreAt o' w' sb d0 ∧ d0.pool.room < 3 * d0.pool.many) ∨ (q = .returned (.int .i64 0) ∧ ∃ d' V', StoreAt o' w' sb d' ∧ SwapOut d0 V k d' V')) := ⟨_, rfl⟩
 rw [← hP]
 have HPP := Lib.hid hP
 clear hP
 obtain ⟨s0, h0⟩ := id st
 obtain ⟨c0, c1, c2, c3, c4, f0⟩ := cells5 h0.blk
 obtain ⟨l0, l1, _⟩ := cells2 h0.lev
 obtain ⟨gv, cv, hvv, hogv, _⟩ := h0.vars.shape (by omega)
 rw [hvv] at l0
 have hsm := hk.small
 have HCOL := Lib.hid (collect_all st hlt hk)
 have HK := Lib.hid hk
 have hz1 : ¬ ((k : Int) ≥ (d.vars.length : Int) - 1) := by omega
 have HTOP := Lib.hid htop
 clear h0 hvv st hlt hk hogv htop c1 c2 c3 c4 f0 l1
 go_enter Tryz.func100, Tryz.ntmps100
 go_wp2_with fail
 refine HCOL.out.mono ?_
 rintro q w1 ⟨rfl, o1, d0, ⟨s, h1⟩, hl1, hr1, hc1⟩
 have hok1 := hr1.ok HK.out
 obtain ⟨x, hx⟩ : ∃ x, x = d0.vars.getD k 0 := ⟨_, rfl⟩
 obtain ⟨y, hy⟩ : ∃ y, y = d0.vars.getD (k + 1) 0 := ⟨_, rfl⟩
 have hv1 : d0.vars.length = d.vars.length := by rw [hr1.vars]
 have FR : SwF d0 V k x y := ⟨⟨by omega, hx.symm, hy.symm⟩, hok1, h1.len, fun i => by
  cases hi : nodesOf d0 i with
  | none => rw [extOf_none hi]; omega
  | some b => rw [hr1.ext i b hi]; exact HTOP.out i⟩
 have hxl := FR.facts.1
 have hyl := FR.facts.2.1
 obtain ⟨c0, c1, c2, c3, c4, f0⟩ := cells5 h1.blk
 obtain ⟨l0, l1, _⟩ := cells2 h1.lev
 obtain ⟨gv, cv, hvv, hogv, _⟩ := h1.vars.shape (by omega)
 have r1 := h1.vars
 rw [hvv] at r1 l0
 have a0 := r1.cell k (by simp; omega)
 have a1 := r1.cell (k + 1) (by simp; omega)
 rw [nat64_get (by omega), ← hx] at a0
 rw [nat64_get (by omega), ← hy] at a1
 have hk0 : (k : Int) < d0.vars.length := by omega
 have hk2 : (k : Int) + 1 < d0.vars.length := by omega
 have HTURN := Lib.hid (turn_any ⟨s, h1.below hl1 (below_draw w1 1)⟩ (hl1.mono (below_draw w1 1).size) hok1 x y hxl)
 have HFR := Lib.hid FR
 have H1 := Lib.hid h1
 have HL1 := Lib.hid hl1
 have HR1 := Lib.hid hr1
 have HC1 := Lib.hid hc1
 have hsm0 : d0.vars.length ≤ 64 := by omega
 have HV1 := Lib.hid hv1
 have hwr : IntKind.i64.wrap ((k : Int) + 1) = ((k + 1 : Nat) : Int) := by rw [IntWalk.i64_in _ (by omega)]; rfl
 clear h1 hl1 hr1 hc1 hok1 hvv hogv r1 hx hy FR HCOL hv1 hz1
 go_upto_region 6 with fail
 refine wp_region_mix (fun W : World => W.cell? ⟨sb, 0, none⟩ = some (.pointer (some ⟨s.lb, 0, none⟩)) ∧ W.cell? ⟨s.lb, 0, none⟩ = some (.slice (some ⟨gv, 0, none⟩) d0.vars.length cv) ∧ W.cell? ⟨gv, k, none⟩ = some (.int .i64 (x : Nat)) ∧ W.cell? ⟨gv, k + 1, none⟩ = some (.int .i64 (y : Nat))) false 23 [(0, false), (1, false), (2, false), (3, false), (4, false), (5, false), (6, false), (7, false), (8, false), (9, false), (10, false), (11, false), (12, false), (13, false), (14, false), (15, false), (16, false), (17, false), (18, false), (19, false), (20, false), (21, false), (22, false)] (by kernel_rfl) (by kernel_rfl) ⟨c0, l0, a0, a1⟩ ?_
 simp only [planned, plnLz]
 iterate 23
  refine mix_readE rfl ?_
  apply Exists.intro
  refine ⟨fun w' hw => ?_, ?_⟩
  ·
   obtain ⟨h1, h2, h3, h4⟩ := hw
   go_simp
   rfl
  simp only [putLz]
 refine mix_end ?_
 go_wp2_with fail
 refine HTURN.out.mono ?_
 rintro q w2 ⟨v, ids, rfl, hnd, hids, hrow, hb2⟩
 obtain ⟨ts, hts⟩ : ∃ ts, ts = ids.map (tnOf d0 y) := ⟨_, rfl⟩
 rw [← hts] at hrow
 have hb2' : Below w1.heap.size w1 w2 := ⟨hb2.os, hb2.tape, hb2.output, hb2.size, fun q hq => hb2.block q hq⟩
 have h2 := H1.out.below HL1.out hb2'
 have hl2 := HL1.out.mono hb2'.size
 have HTI : Hid (∀ i ∈ ids, ∃ b, TurnI d0 V x y i b) := Lib.hid fun i hi => turn_info HFR.out H1.out ((hids i).1 hi)
 have hbnd : ∀ t ∈ ts, t.ll < eMax ∧ t.lh < eMax ∧ t.hl < eMax ∧ t.hh < eMax := by
  intro t ht
  rw [hts] at ht
  obtain ⟨i, hi, rfl⟩ := List.mem_map.1 ht
  obtain ⟨b, tb⟩ := HTI.out i hi
  have q1 := H1.out.edge_lt tb.val.f1.1
  have q2 := H1.out.edge_lt tb.val.f2.1
  have q3 := H1.out.edge_lt tb.val.f3.1
  have q4 := H1.out.edge_lt tb.val.f4.1
  unfold eMax
  omega
 have HWANT := Lib.hid (wants_any h2 hl2 x hxl hrow hbnd)
 have HRO := Lib.hid fun W (hb : Below w2.heap.size w2 W) => storeRoom_any ⟨s, h2.below hl2 hb⟩
 have HLE := Lib.hid fun W (hb : Below w2.heap.size w2 W) => storeLen_any ⟨s, h2.below hl2 hb⟩
 have hpm := H1.out.pool.many
 have hpt := H1.out.pool.top
 have hpr := H1.out.pool.room
 have HIM : Hid (ids.length ≤ d0.pool.many) := Lib.hid (ids_many hnd (fun i hi => by
  obtain ⟨b, tb⟩ := HTI.out i hi
  exact (nodesOf_some tb.node).1) (fun i hi => (H1.out.pool.tk_lt hi).2) H1.out.pool.cnt)
 have HH2 := Lib.hid h2
 have HL2 := Lib.hid hl2
 have HB2 := Lib.hid hb2'
 have HROW := Lib.hid hrow
 have HIDS := Lib.hid hids
 have HND := Lib.hid hnd
 have HTS := Lib.hid hts
 have hb0 : w1.heap.size ≤ w2.heap.size := hb2'.size
 clear hb2 hb2' h2 hl2 hrow hids hnd hbnd c0 c1 c2 c3 c4 f0 l0 l1 a0 a1 hk0 hk2 hwr hts
 go_wp2_with fail
 refine HWANT.out.mono ?_
 rintro q w3 ⟨Wt, rfl, hwp, hb3⟩
 have HWP := Lib.hid hwp
 have HB3 := Lib.hid hb3
 have hwl : Wt.length ≤ 2 * ts.length := by have := hwp.len; rw [pairs_len] at this; exact this
 have htl : ts.length = ids.length := by rw [HTS.out, List.length_map]
 have him := HIM.out
 have HRO3 := Lib.hid (HRO.out w3 hb3)
 have HLE3 := Lib.hid (HLE.out w3 hb3)
 clear hwp hb3 HWANT
 go_wp2_with fail
 refine HRO3.out.mono ?_
 rintro q w' ⟨rfl, rfl⟩
 go_wp2_with fail
 refine HLE3.out.mono ?_
 rintro q w' ⟨rfl, rfl⟩
 by_cases hfit : (Wt.length : Int) > (d0.pool.room : Int) - (d0.pool.many : Int)
 ·
  have HF : Hid (P (.returned (.int .i64 7)) w3) := by
   rw [HPP.out]
   exact Lib.hid ⟨o1, d0, HR1.out, HL2.out.mono HB3.out.size, HC1.out.trans ((Chg.of_below HB2.out _ _).trans (Chg.of_below HB3.out _ _)), .inl ⟨rfl, ⟨s, HH2.out.below HL2.out HB3.out⟩, by omega⟩⟩
  clear htl
  go_wp2_with fail
  exact HF.out
 have HFIT : Hid (d0.pool.many + Wt.length ≤ d0.pool.room) := Lib.hid (by omega)
 have h3 := HH2.out.below HL2.out HB3.out
 have hl3 := HL2.out.mono HB3.out.size
 obtain ⟨c0, c1, c2, c3, c4, f0⟩ := cells5 h3.blk
 have HSWAP := Lib.hid (levelsSwap_any h3 k (by have := HFR.out.v.k1; exact this) HFR.out.ok.small (by rw [h3.len]; rw [HFR.out.v.x]; exact hxl) (by rw [h3.len]; rw [HFR.out.v.y]; exact hyl))
 have HH3 := Lib.hid h3
 have HL3 := Lib.hid hl3
 clear h3 hl3
 go_wp2_with fail
 refine HSWAP.out.mono ?_
 rintro q w4 ⟨rfl, h4, hc4⟩
 have hrow3 := (HROW.out.below HB3.out)
 have hno3 : 0 < ts.length → ∀ g, v.ownBlock = some g → o1 g = none := fun hp g hg => HL1.out.none (HROW.out.blk hp g hg).1
 have HI0 : Hid (CutI d0 k x ids sb s o1 w1 w1.heap.size v ts 0 w4 o1 (swapD d0 k)) := Lib.hid ⟨h4, HL3.out.mono hc4.size, (CutS.start d0 k x).congr (fun i => by simp), hrow3.chg hc4 hno3, hno3, (Chg.of_below HB2.out _ _).trans ((Chg.of_below HB3.out _ _).trans hc4)⟩
 obtain ⟨av, cvv, hvs, _⟩ := HROW.out.ex
 rw [htl] at hvs
 have HIB : Hid (ids.length ≤ 1048578) := Lib.hid (by have := HROW.out.small; omega)
 clear hrow3 hno3 h4 hc4 HSWAP c0 c1 c2 c3 c4 f0 him hwl
 subst hvs
 go_wp2_with fail
 go_loopw [77] (fun s77 wr => ∃ j : Nat, j ≤ ids.length ∧ s77 = .int .i64 j ∧ Hid (∃ o d, CutI d0 k x ids sb s o1 w1 w1.heap.size (.slice av ids.length cvv) ts j wr o d)) (fun s77 _ => ids.length - (intOf s77).toNat)
 case atStart => exact ⟨0, Nat.zero_le _, rfl, Lib.hid ⟨o1, _, HI0.out⟩⟩
 case round =>
  obtain ⟨j, hj, rfl, HCI⟩ := hrel
  by_cases hlt : j < ids.length
  ·
   obtain ⟨oj, dj, hci⟩ := HCI.out
   obtain ⟨a', c', ea, hcells⟩ := hci.row.ex
   rw [htl] at ea
   injection ea with ea1 ea2 ea3
   obtain ⟨g, hg, _, hcell⟩ := hcells j (by omega)
   rw [hg] at ea1
   subst ea1
   obtain ⟨i, hi⟩ : ∃ i, i = ids[j] := ⟨_, rfl⟩
   have htj : ts[j]'(by omega) = tnOf d0 y i := by rw [hi]; simp [HTS.out]
   rw [htj] at hcell
   obtain ⟨b, tb⟩ := HTI.out i (by rw [hi]; exact List.getElem_mem hlt)
   have htn : tnOf d0 y i = ⟨d0.pool.nd i, (tnOf d0 y i).ll, (tnOf d0 y i).lh, (tnOf d0 y i).hl, (tnOf d0 y i).hh⟩ := rfl
   obtain ⟨N, hN⟩ : ∃ N, N = d0.pool.nd i := ⟨_, rfl⟩
   obtain ⟨ll, hll⟩ : ∃ q, q = (tnOf d0 y i).ll := ⟨_, rfl⟩
   obtain ⟨lh, hlh⟩ : ∃ q, q = (tnOf d0 y i).lh := ⟨_, rfl⟩
   obtain ⟨hl, hhl⟩ : ∃ q, q = (tnOf d0 y i).hl := ⟨_, rfl⟩
   obtain ⟨hh, hhh⟩ : ∃ q, q = (tnOf d0 y i).hh := ⟨_, rfl⟩
   rw [htn, ← hN, ← hll, ← hlh, ← hhl, ← hhh] at hcell
   have e0 : wr.cell? ⟨g, j * 9, none⟩ = some _ := hcell 0 _ rfl
   have e1 := hcell 1 _ rfl
   have e2 := hcell 2 _ rfl
   have e3 := hcell 3 _ rfl
   have e4 := hcell 4 _ rfl
   have e5 := hcell 5 _ rfl
   have e6 := hcell 6 _ rfl
   have e7 := hcell 7 _ rfl
   have e8 := hcell 8 _ rfl
   have hlo : N.lo = b.lo := by rw [hN]; exact tb.lo
   have hhi : N.hi = b.hi := by rw [hN]; exact tb.hi
   have HCIJ := Lib.hid hci
   have HIJ := Lib.hid hi
   have HTB := Lib.hid tb
   have HLO := Lib.hid hlo
   have HHI := Lib.hid hhi
   have hjz : (j : Int) < ids.length := by omega
   have hib := HIB.out
   have hjs : (j : Int) + 1 ≤ 1048578 := by omega
   have hxl := HFR.out.facts.1
   have hti : d0.tab x (N.lo, N.hi) = some i := by
    rw [hlo, hhi]
    refine (HFR.out.ok.tab x hxl _ _ _).2 ?_
    rw [tb.node, ← tb.v]
   have hnt : ¬ i ∈ ids.take j := by
    intro hm
    have hnn := HND.out
    rw [← List.take_append_drop j ids, List.nodup_append] at hnn
    refine hnn.2.2 i hm i ?_ rfl
    rw [List.drop_eq_getElem_cons hlt, hi]
    exact List.mem_cons_self
   have hft : dj.tab x (N.lo, N.hi) = some i := hci.cut.has hti hnt
   have hvd : x < dj.vars.length := by rw [hci.cut.vars, swapD_len]; exact hxl
   have hTE : (fun u => if u = x then putF (dj.tab u) (N.lo, N.hi) none else dj.tab u) = (fun u => if u = x then putF (dj.tab x) (N.lo, N.hi) none else dj.tab u) := by funext u; by_cases e : u = x <;> simp [e]
   have HNXT : Hid (CutS d0 k x (fun q => q ∈ ids.take (j + 1)) { dj with tab := fun u => if u = x then putF (dj.tab x) (N.lo, N.hi) none else dj.tab u }) := Lib.hid (by
    have q1 := (hci.cut.next HFR.out.ok hxl hti).congr (g' := fun q => q ∈ ids.take (j + 1)) (fun q => by
     rw [List.take_succ_eq_append_getElem hlt, List.mem_append, List.mem_singleton, hi])
    rw [hTE] at q1
    exact q1)
   obtain ⟨wz, hwz⟩ : ∃ W, W = wr.alloc (.cells #[.int .i64 N.id, .int .i64 N.v, .int .i64 N.lo, .int .i64 N.hi, .int .i64 N.refs, .int .i64 ll, .int .i64 lh, .int .i64 hl, .int .i64 hh] 181) := ⟨_, rfl⟩
   have hbz : Below wr.heap.size wr wz := by rw [hwz]; exact below_new1 wr _
   have hz := heap_alloc_new wr (.cells #[.int .i64 N.id, .int .i64 N.v, .int .i64 N.lo, .int .i64 N.hi, .int .i64 N.refs, .int .i64 ll, .int .i64 lh, .int .i64 hl, .int .i64 hh] 181)
   rw [← hwz] at hz
   have z2 : wz.cell? ⟨wr.heap.size, 2, none⟩ = some (.int .i64 N.lo) := by rw [cell_of_row wz _ 2 _ _ _ hz]; rfl
   have z3 : wz.cell? ⟨wr.heap.size, 3, none⟩ = some (.int .i64 N.hi) := by rw [cell_of_row wz _ 3 _ _ _ hz]; rfl
   have hstz := hci.st.below hci.lt hbz
   have hltz := hci.lt.mono hbz.size
   obtain ⟨gt, ct, hvt, cellx, hvl⟩ := hstz.tabAt hvd
   obtain ⟨c0, c1, c2, c3, c4, f0⟩ := cells5 hstz.blk
   rw [hvt] at c2
   have hxs : x < s.ts.length := by rw [hstz.tlen]; exact hvd
   have hxi : (x : Int) < s.ts.length := by omega
   have HCUT := Lib.hid (cut_any oj x (s.ts.getD x 0) (dj.tab x) N.lo N.hi i wz.drew ((hstz.below hltz (below_draw wz 1)).tab x hxs) (hltz.mono (below_draw wz 1).size) hft)
   have HCI1 : Hid (CutI d0 k x ids sb s o1 w1 w1.heap.size (.slice (some ⟨g, 0, none⟩) ids.length cvv) ts j wz.drew oj dj) := Lib.hid (hci.move ((hstz.below hltz (below_draw wz 1))) (Chg.of_below (hbz.trans ((below_draw wz 1).mono hbz.size)) RStore oj) (fun _ h => h) (hltz.mono (below_draw wz 1).size) hci.cut)
   have HWZ := Lib.hid hwz
   have HJL := Lib.hid hlt
   clear hcells hcell htj htn hci tb hN hll hlh hhl hhh hi hlo hhi HCI hti hnt hft hvd hbz hz hstz hltz hvt hxs hwz c0 c1 c3 c4 f0
   go_upto_region 14 with fail
   rw [← HWZ.out]
   refine wp_region_mix (fun W : World => W = wz.drew) true 13 [(0, false), (1, false), (2, false), (3, false), (4, false), (5, false), (6, false), (7, false), (8, false), (9, false), (10, false), (11, false), (12, false), (13, true)] (by kernel_rfl) (by kernel_rfl) rfl ?_
   simp only [planned, plnLz]
   iterate 13
    refine mix_readE rfl ?_
    apply Exists.intro
    refine ⟨fun w' hw => ?_, ?_⟩
    ·
     subst hw
     go_simp
     rfl
    simp only [putLz]
   refine mix_lastCall rfl (by go_simp) (HCUT.out.mono (R' := fun e w' => ∃ v, e = .returned v ∧ (v = .int .i64 0 ∧ TabIs oj w' x (s.ts.getD x 0) (putF (dj.tab x) (N.lo, N.hi) none) ∧ Chg (· = .tmap x) oj oj wz.drew w' ∧ OwnLt oj w')) (fun e w' h => ⟨_, h.1, rfl, h.2⟩)) ?_
   rintro _ w5 ⟨rfl, ht5, hc5, hl5⟩
   simp only [putLz]
   refine np_normal ?_
   have HNX := Lib.hid (HCI1.out.move (HCI1.out.st.setTab HCI1.out.lt ht5 hc5) hc5 (fun r hr => by simp [RStore, hr]) hl5 HNXT.out)
   clear ht5 hc5 hl5 c2 cellx hxi e0 e1 e2 e3 e4 e5 e6 e7 e8 z2 z3
   go_wp2_with fail
   go_roundw
   case rel => exact ⟨j + 1, Nat.succ_le_of_lt HJL.out, by go_num, Lib.hid ⟨_, _, HNX.out⟩⟩
   case measure =>
    have := HJL.out
    have := HIB.out
    simp [intOf]
    omega
  ·
   obtain rfl : j = ids.length := by omega
   obtain ⟨oe, de, hce⟩ := HCI.out
   have HRI0 : Hid (∃ o d V', RndI sb o1 w1 w1.heap.size (.slice av ids.length cvv) ts wr o d ∧ SwMid d0 V k x y Wt (extOf d0) (fun i => i ∈ ids.take 0) d V') := Lib.hid ⟨oe, de, V, ⟨⟨s, hce.st⟩, hce.lt, hce.row, hce.no, hce.chg⟩, (SwMid.start hce.cut HFR.out.ok HFR.out.facts.1 HR1.out.dead (fun i => by rw [List.take_length]; exact (HIDS.out i).symm) HWP.out).congr (fun i => by simp)⟩
   clear hce HCI
   go_wp2_with fail
   go_loopw [98] (fun s98 wr => ∃ j : Nat, j ≤ ids.length ∧ s98 = .int .i64 j ∧ Hid (∃ o d V', RndI sb o1 w1 w1.heap.size (.slice av ids.length cvv) ts wr o d ∧ SwMid d0 V k x y Wt (extOf d0) (fun i => i ∈ ids.take j) d V')) (fun s98 _ => ids.length - (intOf s98).toNat)
   case atStart => exact ⟨0, Nat.zero_le _, rfl, HRI0⟩
   case round =>
    clear HRI0
    obtain ⟨j, hj, rfl, HRI⟩ := hrel
    by_cases hlt : j < ids.length
    ·
     obtain ⟨oj, dj, Vj, hri, hmid⟩ := HRI.out
     obtain ⟨a', c', ea, hcells⟩ := hri.row.ex
     rw [htl] at ea
     injection ea with ea1 ea2 ea3
     clear ea2 ea3
     obtain ⟨g, hg, hgb, hcell⟩ := hcells j (by omega)
     rw [hg] at ea1
     subst ea1
     obtain ⟨i, hi⟩ : ∃ i, i = ids[j] := ⟨_, rfl⟩
     have htj : ts[j]'(by omega) = tnOf d0 y i := by rw [hi]; simp [HTS.out]
     rw [htj] at hcell
     have himem : i ∈ ids := by rw [hi]; exact List.getElem_mem hlt
     obtain ⟨b, tb⟩ := HTI.out i himem
     have htn : tnOf d0 y i = ⟨d0.pool.nd i, (tnOf d0 y i).ll, (tnOf d0 y i).lh, (tnOf d0 y i).hl, (tnOf d0 y i).hh⟩ := rfl
     have HPR : Hid (((tnOf d0 y i).ll, (tnOf d0 y i).hl) ∈ ts.flatMap tnPairs ∧ ((tnOf d0 y i).lh, (tnOf d0 y i).hh) ∈ ts.flatMap tnPairs) := Lib.hid (by
      have hm : tnOf d0 y i ∈ ts := by rw [HTS.out]; exact List.mem_map.2 ⟨i, himem, rfl⟩
      exact ⟨List.mem_flatMap.2 ⟨_, hm, by simp [tnPairs]⟩, List.mem_flatMap.2 ⟨_, hm, by simp [tnPairs]⟩⟩)
     obtain ⟨N, hN⟩ : ∃ N, N = d0.pool.nd i := ⟨_, rfl⟩
     obtain ⟨ll, hll⟩ : ∃ q, q = (tnOf d0 y i).ll := ⟨_, rfl⟩
     obtain ⟨lh, hlh⟩ : ∃ q, q = (tnOf d0 y i).lh := ⟨_, rfl⟩
     obtain ⟨hl, hhl⟩ : ∃ q, q = (tnOf d0 y i).hl := ⟨_, rfl⟩
     obtain ⟨hh, hhh⟩ : ∃ q, q = (tnOf d0 y i).hh := ⟨_, rfl⟩
     rw [htn, ← hN, ← hll, ← hlh, ← hhl, ← hhh] at hcell
     rw [← hll, ← hlh, ← hhl, ← hhh] at HPR
     have e0 : wr.cell? ⟨g, j * 9, none⟩ = some _ := hcell 0 _ rfl
     have e1 := hcell 1 _ rfl
     have e2 := hcell 2 _ rfl
     have e3 := hcell 3 _ rfl
     have e4 := hcell 4 _ rfl
     have e5 := hcell 5 _ rfl
     have e6 := hcell 6 _ rfl
     have e7 := hcell 7 _ rfl
     have e8 := hcell 8 _ rfl
     have hnt : ¬ i ∈ ids.take j := by
      intro hm
      have hnn := HND.out
      rw [← List.take_append_drop j ids, List.nodup_append] at hnn
      refine hnn.2.2 i hm i ?_ rfl
      rw [List.drop_eq_getElem_cons hlt, hi]
      exact List.mem_cons_self
     obtain ⟨wz, hwz⟩ : ∃ W, W = wr.alloc (.cells #[.int .i64 N.id, .int .i64 N.v, .int .i64 N.lo, .int .i64 N.hi, .int .i64 N.refs, .int .i64 ll, .int .i64 lh, .int .i64 hl, .int .i64 hh] 181) := ⟨_, rfl⟩
     have hbz : Below wr.heap.size wr wz.drew := by rw [hwz]; exact below_newdraw wr 1 _
     have hz := heap_alloc_new wr (.cells #[.int .i64 N.id, .int .i64 N.v, .int .i64 N.lo, .int .i64 N.hi, .int .i64 N.refs, .int .i64 ll, .int .i64 lh, .int .i64 hl, .int .i64 hh] 181)
     rw [← hwz] at hz
     obtain ⟨bz, hbzz⟩ : ∃ q, q = wr.heap.size := ⟨_, rfl⟩
     rw [← hbzz] at hz
     have z5 : wz.cell? ⟨bz, 5, none⟩ = some (.int .i64 ll) := by rw [cell_of_row wz _ 5 _ _ _ hz]; rfl
     have z6 : wz.cell? ⟨bz, 6, none⟩ = some (.int .i64 lh) := by rw [cell_of_row wz _ 6 _ _ _ hz]; rfl
     have z7 : wz.cell? ⟨bz, 7, none⟩ = some (.int .i64 hl) := by rw [cell_of_row wz _ 7 _ _ _ hz]; rfl
     have z8 : wz.cell? ⟨bz, 8, none⟩ = some (.int .i64 hh) := by rw [cell_of_row wz _ 8 _ _ _ hz]; rfl
     have HBOX : Hid (Box oj wz.drew bz (.cells #[.int .i64 N.id, .int .i64 N.v, .int .i64 N.lo, .int .i64 N.hi, .int .i64 N.refs, .int .i64 ll, .int .i64 lh, .int .i64 hl, .int .i64 hh] 181 (0, 0))) := Lib.hid ⟨hz, hri.lt.none (by rw [hbzz]; exact Nat.le_refl _)⟩
     have HRZ := Lib.hid (hri.below hbz)
     have HGB : Hid (w1.heap.size ≤ bz ∧ g ≠ bz) := Lib.hid (by
      have h1 := hri.chg.size
      have h2 : g < wr.heap.size := lt_of_cell e0
      exact ⟨by omega, by omega⟩)
     have tv := tb.val
     rw [← hll, ← hlh, ← hhl, ← hhh] at tv
     have HB1 := Lib.hid (below_any HRZ.out.st HRZ.out.lt hmid HFR.out.ok.dag (hmid.acy HFR.out) HFR.out.facts.1 hmid.vlen ll hl tv.f1 tv.f3 (fun h1 h2 => want_key hmid HFR.out HWP.out HPR.out.1 tv.f1 tv.f3 h1 h2) HWP.out.nodup HFIT.out)
     have HB2 : Hid (∀ W o d V', StoreAt o W sb d → OwnLt o W → SwMid d0 V k x y Wt (extOf d0) (fun i => i ∈ ids.take j) d V' → _) := Lib.hid (fun W o d V' st lt m => below_any st lt m HFR.out.ok.dag (m.acy HFR.out) HFR.out.facts.1 m.vlen lh hh tv.f2 tv.f4 (fun h1 h2 => want_key m HFR.out HWP.out HPR.out.2 tv.f2 tv.f4 h1 h2) HWP.out.nodup HFIT.out)
     have HBOTH : Hid (∀ r1 r2 d1 d2 V1 V2, BelowR d0 V k x y Wt (fun i => i ∈ ids.take j) dj Vj ll hl r1 d1 V1 → BelowR d0 V k x y Wt (fun i => i ∈ ids.take j) d1 V1 lh hh r2 d2 V2 → BothR d0 V k x y Wt (fun i => i ∈ ids.take j) i r1 r2 d2 V2) := Lib.hid (by
      intro r1 r2 d1 d2 V1 V2 h1 h2
      rw [hll, hhl] at h1
      rw [hlh, hhh] at h2
      exact BothR.of HFR.out tb h1 h2)
     have HN : Hid (N.lo = b.lo ∧ N.hi = b.hi ∧ N.id = i ∧ (N.refs : Int) = extOf d0 i) := Lib.hid (by rw [hN]; exact ⟨tb.lo, tb.hi, tb.id, (extOf_node (nodesOf_some tb.node).1).symm⟩)
     have HT : Hid (Turns (nodesOf d0) x y i) := Lib.hid ((HIDS.out i).1 himem)
     have HNT := Lib.hid hnt
     have HTB := Lib.hid tb
     have HTK : Hid (∀ q, (q ∈ ids.take j ∨ q = i) ↔ q ∈ ids.take (j + 1)) := Lib.hid (fun q => by rw [List.take_succ_eq_append_getElem hlt, List.mem_append, List.mem_singleton, hi])
     have hjz : (j : Int) < ids.length := by omega
     have hib := HIB.out
     have hjs : (j : Int) + 1 ≤ 1048578 := by omega
     have HWZ := Lib.hid hwz
     have HBZ := Lib.hid hbzz
     have HJL := Lib.hid hlt
     clear hcells hcell htj htn hri hmid tb tv hN hll hlh hhl hhh hi HRI hnt hbz hz hwz hbzz himem hgb
     go_upto_region 19 with fail
     rw [← HBZ.out, ← HWZ.out]
     clear e0 e1 e2 e3 e4 e5 e6 e7 e8
     refine wp_region_mix (fun W : World => W.cell? ⟨bz, 5, none⟩ = some (.int .i64 ll) ∧ W.cell? ⟨bz, 6, none⟩ = some (.int .i64 lh) ∧ W.cell? ⟨bz, 7, none⟩ = some (.int .i64 hl) ∧ W.cell? ⟨bz, 8, none⟩ = some (.int .i64 hh)) false 16 [(0, false), (1, false), (2, false), (3, false), (4, false), (5, false), (7, false), (8, false), (9, false), (10, false), (11, false), (12, false), (6, true), (13, true), (14, false), (15, false)] (by kernel_rfl) (by kernel_rfl) ⟨z5, z6, z7, z8⟩ ?_
     simp only [planned, plnLz]
     iterate 12
      refine mix_readE rfl ?_
      apply Exists.intro
      refine ⟨fun w' hw => ?_, ?_⟩
      ·
       obtain ⟨q5, q6, q7, q8⟩ := hw
       go_simp
       rfl
      simp only [putLz]
     refine mix_callR (R := fun v w' => ∃ r : Nat, v = .int .i64 r ∧ ∃ o' d' V', RndI sb o1 w1 w1.heap.size (.slice (some ⟨g, 0, none⟩) ids.length cvv) ts w' o' d' ∧ BelowR d0 V k x y Wt (fun i => i ∈ ids.take j) dj Vj ll hl r d' V' ∧ Box o' w' bz (.cells #[.int .i64 N.id, .int .i64 N.v, .int .i64 N.lo, .int .i64 N.hi, .int .i64 N.refs, .int .i64 ll, .int .i64 lh, .int .i64 hl, .int .i64 hh] 181 (0, 0))) rfl (by go_simp) (HB1.out.mono (fun e w' he => ?_)) ?_
     ·
      obtain ⟨r, rfl, o', d', V', st', lt', hbr, hvl', hc'⟩ := he
      have hb' := HBOX.out.chg hc'
      exact ⟨_, rfl, ⟨hb'.cell 5, hb'.cell 6, hb'.cell 7, hb'.cell 8⟩, r, rfl, o', d', V', HRZ.out.move st' lt' hc' (fun _ h => h), hbr, hb'⟩
     rintro v w5 - ⟨r1, rfl, o5, d5, V5, hr5, hbr5, hbx5⟩
     simp only [putLz]
     refine mix_callR (R := fun v w' => ∃ r : Nat, v = .int .i64 r ∧ ∃ o' d' V', RndI sb o1 w1 w1.heap.size (.slice (some ⟨g, 0, none⟩) ids.length cvv) ts w' o' d' ∧ BothR d0 V k x y Wt (fun i => i ∈ ids.take j) i r1 r d' V' ∧ Box o' w' bz (.cells #[.int .i64 N.id, .int .i64 N.v, .int .i64 N.lo, .int .i64 N.hi, .int .i64 N.refs, .int .i64 ll, .int .i64 lh, .int .i64 hl, .int .i64 hh] 181 (0, 0))) rfl (by go_simp) ((HB2.out w5 o5 d5 V5 hr5.st hr5.lt hbr5.mid).mono (fun e w' he => ?_)) ?_
     ·
      obtain ⟨r, rfl, o', d', V', st', lt', hbr, hvl', hc'⟩ := he
      have hb' := hbx5.chg hc'
      exact ⟨_, rfl, ⟨hb'.cell 5, hb'.cell 6, hb'.cell 7, hb'.cell 8⟩, r, rfl, o', d', V', hr5.move st' lt' hc' (fun _ h => h), HBOTH.out _ _ _ _ _ _ hbr5 hbr, hb'⟩
     rintro v w6 - ⟨r2, rfl, o6, d6, V6, hr6, hbo, hbx6⟩
     simp only [putLz]
     iterate 2
      refine mix_readE rfl ?_
      apply Exists.intro
      refine ⟨fun w' hw => ?_, ?_⟩
      ·
       obtain ⟨q5, q6, q7, q8⟩ := hw
       go_simp
       rfl
      simp only [putLz]
     refine mix_end ?_
     have HR6 := Lib.hid hr6
     have HBO := Lib.hid hbo
     have HBX6 := Lib.hid hbx6
     have HM1 := Lib.hid (mid_more hr6.st hr6.lt HFR.out hbo.mid hbo.e1 (fun i => by have := HFR.out.top i; omega))
     clear hr6 hbo hbx6 hr5 hbr5 hbx5 z5 z6 z7 z8 HB1 HB2
     go_wp2_with fail
     refine HM1.out.mono ?_
     rintro q w7 ⟨rfl, d7, st7, lt7, m7, n7, p7, c7⟩
     have HR7 := Lib.hid (HR6.out.move st7 lt7 c7 (fun _ h => h))
     have HBX7 := Lib.hid (HBX6.out.chg c7)
     have HM2 := Lib.hid (mid_more st7 lt7 HFR.out m7 (n7 ▸ HBO.out.e2) (fun i => by
      have := HFR.out.top i
      have h2 : toE r1 i ≤ 1 := by unfold toE; split <;> omega
      unfold addE; omega))
     have HN7 : Hid (nodesOf d7 = nodesOf d6 ∧ d7.pool = d6.pool) := Lib.hid ⟨n7, p7⟩
     clear st7 lt7 m7 n7 p7 c7
     go_wp2_with fail
     refine HM2.out.mono ?_
     rintro q w8 ⟨rfl, d8, st8, lt8, m8, n8, p8, c8⟩
     have HR8 := Lib.hid (HR7.out.move st8 lt8 c8 (fun _ h => h))
     have HBX8 := Lib.hid (HBX7.out.chg c8)
     have HM8 := Lib.hid m8
     have HN8 : Hid (nodesOf d8 = nodesOf d6 ∧ d8.pool = d6.pool) := Lib.hid ⟨n8.trans HN7.out.1, p8.trans HN7.out.2⟩
     clear st8 lt8 m8 n8 p8 c8
     have x0 : w8.cell? ⟨bz, 0, none⟩ = some (.int .i64 N.id) := HBX8.out.cell 0
     have x1 : w8.cell? ⟨bz, 1, none⟩ = some (.int .i64 N.v) := HBX8.out.cell 1
     have x2 : w8.cell? ⟨bz, 2, none⟩ = some (.int .i64 N.lo) := HBX8.out.cell 2
     have x3 : w8.cell? ⟨bz, 3, none⟩ = some (.int .i64 N.hi) := HBX8.out.cell 3
     have x4 : w8.cell? ⟨bz, 4, none⟩ = some (.int .i64 N.refs) := HBX8.out.cell 4
     have xf : ∀ q, w8.frozen? ⟨bz, q, none⟩ = false := fun q => by simp [World.frozen?, HBX8.out.blk]
     go_upto_region 23 with fail
     obtain ⟨wo, hwo⟩ : ∃ W, W = w8.alloc (.cells #[.int .i64 N.id, .int .i64 N.v, .int .i64 N.lo, .int .i64 N.hi, .int .i64 N.refs] 157) := ⟨_, rfl⟩
     have hbo : Below w8.heap.size w8 wo := by rw [hwo]; exact below_new1 w8 _
     have hob := heap_alloc_new w8 (.cells #[.int .i64 N.id, .int .i64 N.v, .int .i64 N.lo, .int .i64 N.hi, .int .i64 N.refs] 157)
     rw [← hwo] at hob
     obtain ⟨bo, hboo⟩ : ∃ q, q = w8.heap.size := ⟨_, rfl⟩
     rw [← hboo] at hob
     have hne : bz ≠ bo := by
      have := lt_of_cell x0
      have h2 : bz < w8.heap.size := this
      omega
     have HBXO : Hid (Box o6 wo bz (.cells #[.int .i64 N.id, .int .i64 N.v, .int .i64 N.lo, .int .i64 N.hi, .int .i64 N.refs, .int .i64 ll, .int .i64 lh, .int .i64 hl, .int .i64 hh] 181 (0, 0))) := Lib.hid (HBX8.out.chg (Chg.of_below hbo RStore o6))
     have HRO := Lib.hid (HR8.out.below hbo)
     have HBOO : Hid (Box o6 wo bo (.cells #[.int .i64 N.id, .int .i64 N.v, .int .i64 N.lo, .int .i64 N.hi, .int .i64 N.refs] 157 (0, 0))) := Lib.hid ⟨hob, HR8.out.lt.none (by rw [hboo]; exact Nat.le_refl _)⟩
     obtain ⟨wa, hwa⟩ : ∃ W, W = (wo.setCell ⟨bz, 1, none⟩ (.int .i64 y)).setCell ⟨bz, 2, none⟩ (.int .i64 r1) := ⟨_, rfl⟩
     obtain ⟨wb, hwb⟩ : ∃ W, W = wa.setCell ⟨bz, 3, none⟩ (.int .i64 r2) := ⟨_, rfl⟩
     have HV : ∀ q, 0 < ts.length → Value.ownBlock (.slice (some ⟨g, 0, none⟩) ids.length cvv) = some q → q ≠ bz := fun q _ hq => by cases hq; exact HGB.out.2
     have HRB : Hid (RndI sb o1 w1 w1.heap.size (.slice (some ⟨g, 0, none⟩) ids.length cvv) ts wb.drew o6 d8) := Lib.hid (by
      rw [hwb, hwa]
      exact (((HRO.out.write HBXO.out.no HGB.out.1 HV 1 _).write HBXO.out.no HGB.out.1 HV 2 _).write HBXO.out.no HGB.out.1 HV 3 _).below (below_draw _ 1))
     have hrefs := HN.out.2.2.2
     have HBXB : Hid (Box o6 wb.drew bz (.cells #[.int .i64 i, .int .i64 y, .int .i64 r1, .int .i64 r2, .int .i64 N.refs, .int .i64 ll, .int .i64 lh, .int .i64 hl, .int .i64 hh] 181 (0, 0))) := Lib.hid (by
      rw [hwb, hwa]
      have h := ((HBXO.out.set 1 (.int .i64 y)).set 2 (.int .i64 r1)).set 3 (.int .i64 r2)
      rw [HN.out.2.2.1] at h
      exact ⟨h.blk, h.no⟩)
     have HBOB : Hid (Box o6 wb.drew bo (.cells #[.int .i64 i, .int .i64 N.v, .int .i64 b.lo, .int .i64 b.hi, .int .i64 N.refs] 157 (0, 0))) := Lib.hid (by
      rw [hwb, hwa]
      have h := ((HBOO.out.other (p := ⟨bz, 1, none⟩) (u := .int .i64 y) (Ne.symm hne)).other (p := ⟨bz, 2, none⟩) (u := .int .i64 r1) (Ne.symm hne)).other (p := ⟨bz, 3, none⟩) (u := .int .i64 r2) (Ne.symm hne)
      rw [HN.out.2.2.1, HN.out.1, HN.out.2.1] at h
      exact ⟨h.blk, h.no⟩)
     have y1 : wo.cell? ⟨bz, 1, none⟩ = some (.int .i64 N.v) := HBXO.out.cell 1
     have y2 : wo.cell? ⟨bz, 2, none⟩ = some (.int .i64 N.lo) := HBXO.out.cell 2
     have y3 : wo.cell? ⟨bz, 3, none⟩ = some (.int .i64 N.hi) := HBXO.out.cell 3
     have yf : ∀ q, wo.frozen? ⟨bz, q, none⟩ = false := fun q => by simp [World.frozen?, HBXO.out.blk]
     have HWO := Lib.hid hwo
     have HBOE := Lib.hid hboo
     have HWA := Lib.hid hwa
     have HWB := Lib.hid hwb
     have HNE := Lib.hid hne
     clear hwo hbo hob hboo hne hwa hwb HV hrefs x0 x1 x2 x3 x4 xf
     rw [← HWO.out, ← HBOE.out]
     go_upto_region 24 with fail
     rw [← HWA.out, ← HWB.out]
     obtain ⟨s9, h9⟩ := HRB.out.st
     obtain ⟨k0, k1, k2, k3, k4, kf⟩ := cells5 h9.blk
     have hdi : d8.pool.tk i = true := by
      have h1 : nodesOf d8 i = some b := HM8.out.mid.keep i b HTB.out.node HNT.out
      exact (nodesOf_some h1).1
     have HTD := Lib.hid (HM8.out.turned (n := ⟨i, y, r1, r2, N.refs⟩) HFR.out HT.out HNT.out HTB.out.node (HN8.out.1 ▸ HBO.out.e1) (HN8.out.1 ▸ HBO.out.e2) HBO.out.reg HBO.out.ne HBO.out.val rfl HN.out.2.2.2 (h9.pool.tk_lt hdi).2)
     have HSET := Lib.hid (turn_set (n := ⟨i, y, r1, r2, N.refs⟩) HRB.out h9 hdi HBXB.out HBOB.out)
     unfold rnAgg at HSET
     have n0 : wb.cell? ⟨bz, 0, none⟩ = some (.int .i64 i) := HBXB.out.cell 0
     have n1 : wb.cell? ⟨bz, 1, none⟩ = some (.int .i64 y) := HBXB.out.cell 1
     have n2 : wb.cell? ⟨bz, 2, none⟩ = some (.int .i64 r1) := HBXB.out.cell 2
     have n3 : wb.cell? ⟨bz, 3, none⟩ = some (.int .i64 r2) := HBXB.out.cell 3
     have n4 : wb.cell? ⟨bz, 4, none⟩ = some (.int .i64 N.refs) := HBXB.out.cell 4
     have k1' : wb.cell? ⟨sb, 1, none⟩ = some (.pointer (some ⟨s9.pb, 0, none⟩)) := k1
     have HL9 : Hid (s9.ts.length = d0.vars.length) := Lib.hid (by rw [h9.tlen, HM8.out.vlen])
     clear k0 k1 k2 k3 k4 kf h9 hdi y1 y2 y3 yf
     refine wp_region_mix (fun W : World => W = wb.drew) true 6 [(0, false), (1, false), (2, false), (3, false), (4, false), (5, false), (6, true)] (by kernel_rfl) (by kernel_rfl) rfl ?_
     simp only [planned, plnLz]
     iterate 6
      refine mix_readE rfl ?_
      apply Exists.intro
      refine ⟨fun w' hw => ?_, ?_⟩
      ·
       subst hw
       go_simp
       rfl
      simp only [putLz]
     refine mix_lastCall rfl (by go_simp) HSET.out ?_
     rintro _ w10 ⟨rfl, hr10, h10, hx10, hy10⟩
     simp only [putLz]
     refine np_normal ?_
     clear n0 n1 n2 n3 n4 k1'
     have hd10 := h10.below hr10.lt (below_draw w10 1)
     have hyl2 : y < s9.ts.length := by rw [HL9.out]; exact HFR.out.facts.2.1
     have hyi : (y : Int) < s9.ts.length := by omega
     obtain ⟨gt, ct, hvt, celly, hvl⟩ := h10.tabAt (v := y) (by show y < d8.vars.length; rw [HM8.out.vlen]; exact HFR.out.facts.2.1)
     obtain ⟨k0, k1, k2, k3, k4, kf⟩ := cells5 h10.blk
     rw [hvt] at k2
     have HPUT := Lib.hid (turn_put (id := i) (hr10.below (below_draw w10 1)) hd10 hyl2 HTD.out.1 (hx10.chg (Chg.of_below (below_draw w10 1) RStore o6)) (hy10.chg (Chg.of_below (below_draw w10 1) RStore o6)))
     have n0 : w10.cell? ⟨bz, 0, none⟩ = some (.int .i64 i) := hx10.cell 0
     clear hr10 h10 hx10 hy10 hd10 hvt k0 k1 k3 k4 kf hyl2
     go_upto_region 25 with fail
     refine wp_region_mix (fun W : World => W = w10.drew) true 12 [(0, false), (1, false), (2, false), (3, false), (4, false), (5, false), (6, false), (7, false), (8, false), (9, false), (10, false), (11, false), (12, true)] (by kernel_rfl) (by kernel_rfl) rfl ?_
     simp only [planned, plnLz]
     iterate 12
      refine mix_readE rfl ?_
      apply Exists.intro
      refine ⟨fun w' hw => ?_, ?_⟩
      ·
       subst hw
       go_simp
       rfl
      simp only [putLz]
     refine mix_lastCall rfl (by go_simp) HPUT.out ?_
     rintro _ w11 ⟨rfl, hr11, hx11, hy11⟩
     simp only [putLz]
     refine np_normal ?_
     have HR11 := Lib.hid hr11
     have HY11 := Lib.hid hy11
     have HLS := Lib.hid (mid_less hr11.st hr11.lt HFR.out HTD.out.2 HTB.out.node HTB.out.v (.inl rfl) (fun q => by
      have h1 := HFR.out.top q
      have h2 : toE b.lo q ≤ 1 := by unfold toE; split <;> omega
      have h3 : toE b.hi q ≤ 1 := by unfold toE; split <;> omega
      unfold addE; omega) (fun q => by
      have h1 : 0 ≤ extOf d0 q := by unfold extOf; split <;> omega
      have h3 : 0 ≤ toE b.hi q := by unfold toE; split <;> omega
      unfold addE; omega))
     have u2 : w11.cell? ⟨bo, 2, none⟩ = some (.int .i64 b.lo) := hy11.cell 2
     clear hr11 hx11 hy11 n0 k2 celly hyi
     go_wp2_with fail
     refine HLS.out.mono ?_
     rintro q w12 ⟨rfl, d12, st12, lt12, m12, c12⟩
     have HR12 := Lib.hid (HR11.out.move st12 lt12 c12 (fun _ h => h))
     have hy12 := HY11.out.chg c12
     have HLS2 := Lib.hid (mid_less st12 lt12 HFR.out m12 HTB.out.node HTB.out.v (.inr rfl) (fun q => by
      have h1 := HFR.out.top q
      have h2 : toE b.lo q ≤ 1 := by unfold toE; split <;> omega
      have h3 : toE b.hi q ≤ 1 := by unfold toE; split <;> omega
      have h4 : 0 ≤ toE b.lo q := by unfold toE; split <;> omega
      unfold addE; omega) (fun q => by
      have h1 : 0 ≤ extOf d0 q := by unfold extOf; split <;> omega
      unfold addE; omega))
     have u3 : w12.cell? ⟨bo, 3, none⟩ = some (.int .i64 b.hi) := hy12.cell 3
     clear st12 lt12 m12 c12 hy12 u2
     go_wp2_with fail
     refine HLS2.out.mono ?_
     rintro q w13 ⟨rfl, d13, st13, lt13, m13, c13⟩
     rw [addE_back] at m13
     have HNX := Lib.hid (And.intro (HR12.out.move st13 lt13 c13 (fun _ h => h)) (m13.congr HTK.out))
     clear st13 lt13 m13 c13 u3
     go_wp2_with fail
     go_roundw
     case rel => exact ⟨j + 1, Nat.succ_le_of_lt HJL.out, by go_num, Lib.hid ⟨_, _, _, HNX.out.1, HNX.out.2⟩⟩
     case measure =>
      have := HJL.out
      have := HIB.out
      simp [intOf]
      omega
    ·
     obtain rfl : j = ids.length := by omega
     obtain ⟨oe, de, Ve, hre, hme⟩ := HRI.out
     have hok := hme.final HFR.out.v HFR.out.ok HFR.out.lev (fun i hT => by rw [List.take_length]; exact (HIDS.out i).2 hT)
     have HCE := Lib.hid (collect_all hre.st hre.lt hok)
     have HFIN : Hid (∀ w' o' d', StoreAt o' w' sb d' → OwnLt o' w' → CollRel de d' → Chg RStore oe o' wr w' → P (.returned (.int .i64 0)) w') := Lib.hid (by
      intro w' o' d' st' lt' cr' ch'
      rw [HPP.out]
      exact ⟨o', d0, HR1.out, lt', HC1.out.trans (hre.chg.trans ch'), .inr ⟨rfl, d', Ve, st', hme.out hok cr'⟩⟩)
     clear hre hme hok HRI
     go_wp2_with fail
     refine HCE.out.mono ?_
     rintro q w14 ⟨rfl, o14, d14, st14, lt14, cr14, ch14⟩
     have HF := Lib.hid (HFIN.out w14 o14 d14 st14 lt14 cr14 ch14)
     clear st14 lt14 cr14 ch14
     go_wp2_with fail
     exact HF.out
open Go.RowKit
section
variable {m : ManD} {V V' : Nat → BF} {d0 d' : StoreD} {k : Nat}
theorem HandlesOK.big (h : HandlesOK m) {p : Int × Nat} (hp : p ∈ m.hs) : p.2 / 2 = 0 ∨ 1 < p.1 := by
 by_cases h1 : 1 < p.1
 ·
  exact .inr h1
 ·
  left
  have hlt := h.lt p hp
  have hu : ∀ q ∈ m.hs, q.1 = p.1 → q = p := by
   intro q hq e
   have hnd := h.nodup
   have h1 := getL_of_mem (l := encH m.hs) (encH_nodup hnd) (List.mem_map.2 ⟨q, hq, rfl⟩)
   have h2 := getL_of_mem (l := encH m.hs) (encH_nodup hnd) (List.mem_map.2 ⟨p, hp, rfl⟩)
   rw [e, h2] at h1
   have e2 : (p.2 : Int) = (q.2 : Int) := by injection h1 with h1; injection h1
   exact Prod.ext e (by omega)
  rcases (by omega : p.1 = 0 ∨ p.1 = 1) with e | e
  ·
   rw [← hu _ h.zero e.symm]; rfl
  ·
   rw [← hu _ h.one e.symm]; rfl
theorem refs_pos {hs : List (Int × Nat)} {p : Int × Nat} (hp : p ∈ hs) (h1 : 1 < p.1) : 0 < refsOf hs (p.2 / 2) := by
 unfold refsOf
 refine List.length_pos_of_mem (List.mem_filter.2 ⟨hp, ?_⟩)
 simp [h1]
theorem refs_le (hs : List (Int × Nat)) (i : Nat) : refsOf hs i ≤ hs.length := List.length_filter_le _ _
theorem ext_le (h : HandlesOK m) (i : Nat) : extOf m.d i ≤ m.next := by
 cases hb : nodesOf m.d i with
 | none => rw [extOf_none hb]; have := h.next; omega
 | some b =>
   rw [h.refs i b hb]
   have h1 := refs_le m.hs i
   have h2 := h.len
   omega
theorem handles_swap (h : HandlesOK { m with d := d0 }) (hk : StoreOK d0 V) (s : SwapOut d0 V k d' V') : HandlesOK { m with d := d' } := by
 have hok : ∀ p ∈ m.hs, okE (nodesOf d') p.2 := by
  intro p hp
  rcases h.ok p hp with h0 | ⟨b, hb⟩
  ·
   exact .inl h0
  ·
   rcases h.big hp with h1 | h1
   ·
    exact .inl h1
   ·
    refine .inr (s.live _ b hb ?_)
    have h2 := h.refs _ b hb
    have h3 : 0 < refsOf m.hs (p.2 / 2) := refs_pos hp h1
    have h4 : extOf d0 (p.2 / 2) = (refsOf m.hs (p.2 / 2) : Int) := h2
    omega
 refine ⟨h.nodup, h.zero, h.one, h.lt, h.next, hok, h.len, fun i b hb => ?_⟩
 show extOf d' i = (refsOf m.hs i : Int)
 rw [s.ext i b hb]
 cases hn : nodesOf d0 i with
 | some b0 => exact h.refs i b0 hn
 | none =>
   rw [extOf_none hn]
   have hi : i ≠ 0 := by
    rintro rfl
    have h0 : nodesOf d' 0 = none := s.ok.dag.none0
    have h1 : nodesOf d' 0 = some b := hb
    rw [h0] at h1; cases h1
   have : refsOf m.hs i = 0 := by
    unfold refsOf
    rw [List.length_eq_zero_iff, List.filter_eq_nil_iff]
    intro p hp
    have ho := h.ok p hp
    simp only [Bool.and_eq_true, decide_eq_true_eq, beq_iff_eq, not_and]
    rintro _ rfl
    rcases ho with h0 | ⟨b1, hb1⟩
    ·
     exact hi h0
    ·
     have hb2 : nodesOf d0 (p.2 / 2) = some b1 := hb1
     rw [hn] at hb2; cases hb2
   rw [this]; rfl
end
structure SwapM (K : Law) (n room : Nat) (w0 : World) (mb : Nat) (fs : List (Int × BF)) (nx : Int) (k : Nat) (o : Own) (w : World) (m : ManD) (V : Nat → BF) (e : Ending) (o' : Own) (w' : World) (m' : ManD) (V' : Nat → BF) : Prop where
 sat : SatE K n (fun _ => True) room w0 mb fs nx w' o' m' V'
 waits : m'.waits = m.waits
 calls : m'.calls = m.calls
 chg : Chg (fun _ => True) o o' w w'
 way : ∃ d0, CollRel m.d d0 ∧ ((e = .returned (.int .i64 7) ∧ m'.d = d0 ∧ V' = V ∧ d0.pool.room < 3 * d0.pool.many) ∨ (e = .returned (.int .i64 0) ∧ SwapOut d0 V k m'.d V'))
section
variable {K : Law} {n : Nat} {Od : List Nat → Prop} {room : Nat} {w0 w w' : World} {mb : Nat} {fs : List (Int × BF)} {nx : Int} {o o' : Own} {m : ManD} {V : Nat → BF}
theorem satSwap {k : Nat} {s : ManW} {w1 : World} (h : SatE K n Od room w0 mb fs nx w o m V) (g1 : ManIn (fun _ _ _ _ _ => False) o w1 mb m s) (g2 : Chg (· = .entries) o o w w1) (g3 : OwnLt o w1) (hk1 : k + 1 < n) (hn : nx ≤ 549755813888) :
 Calls Tryz.prog 100 #[.pointer (some ⟨s.sb, 0, none⟩), .int .i64 k] w1 fun e w' => ∃ o' m' V', SwapM K n room w0 mb fs nx k o w m V e o' w' m' V' := by
 have hnext := h.next
 refine (storeSwap_any g1.store g3 h.ok.store k (by rw [h.vars]; exact hk1) (fun i => by have := ext_le h.ok.handles i; omega)).mono ?_
 rintro e w' ⟨o', d0, cr, lt, ch, hw⟩
 have hc : Chg (fun _ => True) o o' w w' := g2.any.trans ch.any
 have h0 := handles_coll h.ok.handles h.ok.store cr
 rcases hw with ⟨rfl, st, hr⟩ | ⟨rfl, d', V', st, so⟩
 ·
  refine ⟨o', { m with d := d0 }, V, ⟨⟨s, (g1.setStore g3 st ch).mono fun _ _ _ _ _ e => e.elim⟩, lt, ⟨cr.ok h.ok.store, h0⟩, by dsimp only; rw [cr.vars]; exact h.vars, trivial, by dsimp only; rw [cr.room]; exact h.room, h.next, h.hs, h.chg.lower (ChgX.of_chg hc NoB) (fun _ e => e.elim)⟩, rfl, rfl, hc, d0, cr, .inl ⟨rfl, rfl, rfl, hr⟩⟩
 ·
  refine ⟨o', { m with d := d' }, V', ⟨⟨s, (g1.setStore g3 st ch).mono fun _ _ _ _ _ e => e.elim⟩, lt, ⟨so.ok, handles_swap h0 (cr.ok h.ok.store) so⟩, ?_, trivial, ?_, h.next, ?_, h.chg.lower (ChgX.of_chg hc NoB) (fun _ e => e.elim)⟩, rfl, rfl, hc, d0, cr, .inr ⟨rfl, so⟩⟩
  ·
   show d'.vars.length = n
   rw [so.vars, swapD_len, cr.vars]; exact h.vars
  ·
   show d'.pool.room = room
   rw [so.room, cr.room]; exact h.room
  ·
   show m.hs.map (fun p => (p.1, ef V' p.2)) = fs
   rw [hs_ext (d := d0) h0.ok so.val]; exact h.hs
end
open Go.RowKit
set_option maxRecDepth 100000 in
set_option maxHeartbeats 1000000 in
theorem storeSwap_bad {o : Own} {w : World} {sb : Nat} {d : StoreD} (st : StoreAt o w sb d) (hs : d.vars.length ≤ 64) (z : Int) (hz : z < 0 ∨ (d.vars.length : Int) - 1 ≤ z) :
 Calls Tryz.prog 100 #[.pointer (some ⟨sb, 0, none⟩), .int .i64 z] w fun x w' => x = .returned (.int .i64 2) ∧ w' = w := by
 obtain ⟨s0, h0⟩ := id st
 obtain ⟨c0, c1, c2, c3, c4, f0⟩ := cells5 h0.blk
 obtain ⟨l0, l1, _⟩ := cells2 h0.lev
 obtain ⟨av, cv, hvv⟩ : ∃ a c, s0.vv = .slice a d.vars.length c := by
  rcases h0.vars with ⟨_, h1 | ⟨g, cap, c, hv, _⟩⟩
  ·
   exact ⟨_, _, by rw [h1.1, h1.2]⟩
  ·
   exact ⟨_, _, hv⟩
 rw [hvv] at l0
 clear st h0 hvv c1 c2 c3 c4 f0 l1
 by_cases hn : z < 0
 ·
  clear l0 c0
  go_enter Tryz.func100, Tryz.ntmps100
  go_wp2_with fail
  go_ret
  exact ⟨rfl, rfl⟩
 ·
  have h1 : z ≥ (d.vars.length : Int) - 1 := by omega
  clear hz
  go_enter Tryz.func100, Tryz.ntmps100
  go_wp2_with fail
  go_ret
  exact ⟨rfl, rfl⟩
section
variable {K : Law} {n : Nat} {Od : List Nat → Prop} {room : Nat} {w0 w w' : World} {mb : Nat} {fs : List (Int × BF)} {nx : Int} {o o' : Own} {m : ManD} {V : Nat → BF}
set_option maxRecDepth 100000 in
set_option maxHeartbeats 1000000 in
theorem manSwap_of (h : SatE K n Od room w0 mb fs nx w o m V) (z : Int) (P : Ending → World → Prop)
 (hsw : ∀ s w1, ManIn (K m.d V) o w mb m s → ManIn (fun _ _ _ _ _ => False) o w1 mb m s → Chg (· = .entries) o o w w1 → OwnLt o w1 → Calls Tryz.prog 100 #[.pointer (some ⟨s.sb, 0, none⟩), .int .i64 z] w1 fun x w' => ∃ q : Int, x = .returned (.int .i64 q) ∧ P x w') :
 Calls Tryz.prog 45 #[.pointer (some ⟨mb, 0, none⟩), .int .i64 z] w P := by
 obtain ⟨s, hs⟩ := h.is
 obtain ⟨c0, c1, c2, c3, c4, c5, f0⟩ := cells6 hs.blk
 have HC := Lib.hid (fun w1 => hsw s w1 hs)
 have HCL := Lib.hid (wclear h hs (fun _ _ _ _ _ => False))
 clear h hs hsw
 go_enter Tryz.func45, Tryz.ntmps45
 go_wp2_with fail
 refine HCL.out.mono ?_
 rintro x w1 ⟨rfl, g1, g2, g3⟩
 obtain ⟨d0, d1, d2, d3, d4, d5, f1⟩ := cells6 g1.blk
 have HC1 := Lib.hid (HC.out w1 g1 g2 g3)
 clear g1 g2 g3 c0 c1 c2 c3 c4 c5 f0 HCL HC
 go_wp2_with fail
 refine HC1.out.mono ?_
 rintro x w2 ⟨q, rfl, hq⟩
 have HQ := Lib.hid hq
 clear hq
 go_wp2_with fail
 exact HQ.out
theorem manSwap_any (h : SatE K n Od room w0 mb fs nx w o m V) {k : Nat} (hk1 : k + 1 < n) (hn : nx ≤ 549755813888) :
 Calls Tryz.prog 45 #[.pointer (some ⟨mb, 0, none⟩), .int .i64 k] w fun e w' => ∃ o' m' V', SwapM K n room w0 mb fs nx k o w m V e o' w' m' V' :=
 manSwap_of h k _ fun s w1 _ g1 g2 g3 => (satSwap h g1 g2 g3 hk1 hn).mono fun e w' ⟨o', m', V', hs⟩ => by
  obtain ⟨d0, cr, hw⟩ := hs.way
  rcases hw with ⟨e1, _⟩ | ⟨e1, _⟩
  ·
   exact ⟨7, e1, o', m', V', hs⟩
  ·
   exact ⟨0, e1, o', m', V', hs⟩
theorem manSwap_bad (h : SatE K n Od room w0 mb fs nx w o m V) {z : Int} (hz : z < 0 ∨ (n : Int) - 1 ≤ z) :
 Calls Tryz.prog 45 #[.pointer (some ⟨mb, 0, none⟩), .int .i64 z] w fun e w' => e = .returned (.int .i64 2) ∧ SatE K n Od room w0 mb fs nx w' o m V ∧ Chg (fun _ => True) o o w w' :=
 manSwap_of h z _ fun s w1 _ g1 g2 g3 => (storeSwap_bad g1.store h.ok.store.small z (by rw [h.vars]; exact hz)).mono fun e w' ⟨e1, e2⟩ => by
  subst e2
  exact ⟨2, e1, e1, ⟨⟨s, g1.mono fun _ _ _ _ _ e => e.elim⟩, g3, h.ok, h.vars, h.od, h.room, h.next, h.hs, h.chg.lower (ChgX.of_chg g2.any NoB) (fun _ e => e.elim)⟩, g2.any⟩
end
open Go.RowKit
theorem bubTo_eq (zs : List Int) (x : Int) (i : Nat) : bubTo zs x i = bub zs i (placeZ zs x - i).toNat := rfl
theorem bub_succ2 (zs : List Int) (i d : Nat) : (bub zs i (d + 1)).2 = ((i + d : Nat) : Int) :: (bub (swapZ zs ((i + d : Nat) : Int)) i d).2 := rfl
def RefStepsPost (a b : List Int) (w : World) (e : Ending) (w' : World) : Prop :=
 ∃ v, e = .returned (.tuple #[v, .int .i64 (stepsErr a b)]) ∧ OwnI w' w.heap.size v (stepsOf a b) ∧ Below w.heap.size w w'
theorem steps_close {a b r : List Int} {w w' : World} {v : Value} {E : Int} (hE : stepsErr a b = E) (hr : stepsOf a b = r) (hs : OwnI w' w.heap.size v r) (hb : Below w.heap.size w w') :
 RefStepsPost a b w (.returned (.tuple #[v, .int .i64 E])) w' := ⟨v, by rw [hE], by rw [hr]; exact hs, hb⟩
def metB (zs : List Int) (k : Nat) (v : Int) : Bool := decide (∃ j, j < k ∧ at0 zs j = v)
theorem metB_zero (zs : List Int) (v : Int) : metB zs 0 v = false := by simp [metB]
theorem metB_succ_eq (zs : List Int) (k : Nat) : metB zs (k + 1) (at0 zs k) = true := by simp only [metB, decide_eq_true_eq]; exact ⟨k, by omega, rfl⟩
theorem metB_succ_ne (zs : List Int) (k : Nat) (v : Int) (h : at0 zs k ≠ v) : metB zs (k + 1) v = metB zs k v := by
 simp only [metB, decide_eq_decide]
 constructor
 ·
  rintro ⟨j, hj, he⟩
  refine ⟨j, ?_, he⟩
  by_cases e : j = k
  ·
   subst e; exact (h he).elim
  ·
   omega
 ·
  rintro ⟨j, hj, he⟩; exact ⟨j, by omega, he⟩
theorem metB_true {zs : List Int} {k : Nat} {v : Int} (h : metB zs k v = true) : ∃ j, j < k ∧ at0 zs j = v := by simpa [metB] using h
theorem metB_false {zs : List Int} {k : Nat} {v : Int} (h : metB zs k v = false) : ∀ j, j < k → at0 zs j ≠ v := by
 intro j hj he
 have : metB zs k v = true := by simp only [metB, decide_eq_true_eq]; exact ⟨j, hj, he⟩
 rw [h] at this; cases this
def Marks (w : World) (g : Nat) (zs : List Int) (k base : Nat) : Prop :=
 ∃ cur, w.heap[g]? = some (.cells cur 214 (0, 0)) ∧ cur.size = 64 ∧ ∀ u, u < 64 → cur[u]? = some (.bool (metB zs k ((base + u : Nat) : Int)))
theorem Marks.cell {w : World} {g : Nat} {zs : List Int} {k base : Nat} (h : Marks w g zs k base) (u : Nat) (hu : u < 64) : w.cell? ⟨g, u, none⟩ = some (.bool (metB zs k ((base + u : Nat) : Int))) := by
 obtain ⟨cur, h1, h2, h3⟩ := h
 simp only [World.cell?, h1]; exact h3 u hu
theorem Marks.frozen {w : World} {g : Nat} {zs : List Int} {k base : Nat} (h : Marks w g zs k base) (u : Nat) : w.frozen? ⟨g, u, none⟩ = false := by
 obtain ⟨cur, h1, h2, h3⟩ := h
 simp [World.frozen?, h1]
theorem Marks.step_out {w : World} {g : Nat} {zs : List Int} {k base : Nat} (h : Marks w g zs k base) (hx : ¬ ((base : Int) ≤ at0 zs k ∧ at0 zs k < base + 64)) : Marks w g zs (k + 1) base := by
 obtain ⟨cur, h1, h2, h3⟩ := h
 exact ⟨cur, h1, h2, fun u hu => by rw [metB_succ_ne _ _ _ (by omega)]; exact h3 u hu⟩
theorem Marks.step_in {w : World} {g : Nat} {zs : List Int} {k base u : Nat} (h : Marks w g zs k base) (hx : at0 zs k = ((base + u : Nat) : Int)) (hu : u < 64) :
 Marks (w.setCell ⟨g, u, none⟩ (.bool true)) g zs (k + 1) base := by
 obtain ⟨cur, h1, h2, h3⟩ := h
 refine ⟨cur.setIfInBounds u (.bool true), ?_, by simpa using h2, fun v hv => ?_⟩
 ·
  simp [World.setCell, Array.getElem?_modify, h1]
 ·
  by_cases e : v = u
  ·
   subst e
   rw [Array.getElem?_setIfInBounds_self_of_lt (by omega), ← hx, metB_succ_eq]
  ·
   rw [Array.getElem?_setIfInBounds_ne (by omega), metB_succ_ne _ _ _ (by omega)]; exact h3 v hv
theorem marks_new (w : World) (zs : List Int) (base : Nat) (cs : List Value) (hcs : cs = List.replicate 64 (.bool false)) : Marks (w.alloc (.cells cs.toArray 214)) w.heap.size zs 0 base :=
 ⟨_, heap_alloc_new w _, by simp [hcs], fun u hu => by rw [metB_zero, List.getElem?_toArray, hcs, List.getElem?_replicate, if_pos hu]⟩
def RightTo (zs : List Int) (B : Nat) : Prop :=
 1 ≤ B → (∀ j, j < zs.length → 0 ≤ at0 zs j ∧ at0 zs j < zs.length) ∧ ∀ i, i < zs.length → ∀ l, l < i → at0 zs l = at0 zs i → (B : Int) ≤ at0 zs i
def RightIn (zs : List Int) (B k : Nat) : Prop :=
 (∀ j, j < k → 0 ≤ at0 zs j ∧ at0 zs j < zs.length) ∧ (∀ i, i < k → ∀ l, l < i → at0 zs l = at0 zs i → ¬ ((B : Int) ≤ at0 zs i ∧ at0 zs i < (B : Int) + 64))
theorem rightTo_zero (zs : List Int) : RightTo zs 0 := fun h => by omega
theorem rightIn_zero (zs : List Int) (B : Nat) : RightIn zs B 0 := ⟨by omega, by omega⟩
theorem rightIn_step {zs : List Int} {B k : Nat} (h : RightIn zs B k) (h1 : 0 ≤ at0 zs k) (h2 : at0 zs k < zs.length)
 (h3 : ¬ ((B : Int) ≤ at0 zs k ∧ at0 zs k < (B : Int) + 64) ∨ metB zs k (at0 zs k) = false) : RightIn zs B (k + 1) := by
 refine ⟨fun j hj => ?_, fun i hi l hl he => ?_⟩
 ·
  by_cases e : j = k
  ·
   subst e; exact ⟨h1, h2⟩
  ·
   exact h.1 j (by omega)
 ·
  by_cases e : i = k
  ·
   subst e
   rcases h3 with h3 | h3
   ·
    exact h3
   ·
    exact (metB_false h3 l hl he).elim
  ·
   exact h.2 i (by omega) l hl he
theorem rightTo_step {zs : List Int} {B : Nat} (h : RightTo zs B) (hi : RightIn zs B zs.length) : RightTo zs (B + 64) := by
 refine fun _ => ⟨hi.1, fun i hlt l hl he => ?_⟩
 have h2 := hi.2 i hlt l hl he
 have h3 := (hi.1 i hlt).1
 by_cases hB : 1 ≤ B
 ·
  have := (h hB).2 i hlt l hl he
  omega
 ·
  omega
theorem rightB_of_to {zs : List Int} {B : Nat} (h : RightTo zs B) (hB : zs.length ≤ B) : rightB zs = true := by
 rw [rightB_iff]
 by_cases h0 : 1 ≤ B
 ·
  obtain ⟨h1, h2⟩ := h h0
  exact ⟨h1, fun i hi k hk he => by have := h2 i hi k hk he; have := (h1 i hi).2; omega⟩
 ·
  exact ⟨by omega, by omega⟩
theorem rightB_of_range {zs : List Int} {k : Nat} (hk : k < zs.length) (h : ¬ (0 ≤ at0 zs k ∧ at0 zs k < zs.length)) : rightB zs = false := rightB_false fun hh => h (hh.1 k hk)
theorem rightB_of_met {zs : List Int} {k : Nat} (hk : k < zs.length) (h : metB zs k (at0 zs k) = true) : rightB zs = false := by
 obtain ⟨j, hj, he⟩ := metB_true h
 exact rightB_false fun hh => hh.2 k hk j hj he
set_option maxHeartbeats 400000 in
theorem permRight_any (a : Option Addr) (c : Nat) (zs : List Int) (w : World) (h : IntsAt w a zs) (hlen : zs.length < 1000000) :
 Calls Tryz.prog 159 #[.slice a zs.length c] w fun e w' => e = .returned (.bool (rightB zs)) ∧ Below w.heap.size w w' := by
 obtain ⟨hl, hc⟩ := h
 have HC1 : Hid (∀ k, k < zs.length → ∃ b off, a = some ⟨b, off, none⟩ ∧ b < w.heap.size ∧ w.cell? ⟨b, off + k, none⟩ = some (.int .i64 (at0 zs k))) := fun k hk => by
  obtain ⟨b, off, h1, h2⟩ := hc k hk
  exact ⟨b, off, h1, lt_of_cell h2, h2⟩
 clear hc
 go_enter Tryz.func159, Tryz.ntmps159
 go_wp2
 go_loopw [3] (fun s3 wr => ∃ B : Nat, s3 = .int .i64 B ∧ B ≤ zs.length + 63 ∧ RightTo zs B ∧ Below w.heap.size w wr ∧ w.heap.size ≤ wr.heap.size) (fun i _ => zs.length + 64 - (intOf i).toNat)
 case atStart => exact ⟨0, rfl, by omega, rightTo_zero zs, Below.refl _ _, Nat.le_refl _⟩
 case round =>
  obtain ⟨B, rfl, hB, hrel, hbel, hsz⟩ := hrel
  have HR := Lib.hid hrel
  clear hrel
  by_cases hlt : B < zs.length
  ·
   go_wp2
   obtain ⟨wo, rfl⟩ : ∃ wo : World, wo = wr := ⟨_, rfl⟩
   go_loopw [16] (fun i wi => ∃ k : Nat, k ≤ zs.length ∧ i = .int .i64 k ∧ RightIn zs B k ∧ Marks wi wo.heap.size zs k B ∧ Below w.heap.size w wi ∧ w.heap.size ≤ wi.heap.size) (fun i _ => zs.length - (intOf i).toNat)
   case atStart => exact ⟨0, by omega, rfl, rightIn_zero zs B, marks_new _ _ _ _ rfl, hbel.alloc hsz _, by simp; omega⟩
   case round =>
    obtain ⟨k, hk, rfl, hr1, hm, hbel2, hsz2⟩ := hrel
    have HR1 := Lib.hid hr1
    have HM := Lib.hid hm
    clear hr1 hm
    by_cases hkn : k < zs.length
    ·
     obtain ⟨b, off, rfl, hbw, hcw⟩ := HC1.out k hkn
     have hcell := (hbel2.cell (p := ⟨b, off + k, none⟩) hbw).trans hcw
     clear hcw
     by_cases hx : 0 ≤ at0 zs k ∧ at0 zs k < zs.length
     ·
      obtain ⟨hx1, hx2⟩ := hx
      by_cases hwin : (B : Int) ≤ at0 zs k ∧ at0 zs k < (B : Int) + 64
      ·
       obtain ⟨hwin1, hwin2⟩ := hwin
       have hu64 : ((at0 zs k).toNat - B) < 64 := by omega
       have hu0 : at0 zs k = ((B + ((at0 zs k).toNat - B) : Nat) : Int) := by omega
       have hcm := HM.out.cell _ hu64
       have hfm := HM.out.frozen ((at0 zs k).toNat - B)
       rw [← hu0] at hcm
       have HU := Lib.hid hu0
       generalize hmb : metB zs k (at0 zs k) = mb at hcm
       have HMB := Lib.hid hmb
       clear hmb hu0
       cases mb
       ·
        go_wp2
        go_roundw
        case rel => exact ⟨k + 1, by omega, by go_num, rightIn_step HR1.out hx1 hx2 (.inr HMB.out), HM.out.step_in HU.out hu64, hbel2.setCell hsz _, by simp; omega⟩
        case measure => simp [intOf]; omega
       ·
        go_wp2
        go_ret
        exact ⟨ret_bool (rightB_of_met hkn HMB.out).symm, hbel2⟩
      ·
       have HW := Lib.hid hwin
       by_cases hlo : at0 zs k < (B : Int)
       ·
        clear hwin
        go_wp2
        go_roundw
        case rel => exact ⟨k + 1, by omega, by go_num, rightIn_step HR1.out hx1 hx2 (.inl HW.out), HM.out.step_out HW.out, hbel2, hsz2⟩
        case measure => simp [intOf]; omega
       ·
        have hhi : (B : Int) + 64 ≤ at0 zs k := by omega
        clear hwin
        go_wp2
        go_roundw
        case rel => exact ⟨k + 1, by omega, by go_num, rightIn_step HR1.out hx1 hx2 (.inl HW.out), HM.out.step_out HW.out, hbel2, hsz2⟩
        case measure => simp [intOf]; omega
     ·
      have HX := Lib.hid hx
      by_cases hneg : at0 zs k < 0
      ·
       clear hx
       go_wp2
       go_ret
       exact ⟨ret_bool (rightB_of_range hkn HX.out).symm, hbel2⟩
      ·
       have hge : (zs.length : Int) ≤ at0 zs k := by omega
       clear hx
       go_wp2
       go_ret
       exact ⟨ret_bool (rightB_of_range hkn HX.out).symm, hbel2⟩
    ·
     obtain rfl : k = zs.length := by omega
     go_wp2
     go_roundw
     case rel => exact ⟨B + 64, by go_num, by omega, rightTo_step HR.out HR1.out, hbel2, hsz2⟩
     case measure => simp [intOf]; omega
  ·
   go_wp2
   go_ret
   exact ⟨ret_bool (rightB_of_to HR.out (by omega)).symm, hbel⟩
theorem wpList_copyFull {ops : Array Oper} {rest : List Oper} {o : Oper} {a : Act} {Q : Exit → Act → World → Prop} {wr : World} (hgd : o.guard = none) (d s : Operand)
 (ho : o.op = .call { callee := .builtin .copy, args := #[d, s], argTypes := #[22, 22] })
 (base g : Nat) (w0 : World) (zs : List Int) (xs : List Value) (ao : Option Addr) (c : Nat) (hd : a.eval d = .slice (some ⟨g, 0, none⟩) zs.length zs.length) (hs : a.eval s = .slice ao zs.length c)
 (hown : wr.ownsRow base 3 1 (.slice (some ⟨g, 0, none⟩) zs.length zs.length) zs.length xs) (hzs : IntsAt wr ao zs) (hb : Below base w0 wr)
 (h : ∀ v' w', OwnI w' base (.slice (some ⟨g, 0, none⟩) zs.length zs.length) zs → Below base w0 w' → base ≤ w'.heap.size → wpList Tryz.prog ops Q rest (a.put o.dst v') w') :
 wpList Tryz.prog ops Q (o :: rest) a wr := by
 obtain ⟨hxl, hx⟩ := hown
 rcases hx with ⟨hv, _⟩ | ⟨g', cap, cur, hv, hbg, hg, hnc, hcm, hcs, htake⟩
 ·
  cases hv
 ·
  simp only [Value.slice.injEq, Option.some.injEq, Addr.mk.injEq, and_true, true_and] at hv
  obtain ⟨rfl, rfl⟩ := hv
  refine wpList_copy_splice (w := wr) hgd d s 22 22 ho 3 Tryz.underlying22 (by obtain ⟨i, hi, _, hsz, _⟩ := info_parts infoInt; rw [hi]; simp [hsz])
   _ _ _ _ _ _ hd hs g 0 cur.toList 3 (by simpa using hg) (intsV zs) (by simp [intsV]) ?_ (by simp [intsV, hcs]) (ints_oneCell .i64 zs) base w0 hb hbg ?_
  ·
   intro hp
   rw [intsV_length] at hp
   obtain ⟨b, off, rfl, _⟩ := hzs.cells 0 hp
   refine ⟨rfl, _, rfl, fun j v hj => ?_⟩
   have hlt : j < zs.length := by
    rcases Nat.lt_or_ge j zs.length with h' | h'
    ·
     exact h'
    ·
     simp [intsV, List.getElem?_eq_none h'] at hj
   obtain ⟨b', off', hab, hc⟩ := hzs.cells j hlt
   cases hab
   simp [intsV, getElem?_at0 hlt] at hj
   subst hj
   have hadd : (⟨b, off, none⟩ : Addr).add j = ⟨b, off + j, none⟩ := by unfold Addr.add; split <;> simp_all
   rw [hadd]; exact hc
  ·
   intro w' hh hb'
   refine h _ w' ⟨by simp [intsV], .inr ⟨g, _, (intsV zs).toArray, rfl, hbg, ?_, Nat.le_refl _, hcm, by simp [intsV], by simp [intsV, List.take_of_length_le]⟩⟩ hb' ?_
   ·
    have := hh.out
    rw [this]
    have hl : cur.toList.length = zs.length := by simp [hcs]
    simp [splice, intsV, List.drop_eq_nil_of_le, hl]
   ·
    have h1 := hh.out
    have := (Array.getElem?_eq_some_iff.1 h1).1
    omega
set_option maxHeartbeats 400000 in
theorem clone_any (a : Option Addr) (c : Nat) (zs : List Int) (w : World) (h : IntsAt w a zs) (hlen : zs.length < 1000000) :
 Calls Tryz.prog 160 #[.slice a zs.length c] w fun e w' => ∃ g, e = .returned (.slice (some ⟨g, 0, none⟩) zs.length zs.length) ∧ OwnI w' w.heap.size (.slice (some ⟨g, 0, none⟩) zs.length zs.length) zs ∧ Below w.heap.size w w' := by
 obtain ⟨i, hi, hz, hsz, hby⟩ := info_parts infoInt
 have HI := Lib.hid h
 clear h
 go_enter Tryz.func160, Tryz.ntmps160
 go_wp2_with (first
  | (at_make; refine wpList_make_full _ rfl _ _ 22 rfl w.heap.size 3 i (.int .i64 0) 1 Tryz.underlying22 hi hz hsz .i64 .i64 _ _ zs.length rfl rfl rfl rfl (by rw [hby]; omega) (by unfold maxLen; omega) (Nat.le_refl _) ?_; intro w1 hown1 hg1)
  | (with_reducible refine wpList_copyFull rfl (.tmp 7) (.tmp 8) rfl w.heap.size w.heap.size w zs _ a c rfl rfl (by exact hown1) (HI.out.keep (keepBut_of_grown0 hg1) (by simp)) ((Below.refl _ _).grown hg1 (Nat.le_refl _) (by simp)) ?_; intro v2 w2 hown2 hb2 hs2))
 go_ret
 exact ⟨_, rfl, hown2, hb2⟩
set_option maxHeartbeats 400000 in
theorem index_any (a : Option Addr) (c : Nat) (zs : List Int) (x : Int) (w : World) (h : IntsAt w a zs) :
 Calls Tryz.prog 161 #[.slice a zs.length c, .int .i64 x] w fun e w' => e = .returned (.int .i64 (placeZ zs x)) ∧ ∃ n, w' = w.drewN n := by
 obtain ⟨hl, hc⟩ := h
 have HC := Lib.hid hc
 clear hc
 go_enter Tryz.func161, Tryz.ntmps161
 go_wp2
 go_loop [8] (fun i => ∃ k : Nat, k ≤ zs.length ∧ i = .int .i64 k ∧ ∀ j, j < k → at0 zs j ≠ x) (fun i => zs.length - (intOf i).toNat)
 case atStart => exact ⟨0, Nat.zero_le _, rfl, by omega⟩
 case round =>
  obtain ⟨k, hk, rfl, hrel⟩ := hrel
  have HR := Lib.hid hrel
  clear hrel
  by_cases hlt : k < zs.length
  ·
   obtain ⟨b, off, rfl, hcell⟩ := HC.out k hlt
   by_cases hx : at0 zs k = x
   ·
    have H1 : (x == at0 zs k) = true := by simpa using hx.symm
    have HX := Lib.hid hx
    clear hx
    go_wp2
    go_ret
    exact ⟨ret_i64 (placeZ_found hlt HX.out HR.out).symm, 0, rfl⟩
   ·
    have H1 : (x == at0 zs k) = false := by simpa using (fun e => hx e.symm)
    go_wp2
    go_round
    case rel => exact ⟨k + 1, by omega, by go_num, fun j hj => by
     by_cases e : j = k
     ·
      subst e; exact hx
     ·
      exact HR.out j (by omega)⟩
    case measure => simp [intOf]; omega
  ·
   go_wp2
   go_ret
   exact ⟨ret_i64 (placeZ_none (fun j hj => HR.out j (by omega))).symm, 0, rfl⟩
theorem OwnI.len {w : World} {base n c : Nat} {a : Option Addr} {zs : List Int} (h : OwnI w base (.slice a n c) zs) : n = zs.length := by
 rcases h.2 with ⟨hv, h0⟩ | ⟨g, cap, cur, hv, _⟩
 ·
  simp only [Value.slice.injEq] at hv; omega
 ·
  simp only [Value.slice.injEq] at hv; omega
theorem OwnI.intsAt {w : World} {base n c : Nat} {a : Option Addr} {zs : List Int} (h : OwnI w base (.slice a n c) zs) (hl : zs.length ≤ 9223372036854775807) : IntsAt w a zs := by
 obtain rfl := h.len
 exact intsAt_of_owns hl h
theorem index_at {a : Option Addr} {n c : Nat} {zs : List Int} {x : Int} {w : World} (hn : n = zs.length) (h : IntsAt w a zs) :
 Calls Tryz.prog 161 #[.slice a n c, .int .i64 x] w fun e w' => e = .returned (.int .i64 (placeZ zs x)) ∧ ∃ n, w' = w.drewN n := by
 subst hn; exact index_any a c zs x w h
set_option maxRecDepth 100000 in
set_option maxHeartbeats 1000000 in
theorem permSteps_any (va vb : Value) (xs ys : List Int) (w : World) (h : SliceIs w va xs) (h' : SliceIs w vb ys) (hlen : xs.length ≤ 1000) (hlen' : ys.length ≤ 1000) :
 Calls Tryz.prog 151 #[va, vb] w (RefStepsPost xs ys w) := by
 obtain ⟨a, c, rfl, ha, hna⟩ := h
 obtain ⟨b, c', rfl, hb, hnb⟩ := h'
 have HA := Lib.hid ha
 have HB := Lib.hid hb
 clear ha hb hna hnb
 by_cases hr : rightB xs = true
 ·
  by_cases hr' : rightB ys = true
  ·
   by_cases hl : xs.length = ys.length
   ·
    have HE : Hid (stepsErr xs ys = 0) := by unfold stepsErr; rw [if_pos ⟨hr, hr'⟩, if_pos hl]; rfl
    have HF : Hid (stepsOf xs ys = stepsZ xs ys 0) := by unfold stepsOf; rw [if_pos ⟨hr, hr', hl⟩]; rfl
    have HR := Lib.hid hr
    have HR' := Lib.hid hr'
    have H3 : ((xs.length : Int) != ys.length) = false := by simp [hl]
    clear hr hr' hl
    go_enter Tryz.func151, Tryz.ntmps151
    go_wp2_with fail
    refine (permRight_any _ _ xs _ HA.out (by omega)).mono ?_
    rintro e w1 ⟨rfl, hb1⟩
    rw [HR.out]
    go_wp2_with fail
    refine (permRight_any _ _ ys _ (HB.out.below hb1) (by omega)).mono ?_
    rintro e w2 ⟨rfl, hb2⟩
    rw [HR'.out]
    have hb12 : Below w.heap.size w w2 := hb1.trans (hb2.mono hb1.size)
    go_wp2_with fail
    refine (clone_any _ _ xs _ (HA.out.below hb12) (by omega)).mono ?_
    rintro e w3 ⟨g, rfl, hown3, hb3⟩
    have hs2 := hb12.size
    have hg : w2.heap.size ≤ g := (hown3.lt g rfl).1
    have hbel3 : Below w.heap.size w w3 := hb12.trans (hb3.mono hs2)
    have hs3 : w2.heap.size ≤ w3.heap.size := hb3.size
    go_wp2_with fail
    go_loopw [6, 30] (fun s6 s30 wr => ∃ (k : Nat) (cur out : List Int), k ≤ ys.length ∧ s30 = .int .i64 k ∧ OwnI wr w2.heap.size (.slice (some ⟨g, 0, none⟩) xs.length xs.length) cur ∧ cur.length = xs.length ∧ OwnI wr w2.heap.size s6 out ∧ s6.ownBlock ≠ some g ∧ out.length ≤ k * 1000 ∧ out ++ stepsZ cur (ys.drop k) k = stepsZ xs ys 0 ∧ w2.heap.size ≤ wr.heap.size ∧ Below w2.heap.size w2 wr) (fun _ s30 _ => ys.length - (intOf s30).toNat)
    case atStart => exact ⟨0, xs, [], by omega, rfl, hown3, rfl, ownI_nil _ _, by simp [Value.ownBlock], by simp, by simp, hs3, hb3⟩
    case round =>
     obtain ⟨k, cur, out, hk, rfl, hcur, hcl, hown, hne, hol, hst, hsz, hbel⟩ := hrel
     have HST := Lib.hid hst
     have HCL := Lib.hid hcl
     have HNE := Lib.hid hne
     have hcl1 : cur.length ≤ 1000 := by omega
     clear hst hcl hne
     have HB1 := Lib.hid (HB.out.below (hb12.trans (hbel.mono hs2)))
     by_cases hlt : k < ys.length
     ·
      obtain ⟨bb, off, rfl, hcell⟩ := HB1.out.cells k hlt
      have HDR := Lib.hid (stepsZ_drop cur ys k hlt)
      have HCI := Lib.hid (hcur.intsAt (by omega))
      go_wp2_with fail
      refine (index_at HCL.out.symm (HCI.out.drewN 0)).mono ?_
      rintro e w' ⟨rfl, n, rfl⟩
      have hp1 := placeZ_lo cur (at0 ys k)
      have hp2 := placeZ_lt cur (at0 ys k)
      have HBT := Lib.hid (bubTo_eq cur (at0 ys k) k)
      generalize placeZ cur (at0 ys k) = p at hp1 hp2 HBT ⊢
      go_wp2_with fail
      have hpl : p < xs.length ∨ p ≤ 0 := by have := HCL.out; omega
      obtain ⟨N, F, HN⟩ : ∃ (N F : List Int), Hid (N = (bub cur k (p - k).toNat).1 ∧ F = out ++ (bub cur k (p - k).toNat).2) := ⟨_, _, rfl, rfl⟩
      go_loopw [6, 10] (fun s6 s10 wi => ∃ (d : Nat) (c1 o1 : List Int) (q : Int), s10 = .int .i64 q ∧ -1 ≤ q ∧ q ≤ 1000 ∧ (q < xs.length ∨ q ≤ 0) ∧ (q ≤ k → d = 0) ∧ (k < q → q = k + d) ∧ OwnI wi w2.heap.size (.slice (some ⟨g, 0, none⟩) xs.length xs.length) c1 ∧ c1.length = xs.length ∧ OwnI wi w2.heap.size s6 o1 ∧ s6.ownBlock ≠ some g ∧ o1.length + d ≤ (k + 1) * 1000 ∧ N = (bub c1 k d).1 ∧ F = o1 ++ (bub c1 k d).2 ∧ w2.heap.size ≤ wi.heap.size ∧ Below w2.heap.size w2 wi) (fun _ s10 _ => (intOf s10 + 1).toNat)
      case atStart => exact ⟨(p - k).toNat, cur, out, p, rfl, hp1, by omega, hpl, by omega, by omega, hcur.drewN n, HCL.out, hown.drewN n, HNE.out, by omega, HN.out.1, HN.out.2, hsz, below_drewN hbel n⟩
      case round =>
       obtain ⟨d, c1, o1, q, rfl, hq1, hq2, hq3, hd1, hd2, hc1, hc1l, hown1, hne1, hol1, hN, hF, hsz1, hbel1⟩ := hrel
       have HN1 := Lib.hid hN
       have HF1 := Lib.hid hF
       have HC1 := Lib.hid hc1l
       have HNE1 := Lib.hid hne1
       have hc1m : c1.length ≤ 1000 := by omega
       clear hN hF hc1l hne1
       by_cases hqk : (k : Int) < q
       ·
        obtain ⟨d, rfl⟩ : ∃ l, d = l + 1 := ⟨d - 1, by omega⟩
        have hqe : q = (k : Int) + d + 1 := by omega
        subst hqe
        have hkd : k + d + 1 < xs.length := by omega
        have hkd1 : k + d + 1 < c1.length := by rw [HC1.out]; exact hkd
        clear hd1 hd2 hq3
        have hw1 : IntKind.i64.wrap ((k : Int) + d + 1 - 1) = ((k + d : Nat) : Int) := by rw [IntWalk.i64_in _ (by omega)]; omega
        have q0 := hc1.cell (k + d) (by omega)
        have q1 := hc1.cell (k + d + 1) (by omega)
        have p0 := hc1.frozen (k + d)
        have p1 := hc1.frozen (k + d + 1)
        have t0 : ((k : Int) + d).toNat = k + d := by omega
        have t1 : ((k : Int) + d + 1).toNat = k + d + 1 := by omega
        go_wp2_with fail
        go_region
        have HSW := Lib.hid (swapZ_in (zs := c1) (k := k + d) hkd1)
        have hc3 := ((hc1.stored (k + d) (at0 c1 (k + d + 1))).stored (k + d + 1) (at0 c1 (k + d))).drewN 1
        have ho3 := ((hown1.setCell_other (a := ⟨g, k + d, none⟩) HNE1.out (.int .i64 (at0 c1 (k + d + 1)))).setCell_other (a := ⟨g, k + d + 1, none⟩) HNE1.out (.int .i64 (at0 c1 (k + d)))).drewN 1
        have hb4 := below_drewN ((hbel1.setCell (p := ⟨g, k + d, none⟩) hg (.int .i64 (at0 c1 (k + d + 1)))).setCell (p := ⟨g, k + d + 1, none⟩) hg (.int .i64 (at0 c1 (k + d)))) 1
        have hg1 := (hc1.lt g rfl).2
        go_wp2_with (at_builtin; go_loud (refine wpList_app1 _ rfl _ _ rfl w2.heap.size w2 _ o1 _ rfl rfl (by rfl) (by simp) ho3 (by omega) (by simpa using hsz1) hb4 ?_); intro v2 w4 hown4 hbel4 hsz4 hkb4)
        have hc4 := hc3.keep hkb4.keep (fun x hx hxx => by cases hx; exact HNE1.out hxx.symm)
        rw [← HSW.out] at hc4
        have hne4 := hkb4.ne HNE1.out (by simpa using hg1)
        go_roundw
        case rel => exact ⟨d, swapZ c1 ((k + d : Nat) : Int), o1 ++ [((k + d : Nat) : Int)], ((k + d : Nat) : Int), by go_num, by omega, by omega, by omega, by omega, by omega, hc4, by rw [swapZ_length]; exact HC1.out, hown4, hne4, by simp; omega, HN1.out, by rw [HF1.out, bub_succ2]; simp, hsz4, hbel4⟩
        case measure => simp [intOf]; omega
       ·
        obtain rfl := hd1 (by omega)
        have HOW := Lib.hid hown1
        have hN2 : N = c1 := HN1.out
        have hF2 : F = o1 := by rw [HF1.out]; simp [bub]
        have HNN := Lib.hid hN2
        have HFF := Lib.hid hF2
        clear hN2 hF2 hd1 hd2 hown1
        go_wp2
        go_roundw
        case rel => exact ⟨k + 1, N, F, by omega, by go_num, by rw [HNN.out]; exact hc1, by rw [HNN.out]; exact HC1.out, by rw [HFF.out]; exact HOW.out, HNE1.out, by rw [HFF.out]; omega, by
         rw [HN.out.1, HN.out.2, ← HST.out, HDR.out, HBT.out]; simp, hsz1, hbel1⟩
        case measure => simp [intOf]; omega
     ·
      obtain rfl : k = ys.length := by omega
      have hfin : stepsZ xs ys 0 = out := by rw [← HST.out]; simp [stepsZ]
      have HFIN := Lib.hid hfin
      clear hfin
      go_wp2
      go_ret2
      exact steps_close HE.out (HF.out.trans HFIN.out) (hown.lower hs2) (hb12.trans (hbel.mono hs2))
   ·
    have HE : Hid (stepsErr xs ys = 3) := by unfold stepsErr; rw [if_pos ⟨hr, hr'⟩, if_neg hl]; rfl
    have HF : Hid (stepsOf xs ys = []) := by unfold stepsOf; rw [if_neg (fun hh => hl hh.2.2)]; rfl
    have HR := Lib.hid hr
    have HR' := Lib.hid hr'
    have H3 : ((xs.length : Int) != ys.length) = true := by simp; omega
    clear hr hr' hl
    go_enter Tryz.func151, Tryz.ntmps151
    go_wp2_with fail
    refine (permRight_any _ _ xs _ HA.out (by omega)).mono ?_
    rintro e w1 ⟨rfl, hb1⟩
    rw [HR.out]
    go_wp2_with fail
    refine (permRight_any _ _ ys _ (HB.out.below hb1) (by omega)).mono ?_
    rintro e w2 ⟨rfl, hb2⟩
    rw [HR'.out]
    go_wp2_with fail
    go_ret2
    exact steps_close HE.out HF.out (ownI_nil _ _) (hb1.trans (hb2.mono hb1.size))
  ·
   have HE : Hid (stepsErr xs ys = 1) := by unfold stepsErr; rw [if_neg (fun hh => hr' hh.2)]; rfl
   have HF : Hid (stepsOf xs ys = []) := by unfold stepsOf; rw [if_neg (fun hh => hr' hh.2.1)]; rfl
   have hr'' : rightB ys = false := by simpa using hr'
   have HR := Lib.hid hr
   have HR' := Lib.hid hr''
   clear hr hr' hr''
   go_enter Tryz.func151, Tryz.ntmps151
   go_wp2_with fail
   refine (permRight_any _ _ xs _ HA.out (by omega)).mono ?_
   rintro e w1 ⟨rfl, hb1⟩
   rw [HR.out]
   go_wp2_with fail
   refine (permRight_any _ _ ys _ (HB.out.below hb1) (by omega)).mono ?_
   rintro e w2 ⟨rfl, hb2⟩
   rw [HR'.out]
   go_wp2_with fail
   go_ret2
   exact steps_close HE.out HF.out (ownI_nil _ _) (hb1.trans (hb2.mono hb1.size))
 ·
  have HE : Hid (stepsErr xs ys = 1) := by unfold stepsErr; rw [if_neg (fun hh => hr hh.1)]; rfl
  have HF : Hid (stepsOf xs ys = []) := by unfold stepsOf; rw [if_neg (fun hh => hr hh.1)]; rfl
  have hr'' : rightB xs = false := by simpa using hr
  have HR := Lib.hid hr''
  clear hr hr''
  go_enter Tryz.func151, Tryz.ntmps151
  go_wp2_with fail
  refine (permRight_any _ _ xs _ HA.out (by omega)).mono ?_
  rintro e w1 ⟨rfl, hb1⟩
  rw [HR.out]
  go_wp2_with fail
  go_ret2
  exact steps_close HE.out HF.out (ownI_nil _ _) hb1
end Go.Proofs.YtchliiaknmknhaaGreat
namespace Go.Proofs
open Go.Shelf
def Tryz.lays112_ren : Go.Shelf.Ren := ⟨fun | 112 => 162 | n => n, fun | 28 => 22 | 3 => 3 | 4 => 4 | 0 => 0 | n => n, fun | n => n⟩
theorem Tryz.lays112 : Go.Proofs.Lays.n112 Tryz.prog Tryz.lays112_ren := {
 mixed := by kernel_rfl
 f112 := Tryz.func162.trans (congrArg some (by kernel_rfl))
 t0 := Tryz.underlying0
 a0 := Tryz.isAgg0
 z0 := Tryz.sizeOf0
 v0 := Tryz.zeroValue0
 t3 := Tryz.underlying3
 a3 := Tryz.isAgg3
 z3 := Tryz.sizeOf3
 v3 := Tryz.zeroValue3
 t4 := Tryz.underlying4
 a4 := Tryz.isAgg4
 z4 := Tryz.sizeOf4
 v4 := Tryz.zeroValue4
 t28 := Tryz.underlying22
 a28 := Tryz.isAgg22
 z28 := Tryz.sizeOf22
 v28 := Tryz.zeroValue22 }
open Go.RowKit Go.Lib Go.Sort in
theorem Tryz.slices_Reverse_int_arr (blk off cap : Nat) (d : Array Int) (w : World) (hH : Holds encI w blk off d) (hsz : d.size ≤ 9223372036854775807) :
 Calls Tryz.prog 162 #[.slice (some ⟨blk, off, none⟩) d.size cap] w fun e w' => e = .returned (.tuple #[]) ∧ ∃ n, w' = putRow encI (Sort.ahead w n) blk off d.reverse := Any.slices_Reverse_int_arr Tryz.lays112 blk off cap d w hH hsz
open Go.RowKit Go.Lib Go.Sort in
theorem Tryz.slices_Reverse_int (blk off cap : Nat) (zs : List Int) (w : World) (hH : Holds (Value.int .i64) w blk off zs.toArray) (hsz : zs.length ≤ 9223372036854775807) :
 Calls Tryz.prog 162 #[.slice (some ⟨blk, off, none⟩) zs.length cap] w fun e w' => e = .returned (.tuple #[]) ∧ ∃ n, w' = putRow (Value.int .i64) (Sort.ahead w n) blk off zs.reverse.toArray := Any.slices_Reverse_int Tryz.lays112 blk off cap zs w hH hsz
open Go.RowKit Go.Lib Go.Sort in
theorem Tryz.slices_Reverse_int_empty (a : Option Addr) (cap : Nat) (w : World) :
 Calls Tryz.prog 162 #[.slice a 0 cap] w fun e w' => e = .returned (.tuple #[]) ∧ w' = w := Any.slices_Reverse_int_empty Tryz.lays112 a cap w
theorem Tryz.slices_Reverse_int_cells (b off n c : Nat) (zs : List Int) (w : World) (hz : n ≤ zs.length) (hbig : n ≤ 9223372036854775807) (hc : ∀ j, j < zs.length → w.cell? ⟨b, off + j, none⟩ = some (.int .i64 (zs.getD j 0))) (hf : ∀ j, j < n → w.frozen? ⟨b, off + j, none⟩ = false) :
 Calls Tryz.prog 162 #[.slice (some ⟨b, off, none⟩) n c] w fun e w' => e = .returned (.tuple #[]) ∧ ∃ q, w' = (w.drewN q).setCells b off ((zs.take n).reverse.map (Value.int .i64)) := Any.slices_Reverse_int_cells Tryz.lays112 b off n c zs w hz hbig hc hf
end Go.Proofs
namespace Go.Proofs.YtchliiaknmknhaaGreat
open Go.RowKit
theorem below_setCells {B g : Nat} {a : World} (hg : B ≤ g) (ys : List Value) : ∀ (w : World) (o : Nat), Below B a w → Below B a (w.setCells g o ys) := by
 induction ys with
 | nil => intro w o h; exact h
 | cons y ys ih => intro w o h; exact ih _ _ (h.setCell hg _)
theorem OwnI.setCells {base g n c : Nat} (ys : List Int) : ∀ (w : World) (o : Nat) (zs : List Int), OwnI w base (.slice (some ⟨g, 0, none⟩) n c) zs → o + ys.length ≤ zs.length →
 OwnI (w.setCells g o (intsV ys)) base (.slice (some ⟨g, 0, none⟩) n c) (zs.take o ++ ys ++ zs.drop (o + ys.length)) := by
 induction ys with
 | nil => intro w o zs h _; simpa [intsV, World.setCells] using h
 | cons y ys ih =>
   intro w o zs h hl
   simp only [List.length_cons] at hl
   have h1 := ih (w.setCell ⟨g, o, none⟩ (.int .i64 y)) (o + 1) (zs.set o y) (h.stored o y) (by simp; omega)
   have e : (zs.set o y).take (o + 1) ++ ys ++ (zs.set o y).drop (o + 1 + ys.length) = zs.take o ++ (y :: ys) ++ zs.drop (o + (y :: ys).length) := by
    have e1 : (zs.set o y).take (o + 1) = zs.take o ++ [y] := by
     rw [List.set_eq_take_append_cons_drop, if_pos (by omega), List.take_append]
     simp
     have : min o zs.length = o := by omega
     rw [this]; simp
     exact List.take_of_length_le (by simp; omega)
    have e2 : (zs.set o y).drop (o + 1 + ys.length) = zs.drop (o + 1 + ys.length) := by
     rw [List.drop_set]; rw [if_pos (by omega)]
    rw [e1, e2]; simp [Nat.add_assoc, Nat.add_comm 1 ys.length]
   rw [e] at h1
   exact h1
set_option maxHeartbeats 400000 in
theorem permTurn_any (a : Option Addr) (c : Nat) (zs : List Int) (w : World) (h : IntsAt w a zs) (hlen : zs.length < 1000000) :
 Calls Tryz.prog 152 #[.slice a zs.length c] w fun e w' => ∃ v, e = .returned v ∧ SliceIs w' v zs.reverse ∧ Below w.heap.size w w' := by
 have HI := Lib.hid h
 clear h
 go_enter Tryz.func152, Tryz.ntmps152
 go_wp2_with fail
 refine (clone_any _ _ zs _ HI.out hlen).mono ?_
 rintro e w1 ⟨g, rfl, hown, hbel⟩
 have hg : w.heap.size ≤ g := (hown.lt g rfl).1
 go_wp2_with fail
 refine (Tryz.slices_Reverse_int_cells g 0 zs.length zs.length zs w1 (Nat.le_refl _) (by omega) (fun j hj => by rw [Nat.zero_add]; exact hown.cell j hj) (fun j hj => by rw [Nat.zero_add]; exact hown.frozen j)).mono ?_
 rintro e w2 ⟨rfl, q, hw2⟩
 have h2 := OwnI.setCells zs.reverse (w1.drewN q) 0 zs (hown.drewN q) (by simp)
 have e : zs.drop (0 + zs.reverse.length) = [] := List.drop_of_length_le (by simp)
 rw [e, List.take_zero, List.nil_append, List.append_nil] at h2
 have hb2 : Below w.heap.size w ((w1.drewN q).setCells g 0 (intsV zs.reverse)) := below_setCells hg _ _ _ (below_drewN hbel _)
 rw [List.take_length] at hw2
 change w2 = (w1.drewN q).setCells g 0 (intsV zs.reverse) at hw2
 rw [← hw2] at h2 hb2
 clear hw2
 go_wp2_with fail
 go_ret
 exact ⟨_, rfl, h2.sliceIs (by simp; omega), hb2⟩
open Go.RowKit
abbrev KF : Law := fun _ _ _ _ _ _ _ => False
section
variable {K : Law} {n : Nat} {Od : List Nat → Prop} {room : Nat} {w0 w w' : World} {mb : Nat} {fs : List (Int × BF)} {nx : Int} {o o' : Own} {m m' : ManD} {V V' : Nat → BF}
theorem SatE.full (h : SatE KF n Od room w0 mb fs nx w o m V) : SatE K n Od room w0 mb fs nx w o m V := by
 obtain ⟨s, hs⟩ := h.is
 exact ⟨⟨s, hs.mono fun _ _ _ _ _ e => e.elim⟩, h.lt, h.ok, h.vars, h.od, h.room, h.next, h.hs, h.chg⟩
theorem SatE.cleared {s : ManW} {w1 : World} (h : SatE K n Od room w0 mb fs nx w o m V) (g1 : ManIn (fun _ _ _ _ _ => False) o w1 mb m s) (g2 : Chg (· = .entries) o o w w1) (g3 : OwnLt o w1) : SatE KF n Od room w0 mb fs nx w1 o m V :=
 ⟨⟨s, g1⟩, g3, h.ok, h.vars, h.od, h.room, h.next, h.hs, h.chg.lower (ChgX.of_chg g2.any NoB) (fun _ e => e.elim)⟩
structure HapS (n room : Nat) (w0 : World) (mb : Nat) (fs : List (Int × BF)) (nx : Int) (o : Own) (w : World) (m : ManD) (o' : Own) (w' : World) (m' : ManD) (V' : Nat → BF) : Prop where
 sat : SatE KF n (fun _ => True) room w0 mb fs nx w' o' m' V'
 waits : m'.waits = m.waits
 calls : m'.calls = m.calls
 chg : Chg (fun _ => True) o o' w w'
theorem HapS.trans {o'' : Own} {w'' : World} {m'' : ManD} {V'' : Nat → BF} (h : HapS n room w0 mb fs nx o w m o' w' m' V') (h' : HapS n room w0 mb fs nx o' w' m' o'' w'' m'' V'') : HapS n room w0 mb fs nx o w m o'' w'' m'' V'' :=
 ⟨h'.sat, h'.waits.trans h.waits, h'.calls.trans h.calls, h.chg.trans h'.chg⟩
theorem HapS.below {w'' : World} (h : HapS n room w0 mb fs nx o w m o' w' m' V') (hb : Below w'.heap.size w' w'') : HapS n room w0 mb fs nx o w m o' w'' m' V' :=
 ⟨h.sat.below hb, h.waits, h.calls, h.chg.trans (Chg.of_below hb _ _)⟩
theorem hapSwap {s : ManW} (h : SatE KF n (fun _ => True) room w0 mb fs nx w o m V) (hs : ManIn (fun _ _ _ _ _ => False) o w mb m s) (hn : nx ≤ 549755813888) (z : Int) :
 Calls Tryz.prog 100 #[.pointer (some ⟨s.sb, 0, none⟩), .int .i64 z] w fun e w' => ∃ q : Int, e = .returned (.int .i64 q) ∧ ∃ o' m' V', HapS n room w0 mb fs nx o w m o' w' m' V' := by
 by_cases hz : z < 0 ∨ (n : Int) - 1 ≤ z
 ·
  refine (storeSwap_bad hs.store h.ok.store.small z (by rw [h.vars]; exact hz)).mono ?_
  rintro e w' ⟨rfl, rfl⟩
  exact ⟨2, rfl, o, m, V, h, rfl, rfl, Chg.refl _ _ _⟩
 ·
  obtain ⟨k, rfl⟩ : ∃ k : Nat, z = k := ⟨z.toNat, by omega⟩
  refine (satSwap h hs (Chg.refl _ _ _) h.lt (by omega) hn).mono ?_
  rintro e w' ⟨o', m', V', hm⟩
  have hr : HapS n room w0 mb fs nx o w m o' w' m' V' := ⟨hm.sat, hm.waits, hm.calls, hm.chg⟩
  obtain ⟨d0, cr, hw⟩ := hm.way
  rcases hw with ⟨e1, _⟩ | ⟨e1, _⟩
  ·
   exact ⟨7, e1, o', m', V', hr⟩
  ·
   exact ⟨0, e1, o', m', V', hr⟩
theorem hapCollect {s : ManW} (h : SatE KF n (fun _ => True) room w0 mb fs nx w o m V) (hs : ManIn (fun _ _ _ _ _ => False) o w mb m s) :
 Calls Tryz.prog 101 #[.pointer (some ⟨s.sb, 0, none⟩)] w fun e w' => ∃ q : Int, e = .returned (.int .i64 q) ∧ ∃ o' m' V', HapS n room w0 mb fs nx o w m o' w' m' V' := by
 refine (collect_all hs.store h.lt h.ok.store).mono ?_
 rintro e w' ⟨rfl, o', d', st, lt, cr, ch⟩
 exact ⟨_, rfl, o', { m with d := d' }, V, ⟨⟨s, hs.setStore h.lt st ch⟩, lt, ⟨cr.ok h.ok.store, handles_coll h.ok.handles h.ok.store cr⟩, by dsimp only; rw [cr.vars]; exact h.vars, trivial, by dsimp only; rw [cr.room]; exact h.room, h.next, h.hs, h.chg.lower (ChgX.of_chg ch.any NoB) (fun _ e => e.elim)⟩, rfl, rfl, ch.any⟩
theorem ownI_len_le {base : Nat} {v : Value} {zs : List Int} (h : OwnI w base v zs) : zs.length ≤ 9223372036854775807 := by
 rcases h.2 with ⟨_, h0⟩ | ⟨g, cap, cur, _, _, _, h1, h2, _⟩
 ·
  omega
 ·
  unfold maxLen at h2; omega
theorem IntsAt.chg {R : Role → Prop} {a : Option Addr} {zs : List Int} (h : IntsAt w a zs) (hc : Chg R o o' w w') (hn : ∀ x, a = some x → o x.block = none) : IntsAt w' a zs :=
 ⟨h.len, fun k hk => by
  obtain ⟨b, off, rfl, hc1⟩ := h.cells k hk
  exact ⟨b, off, rfl, hc.cell (p := ⟨b, off + k, none⟩) hc1 (hn ⟨b, off, none⟩ rfl)⟩⟩
set_option maxRecDepth 100000 in
set_option maxHeartbeats 1000000 in
theorem happen_any (hn : nx ≤ 549755813888) (ev : Ev) : HapG K n (fun _ => True) room w0 mb fs nx ev := by
 intro o W m V h
 obtain ⟨P, hP⟩ : ∃ P : Ending → World → Prop, P = fun x w' => x = .returned (.tuple #[]) ∧
  ∃ o' m' V', SatE K n (fun _ => True) room w0 mb fs nx w' o' m' V' ∧ m'.waits = m.waits ∧ m'.calls = m.calls ∧ ChgX NoB o o' W w' := ⟨_, rfl⟩
 rw [← hP]
 obtain ⟨W1, hW1⟩ : ∃ W1, W1 = W.alloc (.cells #[.int .i64 ev.after, .int .i64 ev.kind, .int .i64 ev.level] 94) := ⟨_, rfl⟩
 have hb1 : Below W.heap.size W W1 := by rw [hW1]; exact below_new1 W _
 obtain ⟨bx, hbx⟩ : ∃ q, q = W.heap.size := ⟨_, rfl⟩
 have HB1 : Hid (Box o W1 bx (.cells #[.int .i64 ev.after, .int .i64 ev.kind, .int .i64 ev.level] 94 (0, 0))) := Lib.hid ⟨by rw [hW1, hbx]; exact heap_alloc_new W _, h.lt.none (by rw [hbx]; exact Nat.le_refl _)⟩
 have h1 := h.below hb1
 have HP : Hid (∀ o' w' m' V', HapS n room w0 mb fs nx o W1 m o' w' m' V' → P (.returned (.tuple #[])) w') := Lib.hid (by
  intro o' w' m' V' hh
  rw [hP]
  exact ⟨rfl, o', m', V', hh.sat.full, hh.waits, hh.calls, (ChgX.of_below hb1 o NoB).trans (ChgX.of_chg hh.chg NoB) (fun _ _ e => e)⟩)
 obtain ⟨s, hs⟩ := h1.is
 obtain ⟨c0, c1, c2, c3, c4, c5, f0⟩ := cells6 hs.blk
 have HCL := Lib.hid (wclear h1 hs (fun _ _ _ _ _ => False))
 have H1 := Lib.hid h1
 obtain ⟨kd, hkd⟩ : ∃ z, z = ev.kind := ⟨_, rfl⟩
 obtain ⟨lv, hlv⟩ : ∃ z, z = ev.level := ⟨_, rfl⟩
 obtain ⟨af, haf⟩ : ∃ z, z = ev.after := ⟨_, rfl⟩
 have HN := Lib.hid hn
 unfold evA
 rw [← hkd, ← hlv, ← haf] at HB1 hW1 ⊢
 have HW := Lib.hid hW1
 have HX := Lib.hid hbx
 clear h h1 hs hP hb1 hbx hkd hlv haf hn hW1
 go_enter Tryz.func122, Tryz.ntmps122
 go_upto_region 1 with fail
 rw [← HW.out, ← HX.out]
 go_wp2_with fail
 refine HCL.out.mono ?_
 rintro x w1 ⟨rfl, g1, g2, g3⟩
 have HS1 := Lib.hid (H1.out.cleared g1 g2 g3)
 have HB2 := Lib.hid (HB1.out.chg g2)
 have HG := Lib.hid g1
 have HCH : Hid (Chg (fun _ => True) o o W1 w1) := Lib.hid g2.any
 have b1 : w1.cell? ⟨bx, 1, none⟩ = some (.int .i64 kd) := HB2.out.cell 1
 have b2 : w1.cell? ⟨bx, 2, none⟩ = some (.int .i64 lv) := HB2.out.cell 2
 clear c0 c1 c2 c3 c4 c5 f0 HCL g1 g2 g3
 obtain ⟨c0, c1, c2, c3, c4, c5, f0⟩ := cells6 HG.out.blk
 by_cases k1 : kd = 1
 ·
  subst k1
  have HC := Lib.hid (hapCollect HS1.out HG.out)
  go_wp2_with fail
  refine HC.out.mono ?_
  rintro x w2 ⟨q, rfl, o', m', V', hh⟩
  have HF := Lib.hid (HP.out o' w2 m' V' ⟨hh.sat, hh.waits, hh.calls, HCH.out.trans hh.chg⟩)
  clear hh
  go_wp2_with fail
  refine bodyPost_end (results_none rfl _ _ _) rfl ?_
  exact HF.out
 ·
  have e1 : (kd == 1) = false := by simp [k1]
  by_cases k2 : kd = 2
  ·
   subst k2
   clear k1 e1
   have HC := Lib.hid (hapSwap (HS1.out.below (below_draw w1 1)) (HG.out.below HS1.out.lt (below_draw w1 1)) HN.out lv)
   go_upto_region 13 with fail
   refine wp_region_mix (fun W : World => W = w1.drew) true 6 [(0, false), (1, false), (2, false), (3, false), (4, false), (5, false), (6, true)] (by kernel_rfl) (by kernel_rfl) rfl ?_
   simp only [planned, plnLz]
   iterate 6
    refine mix_readE rfl ?_
    apply Exists.intro
    refine ⟨fun w' hw => ?_, ?_⟩
    ·
     subst hw
     go_simp
     rfl
    simp only [putLz]
   refine mix_lastCall rfl (by go_simp) (HC.out.mono (R' := fun e w' => ∃ v, e = .returned v ∧ ∃ o' m' V', HapS n room w0 mb fs nx o w1.drew m o' w' m' V') (fun e w' h => by obtain ⟨q, e1, h2⟩ := h; exact ⟨_, e1, h2⟩)) ?_
   rintro v w2 ⟨o', m', V', hh⟩
   simp only [putLz]
   refine np_normal ?_
   have HF := Lib.hid (HP.out o' w2 m' V' ⟨hh.sat, hh.waits, hh.calls, HCH.out.trans ((Chg.of_below (below_draw w1 1) _ _).trans hh.chg)⟩)
   clear hh
   go_wp2_with fail
   refine bodyPost_end (results_none rfl _ _ _) rfl ?_
   exact HF.out
  ·
   have e2 : (kd == 2) = false := by simp [k2]
   clear k1 k2
   have hvl : m.d.vars.length ≤ 64 := HS1.out.ok.store.small
   have HO := Lib.hid (storeOrder_any HG.out.store HS1.out.lt hvl)
   go_wp2_with fail
   refine HO.out.mono ?_
   rintro x w2 ⟨v, rfl, hown, hb2⟩
   obtain ⟨zs, hzs⟩ : ∃ zs, zs = m.d.vars.map Int.ofNat := ⟨_, rfl⟩
   have hzl : zs.length ≤ 64 := by rw [hzs, List.length_map]; exact hvl
   rw [← hzs] at hown
   obtain ⟨a, c, rfl, ha, hna⟩ := hown.sliceIs (by omega)
   have HT := Lib.hid (permTurn_any a c zs w2 ha (by omega))
   have HSL : Hid (SliceIs w2 (.slice a zs.length c) zs) := Lib.hid ⟨a, c, rfl, ha, hna⟩
   have HB22 := Lib.hid hb2
   have HZL := Lib.hid hzl
   clear hown hb2 hzs ha hna hvl c0 c1 c2 c3 c4 c5 f0 b1 b2 HO
   go_wp2_with fail
   refine HT.out.mono ?_
   rintro x w3 ⟨vt, rfl, hst, hb3⟩
   obtain ⟨at', ct', hvt, q1, q2⟩ := hst
   rw [List.length_reverse] at hvt
   subst hvt
   have HST := Lib.hid (permSteps_any (.slice a zs.length c) (.slice at' zs.length ct') zs zs.reverse w3 (HSL.out.below hb3) ⟨at', ct', by rw [List.length_reverse], q1, q2⟩ (by omega) (by simp; omega))
   have HB3 := Lib.hid hb3
   clear hb3 HT q1 q2
   go_wp2_with fail
   refine HST.out.mono ?_
   rintro x w4 ⟨vr, rfl, hor, hb4⟩
   obtain ⟨rs, hrs⟩ : ∃ rs, rs = stepsOf zs zs.reverse := ⟨_, rfl⟩
   obtain ⟨er, her⟩ : ∃ z, z = stepsErr zs zs.reverse := ⟨_, rfl⟩
   rw [← hrs] at hor
   rw [← her]
   have hbx : Below w1.heap.size w1 w4 := HB22.out.trans ((HB3.out.trans (hb4.mono HB3.out.size)).mono HB22.out.size)
   have hlow := hor.lt
   have hrl : rs.length ≤ 9223372036854775807 := ownI_len_le hor
   obtain ⟨ar, cr, rfl, hi, _⟩ := hor.sliceIs hrl
   have HI0 : Hid (∃ o' m' V', HapS n room w0 mb fs nx o w1 m o' w4 m' V' ∧ IntsAt w4 ar rs ∧ (∀ x, ar = some x → o' x.block = none)) := Lib.hid ⟨o, m, V, (⟨HS1.out.below hbx, rfl, rfl, Chg.of_below hbx _ _⟩ : HapS n room w0 mb fs nx o w1 m o w4 m V), hi, fun x hx => by
    subst hx
    refine HS1.out.lt.none ?_
    have h1 := (hlow _ rfl).1
    have h2 := HB22.out.size
    have h3 := HB3.out.size
    omega⟩
   clear her hrs hor hb4 hbx hlow hi HST
   go_wp2_with fail
   go_loopw [30] (fun s30 wr => ∃ j : Nat, j ≤ rs.length ∧ s30 = .int .i64 j ∧ Hid (∃ o' m' V', HapS n room w0 mb fs nx o w1 m o' wr m' V' ∧ IntsAt wr ar rs ∧ (∀ x, ar = some x → o' x.block = none))) (fun s30 _ => rs.length - (intOf s30).toNat)
   case atStart => exact ⟨0, Nat.zero_le _, rfl, HI0⟩
   case round =>
    obtain ⟨j, hj, rfl, HH⟩ := hrel
    obtain ⟨oj, mj, Vj, hh, hi, hno⟩ := HH.out
    by_cases hlt : j < rs.length
    ·
     obtain ⟨b, off, rfl, hcell⟩ := hi.cells j hlt
     obtain ⟨s', hs'⟩ := hh.sat.is
     obtain ⟨c0, c1, c2, c3, c4, c5, f0⟩ := cells6 hs'.blk
     have hjz : (j : Int) < rs.length := by omega
     obtain ⟨z, hz⟩ : ∃ z, z = at0 rs j := ⟨_, rfl⟩
     rw [← hz] at hcell
     have HC := Lib.hid (hapSwap hh.sat hs' HN.out z)
     have HHJ := Lib.hid hh
     have HIJ := Lib.hid hi
     have HNO := Lib.hid hno
     have hblt : b < wr.heap.size := lt_of_cell hcell
     have HBL := Lib.hid hblt
     have HJL := Lib.hid hlt
     clear hh hi hno hs' HH HI0 hz hblt
     go_wp2_with fail
     refine HC.out.mono ?_
     rintro x w5 ⟨q, rfl, o5, m5, V5, h5⟩
     have HNX := Lib.hid (And.intro (HHJ.out.trans h5) (And.intro (HIJ.out.chg h5.chg HNO.out) (fun x (hx : some _ = some x) => h5.chg.alien' (by cases hx; exact HBL.out) (HNO.out x hx))))
     clear h5 c0 c1 c2 c3 c4 c5 f0 hcell
     go_wp2_with fail
     go_roundw
     case rel => exact ⟨j + 1, Nat.succ_le_of_lt HJL.out, by go_num, Lib.hid ⟨_, _, _, HNX.out.1, HNX.out.2.1, HNX.out.2.2⟩⟩
     case measure =>
      have := HJL.out
      simp [intOf]
      omega
    ·
     obtain rfl : j = rs.length := by omega
     have HF := Lib.hid (HP.out oj wr mj Vj ⟨hh.sat, hh.waits, hh.calls, HCH.out.trans hh.chg⟩)
     clear hh hi hno HH HI0
     go_wp2_with fail
     refine bodyPost_end (results_none rfl _ _ _) rfl ?_
     exact HF.out
end
open Go.RowKit
theorem sumTo_add (f g : Nat → Int) : ∀ k, sumTo k (fun i => f i + g i) = sumTo k f + sumTo k g
 | 0 => by simp [sumTo]
 | k + 1 => by simp only [sumTo]; rw [sumTo_add f g k]; omega
theorem sumTo_mono {f g : Nat → Int} : ∀ k, (∀ i, i < k → f i ≤ g i) → sumTo k f ≤ sumTo k g
 | 0, _ => by simp [sumTo]
 | k + 1, h => by
   have h1 := sumTo_mono k (fun i hi => h i (by omega))
   have h2 := h k (by omega)
   simp only [sumTo]; omega
theorem sumTo_mul (c : Int) (f : Nat → Int) : ∀ k, c * sumTo k f = sumTo k (fun i => c * f i)
 | 0 => by simp [sumTo]
 | k + 1 => by simp only [sumTo]; rw [Int.mul_add, sumTo_mul c f k]
theorem sumTo_swap (f : Nat → Nat → Int) (m : Nat) : ∀ k, sumTo k (fun i => sumTo m (fun j => f i j)) = sumTo m (fun j => sumTo k (fun i => f i j))
 | 0 => by simp only [sumTo]; rw [sumTo_zero]
 | k + 1 => by
   simp only [sumTo]
   rw [sumTo_swap f m k, ← sumTo_add]
theorem sumTo_toE {g : Nat → Int} (hg : ∀ i, 0 ≤ g i) (e k : Nat) : sumTo k (fun i => g i * toE e i) ≤ g (e / 2) := by
 by_cases hk : e / 2 < k
 ·
  have h1 := sumTo_upd (f := fun _ => 0) (g := fun i => g i * toE e i) (j := e / 2) (fun i hi => by
   have : toE e i = 0 := by unfold toE; rw [if_neg (Ne.symm hi)]
   simp [this]) k hk
  rw [h1, sumTo_zero]
  have : toE e (e / 2) = 1 := toE_hit e
  simp [this]
 ·
  rw [sumTo_congr (g := fun _ => 0) k (fun i hi => by
   have : toE e i = 0 := by unfold toE; rw [if_neg (by omega)]
   simp [this]), sumTo_zero]
  exact hg _
def gW (d : StoreD) (i : Nat) : Int := match nodesOf d i with
 | some b => ((2 ^ (d.vars.length - levN d b.v) : Nat) : Int) - 1
 | none => 0
theorem gW_nonneg (d : StoreD) (i : Nat) : 0 ≤ gW d i := by
 unfold gW
 split
 ·
  have : 0 < 2 ^ (d.vars.length - levN d (by assumption : BN).v) := Nat.pow_pos (by decide)
  omega
 ·
  omega
theorem gW_le (d : StoreD) (i l : Nat) (h : ∀ b, nodesOf d i = some b → l ≤ levN d b.v) : gW d i ≤ ((2 ^ (d.vars.length - l) : Nat) : Int) - 1 := by
 unfold gW
 split
 ·
  rename_i b hb
  have h1 := h b hb
  have : 2 ^ (d.vars.length - levN d b.v) ≤ 2 ^ (d.vars.length - l) := Nat.pow_le_pow_right (by decide) (by omega)
  omega
 ·
  have : 0 < 2 ^ (d.vars.length - l) := Nat.pow_pos (by decide)
  omega
theorem gW_edges {d : StoreD} {V : Nat → BF} (hk : StoreOK d V) {j : Nat} {b : BN} (hb : nodesOf d j = some b) : gW d (b.lo / 2) + gW d (b.hi / 2) ≤ gW d j - 1 := by
 have hl := hk.dag.lt _ (hk.dag.var _ _ hb)
 have key : ∀ e, levN d b.v < lvE d.vars.length (levN d) (nodesOf d) e → gW d (e / 2) ≤ ((2 ^ (d.vars.length - (levN d b.v + 1)) : Nat) : Int) - 1 := fun e he => gW_le d _ _ (fun c hc => by rw [lvE_of hc] at he; omega)
 have h1 := key _ (hk.dag.lvLo _ _ hb)
 have h2 := key _ (hk.dag.lvHi _ _ hb)
 have h3 : gW d j = ((2 ^ (d.vars.length - levN d b.v) : Nat) : Int) - 1 := by unfold gW; rw [hb]
 have h4 : d.vars.length - levN d b.v = (d.vars.length - (levN d b.v + 1)) + 1 := by omega
 rw [h3, h4, Nat.pow_succ]
 omega
theorem many_ext {d : StoreD} {V : Nat → BF} (hk : StoreOK d V) (h0 : d.dead = 0) (hc : (d.pool.many : Int) = sumTo d.pool.at_.length (fun i => if d.pool.tk i = true then 1 else 0)) :
 (d.pool.many : Int) ≤ sumTo d.pool.at_.length (fun i => gW d i * extOf d i) := by
 obtain ⟨k, hkk⟩ : ∃ k, k = d.pool.at_.length := ⟨_, rfl⟩
 rw [← hkk] at hc ⊢
 have e1 : sumTo k (fun i => gW d i * (cntOf d i : Int)) = sumTo k (fun i => gW d i * extOf d i) + sumTo k (fun i => gW d i * sumTo k (from1 (nodesOf d) (cntOf d) i)) := by
  rw [← sumTo_add]
  refine sumTo_congr k fun i _ => ?_
  cases hb : nodesOf d i with
  | none => simp [gW, hb]
  | some b => rw [hk.live.cnt.eq i b hb, Int.mul_add, hkk]
 have e2 : sumTo k (fun i => gW d i * sumTo k (from1 (nodesOf d) (cntOf d) i)) = sumTo k (fun j => sumTo k (fun i => gW d i * from1 (nodesOf d) (cntOf d) i j)) := by
  rw [← sumTo_swap]
  exact sumTo_congr k fun i _ => sumTo_mul _ _ _
 have e3 : sumTo k (fun j => sumTo k (fun i => gW d i * from1 (nodesOf d) (cntOf d) i j)) ≤ sumTo k (fun j => gW d j + -(if d.pool.tk j = true then 1 else 0)) := by
  refine sumTo_mono k fun j _ => ?_
  cases hb : nodesOf d j with
  | none =>
    have ht : d.pool.tk j = false := nodesOf_none hb
    rw [sumTo_congr (g := fun _ => 0) k (fun i _ => by simp [from1, hb]), sumTo_zero]
    simp [gW, hb, ht]
  | some b =>
    have ht : d.pool.tk j = true := (nodesOf_some hb).1
    have hp := live_pos hk.live h0 hb
    rw [sumTo_congr (g := fun i => gW d i * toE b.lo i + gW d i * toE b.hi i) k (fun i _ => by
     simp only [from1, hb, if_pos hp, edgesOf]; rw [Int.mul_add]), sumTo_add, ht, if_pos rfl]
    have h1 := sumTo_toE (gW_nonneg d) b.lo k
    have h2 := sumTo_toE (gW_nonneg d) b.hi k
    have h3 := gW_edges hk hb
    omega
 have e4 : sumTo k (fun i => gW d i) ≤ sumTo k (fun i => gW d i * (cntOf d i : Int)) := by
  refine sumTo_mono k fun i _ => ?_
  cases hb : nodesOf d i with
  | none => simp [gW, hb]
  | some b =>
    have hp := live_pos hk.live h0 hb
    have hg := gW_nonneg d i
    have h1 : (1 : Int) ≤ (cntOf d i : Int) := by omega
    have h2 := Int.mul_le_mul_of_nonneg_left h1 hg
    omega
 have e5 : sumTo k (fun j => gW d j + -(if d.pool.tk j = true then 1 else 0)) = sumTo k (fun j => gW d j) + sumTo k (fun j => -(if d.pool.tk j = true then 1 else 0)) := sumTo_add _ _ _
 have e6 : sumTo k (fun j => -(if d.pool.tk j = true then (1 : Int) else 0)) = -sumTo k (fun j => if d.pool.tk j = true then 1 else 0) := by
  have := sumTo_mul (-1) (fun j => if d.pool.tk j = true then (1 : Int) else 0) k
  rw [sumTo_congr (g := fun i => -1 * if d.pool.tk i = true then (1 : Int) else 0) k (fun i _ => by omega), ← this]; omega
 omega
theorem refs_sum (d : StoreD) (k : Nat) : ∀ hs : List (Int × Nat), sumTo k (fun i => gW d i * (refsOf hs i : Int)) ≤ hs.length * ((2 ^ d.vars.length : Nat) : Int)
 | [] => by
   rw [sumTo_congr (g := fun _ => 0) k (fun i _ => by simp [refsOf]), sumTo_zero]
   simp
 | p :: l => by
   have ih := refs_sum d k l
   have h1 : sumTo k (fun i => gW d i * (refsOf (p :: l) i : Int)) ≤ sumTo k (fun i => gW d i * (refsOf l i : Int) + gW d i * toE p.2 i) := by
    refine sumTo_mono k fun i _ => ?_
    rw [← Int.mul_add]
    refine Int.mul_le_mul_of_nonneg_left ?_ (gW_nonneg d i)
    unfold refsOf toE
    by_cases e : p.2 / 2 = i
    ·
     rw [if_pos e]
     have : (List.filter (fun p => decide (1 < p.1) && p.2 / 2 == i) (p :: l)).length ≤ (List.filter (fun p => decide (1 < p.1) && p.2 / 2 == i) l).length + 1 := by
      rw [List.filter_cons]; split <;> simp
     omega
    ·
     rw [if_neg e, List.filter_cons_of_neg (by simp [e])]; omega
   have h2 := sumTo_toE (gW_nonneg d) p.2 k
   have h3 := gW_le d (p.2 / 2) 0 (fun _ _ => Nat.zero_le _)
   rw [sumTo_add] at h1
   rw [List.length_cons, Int.natCast_add, Int.add_mul]
   simp only [Nat.sub_zero] at h3
   have h4 : ((1 : Nat) : Int) * ((2 ^ d.vars.length : Nat) : Int) = ((2 ^ d.vars.length : Nat) : Int) := by simp
   omega
section
variable {K : Law} {n : Nat} {Od : List Nat → Prop} {room : Nat} {w0 w w' : World} {mb : Nat} {fs : List (Int × BF)} {nx : Int} {o o' : Own} {m m' : ManD} {V V' : Nat → BF}
theorem SatE.few (h : SatE K n Od room w0 mb fs nx w o m V) (h0 : m.d.dead = 0) : m.d.pool.many ≤ fs.length * 2 ^ n := by
 obtain ⟨s, hs⟩ := h.is
 obtain ⟨s2, h2⟩ := hs.store
 have h1 := many_ext h.ok.store h0 h2.pool.cnt
 have h3 := refs_sum m.d m.d.pool.at_.length m.hs
 have h4 : sumTo m.d.pool.at_.length (fun i => gW m.d i * extOf m.d i) = sumTo m.d.pool.at_.length (fun i => gW m.d i * (refsOf m.hs i : Int)) := by
  refine sumTo_congr _ fun i _ => ?_
  cases hb : nodesOf m.d i with
  | none => simp [gW, hb]
  | some b => rw [h.ok.handles.refs i b hb]
 have h5 : fs.length = m.hs.length := by rw [← h.hs, List.length_map]
 rw [h5, ← h.vars]
 have h6 : ((m.hs.length * 2 ^ m.d.vars.length : Nat) : Int) = m.hs.length * ((2 ^ m.d.vars.length : Nat) : Int) := by rw [Int.natCast_mul]
 omega
end
open Go.RowKit
section
variable {K : Law} {n : Nat} {Od : List Nat → Prop} {room : Nat} {w0 w w' : World} {mb : Nat} {fs : List (Int × BF)} {nx : Int} {o o' : Own} {m m' : ManD} {V V' : Nat → BF}
structure NewH (K : Law) (n : Nat) (Od : List Nat → Prop) (room : Nat) (w0 : World) (mb : Nat) (fs : List (Int × BF)) (nx : Int) (o : Own) (w : World) (m : ManD) (V : Nat → BF) (F : BF) (o' : Own) (w' : World) (m' : ManD) : Prop where
 sat : SatE K n Od room w0 mb (fs ++ [(nx, F)]) (nx + 1) w' o' m' V
 waits : m'.waits = m.waits
 calls : m'.calls = m.calls
 nodes : nodesOf m'.d = nodesOf m.d
 vars : m'.d.vars = m.d.vars
 many : m'.d.pool.many = m.d.pool.many
 chg : Chg (fun _ => True) o o' w w'
set_option maxRecDepth 100000 in
set_option maxHeartbeats 1000000 in
theorem manCopy_any (hK : LawOK K) (h : SatE K n Od room w0 mb fs nx w o m V) (hn : nx < 549755813888) {k : Int} {F : BF} (hk : (k, F) ∈ fs) :
 Calls Tryz.prog 48 #[.pointer (some ⟨mb, 0, none⟩), .int .i64 k] w fun x w' => x = .returned (.tuple #[.int .i64 nx, .int .i64 0]) ∧ ∃ o' m', NewH K n Od room w0 mb fs nx o w m V F o' w' m' := by
 obtain ⟨f, hf, rfl⟩ := h.find hk
 obtain ⟨s, hs⟩ := h.is
 obtain ⟨c0, c1, c2, c3, c4, c5, f0⟩ := cells6 hs.blk
 have hl := look_yes hs h.ok.handles.nodup hf
 have hnx := h.next
 have HG := Lib.hid (give_any hK h.is h.lt h.ok f (h.ok.handles.ok _ hf) (by rw [hnx]; omega))
 have H := Lib.hid h
 rw [hnx] at HG
 clear hs h hf hk hnx
 go_enter Tryz.func48, Tryz.ntmps48
 go_wp2_with fail
 refine HG.out.mono ?_
 rintro x w1 ⟨rfl, o', m', hg⟩
 have HQ : Hid (NewH K n Od room w0 mb fs nx o w m V (ef V f) o' w1 m') := Lib.hid ⟨H.out.gave hg, hg.waits, hg.calls, hg.nodes, hg.vars, hg.many, hg.chg⟩
 clear hg
 go_wp2_with fail
 go_ret2
 exact ⟨rfl, _, _, HQ.out⟩
theorem okE_not {N : Nat → Option BN} {e : Nat} (h : okE N e) : okE N (enot e) := by
 unfold okE at h ⊢
 rw [enot_half]; exact h
set_option maxRecDepth 100000 in
set_option maxHeartbeats 1000000 in
theorem manNot_any (hK : LawOK K) (h : SatE K n Od room w0 mb fs nx w o m V) (hn : nx < 549755813888) {k : Int} {F : BF} (hk : (k, F) ∈ fs) :
 Calls Tryz.prog 47 #[.pointer (some ⟨mb, 0, none⟩), .int .i64 k] w fun x w' => x = .returned (.tuple #[.int .i64 nx, .int .i64 0]) ∧ ∃ o' m', NewH K n Od room w0 mb fs nx o w m V (fun ρ => !F ρ) o' w' m' := by
 obtain ⟨f, hf, rfl⟩ := h.find hk
 obtain ⟨s, hs⟩ := h.is
 obtain ⟨c0, c1, c2, c3, c4, c5, f0⟩ := cells6 hs.blk
 have hl := look_yes hs h.ok.handles.nodup hf
 have hnx := h.next
 have hok := h.ok.handles.ok _ hf
 have hlt : f < eMax := by
  obtain ⟨s2, h2⟩ := hs.store
  have := h2.edge_lt hok
  unfold eMax; omega
 have HG := Lib.hid (give_any hK h.is h.lt h.ok (enot f) (okE_not hok) (by rw [hnx]; omega))
 have HNOT := Lib.hid (not_any f w hlt)
 have H := Lib.hid h
 rw [hnx] at HG
 clear hs h hf hk hnx hok hlt
 go_enter Tryz.func47, Tryz.ntmps47
 go_wp2_with fail
 refine HNOT.out.mono ?_
 rintro x w1 ⟨rfl, rfl⟩
 go_wp2_with fail
 refine HG.out.mono ?_
 rintro x w1 ⟨rfl, o', m', hg⟩
 have HQ : Hid (NewH K n Od room w0 mb fs nx o w m V (fun ρ => !ef V f ρ) o' w1 m') := Lib.hid (by
  have e : (fun ρ => !ef V f ρ) = ef V (enot f) := by funext ρ; rw [ef_enot]
  rw [e]
  exact ⟨H.out.gave hg, hg.waits, hg.calls, hg.nodes, hg.vars, hg.many, hg.chg⟩)
 clear hg
 go_wp2_with fail
 go_ret2
 exact ⟨rfl, _, _, HQ.out⟩
theorem SatE.nofind (h : SatE K n Od room w0 mb fs nx w o m V) {k : Int} (hk : ∀ p ∈ fs, p.1 ≠ k) : ∀ f, (k, f) ∉ m.hs := by
 intro f hf
 refine hk (k, ef V f) ?_ rfl
 rw [← h.hs]
 exact List.mem_map.2 ⟨(k, f), hf, rfl⟩
set_option maxRecDepth 100000 in
theorem manCopy_no (h : SatE K n Od room w0 mb fs nx w o m V) {k : Int} (hk : ∀ p ∈ fs, p.1 ≠ k) :
 Calls Tryz.prog 48 #[.pointer (some ⟨mb, 0, none⟩), .int .i64 k] w fun x w' => x = .returned (.tuple #[.int .i64 0, .int .i64 8]) ∧ w = w' := by
 have hno := h.nofind hk
 obtain ⟨s, hs⟩ := h.is
 obtain ⟨c0, c1, c2, c3, c4, c5, f0⟩ := cells6 hs.blk
 have hl := look_no hs hno
 clear hs h hno hk
 go_enter Tryz.func48, Tryz.ntmps48
 go_wp2_with fail
 go_ret2
 exact ⟨rfl, rfl⟩
set_option maxRecDepth 100000 in
theorem manNot_no (h : SatE K n Od room w0 mb fs nx w o m V) {k : Int} (hk : ∀ p ∈ fs, p.1 ≠ k) :
 Calls Tryz.prog 47 #[.pointer (some ⟨mb, 0, none⟩), .int .i64 k] w fun x w' => x = .returned (.tuple #[.int .i64 0, .int .i64 8]) ∧ w = w' := by
 have hno := h.nofind hk
 obtain ⟨s, hs⟩ := h.is
 obtain ⟨c0, c1, c2, c3, c4, c5, f0⟩ := cells6 hs.blk
 have hl := look_no hs hno
 clear hs h hno hk
 go_enter Tryz.func47, Tryz.ntmps47
 go_wp2_with fail
 go_ret2
 exact ⟨rfl, rfl⟩
set_option maxRecDepth 100000 in
theorem manIs_yes (h : SatE K n Od room w0 mb fs nx w o m V) {k : Int} {F : BF} (hk : (k, F) ∈ fs) :
 Calls Tryz.prog 50 #[.pointer (some ⟨mb, 0, none⟩), .int .i64 k] w fun x w' => x = .returned (.bool true) ∧ w = w' := by
 obtain ⟨f, hf, rfl⟩ := h.find hk
 obtain ⟨s, hs⟩ := h.is
 obtain ⟨c0, c1, c2, c3, c4, c5, f0⟩ := cells6 hs.blk
 have hl := look_yes hs h.ok.handles.nodup hf
 clear hs h hf hk
 go_enter Tryz.func50, Tryz.ntmps50
 go_wp2_with fail
 go_ret
 exact ⟨rfl, rfl⟩
set_option maxRecDepth 100000 in
theorem manIs_no (h : SatE K n Od room w0 mb fs nx w o m V) {k : Int} (hk : ∀ p ∈ fs, p.1 ≠ k) :
 Calls Tryz.prog 50 #[.pointer (some ⟨mb, 0, none⟩), .int .i64 k] w fun x w' => x = .returned (.bool false) ∧ w = w' := by
 have hno := h.nofind hk
 obtain ⟨s, hs⟩ := h.is
 obtain ⟨c0, c1, c2, c3, c4, c5, f0⟩ := cells6 hs.blk
 have hl := look_no hs hno
 clear hs h hno hk
 go_enter Tryz.func50, Tryz.ntmps50
 go_wp2_with fail
 go_ret
 exact ⟨rfl, rfl⟩
end
open Go.RowKit
def delK {α : Type} (k : Int) (l : List (Int × α)) : List (Int × α) := l.filter fun p => decide (p.1 ≠ k)
theorem delK_none {α : Type} {k : Int} {l : List (Int × α)} (h : ∀ p ∈ l, p.1 ≠ k) : delK k l = l := by
 unfold delK
 rw [List.filter_eq_self]
 intro p hp
 simp [h p hp]
theorem nodup_tail_ne {α : Type} {x : Int × α} {l : List (Int × α)} (h : ((x :: l).map Prod.fst).Nodup) : ∀ p ∈ l, p.1 ≠ x.1 := by
 intro p hp e
 rw [List.map_cons, List.nodup_cons] at h
 exact h.1 (List.mem_map.2 ⟨p, hp, e⟩)
theorem delK_cons_eq {α : Type} {x : Int × α} {l : List (Int × α)} (h : ((x :: l).map Prod.fst).Nodup) : delK x.1 (x :: l) = l := by
 have h1 := delK_none (nodup_tail_ne h)
 unfold delK at h1 ⊢
 rw [List.filter_cons_of_neg (by simp), h1]
theorem delK_cons_ne {α : Type} {k : Int} {x : Int × α} {l : List (Int × α)} (h : x.1 ≠ k) : delK k (x :: l) = x :: delK k l := by
 unfold delK
 rw [List.filter_cons_of_pos (by simp [h])]
theorem eraseIdx_delK {α : Type} {k : Int} : ∀ (l : List (Int × α)) (j : Nat) (hj : j < l.length), (l.map Prod.fst).Nodup → l[j].1 = k → l.eraseIdx j = delK k l
 | x :: l, 0, _, hn, hk => by
   have e : x.1 = k := hk
   subst e
   rw [delK_cons_eq hn]; rfl
 | x :: l, j + 1, hj, hn, hk => by
   have hj' : j < l.length := by simpa using hj
   have hk' : l[j].1 = k := by simpa using hk
   have hx : x.1 ≠ k := by
    intro e
    exact nodup_tail_ne hn l[j] (List.getElem_mem hj') (hk'.trans e.symm)
   have hn' : (l.map Prod.fst).Nodup := by rw [List.map_cons, List.nodup_cons] at hn; exact hn.2
   rw [delK_cons_ne hx, List.eraseIdx_cons_succ, eraseIdx_delK l j hj' hn' hk']
theorem delK_map {α β : Type} (k : Int) (l : List (Int × α)) (g : Int × α → Int × β) (hg : ∀ p, (g p).1 = p.1) : (delK k l).map g = delK k (l.map g) := by
 unfold delK
 rw [List.filter_map]
 congr 1
 refine List.filter_congr fun p _ => ?_
 simp [hg]
theorem delL_eq {k : Int} {l : List (Int × Value)} (hn : (l.map Prod.fst).Nodup) {v : Value} (hk : (k, v) ∈ l) : delL k l = delK k l := by
 unfold delL
 cases e : findL k l 0 with
 | none =>
   have h1 := getL_of_mem hn hk
   unfold getL at h1
   rw [e] at h1; cases h1
 | some p =>
   obtain ⟨j, u⟩ := p
   have h2 := findL_some e
   obtain ⟨q, h3, h4⟩ := h2
   have hq : j = q := by omega
   subst hq
   obtain ⟨h5, h6⟩ := List.getElem?_eq_some_iff.1 h4
   exact eraseIdx_delK l j h5 hn (by rw [h6])
theorem mem_delK {α : Type} {k : Int} {l : List (Int × α)} {p : Int × α} : p ∈ delK k l ↔ p ∈ l ∧ p.1 ≠ k := by
 unfold delK
 rw [List.mem_filter]
 simp
theorem refs_del {k : Int} {f : Nat} (h1 : 1 < k) : ∀ (hs : List (Int × Nat)), (hs.map Prod.fst).Nodup → (k, f) ∈ hs → ∀ i, refsOf hs i = refsOf (delK k hs) i + (if f / 2 = i then 1 else 0)
 | [], _, h, _ => by cases h
 | x :: l, hn, hm, i => by
   have hn' : (l.map Prod.fst).Nodup := by rw [List.map_cons, List.nodup_cons] at hn; exact hn.2
   by_cases e : x.1 = k
   ·
    have hx : x = (k, f) := by
     rcases List.mem_cons.1 hm with h | h
     ·
      exact h.symm
     ·
      exact ((nodup_tail_ne hn _ h) e.symm).elim
    subst hx
    rw [delK_cons_eq hn]
    unfold refsOf
    by_cases e2 : f / 2 = i
    ·
     rw [List.filter_cons_of_pos (by simp [h1, e2]), List.length_cons, if_pos e2]
    ·
     rw [List.filter_cons_of_neg (by simp [e2]), if_neg e2]; rfl
   ·
    have hm' : (k, f) ∈ l := by
     rcases List.mem_cons.1 hm with h | h
     ·
      rw [← h] at e; exact (e rfl).elim
     ·
      exact h
    have ih := refs_del h1 l hn' hm' i
    rw [delK_cons_ne e]
    unfold refsOf at ih ⊢
    by_cases e3 : (decide (1 < x.1) && x.2 / 2 == i) = true
    ·
     rw [List.filter_cons_of_pos (p := fun p : Int × Nat => decide (1 < p.1) && p.2 / 2 == i) e3, List.filter_cons_of_pos (p := fun p : Int × Nat => decide (1 < p.1) && p.2 / 2 == i) e3, List.length_cons, List.length_cons]; omega
    ·
     rw [List.filter_cons_of_neg (p := fun p : Int × Nat => decide (1 < p.1) && p.2 / 2 == i) e3, List.filter_cons_of_neg (p := fun p : Int × Nat => decide (1 < p.1) && p.2 / 2 == i) e3]; exact ih
theorem handles_drop {m : ManD} {d' : StoreD} {k : Int} {f : Nat} (h : HandlesOK m) (r : HoldRel m.d d' f (-1)) (hk : (k, f) ∈ m.hs) (h1 : 1 < k) (h0 : nodesOf m.d 0 = none) : HandlesOK { m with d := d', hs := delK k m.hs } := by
 have hne : ∀ {p : Int × Nat}, p ∈ delK k m.hs → p ∈ m.hs := fun hp => (mem_delK.1 hp).1
 refine ⟨?_, mem_delK.2 ⟨h.zero, by dsimp only; omega⟩, mem_delK.2 ⟨h.one, by dsimp only; omega⟩, fun p hp => h.lt p (hne hp), h.next, fun p hp => ?_, ?_, fun i b hb => ?_⟩
 ·
  exact h.nodup.sublist ((List.filter_sublist).map _)
 ·
  show okE (nodesOf d') p.2
  rw [r.nodes]; exact h.ok p (hne hp)
 ·
  have h2 : (delK k m.hs).length ≤ m.hs.length := List.length_filter_le _ _
  have h3 := h.len
  show ((delK k m.hs).length : Int) ≤ m.next
  omega
 ·
  have hb' : nodesOf m.d i = some b := by
   have : nodesOf d' i = some b := hb
   rw [r.nodes] at this; exact this
  have hi : i ≠ 0 := by rintro rfl; rw [h0] at hb'; cases hb'
  show extOf d' i = (refsOf (delK k m.hs) i : Int)
  rw [r.ext i hi, h.refs i b hb', refs_del h1 m.hs h.nodup hk i]
  unfold toE
  split <;> (simp; try omega)
section
variable {K : Law} {n : Nat} {Od : List Nat → Prop} {room : Nat} {w0 w w' : World} {mb : Nat} {fs : List (Int × BF)} {nx : Int} {o o' : Own} {m m' : ManD} {V V' : Nat → BF}
theorem storeDrop_ok {sb : Nat} (h : StoreAt o w sb m.d) (hlt : OwnLt o w) (hk : ManOK m V) {k : Int} {f : Nat} (hf : (k, f) ∈ m.hs) (h1 : 1 < k) (hn : m.next < 549755813888) :
 Calls Tryz.prog 103 #[.pointer (some ⟨sb, 0, none⟩), .int .i64 f] w fun x w' => x = .returned (.int .i64 0) ∧ ∃ d', StoreAt o w' sb d' ∧ OwnLt o w' ∧ HoldRel m.d d' f (-1) ∧ Chg RStore o o w w' := by
 have htop : ∀ y b, nodesOf m.d y = some b → extOf m.d y < 1099511627776 := fun y b _ => by have := ext_le hk.handles y; omega
 have hok := hk.handles.ok _ hf
 obtain ⟨s, h⟩ := h
 have hlt' := h.edge_lt hok
 rcases hok with h0 | ⟨b, hb⟩
 ·
  refine (storeDrop_none h hlt hk.store.live f (by unfold eMax; omega) h0).mono ?_
  rintro e w' ⟨d', h1, h2, h3, h4, h5⟩
  exact ⟨h1, d', ⟨s, h2⟩, h3, h4, h5⟩
 ·
  have hat := h.pool.top
  have hrm := h.pool.room
  refine (storeDrop_node h hlt hk.store.live (acy_of hk.store) f (b := b) hb htop ?_ (fun y c hc => ?_)).mono ?_
  ·
   have h2 := hk.handles.refs (enode f) b hb
   have h3 : 0 < refsOf m.hs (f / 2) := refs_pos hf h1
   have h4 : extOf m.d (enode f) = (refsOf m.hs (f / 2) : Int) := h2
   omega
  ·
   have h1 := hk.store.live.cnt.le hc
   have h2 := htop y c hc
   omega
  ·
   rintro e w' ⟨d', h1, h2, h3, h4, h5⟩
   exact ⟨h1, d', ⟨s, h2⟩, h3, h4, h5⟩
end
open Go.RowKit
def dropF {α : Type} (l : List (Int × α)) (ks : List Int) : List (Int × α) := ks.foldl (fun l k => if 1 < k then delK k l else l) l
theorem dropF_take {α : Type} {l : List (Int × α)} {ks : List Int} {j : Nat} (hj : j < ks.length) : dropF l (ks.take (j + 1)) = if 1 < at0 ks j then delK (at0 ks j) (dropF l (ks.take j)) else dropF l (ks.take j) := by
 unfold dropF
 rw [List.take_succ_eq_append_getElem hj, List.foldl_append, at0_eq hj]
 rfl
section
variable {K : Law} {n : Nat} {Od : List Nat → Prop} {room : Nat} {w0 w w' : World} {mb : Nat} {fs : List (Int × BF)} {nx : Int} {o o' : Own} {m m' : ManD} {V V' : Nat → BF}
structure DropH (K : Law) (n : Nat) (Od : List Nat → Prop) (room : Nat) (w0 : World) (mb : Nat) (fs : List (Int × BF)) (nx : Int) (o : Own) (w : World) (m : ManD) (V : Nat → BF) (o' : Own) (w' : World) (m' : ManD) : Prop where
 sat : SatE K n Od room w0 mb fs nx w' o' m' V
 waits : m'.waits = m.waits
 calls : m'.calls = m.calls
 nodes : nodesOf m'.d = nodesOf m.d
 chg : Chg (fun _ => True) o o' w w'
theorem DropH.trans {fs' fs'' : List (Int × BF)} {o'' : Own} {w'' : World} {m'' : ManD} (h : DropH K n Od room w0 mb fs' nx o w m V o' w' m') (h' : DropH K n Od room w0 mb fs'' nx o' w' m' V o'' w'' m'') : DropH K n Od room w0 mb fs'' nx o w m V o'' w'' m'' :=
 ⟨h'.sat, h'.waits.trans h.waits, h'.calls.trans h.calls, h'.nodes.trans h.nodes, h.chg.trans h'.chg⟩
theorem drop_one (hK : LawOK K) (h : SatE K n Od room w0 mb fs nx w o m V) {k : Int} {f : Nat} (hf : (k, f) ∈ m.hs) (h1 : 1 < k) {s : ManW} (hs : ManIn (K m.d V) o w mb m s) {w1 : World} {d' : StoreD} (hst : StoreAt o w1 s.sb d') (hl1 : OwnLt o w1) (hr : HoldRel m.d d' f (-1)) (hc1 : Chg RStore o o w w1) :
 ManIn (K m.d V) o w1 mb { m with d := d' } s ∧ ∃ w2, (Builtin.delete_ #[101, 3] 0 #[.map (some s.hb), .int .i64 k]).run Tryz.prog w1 = .ok (.tuple #[]) w2 ∧ DropH K n Od room w0 mb (delK k fs) nx o w m V o w2 { m with d := d', hs := delK k m.hs } := by
 have hM1 := hs.setStore h.lt hst hc1
 refine ⟨hM1, ?_⟩
 obtain ⟨w2, hrun, hm2, hg2⟩ := hM1.map.delete kI Tryz.underlying101 k 0
 refine ⟨w2, hrun, ?_⟩
 have he : delL k (encH m.hs) = encH (delK k m.hs) := by
  rw [delL_eq (encH_nodup h.ok.handles.nodup) (v := .int .i64 (f : Nat)) (List.mem_map.2 ⟨(k, f), hf, rfl⟩)]
  exact (delK_map k m.hs (fun p => (p.1, Value.int .i64 (p.2 : Nat))) (fun _ => rfl)).symm
 have hm3 : MapIs w2 s.hb (Value.int .i64) (encH (delK k m.hs)) := by rw [← he]; exact hm2
 have hM2 := hM1.setMap hl1 hm3 hg2
 have hl2 : OwnLt o w2 := hl1.mono hg2.size
 have hc2 : Chg (fun _ => True) o o w w2 := hc1.any.grown hg2 (fun g hg => by cases hg; exact ⟨_, hM1.ownh, trivial⟩)
 refine ⟨⟨⟨s, hM2.mono fun op a b c r q => hK.same _ _ _ _ _ _ _ _ hr.vars hr.level hr.nodes q⟩, hl2, ⟨hr.ok h.ok.store, handles_drop h.ok.handles hr hf h1 h.ok.store.dag.none0⟩, ?_, ?_, ?_, h.next, ?_, h.chg.lower (ChgX.of_chg hc2 NoB) (fun _ e => e.elim)⟩, rfl, rfl, hr.nodes, hc2⟩
 ·
  show d'.vars.length = n
  rw [hr.vars]; exact h.vars
 ·
  show Od d'.vars
  rw [hr.vars]; exact h.od
 ·
  show d'.pool.room = room
  rw [hr.room]; exact h.room
 ·
  show (delK k m.hs).map (fun p => (p.1, ef V p.2)) = delK k fs
  rw [delK_map k m.hs (fun p => (p.1, ef V p.2)) (fun _ => rfl), h.hs]
set_option maxRecDepth 100000 in
set_option maxHeartbeats 1000000 in
theorem manDrop_any (hK : LawOK K) (h : SatE K n Od room w0 mb fs nx w o m V) (hn : nx < 549755813888) {a : Option Addr} {c : Nat} {ks : List Int} (hks : IntsAt w a ks) (hno : ∀ x, a = some x → o x.block = none)
 (hin : ∀ j, j < ks.length → ∃ F, (at0 ks j, F) ∈ dropF fs (ks.take j)) :
 Calls Tryz.prog 49 #[.pointer (some ⟨mb, 0, none⟩), .slice a ks.length c] w fun x w' => x = .returned (.int .i64 0) ∧ ∃ o' m', DropH K n Od room w0 mb (dropF fs ks) nx o w m V o' w' m' := by
 have hrl := hks.len
 have HI0 : Hid (∃ o' m', DropH K n Od room w0 mb (dropF fs (ks.take 0)) nx o w m V o' w m' ∧ IntsAt w a ks ∧ (∀ x, a = some x → o' x.block = none)) := Lib.hid ⟨o, m, ⟨h, rfl, rfl, rfl, Chg.refl _ _ _⟩, hks, hno⟩
 have HIN := Lib.hid hin
 have HN := Lib.hid hn
 have HLAW := Lib.hid hK
 clear h hn hks hno hin hK
 go_enter Tryz.func49, Tryz.ntmps49
 go_wp2_with fail
 go_loopw [13] (fun s13 wr => ∃ j : Nat, j ≤ ks.length ∧ s13 = .int .i64 j ∧ Hid (∃ o' m', DropH K n Od room w0 mb (dropF fs (ks.take j)) nx o w m V o' wr m' ∧ IntsAt wr a ks ∧ (∀ x, a = some x → o' x.block = none))) (fun s13 _ => ks.length - (intOf s13).toNat)
 case atStart => exact ⟨0, Nat.zero_le _, rfl, HI0⟩
 case round =>
  obtain ⟨j, hj, rfl, HH⟩ := hrel
  obtain ⟨oj, mj, hh, hi, hno⟩ := HH.out
  by_cases hlt : j < ks.length
  ·
   obtain ⟨b, off, rfl, hcell⟩ := hi.cells j hlt
   obtain ⟨s, hs⟩ := hh.sat.is
   obtain ⟨c0, c1, c2, c3, c4, c5, f0⟩ := cells6 hs.blk
   have hjz : (j : Int) < ks.length := by omega
   obtain ⟨z, hz⟩ : ∃ z, z = at0 ks j := ⟨_, rfl⟩
   obtain ⟨F, hF⟩ := HIN.out j hlt
   rw [← hz] at hF hcell
   obtain ⟨f, hf, hfF⟩ := hh.sat.find hF
   have hl := look_yes hs hh.sat.ok.handles.nodup hf
   have HHJ := Lib.hid hh
   have HIJ := Lib.hid hi
   have HNO := Lib.hid hno
   have HBL : Hid (b < wr.heap.size) := Lib.hid (lt_of_cell hcell)
   have HJL := Lib.hid hlt
   have HZ := Lib.hid hz
   have HS := Lib.hid hs
   have HF := Lib.hid hf
   by_cases h1 : z > 1
   ·
    have HD := Lib.hid (storeDrop_ok hs.store hh.sat.lt hh.sat.ok hf h1 (by rw [hh.sat.next]; exact HN.out))
    have H1 := Lib.hid h1
    clear hh hi hno hs HH HI0 hz hF hf hfF
    go_wp2_with fail
    refine HD.out.mono ?_
    rintro x w1 ⟨rfl, d', hst, hl1, hr, hc1⟩
    obtain ⟨hM1, w2, hrun, hdh⟩ := drop_one HLAW.out HHJ.out.sat HF.out H1.out HS.out hst hl1 hr hc1
    obtain ⟨e0, e1, e2, e3, e4, e5, g0⟩ := cells6 hM1.blk
    have HNX : Hid (DropH K n Od room w0 mb (dropF fs (ks.take (j + 1))) nx o w m V oj w2 { mj with d := d', hs := delK z mj.hs } ∧ IntsAt w2 (some ⟨b, off, none⟩) ks ∧ (∀ x, some (⟨b, off, none⟩ : Addr) = some x → oj x.block = none)) := Lib.hid ⟨by
     rw [dropF_take HJL.out, ← HZ.out, if_pos H1.out]
     exact HHJ.out.trans hdh, HIJ.out.chg hdh.chg HNO.out, fun x hx => hdh.chg.alien' (by cases hx; exact HBL.out) (HNO.out x hx)⟩
    clear hM1 hst hl1 hr hc1 hdh c0 c1 c2 c3 c4 c5 f0 hcell hl
    go_wp2_with fail
    go_roundw
    case rel => exact ⟨j + 1, Nat.succ_le_of_lt HJL.out, by go_num, Lib.hid ⟨_, _, HNX.out.1, HNX.out.2.1, HNX.out.2.2⟩⟩
    case measure =>
     have := HJL.out
     simp [intOf]
     omega
   ·
    have HNX : Hid (DropH K n Od room w0 mb (dropF fs (ks.take (j + 1))) nx o w m V oj wr mj ∧ IntsAt wr (some ⟨b, off, none⟩) ks ∧ (∀ x, some (⟨b, off, none⟩ : Addr) = some x → oj x.block = none)) := Lib.hid ⟨by
     rw [dropF_take HJL.out, ← HZ.out, if_neg h1]
     exact HHJ.out, HIJ.out, HNO.out⟩
    clear hh hi hno hs HH HI0 hz hF hf hfF
    go_wp2_with fail
    go_roundw
    case rel => exact ⟨j + 1, Nat.succ_le_of_lt HJL.out, by go_num, Lib.hid ⟨_, _, HNX.out.1, HNX.out.2.1, HNX.out.2.2⟩⟩
    case measure =>
     have := HJL.out
     simp [intOf]
     omega
  ·
   obtain rfl : j = ks.length := by omega
   have HF : Hid (∃ o' m', DropH K n Od room w0 mb (dropF fs ks) nx o w m V o' wr m') := Lib.hid ⟨oj, mj, by rw [List.take_length] at hh; exact hh⟩
   clear hh hi hno HH HI0
   go_wp2_with fail
   go_ret
   exact ⟨rfl, HF.out⟩
end
open Go.RowKit
section
variable {K : Law} {n : Nat} {Od : List Nat → Prop} {room : Nat} {w0 w w' : World} {mb : Nat} {fs : List (Int × BF)} {nx : Int} {o o' : Own} {m m' : ManD} {V V' : Nat → BF}
structure Swapped (K : Law) (n room : Nat) (w0 : World) (mb : Nat) (fs : List (Int × BF)) (nx : Int) (k : Nat) (o : Own) (w : World) (m : ManD) (o' : Own) (w' : World) (m' : ManD) (V' : Nat → BF) : Prop where
 sat : SatE K n (fun l => l = (swapD m.d k).vars) room w0 mb fs nx w' o' m' V'
 waits : m'.waits = m.waits
 calls : m'.calls = m.calls
 dead : m'.d.dead = 0
 chg : Chg (fun _ => True) o o' w w'
theorem manSwap_ok (h : SatE K n Od room w0 mb fs nx w o m V) {k : Nat} (hk1 : k + 1 < n) (hn : nx ≤ 549755813888) (hr : 3 * (fs.length * 2 ^ n) ≤ room) :
 Calls Tryz.prog 45 #[.pointer (some ⟨mb, 0, none⟩), .int .i64 k] w fun e w' => e = .returned (.int .i64 0) ∧ ∃ o' m' V', Swapped K n room w0 mb fs nx k o w m o' w' m' V' := by
 refine (manSwap_any h hk1 hn).mono ?_
 rintro e w' ⟨o', m', V', hm⟩
 obtain ⟨d0, cr, ⟨rfl, e1, e2, hlow⟩ | ⟨rfl, so⟩⟩ := hm.way
 ·
  exfalso
  have h1 := hm.sat.few (by rw [e1]; exact cr.dead)
  have h2 := hm.sat.room
  rw [e1] at h1 h2
  omega
 ·
  refine ⟨rfl, o', m', V', ⟨hm.sat.withOd ?_, hm.waits, hm.calls, so.dead, hm.chg⟩⟩
  rw [so.vars]
  unfold swapD
  dsimp only
  rw [cr.vars]
set_option maxRecDepth 100000 in
theorem manDrop_no (h : SatE K n Od room w0 mb fs nx w o m V) {k : Int} (hk : ∀ p ∈ fs, p.1 ≠ k) {a : Option Addr} {c : Nat} (hks : IntsAt w a [k]) :
 Calls Tryz.prog 49 #[.pointer (some ⟨mb, 0, none⟩), .slice a 1 c] w fun x w' => x = .returned (.int .i64 8) ∧ w = w' := by
 have hno := h.nofind hk
 obtain ⟨s, hs⟩ := h.is
 obtain ⟨c0, c1, c2, c3, c4, c5, f0⟩ := cells6 hs.blk
 have hl := look_no hs hno
 obtain ⟨b, off, rfl, hcell⟩ := hks.cells 0 (by simp)
 have e : at0 [k] 0 = k := rfl
 rw [e] at hcell
 simp only [Nat.add_zero] at hcell
 clear hs h hno hk hks e
 go_enter Tryz.func49, Tryz.ntmps49
 go_wp2_with fail
 go_loopw [13] (fun s13 wr => s13 = .int .i64 0 ∧ Hid (wr = w)) (fun s13 _ => 0)
 case atStart => exact ⟨rfl, Lib.hid rfl⟩
 case round =>
  obtain ⟨rfl, hw⟩ := hrel
  obtain rfl := hw.out
  go_wp2_with fail
  go_ret
  exact ⟨rfl, rfl⟩
theorem manSame_any (h : SatE K n Od room w0 mb fs nx w o m V) {k l : Int} {F G : BF} (hk : (k, F) ∈ fs) (hl : (l, G) ∈ fs) :
 Calls Tryz.prog 56 #[.pointer (some ⟨mb, 0, none⟩), .int .i64 k, .int .i64 l] w fun x w' => ∃ b : Bool, x = .returned (.tuple #[.bool b, .int .i64 0]) ∧ (b = true ↔ F = G) ∧ w = w' := by
 obtain ⟨f, hf, rfl⟩ := h.find hk
 obtain ⟨g, hg, rfl⟩ := h.find hl
 refine (same_yes h.is h.ok.handles.nodup hf hg).mono ?_
 rintro x w' ⟨rfl, rfl⟩
 refine ⟨_, rfl, ?_, rfl⟩
 rw [beq_iff_eq]
 exact ⟨fun e => by rw [e], fun e => h.ok.store.dag.canon (h.ok.handles.ok _ hf) (h.ok.handles.ok _ hg) e⟩
end
open Go.RowKit
theorem mem_dropF {α : Type} {p : Int × α} : ∀ {ks : List Int} {l : List (Int × α)}, p ∈ l → p.1 ∉ ks → p ∈ dropF l ks
 | [], l, h, _ => h
 | k :: ks, l, h, hn => by
   show p ∈ dropF (if 1 < k then delK k l else l) ks
   simp only [List.mem_cons, not_or] at hn
   refine mem_dropF ?_ hn.2
   split
   ·
    exact mem_delK.2 ⟨h, hn.1⟩
   ·
    exact h
theorem delK_mid {α : Type} {l r : List (Int × α)} {p : Int × α} (h : ((l ++ p :: r).map Prod.fst).Nodup) : delK p.1 (l ++ p :: r) = l ++ r := by
 rw [List.map_append, List.map_cons, List.nodup_append] at h
 obtain ⟨h1, h2, h3⟩ := h
 have hl : ∀ q ∈ l, q.1 ≠ p.1 := fun q hq e => h3 q.1 (List.mem_map.2 ⟨q, hq, rfl⟩) p.1 (List.mem_cons_self ..) e
 have hr : ∀ q ∈ r, q.1 ≠ p.1 := fun q hq e => (List.nodup_cons.1 h2).1 (List.mem_map.2 ⟨q, hq, e⟩)
 have e1 : delK p.1 (l ++ p :: r) = delK p.1 l ++ delK p.1 r := by
  unfold delK
  rw [List.filter_append, List.filter_cons]
  simp
 rw [e1, delK_none hl, delK_none hr]
theorem dropF_mid {α : Type} : ∀ (hs l r : List (Int × α)), ((l ++ (hs ++ r)).map Prod.fst).Nodup → (∀ p ∈ hs, 1 < p.1) → dropF (l ++ (hs ++ r)) (hs.map Prod.fst) = l ++ r
 | [], l, r, _, _ => rfl
 | p :: hs, l, r, hn, h1 => by
   show dropF (if 1 < p.1 then delK p.1 (l ++ (p :: (hs ++ r))) else l ++ (p :: (hs ++ r))) (hs.map Prod.fst) = _
   have hn' : ((l ++ p :: (hs ++ r)).map Prod.fst).Nodup := hn
   rw [if_pos (h1 p (List.mem_cons_self ..)), delK_mid hn']
   refine dropF_mid hs l r ?_ (fun q hq => h1 q (List.mem_cons_of_mem _ hq))
   have := hn
   rw [List.map_append, List.nodup_append] at this ⊢
   obtain ⟨q1, q2, q3⟩ := this
   exact ⟨q1, (List.nodup_cons.1 q2).2, fun x hx y hy => q3 x hx y (List.mem_cons_of_mem _ hy)⟩
section
variable {K : Law} {n : Nat} {Od : List Nat → Prop} {room : Nat} {w0 w w' : World} {mb : Nat} {fs : List (Int × BF)} {nx : Int} {o o' : Own} {m m' : ManD} {V V' : Nat → BF}
theorem SatE.fst (h : SatE K n Od room w0 mb fs nx w o m V) : fs.map Prod.fst = m.hs.map Prod.fst := by rw [← h.hs, List.map_map]; rfl
theorem SatE.nodup (h : SatE K n Od room w0 mb fs nx w o m V) : (fs.map Prod.fst).Nodup := by rw [h.fst]; exact h.ok.handles.nodup
theorem SatE.range (h : SatE K n Od room w0 mb fs nx w o m V) : ∀ p ∈ fs, 0 ≤ p.1 ∧ p.1 < nx := by
 intro p hp
 rw [← h.hs] at hp
 obtain ⟨q, hq, rfl⟩ := List.mem_map.1 hp
 rw [← h.next]
 exact h.ok.handles.lt q hq
structure B2 (fs : List (Int × BF)) : Prop where
 zero : (0, fun _ => false) ∈ fs
 one : (1, fun _ => true) ∈ fs
theorem B2.app {fs : List (Int × BF)} (h : B2 fs) (hs : List (Int × BF)) : B2 (fs ++ hs) := ⟨List.mem_append_left _ h.zero, List.mem_append_left _ h.one⟩
theorem SatE.gt {hs : List (Int × BF)} (h : SatE K n Od room w0 mb (fs ++ hs) nx w o m V) (hb : B2 fs) : ∀ p ∈ hs, 1 < p.1 := by
 intro p hp
 have h1 := (h.range p (List.mem_append_right _ hp)).1
 have h2 := h.nodup
 rw [List.map_append, List.nodup_append] at h2
 have h3 := fun k hk => h2.2.2 k hk p.1 (List.mem_map.2 ⟨p, hp, rfl⟩)
 have h4 := h3 0 (List.mem_map.2 ⟨_, hb.zero, rfl⟩)
 have h5 := h3 1 (List.mem_map.2 ⟨_, hb.one, rfl⟩)
 omega
theorem manDrop_mid (hK : LawOK K) {hs r : List (Int × BF)} (h : SatE K n Od room w0 mb (fs ++ (hs ++ r)) nx w o m V) (hb : B2 fs) (hn : nx < 549755813888) {a : Option Addr} {c : Nat} (hks : IntsAt w a (hs.map Prod.fst)) (hno : ∀ x, a = some x → o x.block = none) :
 Calls Tryz.prog 49 #[.pointer (some ⟨mb, 0, none⟩), .slice a hs.length c] w fun x w' => x = .returned (.int .i64 0) ∧ ∃ o' m', DropH K n Od room w0 mb (fs ++ r) nx o w m V o' w' m' := by
 have hnd := h.nodup
 have hgt := h.gt hb
 have e : dropF (fs ++ (hs ++ r)) (hs.map Prod.fst) = fs ++ r := dropF_mid hs fs r hnd (fun p hp => hgt p (List.mem_append_left _ hp))
 have := manDrop_any hK h hn (c := c) hks hno fun j hj => by
  have hj' : j < hs.length := by simpa using hj
  have e1 : at0 (hs.map Prod.fst) j = hs[j].1 := by rw [at0_eq hj]; simp
  refine ⟨hs[j].2, ?_⟩
  rw [e1]
  refine mem_dropF (List.mem_append_right _ (List.mem_append_left _ (List.getElem_mem hj'))) ?_
  rw [List.map_append, List.nodup_append, List.map_append, List.nodup_append] at hnd
  have hh := hnd.2.1.1
  intro hc
  obtain ⟨i, hi, e2⟩ := List.getElem_of_mem hc
  have hi2 : i < j := by simp at hi; omega
  rw [List.getElem_take] at e2
  exact (List.pairwise_iff_getElem.1 hh) i j (by simp; omega) hj hi2 (by rw [e2]; simp)
 rw [e, List.length_map] at this
 exact this
theorem opLeft_ok {ws0 : List Ev} {k : Nat} {F : BF} {x : Ending} (hp : OpLeft K n Od room w0 mb fs nx ws0 k F o w x w') (hk : k ≤ 2 ^ n) (hr : (fs.length + 1) * 2 ^ n ≤ room) :
 ∃ o' m' V', ChgX NoB o o' w w' ∧ m'.waits <:+ ws0 ∧ x = .returned (.tuple #[.int .i64 nx, .int .i64 0]) ∧ SatE K n Od room w0 mb (fs ++ [(nx, F)]) (nx + 1) w' o' m' V' := by
 obtain ⟨o', m', V', h1, h2, ⟨h3, h4⟩ | ⟨_, _, m0, ⟨W, oo, VV, hs⟩, h5, h6⟩⟩ := hp
 ·
  exact ⟨o', m', V', h1, h2, h3, h4⟩
 ·
  exfalso
  have := hs.few h5
  rw [Nat.add_mul] at hr
  omega
end
open Go.RowKit
def cntT : Nat → (Nat → Bool) → Nat
 | 0, _ => 0
 | k + 1, f => cntT k f + (if f k then 1 else 0)
theorem cntT_succ (k : Nat) (f : Nat → Bool) : cntT (k + 1) f = cntT k f + (if f k then 1 else 0) := rfl
theorem cntT_le (f : Nat → Bool) : ∀ k, cntT k f ≤ k
 | 0 => Nat.le_refl _
 | k + 1 => by
   have := cntT_le f k
   rw [cntT_succ]
   split <;> omega
def opB (op : Int) (n : Nat) (f : Nat → Bool) : Bool :=
 if op = 1 then true else if op = 4 then decide (cntT n f = 0) else if op = 5 then decide (cntT n f = n) else if op = 6 then decide (0 < cntT n f) else if op = 7 then decide (cntT n f % 2 = 1)
 else if op = 8 then (!f 0 || f 1) else if op = 9 then decide (cntT n f ≠ 1) else if op = 10 then iteB (f 0) (f 1) (f 2) else false
def fnT : ExT → BF
 | .nil => fun _ => false
 | .mk op v n kid => fun ρ => if op = 3 then ρ v.toNat else opB op n fun i => fnT (kid i) ρ
theorem fnT_mk (op v : Int) (n : Nat) (kid : Nat → ExT) (ρ : Nat → Bool) : fnT (.mk op v n kid) ρ = if op = 3 then ρ v.toNat else opB op n fun i => fnT (kid i) ρ := rfl
def notF (F : BF) : BF := fun ρ => !F ρ
def joinF (op : Int) (F G : BF) : BF :=
 if op = 5 then iteFn F G (fun _ => false) else if op = 6 then iteFn F (fun _ => true) G else if op = 8 then iteFn F G (fun _ => true) else if op = 7 then iteFn F (notF G) G else iteFn F G (notF G)
def accT (op : Int) (kid : Nat → ExT) : Nat → BF
 | 0 => fun _ => decide (op = 5)
 | k + 1 => joinF op (accT op kid k) (fnT (kid k))
theorem accT_5 (kid : Nat → ExT) (ρ : Nat → Bool) : ∀ k, accT 5 kid k ρ = decide (cntT k (fun i => fnT (kid i) ρ) = k)
 | 0 => rfl
 | k + 1 => by
   have h1 : accT 5 kid (k + 1) ρ = iteB (accT 5 kid k ρ) (fnT (kid k) ρ) false := rfl
   have h2 := cntT_le (fun i => fnT (kid i) ρ) k
   rw [h1, accT_5 kid ρ k, cntT_succ]
   unfold iteB
   cases hf : fnT (kid k) ρ
   ·
    have : (cntT k fun i => fnT (kid i) ρ) + 0 ≠ k + 1 := by omega
    simp only [Bool.false_eq_true, if_false, decide_eq_false this]
    split <;> rfl
   ·
    simp
theorem accT_6 (kid : Nat → ExT) (ρ : Nat → Bool) : ∀ k, accT 6 kid k ρ = decide (0 < cntT k (fun i => fnT (kid i) ρ))
 | 0 => rfl
 | k + 1 => by
   have h1 : accT 6 kid (k + 1) ρ = iteB (accT 6 kid k ρ) true (fnT (kid k) ρ) := rfl
   rw [h1, accT_6 kid ρ k, cntT_succ]
   unfold iteB
   cases hf : fnT (kid k) ρ <;> simp
theorem accT_7 (kid : Nat → ExT) (ρ : Nat → Bool) : ∀ k, accT 7 kid k ρ = decide (cntT k (fun i => fnT (kid i) ρ) % 2 = 1)
 | 0 => rfl
 | k + 1 => by
   have h1 : accT 7 kid (k + 1) ρ = iteB (accT 7 kid k ρ) (!(fnT (kid k) ρ)) (fnT (kid k) ρ) := rfl
   rw [h1, accT_7 kid ρ k, cntT_succ]
   unfold iteB
   rcases Nat.mod_two_eq_zero_or_one (cntT k fun i => fnT (kid i) ρ) with e | e
   ·
    cases hf : fnT (kid k) ρ <;> simp [e] <;> omega
   ·
    cases hf : fnT (kid k) ρ <;> simp [e] <;> omega
theorem fnT_acc {op : Int} (h : op = 5 ∨ op = 6 ∨ op = 7) (v : Int) (n : Nat) (kid : Nat → ExT) : fnT (.mk op v n kid) = accT op kid n := by
 funext ρ
 rcases h with rfl | rfl | rfl
 ·
  rw [accT_5]; rfl
 ·
  rw [accT_6]; rfl
 ·
  rw [accT_7]; rfl
theorem cntT_one (f : Nat → Bool) : cntT 1 f = if f 0 then 1 else 0 := by rw [cntT_succ]; exact Nat.zero_add _
theorem cntT_two (f : Nat → Bool) : cntT 2 f = (if f 0 then 1 else 0) + (if f 1 then 1 else 0) := by rw [cntT_succ, cntT_one]
theorem fnT_not (v : Int) (kid : Nat → ExT) : fnT (.mk 4 v 1 kid) = notF (fnT (kid 0)) := by
 funext ρ
 show decide (cntT 1 (fun i => fnT (kid i) ρ) = 0) = !(fnT (kid 0) ρ)
 rw [Bool.eq_iff_iff, decide_eq_true_iff, cntT_one]
 cases fnT (kid 0) ρ <;> simp
theorem fnT_ite (v : Int) (kid : Nat → ExT) : fnT (.mk 10 v 3 kid) = iteFn (fnT (kid 0)) (fnT (kid 1)) (fnT (kid 2)) := rfl
theorem fnT_join {op : Int} (h : op = 8 ∨ op = 9) (v : Int) (kid : Nat → ExT) : fnT (.mk op v 2 kid) = joinF op (fnT (kid 0)) (fnT (kid 1)) := by
 funext ρ
 rcases h with rfl | rfl
 ·
  show (!fnT (kid 0) ρ || fnT (kid 1) ρ) = iteB (fnT (kid 0) ρ) (fnT (kid 1) ρ) true
  unfold iteB
  cases fnT (kid 0) ρ <;> simp
 ·
  show decide (cntT 2 (fun i => fnT (kid i) ρ) ≠ 1) = iteB (fnT (kid 0) ρ) (fnT (kid 1) ρ) (!fnT (kid 1) ρ)
  rw [Bool.eq_iff_iff, decide_eq_true_iff, cntT_two]
  unfold iteB
  cases fnT (kid 0) ρ <;> cases fnT (kid 1) ρ <;> simp
theorem fnT_const {op : Int} (h : op = 1 ∨ op = 2) (v : Int) (n : Nat) (kid : Nat → ExT) : fnT (.mk op v n kid) = fun _ => decide (op = 1) := by
 rcases h with rfl | rfl <;> rfl
theorem fnT_var (v : Nat) (n : Nat) (kid : Nat → ExT) : fnT (.mk 3 v n kid) = varF v := by
 funext ρ
 rfl
def DepF (n : Nat) (F : BF) : Prop := ∀ ρ ρ' : Nat → Bool, (∀ i, i < n → ρ i = ρ' i) → F ρ = F ρ'
theorem mem_flatN {f : Nat → List Int} {i : Nat} {x : Int} : ∀ {n : Nat}, i < n → x ∈ f i → x ∈ flatN n f
 | 0, h, _ => by omega
 | k + 1, h, hx => by
   unfold flatN
   rcases Nat.lt_or_ge i k with h' | h'
   ·
    exact List.mem_append_left _ (mem_flatN h' hx)
   ·
    obtain rfl : i = k := by omega
    exact List.mem_append_right _ hx
theorem cntT_congr {f g : Nat → Bool} : ∀ {n : Nat}, (∀ i, i < n → f i = g i) → cntT n f = cntT n g
 | 0, _ => rfl
 | k + 1, h => by rw [cntT_succ, cntT_succ, cntT_congr fun i hi => h i (by omega), h k (by omega)]
theorem fnT_dep {n : Nat} : ∀ {e : ExT}, validT e → (∀ v ∈ varsT e, v < (n : Int)) → DepF n (fnT e)
 | .nil, h, _ => h.elim
 | .mk op v m kid, h, hv => by
   obtain ⟨h1, h2, h3, h4, h5, h6⟩ := h
   intro ρ ρ' hr
   rw [fnT_mk, fnT_mk]
   by_cases e3 : op = 3
   ·
    rw [if_pos e3, if_pos e3]
    have hv0 := h2 e3
    refine hr _ ?_
    have := hv v (by unfold varsT; rw [if_pos e3]; simp)
    omega
   ·
    rw [if_neg e3, if_neg e3]
    have IH : ∀ i, i < m → fnT (kid i) ρ = fnT (kid i) ρ' := fun i hi => fnT_dep (h6 i hi) (fun x hx => hv x (by unfold varsT; exact List.mem_append_right _ (mem_flatN hi hx))) ρ ρ' hr
    have hc := cntT_congr IH
    by_cases e8 : op = 8
    ·
     subst e8
     have : m = 2 := by simp [kidsR] at h4 h5; omega
     subst this
     show (!fnT (kid 0) ρ || fnT (kid 1) ρ) = (!fnT (kid 0) ρ' || fnT (kid 1) ρ')
     rw [IH 0 (by omega), IH 1 (by omega)]
    by_cases e10 : op = 10
    ·
     subst e10
     have : m = 3 := by simp [kidsR] at h4 h5; omega
     subst this
     show iteB (fnT (kid 0) ρ) (fnT (kid 1) ρ) (fnT (kid 2) ρ) = iteB (fnT (kid 0) ρ') (fnT (kid 1) ρ') (fnT (kid 2) ρ')
     rw [IH 0 (by omega), IH 1 (by omega), IH 2 (by omega)]
    unfold opB
    rw [hc]
    simp only [e8, e10, if_false]
theorem bits_of (n : Nat) (ρ : Nat → Bool) : ∃ i, i < 2 ^ n ∧ ∀ v, v < n → bitB i v = ρ v := by
 induction n with
 | zero => exact ⟨0, by simp, fun v hv => by omega⟩
 | succ n ih =>
   obtain ⟨i, hi, hb⟩ := ih
   have hp : 0 < 2 ^ n := Nat.pow_pos (by omega)
   refine ⟨i + (if ρ n then 2 ^ n else 0), by rw [Nat.pow_succ]; split <;> omega, fun v hv => ?_⟩
   rcases Nat.lt_or_ge v n with h | h
   ·
    rw [← hb v h]
    unfold bitB
    split
    ·
     obtain ⟨k, rfl⟩ : ∃ k, n = v + (k + 1) := ⟨n - v - 1, by omega⟩
     have e1 : (2:Nat) ^ (v + (k + 1)) = 2 ^ v * (2 * 2 ^ k) := by rw [Nat.pow_add, Nat.pow_succ]; ac_rfl
     rw [e1, Nat.add_mul_div_left _ _ (Nat.pow_pos (by omega)), Nat.add_mul_mod_self_left]
    ·
     rw [Nat.add_zero]
   ·
    obtain rfl : v = n := by omega
    unfold bitB
    cases hr : ρ v with
    | true =>
      rw [if_pos rfl, Nat.add_div_right _ hp, Nat.div_eq_of_lt hi]
      rfl
    | false =>
      rw [if_neg (by simp), Nat.add_zero, Nat.div_eq_of_lt hi]
      rfl
theorem tab_inj {n : Nat} {F G : BF} (hF : DepF n F) (hG : DepF n G) (h : tabB n F = tabB n G) : F = G := by
 funext ρ
 obtain ⟨i, hi, hb⟩ := bits_of n ρ
 have e : ∀ v, v < n → ρ v = envOf (bitsL i n) v := fun v hv => by rw [envOf_bits, hb v hv]; simp [hv]
 rw [hF ρ _ e, hG ρ _ e, ← tabB_get (F := F) hi, ← tabB_get (F := G) hi, h]
open Go.RowKit
theorem surj_of_inj {n : Nat} {f : Nat → Nat} (h1 : ∀ i, i < n → f i < n) (h2 : ∀ i j, i < n → j < n → f i = f j → i = j) {j : Nat} (hj : j < n) : ∃ i, i < n ∧ f i = j := by
 by_cases h : ∃ i, i < n ∧ f i = j
 ·
  exact h
 exfalso
 have hno : ∀ i, i < n → f i ≠ j := fun i hi e => h ⟨i, hi, e⟩
 have hnd : (j :: (List.range n).map f).Nodup := by
  refine List.nodup_cons.2 ⟨?_, ?_⟩
  ·
   intro hm
   obtain ⟨i, hi, e⟩ := List.mem_map.1 hm
   exact hno i (List.mem_range.1 hi) e
  ·
   refine List.pairwise_map.2 (List.nodup_range.imp_of_mem ?_)
   intro a b ha hb hab e
   exact hab (h2 a b (List.mem_range.1 ha) (List.mem_range.1 hb) e)
 have := nodup_lt n _ hnd (fun x hx => by
  rcases List.mem_cons.1 hx with rfl | hx
  ·
   exact hj
  ·
   obtain ⟨i, hi, rfl⟩ := List.mem_map.1 hx
   exact h1 i (List.mem_range.1 hi))
 simp at this
 omega
theorem cntP_at {zs : List Int} {v : Int} {p : Nat} (h : at0 zs p = v) (hu : ∀ i, i < zs.length → at0 zs i = v → i = p) : ∀ k, k ≤ zs.length → cntP zs v k = if p < k then 1 else 0
 | 0, _ => by simp [cntP]
 | k + 1, hk => by
   have ih := cntP_at h hu k (by omega)
   by_cases e : at0 zs k = v
   ·
    have := hu k (by omega) e
    subst this
    rw [cntP_yes (by omega) e, ih]
    simp
   ·
    rw [cntP_no (by omega) e, ih]
    have : p ≠ k := fun e2 => e (by rw [← e2]; exact h)
    by_cases h3 : p < k
    ·
     rw [if_pos h3, if_pos (by omega)]
    ·
     rw [if_neg h3, if_neg (by omega)]
theorem cntP_mono {zs : List Int} {v : Int} {i : Nat} : ∀ {j : Nat}, i ≤ j → j ≤ zs.length → cntP zs v i ≤ cntP zs v j
 | 0, h, _ => by
   obtain rfl : i = 0 := by omega
   exact Nat.le_refl _
 | j + 1, h, hj => by
   rcases Nat.lt_or_ge i (j + 1) with h' | h'
   ·
    have := cntP_mono (zs := zs) (v := v) (show i ≤ j by omega) (by omega)
    by_cases e : at0 zs j = v
    ·
     rw [cntP_yes (by omega) e]; omega
    ·
     rw [cntP_no (by omega) e]; omega
   ·
    obtain rfl : i = j + 1 := by omega
    exact Nat.le_refl _
theorem permB_of {zs : List Int} {n : Nat} (hl : zs.length = n) (h : ∀ v : Nat, v < n → ∃ p, p < n ∧ at0 zs p = (v : Nat)) (hu : ∀ i j, i < n → j < n → at0 zs i = at0 zs j → i = j) : permB zs n = true := by
 subst hl
 unfold permB
 rw [decide_eq_true_eq]
 refine ⟨rfl, fun v hv => ?_⟩
 obtain ⟨p, hp, e⟩ := h v hv
 rw [cntP_at e (fun i hi e2 => hu i p hi hp (e2.trans e.symm)) _ (Nat.le_refl _), if_pos hp]
structure PermP (zs : List Int) (n : Nat) : Prop where
 len : zs.length = n
 lt : ∀ i, i < n → ∃ v : Nat, v < n ∧ at0 zs i = (v : Nat)
 inj : ∀ i j, i < n → j < n → at0 zs i = at0 zs j → i = j
theorem permP_of {zs : List Int} {n : Nat} (h : permB zs n = true) : PermP zs n := by
 unfold permB at h
 rw [decide_eq_true_eq] at h
 obtain ⟨h1, h2⟩ := h
 have h1' : zs.length = n := by omega
 subst h1'
 have hp : ∀ v : Nat, v < zs.length → ∃ p, p < zs.length ∧ at0 zs p = (v : Nat) := by
  intro v hv
  have e := h2 v hv
  unfold cntP at e
  rw [List.take_length] at e
  have hm : 0 < (zs.filter (fun z => decide (z = (v : Int)))).length := by omega
  obtain ⟨z, hz⟩ := List.length_pos_iff_exists_mem.1 hm
  obtain ⟨q1, q2⟩ := List.mem_filter.1 hz
  obtain ⟨i, hi, e2⟩ := List.getElem_of_mem q1
  refine ⟨i, hi, ?_⟩
  rw [at0_eq hi, e2]
  simpa using q2
 have hsur : ∀ i, i < zs.length → ∃ v, v < zs.length ∧ at0 zs i = (v : Nat) := by
  have hc : ∃ f : Nat → Nat, ∀ v, v < zs.length → f v < zs.length ∧ at0 zs (f v) = (v : Nat) := by
   refine ⟨fun v => if hv : v < zs.length then Classical.choose (hp v hv) else 0, fun v hv => ?_⟩
   dsimp only
   rw [dif_pos hv]
   exact Classical.choose_spec (hp v hv)
  obtain ⟨f, hf⟩ := hc
  intro i hi
  obtain ⟨v, hv, e⟩ := surj_of_inj (n := zs.length) (f := f) (fun v hv => (hf v hv).1) (fun a b ha hb e => by
   have e1 := (hf a ha).2
   have e2 := (hf b hb).2
   rw [e, e2] at e1
   omega) hi
  exact ⟨v, hv, by rw [← e]; exact (hf v hv).2⟩
 refine ⟨rfl, hsur, fun i j hi hj e => ?_⟩
 obtain ⟨v, hv, ei⟩ := hsur i hi
 have ec := h2 v hv
 have ej : at0 zs j = (v : Nat) := by rw [← e]; exact ei
 rcases Nat.lt_trichotomy i j with hlt | rfl | hlt
 ·
  have a1 := cntP_yes hi ei
  have a2 := cntP_yes hj ej
  have a3 := cntP_mono (zs := zs) (v := (v : Nat)) (show i + 1 ≤ j by omega) (by omega)
  have a4 := cntP_mono (zs := zs) (v := (v : Nat)) (show j + 1 ≤ zs.length by omega) (Nat.le_refl _)
  omega
 ·
  rfl
 ·
  have a1 := cntP_yes hi ei
  have a2 := cntP_yes hj ej
  have a3 := cntP_mono (zs := zs) (v := (v : Nat)) (show j + 1 ≤ i by omega) (by omega)
  have a4 := cntP_mono (zs := zs) (v := (v : Nat)) (show i + 1 ≤ zs.length by omega) (Nat.le_refl _)
  omega
theorem at0_nat {l : List Nat} {i : Nat} (hi : i < l.length) : at0 (l.map Int.ofNat) i = (l.getD i 0 : Nat) := by
 rw [at0_eq (by simpa using hi)]
 simp [List.getD, hi]
theorem StoreOK.mem {d : StoreD} {V : Nat → BF} (h : StoreOK d V) {v : Nat} (hv : v < d.vars.length) : ∃ i, i < d.vars.length ∧ d.vars.getD i 0 = v := ⟨levN d v, h.dag.lt v hv, h.inv v hv⟩
theorem StoreOK.inj {d : StoreD} {V : Nat → BF} (h : StoreOK d V) {i j : Nat} (hi : i < d.vars.length) (hj : j < d.vars.length) (e : d.vars.getD i 0 = d.vars.getD j 0) : i = j := by
 have a := (h.vlt i hi).2
 have b := (h.vlt j hj).2
 rw [e, b] at a
 exact a.symm
theorem StoreOK.permB {d : StoreD} {V : Nat → BF} (h : StoreOK d V) : Go.Proofs.YtchliiaknmknhaaGreat.permB (d.vars.map Int.ofNat) d.vars.length = true := by
 refine permB_of (by simp) (fun v hv => ?_) (fun i j hi hj e => ?_)
 ·
  obtain ⟨i, hi, e⟩ := h.mem hv
  exact ⟨i, hi, by rw [at0_nat hi, e]⟩
 ·
  rw [at0_nat hi, at0_nat hj] at e
  exact h.inj hi hj (by omega)
def exL (l : List Nat) (k : Nat) : List Nat := (l.set k (l.getD (k + 1) 0)).set (k + 1) (l.getD k 0)
theorem exL_length (l : List Nat) (k : Nat) : (exL l k).length = l.length := by simp [exL]
theorem exL_here {l : List Nat} {k : Nat} (h : k + 1 < l.length) : (exL l k).getD k 0 = l.getD (k + 1) 0 := by
 unfold exL
 simp [List.getD, List.getElem?_set, h, show k < l.length by omega]
theorem exL_next {l : List Nat} {k : Nat} (h : k + 1 < l.length) : (exL l k).getD (k + 1) 0 = l.getD k 0 := by
 unfold exL
 simp [List.getD, List.getElem?_set, h]
theorem exL_ne {l : List Nat} {k i : Nat} (h1 : i ≠ k) (h2 : i ≠ k + 1) : (exL l k).getD i 0 = l.getD i 0 := by
 unfold exL
 simp only [List.getD, List.getElem?_set]
 rw [if_neg (fun e => h2 e.symm), if_neg (fun e => h1 e.symm)]
theorem swapD_exL (d : StoreD) (k : Nat) : (swapD d k).vars = exL d.vars k := rfl
open Go.RowKit
structure LawT (K : Law) (n : Nat) (Od : List Nat → Prop) (room : Nat) (w0 : World) (mb : Nat) (fs : List (Int × BF)) (nx : Int) (Wt : List Ev → Int → Prop) (hl hx : List (Int × BF)) (W : World) (o : Own) (m : ManD) (V : Nat → BF) (vl vx : Value) : Prop where
 sat : SatE K n Od room w0 mb fs nx W o m V
 b2 : B2 fs
 st : Wt m.waits m.calls
 l : LawL W o w0.heap.size vl (hl.map Prod.fst)
 x : LawX W o w0.heap.size vx (hx.map fun p => tabB n p.2)
def LawE (K : Law) (n : Nat) (Od : List Nat → Prop) (room : Nat) (w0 : World) (mb : Nat) (fs : List (Int × BF)) (nx : Int) (Wt : List Ev → Int → Prop) (hl hx : List (Int × BF)) (W : World) (vl vx : Value) : Prop := ∃ o m V, LawT K n Od room w0 mb fs nx Wt hl hx W o m V vl vx
section
variable {K : Law} {n : Nat} {Od : List Nat → Prop} {room : Nat} {w0 : World} {mb : Nat} {fs : List (Int × BF)} {nx : Int} {Wt : List Ev → Int → Prop} {hl hx hs : List (Int × BF)} {W W' w : World} {o o' : Own} {m m' : ManD} {V V' : Nat → BF} {vl vx v' v : Value} {p : Int × BF}
theorem LawT.below (h : LawT K n Od room w0 mb fs nx Wt hl hx W o m V vl vx) (hb : Below W.heap.size W W') : LawT K n Od room w0 mb fs nx Wt hl hx W' o m V vl vx :=
 ⟨h.sat.below hb, h.b2, h.st, h.l.chg (chg_below hb o), h.x.chg (chg_below hb o)⟩
theorem LawE.below (h : LawE K n Od room w0 mb fs nx Wt hl hx W vl vx) (hb : Below W.heap.size W W') : LawE K n Od room w0 mb fs nx Wt hl hx W' vl vx := by
 obtain ⟨o, m, V, h⟩ := h
 exact ⟨o, m, V, h.below hb⟩
theorem LawT.below0 (h : LawT K n Od room w0 mb fs nx Wt hl hx W o m V vl vx) : Below w0.heap.size w0 W := h.sat.chg.below0
theorem LawE.below0 (h : LawE K n Od room w0 mb fs nx Wt hl hx W vl vx) : Below w0.heap.size w0 W := by
 obtain ⟨o, m, V, h⟩ := h
 exact h.below0
theorem LawT.go {Od' : List Nat → Prop} {fs' : List (Int × BF)} {nx' : Int} {Wt' : List Ev → Int → Prop} (h : LawT K n Od room w0 mb fs nx Wt hl hx W o m V vl vx) (hs : SatE K n Od' room w0 mb fs' nx' W' o' m' V') (hb : B2 fs') (ht : Wt' m'.waits m'.calls) (hc : ChgX NoB o o' W W') :
 LawT K n Od' room w0 mb fs' nx' Wt' hl hx W' o' m' V' vl vx := ⟨hs, hb, ht, h.l.chg hc, h.x.chg hc⟩
theorem LawT.withOd {Od' : List Nat → Prop} (h : LawT K n Od room w0 mb fs nx Wt hl hx W o m V vl vx) (hO : Od' m.d.vars) : LawT K n Od' room w0 mb fs nx Wt hl hx W o m V vl vx := ⟨h.sat.withOd hO, h.b2, h.st, h.l, h.x⟩
theorem LawT.withSt {Wt' : List Ev → Int → Prop} (h : LawT K n Od room w0 mb fs nx Wt hl hx W o m V vl vx) (hO : Wt' m.waits m.calls) : LawT K n Od room w0 mb fs nx Wt' hl hx W o m V vl vx := ⟨h.sat, h.b2, hO, h.l, h.x⟩
theorem LawT.appL (h : LawT K n Od room w0 mb fs nx Wt hl hx W o m V vl vx) (hown : OwnC 3 W' w0.heap.size v' (intsV (hl.map Prod.fst) ++ [.int .i64 p.1])) (e1 : W'.os = W.os) (e2 : W'.tape = W.tape) (e3 : W'.output = W.output) (e4 : W.heap.size ≤ W'.heap.size) (hk : KeepApp vl v' W W') :
 LawT K n Od room w0 mb fs nx Wt (hl ++ [p]) hx W' o m V v' vx := by
 have hw := wr_app e1 e2 e3 e4 hk
 refine ⟨h.sat.other hw (fun k _ hk => ⟨(h.l.own.lt k hk).1, h.l.no k hk⟩), h.b2, h.st, ?_, h.x.typ hw (by decide) (by decide) h.l.own.typed⟩
 rw [List.map_append]
 exact h.l.app h.sat.lt hown hk
theorem LawT.appX {bs : List Bool} (h : LawT K n Od room w0 mb fs nx Wt hl hx W o m V vl vx) (hb : LawB W o w0.heap.size v bs) (hbs : bs = tabB n p.2) {rs : List Value} (hrs : rs.length = hx.length) (hrow : OwnC 36 W w0.heap.size vx rs) (hall : ∀ i v, rs[i]? = some v → LawB W o w0.heap.size v ((hx.map fun p => tabB n p.2).getD i []))
 (hown : OwnC 36 W' w0.heap.size v' (rs ++ [v])) (e1 : W'.os = W.os) (e2 : W'.tape = W.tape) (e3 : W'.output = W.output) (e4 : W.heap.size ≤ W'.heap.size) (hk : KeepApp vx v' W W') : LawT K n Od room w0 mb fs nx Wt hl (hx ++ [p]) W' o m V vl v' := by
 have hw := wr_app e1 e2 e3 e4 hk
 refine ⟨h.sat.other hw (fun k _ hk => ⟨(hrow.lt k hk).1, h.x.no k hk⟩), h.b2, h.st, h.l.typ hw (by decide) hrow.typed, ?_⟩
 rw [List.map_append]
 have := h.x.app h.sat.lt (by simp [hrs]) hall hw hrow.typed hb hown hk
 rw [hbs] at this
 exact this
theorem LawT.row (h : LawT K n Od room w0 mb fs nx Wt hs hs W o m V vl vx) (hsub : ∀ p ∈ hs, p ∈ fs) (hsm : hs.length ≤ 1000) :
 LawR (fun g => w0.heap.size ≤ g ∧ g < W.heap.size ∧ o g = none ∧ ∃ cur, W.heap[g]? = some (.cells cur 4 (0, 0))) n fs W vl vx hs := lawR_of h.l h.x hsub hsm
structure LawF (W : World) (o : Own) (v : Value) (bs : List Bool) : Prop where
 is : BoolsIs W v bs
 no : ∀ k, v.ownBlock = some k → k < W.heap.size ∧ o k = none ∧ ∃ cur, W.heap[k]? = some (.cells cur 4 (0, 0))
theorem LawF.chg {bs : List Bool} (h : LawF W o v bs) (hc : ChgX NoB o o' W W') : LawF W' o' v bs :=
 ⟨h.is.same fun k hk => hc.block k (h.no k hk).1 (h.no k hk).2.1 (fun e => e), fun k hk => by
  obtain ⟨h1, h2, cur, h3⟩ := h.no k hk
  exact ⟨Nat.lt_of_lt_of_le h1 hc.size, hc.none' h1 h2, cur, (hc.block k h1 h2 (fun e => e)).trans h3⟩⟩
theorem LawF.tab {F : BF} (h : LawF W o v (tabB n F)) : ∃ a c, v = .slice a (2 ^ n) c ∧ BoolsAt W a (tabB n F) := by
 obtain ⟨a, c, e, h1, _⟩ := h.is
 rw [tabB_length] at e
 exact ⟨a, c, e, h1⟩
theorem refIte_tab (n : Nat) (F G H : BF) (au av aw : Option Addr) (cu cv cw : Nat) (w : World) (h1 : BoolsAt w au (tabB n F)) (h2 : BoolsAt w av (tabB n G)) (h3 : BoolsAt w aw (tabB n H)) :
 Calls Tryz.prog 19 #[.slice au (2 ^ n) cu, .slice av (2 ^ n) cv, .slice aw (2 ^ n) cw] w fun x w' => ∃ g, x = .returned (.slice (some ⟨g, 0, none⟩) (2 ^ n) (2 ^ n)) ∧ OwnB w' w.heap.size (.slice (some ⟨g, 0, none⟩) (2 ^ n) (2 ^ n)) (tabB n (iteFn F G H)) ∧ Below w.heap.size w w' := by
 have := refIte_any (tabB n F) (tabB n G) (tabB n H) (by simp [tabB_length]) (by simp [tabB_length]) au av aw cu cv cw w h1 h2 h3
 rw [tabB_length] at this
 rw [show iteL (tabB n F) (tabB n G) (tabB n H) = tabB n (iteFn F G H) from iteL_tab n F G H] at this
 exact this
theorem one_law (h : LawT K n Od room w0 mb fs nx Wt hs hs W o m V vl vx) (hsub : ∀ p ∈ hs, p ∈ fs) (hn : n ≤ 16) (hl : hs.length ≤ 100) (k : Int) :
 Calls Tryz.prog 17 #[.int .i64 n, vl, vx, .int .i64 k] W fun x w' => ∃ a F v, x = .returned (.tuple #[.int .i64 a, v]) ∧ (a, F) ∈ fs ∧ LawF w' o v (tabB n F) ∧ Below W.heap.size W w' := by
 refine (one_any hn h.b2.zero (h.row hsub (by omega)) k).mono ?_
 rintro x w' ⟨a, F, v, rfl, h1, h2, h3, h4⟩
 refine ⟨a, F, v, rfl, h1, ⟨h2, fun g hg => ?_⟩, h4⟩
 rcases h3 g hg with ⟨_, h6, h7, cur, h8⟩ | ⟨h5, cur, h6⟩
 ·
  exact ⟨Nat.lt_of_lt_of_le h6 h4.size, h7, cur, (h4.block g h6).trans h8⟩
 ·
  exact ⟨(Array.getElem?_eq_some_iff.1 h6).1, h.sat.lt.none h5, cur, h6⟩
end
open Go.RowKit
theorem intsAt_new (W : World) (zs : List Int) (hl : zs.length ≤ 1000000) : IntsAt (W.alloc (.cells (intsV zs).toArray 3)) (some ⟨W.heap.size, 0, none⟩) zs :=
 ⟨by omega, fun k hk => ⟨W.heap.size, 0, rfl, by
  rw [Nat.zero_add, cell_of_row _ _ k _ _ _ (heap_alloc_new _ _)]
  simp [intsV, at0_eq hk, hk]⟩⟩
section
variable {K : Law} {n : Nat} {Od : List Nat → Prop} {room : Nat} {w0 w w' : World} {mb : Nat} {fs : List (Int × BF)} {nx : Int} {o o' : Own} {m m' : ManD} {V V' : Nat → BF}
def Goes (K : Law) (n : Nat) (Od : List Nat → Prop) (room : Nat) (w0 : World) (mb : Nat) (fs : List (Int × BF)) (nx : Int) (Wt : List Ev → Int → Prop) (o : Own) (w w' : World) : Prop :=
 ∃ o' m' V', ChgX NoB o o' w w' ∧ Wt m'.waits m'.calls ∧ SatE K n Od room w0 mb fs nx w' o' m' V'
def NoW (ws : List Ev) (_ : Int) : Prop := ws = []
theorem Goes.below {Wt : List Ev → Int → Prop} {w'' : World} (h : Goes K n Od room w0 mb fs nx Wt o w w') (hb : Below w'.heap.size w' w'') : Goes K n Od room w0 mb fs nx Wt o w w'' := by
 obtain ⟨o', m', V', h1, h2, h3⟩ := h
 exact ⟨o', m', V', h1.trans (chg_below hb o') (fun _ _ e => e), h2, h3.below hb⟩
theorem ite_ok (hK : LawOK K) {Wt : List Ev → Int → Prop} (h : Goes K n Od room w0 mb fs nx NoW o w w') (hn : nx < 549755813888) (hr : (fs.length + 1) * 2 ^ n ≤ room) {kf kg kh : Int} {F G H : BF} (hf : (kf, F) ∈ fs) (hg : (kg, G) ∈ fs) (hh : (kh, H) ∈ fs) :
 Calls Tryz.prog 18 #[.pointer (some ⟨mb, 0, none⟩), .int .i64 kf, .int .i64 kg, .int .i64 kh] w' fun x w'' => x = .returned (.tuple #[.int .i64 nx, .int .i64 0]) ∧ Goes K n Od room w0 mb (fs ++ [(nx, iteFn F G H)]) (nx + 1) NoW o w w'' := by
 obtain ⟨o', m', V', h1, h2, h3⟩ := h
 refine (manIte_gen hK h3 [] (by rw [show m'.waits = [] from h2]; exact List.suffix_refl _) (by simp) (by omega) hf hg hh).mono ?_
 rintro x w'' hp
 obtain ⟨o2, m2, V2, q1, q2, q3, q4⟩ := opLeft_ok hp (Nat.sub_le _ _) hr
 exact ⟨q3, o2, m2, V2, h1.trans q1 (fun _ _ e => e), by simpa [NoW] using q2, q4⟩
theorem var_ok (hK : LawOK K) (h : Goes K n Od room w0 mb fs nx NoW o w w') (hn : nx < 549755813888) (hr : (fs.length + 1) * 2 ^ n ≤ room) {v : Nat} (hv : v < n) :
 Calls Tryz.prog 15 #[.pointer (some ⟨mb, 0, none⟩), .int .i64 v] w' fun x w'' => x = .returned (.tuple #[.int .i64 nx, .int .i64 0]) ∧ Goes K n Od room w0 mb (fs ++ [(nx, varF v)]) (nx + 1) NoW o w w'' := by
 obtain ⟨o', m', V', h1, h2, h3⟩ := h
 refine (manVar_gen hK h3 [] (by rw [show m'.waits = [] from h2]; exact List.suffix_refl _) (by simp) (by omega) v hv).mono ?_
 rintro x w'' hp
 have hp2 : 0 < 2 ^ n := Nat.pow_pos (by omega)
 obtain ⟨o2, m2, V2, q1, q2, q3, q4⟩ := opLeft_ok hp hp2 hr
 exact ⟨q3, o2, m2, V2, h1.trans q1 (fun _ _ e => e), by simpa [NoW] using q2, q4⟩
theorem not_ok (hK : LawOK K) {Wt : List Ev → Int → Prop} (h : Goes K n Od room w0 mb fs nx Wt o w w') (hn : nx < 549755813888) {k : Int} {F : BF} (hf : (k, F) ∈ fs) :
 Calls Tryz.prog 47 #[.pointer (some ⟨mb, 0, none⟩), .int .i64 k] w' fun x w'' => x = .returned (.tuple #[.int .i64 nx, .int .i64 0]) ∧ Goes K n Od room w0 mb (fs ++ [(nx, notF F)]) (nx + 1) Wt o w w'' := by
 obtain ⟨o', m', V', h1, h2, h3⟩ := h
 refine (manNot_any hK h3 hn hf).mono ?_
 rintro x w'' ⟨rfl, o2, m2, q⟩
 exact ⟨rfl, o2, m2, V', h1.trans (ChgX.of_chg q.chg NoB) (fun _ _ e => e), by rw [q.waits, q.calls]; exact h2, q.sat⟩
theorem copy_ok (hK : LawOK K) {Wt : List Ev → Int → Prop} (h : Goes K n Od room w0 mb fs nx Wt o w w') (hn : nx < 549755813888) {k : Int} {F : BF} (hf : (k, F) ∈ fs) :
 Calls Tryz.prog 48 #[.pointer (some ⟨mb, 0, none⟩), .int .i64 k] w' fun x w'' => x = .returned (.tuple #[.int .i64 nx, .int .i64 0]) ∧ Goes K n Od room w0 mb (fs ++ [(nx, F)]) (nx + 1) Wt o w w'' := by
 obtain ⟨o', m', V', h1, h2, h3⟩ := h
 refine (manCopy_any hK h3 hn hf).mono ?_
 rintro x w'' ⟨rfl, o2, m2, q⟩
 exact ⟨rfl, o2, m2, V', h1.trans (ChgX.of_chg q.chg NoB) (fun _ _ e => e), by rw [q.waits, q.calls]; exact h2, q.sat⟩
theorem drop_ok (hK : LawOK K) {Wt : List Ev → Int → Prop} {hs r : List (Int × BF)} (h : Goes K n Od room w0 mb (fs ++ (hs ++ r)) nx Wt o w w') (hb : B2 fs) (hn : nx < 549755813888) (hl : hs.length ≤ 1000) {T : World} (hT : T = w'.alloc (.cells (intsV (hs.map Prod.fst)).toArray 3)) :
 Calls Tryz.prog 49 #[.pointer (some ⟨mb, 0, none⟩), .slice (some ⟨w'.heap.size, 0, none⟩) hs.length hs.length] T fun x w'' => x = .returned (.int .i64 0) ∧ Goes K n Od room w0 mb (fs ++ r) nx Wt o w w'' := by
 obtain ⟨o', m', V', h1, h2, h3⟩ := h
 subst hT
 have hbn := below_new1 w' (.cells (intsV (hs.map Prod.fst)).toArray 3)
 refine (manDrop_mid hK (h3.below hbn) hb hn (intsAt_new w' (hs.map Prod.fst) (by simp; omega)) (fun x hx => by cases hx; exact h3.lt.none (Nat.le_refl _))).mono ?_
 rintro x w'' ⟨rfl, o2, m2, q⟩
 exact ⟨rfl, o2, m2, V', (h1.trans (chg_below hbn o') (fun _ _ e => e)).trans (ChgX.of_chg q.chg NoB) (fun _ _ e => e), by rw [q.waits, q.calls]; exact h2, q.sat⟩
set_option maxRecDepth 100000 in
set_option maxHeartbeats 2000000 in
theorem join_any (hK : LawOK K) {a b : Int} {F G : BF} (h : Goes K n Od room w0 mb (fs ++ [(a, F), (b, G)]) nx NoW o w w') (hb : B2 fs) (hn : nx + 2 < 549755813888) (hr : (fs.length + 5) * 2 ^ n ≤ room) {op : Int} (h5 : 5 ≤ op) (h9 : op ≤ 9) :
 Calls Tryz.prog 118 #[.pointer (some ⟨mb, 0, none⟩), .int .i64 op, .int .i64 a, .int .i64 b] w' fun x w'' => ∃ k : Int, x = .returned (.tuple #[.int .i64 k, .bool true]) ∧ k ≤ nx + 1 ∧ Goes K n Od room w0 mb (fs ++ [(k, joinF op F G)]) (k + 1) NoW o w w'' := by
 have hp2 : 0 < 2 ^ n := Nat.pow_pos (by omega)
 have hr1 : (fs.length + 3) * 2 ^ n ≤ room := Nat.le_trans (Nat.mul_le_mul_right _ (by omega)) hr
 have hr2 : (fs.length + 4) * 2 ^ n ≤ room := Nat.le_trans (Nat.mul_le_mul_right _ (by omega)) hr
 have HITE : Hid (∀ c d e A B C, (c, A) ∈ fs ++ [(a, F), (b, G)] → (d, B) ∈ fs ++ [(a, F), (b, G)] → (e, C) ∈ fs ++ [(a, F), (b, G)] → Calls Tryz.prog 18 #[.pointer (some ⟨mb, 0, none⟩), .int .i64 c, .int .i64 d, .int .i64 e] w' fun x w'' => x = .returned (.tuple #[.int .i64 nx, .int .i64 0]) ∧ Goes K n Od room w0 mb (fs ++ [(a, F), (b, G)] ++ [(nx, iteFn A B C)]) (nx + 1) NoW o w w'') :=
  Lib.hid fun c d e A B C h1 h2 h3 => ite_ok hK (Wt := NoW) h (by omega) (by simp; exact hr1) h1 h2 h3
 have HNOT := Lib.hid (not_ok hK h (by omega) (k := b) (F := G) (by simp))
 have HITE2 : Hid (∀ W, Goes K n Od room w0 mb (fs ++ [(a, F), (b, G)] ++ [(nx, notF G)]) (nx + 1) NoW o w W → ∀ c d e A B C, (c, A) ∈ fs ++ [(a, F), (b, G)] ++ [(nx, notF G)] → (d, B) ∈ fs ++ [(a, F), (b, G)] ++ [(nx, notF G)] → (e, C) ∈ fs ++ [(a, F), (b, G)] ++ [(nx, notF G)] →
  Calls Tryz.prog 18 #[.pointer (some ⟨mb, 0, none⟩), .int .i64 c, .int .i64 d, .int .i64 e] W fun x w'' => x = .returned (.tuple #[.int .i64 (nx + 1), .int .i64 0]) ∧ Goes K n Od room w0 mb (fs ++ [(a, F), (b, G)] ++ [(nx, notF G)] ++ [(nx + 1, iteFn A B C)]) (nx + 1 + 1) NoW o w w'') :=
  Lib.hid fun W hW c d e A B C h1 h2 h3 => ite_ok hK (Wt := NoW) hW (by omega) (by simp; exact hr2) h1 h2 h3
 have HDN : Hid (∀ W H T, Goes K n Od room w0 mb (fs ++ [(a, F), (b, G)] ++ [(nx, notF G)] ++ [(nx + 1, H)]) (nx + 1 + 1) NoW o w W → T = W.alloc (.cells #[.int .i64 nx] 3) → Calls Tryz.prog 49 #[.pointer (some ⟨mb, 0, none⟩), .slice (some ⟨W.heap.size, 0, none⟩) 1 1] T fun x w'' => x = .returned (.int .i64 0) ∧ Goes K n Od room w0 mb (fs ++ [(a, F), (b, G)] ++ [(nx + 1, H)]) (nx + 1 + 1) NoW o w w'') :=
  Lib.hid fun W H T hW hT => drop_ok hK (hs := [(nx, notF G)]) (r := [(nx + 1, H)]) (by rw [List.append_assoc] at hW; exact hW) (hb.app _) (by omega) (by simp) hT
 have HDAB : Hid (∀ W k H T, k + 1 < 549755813888 → Goes K n Od room w0 mb (fs ++ [(a, F), (b, G)] ++ [(k, H)]) (k + 1) NoW o w W → T = W.alloc (.cells #[.int .i64 a, .int .i64 b] 3) → Calls Tryz.prog 49 #[.pointer (some ⟨mb, 0, none⟩), .slice (some ⟨W.heap.size, 0, none⟩) 2 2] T fun x w'' => x = .returned (.int .i64 0) ∧ Goes K n Od room w0 mb (fs ++ [(k, H)]) (k + 1) NoW o w w'') :=
  Lib.hid fun W k H T hk hW hT => drop_ok hK (hs := [(a, F), (b, G)]) (r := [(k, H)]) (by rw [List.append_assoc] at hW; exact hW) hb (by omega) (by simp) hT
 have m0 : (0, fun _ => false) ∈ fs ++ [(a, F), (b, G)] := List.mem_append_left _ hb.zero
 have m1 : (1, fun _ => true) ∈ fs ++ [(a, F), (b, G)] := List.mem_append_left _ hb.one
 have ma : (a, F) ∈ fs ++ [(a, F), (b, G)] := by simp
 have mb' : (b, G) ∈ fs ++ [(a, F), (b, G)] := by simp
 have pa : (a, F) ∈ fs ++ [(a, F), (b, G)] ++ [(nx, notF G)] := by simp
 have pb : (b, G) ∈ fs ++ [(a, F), (b, G)] ++ [(nx, notF G)] := by simp
 have pn : (nx, notF G) ∈ fs ++ [(a, F), (b, G)] ++ [(nx, notF G)] := by simp
 clear h hb hr hr1 hr2 hK
 rcases (show op = 5 ∨ op = 6 ∨ op = 7 ∨ op = 8 ∨ op = 9 by omega) with rfl | rfl | rfl | rfl | rfl
 ·
  have HI := Lib.hid (HITE.out a b 0 _ _ _ ma mb' m0)
  clear HITE HITE2 HNOT HDN
  go_enter Tryz.func118, Tryz.ntmps118
  go_wp2_with fail
  refine HI.out.mono ?_
  rintro x w1 ⟨rfl, g1⟩
  have HD := Lib.hid (HDAB.out w1 nx _ _ (by omega) g1 rfl)
  clear g1 HI
  go_wp2_with fail
  refine HD.out.mono ?_
  rintro x w2 ⟨rfl, g2⟩
  have HG := Lib.hid g2
  clear g2 HD
  go_wp2_with fail
  go_ret2
  exact ⟨nx, rfl, by omega, HG.out⟩
 ·
  have HI := Lib.hid (HITE.out a 1 b _ _ _ ma m1 mb')
  clear HITE HITE2 HNOT HDN
  go_enter Tryz.func118, Tryz.ntmps118
  go_wp2_with fail
  refine HI.out.mono ?_
  rintro x w1 ⟨rfl, g1⟩
  have HD := Lib.hid (HDAB.out w1 nx _ _ (by omega) g1 rfl)
  clear g1 HI
  go_wp2_with fail
  refine HD.out.mono ?_
  rintro x w2 ⟨rfl, g2⟩
  have HG := Lib.hid g2
  clear g2 HD
  go_wp2_with fail
  go_ret2
  exact ⟨nx, rfl, by omega, HG.out⟩
 ·
  clear HITE
  go_enter Tryz.func118, Tryz.ntmps118
  go_wp2_with fail
  refine HNOT.out.mono ?_
  rintro x w1 ⟨rfl, g1⟩
  have HI := Lib.hid (HITE2.out w1 g1 a nx b _ _ _ pa pn pb)
  clear g1 HNOT HITE2
  go_wp2_with fail
  refine HI.out.mono ?_
  rintro x w2 ⟨rfl, g2⟩
  have HD1 := Lib.hid (HDN.out w2 _ _ g2 rfl)
  clear g2 HI HDN
  go_wp2_with fail
  refine HD1.out.mono ?_
  rintro x w3 ⟨rfl, g3⟩
  have HD := Lib.hid (HDAB.out w3 (nx + 1) _ _ (by omega) g3 rfl)
  clear g3 HD1
  go_wp2_with fail
  refine HD.out.mono ?_
  rintro x w4 ⟨rfl, g4⟩
  have HG := Lib.hid g4
  clear g4 HD
  go_wp2_with fail
  go_ret2
  exact ⟨nx + 1, rfl, by omega, HG.out⟩
 ·
  have HI := Lib.hid (HITE.out a b 1 _ _ _ ma mb' m1)
  clear HITE HITE2 HNOT HDN
  go_enter Tryz.func118, Tryz.ntmps118
  go_wp2_with fail
  refine HI.out.mono ?_
  rintro x w1 ⟨rfl, g1⟩
  have HD := Lib.hid (HDAB.out w1 nx _ _ (by omega) g1 rfl)
  clear g1 HI
  go_wp2_with fail
  refine HD.out.mono ?_
  rintro x w2 ⟨rfl, g2⟩
  have HG := Lib.hid g2
  clear g2 HD
  go_wp2_with fail
  go_ret2
  exact ⟨nx, rfl, by omega, HG.out⟩
 ·
  clear HITE
  go_enter Tryz.func118, Tryz.ntmps118
  go_wp2_with fail
  refine HNOT.out.mono ?_
  rintro x w1 ⟨rfl, g1⟩
  have HI := Lib.hid (HITE2.out w1 g1 a b nx _ _ _ pa pb pn)
  clear g1 HNOT HITE2
  go_wp2_with fail
  refine HI.out.mono ?_
  rintro x w2 ⟨rfl, g2⟩
  have HD1 := Lib.hid (HDN.out w2 _ _ g2 rfl)
  clear g2 HI HDN
  go_wp2_with fail
  refine HD1.out.mono ?_
  rintro x w3 ⟨rfl, g3⟩
  have HD := Lib.hid (HDAB.out w3 (nx + 1) _ _ (by omega) g3 rfl)
  clear g3 HD1
  go_wp2_with fail
  refine HD.out.mono ?_
  rintro x w4 ⟨rfl, g4⟩
  have HG := Lib.hid g4
  clear g4 HD
  go_wp2_with fail
  go_ret2
  exact ⟨nx + 1, rfl, by omega, HG.out⟩
end
open Go.RowKit
theorem kids_ok {op : Int} (h : 0 ≤ (kidsR op).1) : 1 ≤ op ∧ op ≤ 10 ∧ (kidsR op).2 ≤ 64 := by
 unfold kidsR at h ⊢
 split
 ·
  rename_i h1; exact ⟨by omega, by omega, by simp⟩
 ·
  split
  ·
   rename_i h1; exact ⟨by omega, by omega, by simp⟩
  ·
   split
   ·
    rename_i h1; exact ⟨by omega, by omega, by simp⟩
   ·
    split
    ·
     rename_i h1; exact ⟨by omega, by omega, by simp⟩
    ·
     split
     ·
      rename_i h1; exact ⟨by omega, by omega, by simp⟩
     ·
      exfalso; revert h; simp_all
theorem range_snoc (f : Nat → Bool) (i : Nat) : (List.range (i + 1)).map f = (List.range i).map f ++ [f i] := by simp [List.range_succ]
theorem boolsV_snoc (l : List Bool) (b : Bool) : boolsV (l ++ [b]) = boolsV l ++ [.bool b] := by simp [boolsV]
theorem tmod2 (c : Nat) : ((c : Int).tmod 2 == 1) = decide (c % 2 = 1) := by
 have e1 : Int.tmod (c : Int) 2 = ((c % 2 : Nat) : Int) := by rw [Int.tmod_eq_emod_of_nonneg (by omega)]; rfl
 rw [e1]
 by_cases h : c % 2 = 1
 ·
  rw [h]; rfl
 ·
  have : ((c % 2 : Nat) : Int) ≠ 1 := by omega
  rw [beq_eq_false_iff_ne.2 this, decide_eq_false h]
theorem nat_beq (a b : Nat) : (((a : Nat) : Int) == (b : Int)) = decide (a = b) := by
 by_cases h : a = b
 ·
  subst h; simp
 ·
  have : (a : Int) ≠ b := by omega
  rw [beq_eq_false_iff_ne.2 this, decide_eq_false h]
set_option maxRecDepth 100000 in
set_option maxHeartbeats 1000000 in
theorem value06_any (ls : List Bool) (al : Option Addr) (cl : Nat) : ∀ (e : ExT) (x : Value) (w : World), validT e → ExprAt w e x → BoolsAt w al ls →
 Calls Tryz.prog 119 #[x, .slice al ls.length cl] w fun y w' => y = .returned (.bool (fnT e (envOf ls))) ∧ Below w.heap.size w w'
 | .nil, x, w, hv, h, _ => by unfold ExprAt at h; exact h.elim
 | .mk op v n kid, x, w, hval, h, hls => by
   unfold ExprAt at h
   obtain ⟨a, c, rfl, h2, h3, h4, h5⟩ := h
   obtain ⟨v1, v2, v3, v4, v5, v6⟩ := hval
   obtain ⟨k1, k2, k3⟩ := kids_ok v1
   have hn64 : n ≤ 64 := by omega
   have H5 := Lib.hid h5
   have H6 := Lib.hid v6
   have HLS := Lib.hid hls
   have hll := hls.len
   have HE : Hid (fnT (ExT.mk op v n kid) (envOf ls) = if op = 3 then envOf ls v.toNat else opB op n fun i => fnT (kid i) (envOf ls)) := Lib.hid rfl
   have IH : Hid (∀ (i : Nat) (x : Value) (W : World), i < n → ExprAt W (kid i) x → BoolsAt W al ls → Calls Tryz.prog 119 #[x, .slice al ls.length cl] W fun y w' => y = .returned (.bool (fnT (kid i) (envOf ls))) ∧ Below W.heap.size W w') :=
    Lib.hid fun i x W hi h1 h2 => value06_any ls al cl (kid i) x W (H6.out i hi) h1 h2
   obtain ⟨B, hB⟩ : ∃ B, B = fnT (ExT.mk op v n kid) (envOf ls) := ⟨_, rfl⟩
   obtain ⟨f, hf⟩ : ∃ f : Nat → Bool, f = fun i => fnT (kid i) (envOf ls) := ⟨_, rfl⟩
   have HFI : Hid (∀ i, fnT (kid i) (envOf ls) = f i) := Lib.hid fun i => by rw [hf]
   rw [← hB] at HE ⊢
   rw [← hf] at HE
   have hl2 : op = 8 ∨ op = 9 → n = 2 := by rintro (rfl | rfl) <;> (simp [kidsR] at v4 v5; omega)
   have hl3 : op = 10 → n = 3 := by rintro rfl; simp [kidsR] at v4 v5; omega
   have hl4 : op = 4 → n = 1 := by rintro rfl; simp [kidsR] at v4 v5; omega
   obtain ⟨w1, hw1⟩ : ∃ w1, w1 = w.alloc (.cells #[.int .i64 op, .int .i64 v, .slice a n c] 39) := ⟨_, rfl⟩
   have HW1 : Hid (_ = w1) := Lib.hid hw1.symm
   have HB1 : Hid (Below w.heap.size w w1) := by rw [hw1]; exact Lib.hid (below_new1 _ _)
   have hblk : w1.heap[w.heap.size]? = some (.cells #[.int .i64 op, .int .i64 v, .slice a n c] 39 (0, 0)) := by rw [hw1]; exact heap_alloc_new _ _
   have d0 : w1.cell? ⟨w.heap.size, 0, none⟩ = some (.int .i64 op) := by rw [cell_of_row _ _ 0 _ _ _ hblk]; rfl
   have d1 : w1.cell? ⟨w.heap.size, 1, none⟩ = some (.int .i64 v) := by rw [cell_of_row _ _ 1 _ _ _ hblk]; rfl
   have d2 : w1.cell? ⟨w.heap.size, 2, none⟩ = some (.slice a n c) := by rw [cell_of_row _ _ 2 _ _ _ hblk]; rfl
   unfold okI at h2 h3
   obtain ⟨w2, hw2⟩ : ∃ w2, w2 = w1.alloc (.cells #[] 4) := ⟨_, rfl⟩
   have HW2 : Hid (_ = w2) := Lib.hid hw2.symm
   have HB2 : Hid (Below w1.heap.size w1 w2) := by rw [hw2]; exact Lib.hid (below_new1 _ _)
   have HOWN : Hid (OwnB w2 w1.heap.size (.slice (some ⟨w1.heap.size, 0, none⟩) 0 0) []) := by rw [hw2]; exact Lib.hid (ownC_new _ _ _ (Nat.le_refl _))
   have hs1 : w1.heap.size = w.heap.size + 1 := by rw [hw1]; simp
   rw [hs1] at HOWN
   clear h5 hw1 hw2 hblk hf hB v1 v4 v5 v6 hls
   go_enter Tryz.func119, Tryz.ntmps119
   go_upto_region 1 with fail
   rw [HW1.out]
   go_upto_region 3 with fail
   rw [HW2.out]
   have hs2 : w1.heap.size ≤ w2.heap.size := HB2.out.size
   have d0' := (HB2.out.cell (p := ⟨w.heap.size, 0, none⟩) (lt_of_cell d0)).trans d0
   have d1' := (HB2.out.cell (p := ⟨w.heap.size, 1, none⟩) (lt_of_cell d1)).trans d1
   have d2' := (HB2.out.cell (p := ⟨w.heap.size, 2, none⟩) (lt_of_cell d2)).trans d2
   go_wp2_with fail
   go_loopw [5, 6, 7, 8] (fun s5 s6 s7 s8 wr => ∃ i k : Nat, i ≤ n ∧ k ≤ i ∧ s5 = .int .i64 k ∧ s7 = .int .i64 i ∧ Hid (k = cntT i f) ∧ Below w1.heap.size w1 wr ∧ OwnB wr w1.heap.size s6 ((List.range i).map f) ∧ w1.heap.size ≤ wr.heap.size) (fun _ _ s7 _ _ => n - (intOf s7).toNat)
   case atStart => exact ⟨0, 0, Nat.zero_le _, Nat.le_refl _, rfl, rfl, Lib.hid rfl, HB2.out, by rw [hs1]; exact HOWN.out, hs2⟩
   case round =>
    obtain ⟨i, k, hi, hki, rfl, rfl, HK, hbel, hown, hsz⟩ := hrel
    have e0 := (hbel.cell (p := ⟨w.heap.size, 0, none⟩) (lt_of_cell d0)).trans d0
    have e1 := (hbel.cell (p := ⟨w.heap.size, 1, none⟩) (lt_of_cell d1)).trans d1
    have e2 := (hbel.cell (p := ⟨w.heap.size, 2, none⟩) (lt_of_cell d2)).trans d2
    have HBEL := Lib.hid hbel
    have HOW := Lib.hid hown
    clear hbel d0' d1' d2'
    by_cases hlt : i < n
    ·
     clear hown
     obtain ⟨b, off, x0, x1, x2, rfl, c0, c1, c2, hx⟩ := H5.out i hlt
     have hb0 := HB1.out.trans (HBEL.out.mono HB1.out.size)
     have q0 := (hb0.cell (p := ⟨b, off + i * 3, none⟩) (lt_of_cell c0)).trans c0
     have q1 := (hb0.cell (p := ⟨b, off + i * 3 + 1, none⟩) (lt_of_cell c1)).trans c1
     have q2 := (hb0.cell (p := ⟨b, off + i * 3 + 2, none⟩) (lt_of_cell c2)).trans c2
     have HX := Lib.hid (hx.below hb0)
     have HL2 := Lib.hid (HLS.out.below hb0)
     have hiz : (i : Int) < n := by omega
     have HK1 : Hid (∀ y, f i = y → k + (if y then 1 else 0) = cntT (i + 1) f) := Lib.hid fun y hy => by rw [← hy, HK.out]; rfl
     clear c0 c1 c2 hx hb0
     go_wp2_with fail
     refine (IH.out i _ _ (by omega) HX.out HL2.out).mono ?_
     rintro y w3 ⟨rfl, hb3⟩
     have HB3 := Lib.hid hb3
     clear hb3
     go_upto_region 7 with fail
     rw [HFI.out]
     obtain ⟨y, hy⟩ : ∃ y, f i = y := ⟨_, rfl⟩
     rw [hy]
     have HKY := Lib.hid (HK1.out y hy)
     have HOW3 := Lib.hid (HOW.out.below HB3.out)
     have hsz3 : w1.heap.size ≤ w3.heap.size := Nat.le_trans hsz HB3.out.size
     have HBEL3 := Lib.hid (HBEL.out.trans (HB3.out.mono HBEL.out.size))
     have HYY : Hid (boolsV ((List.range (i + 1)).map f) = boolsV ((List.range i).map f) ++ [.bool y]) := Lib.hid (by rw [range_snoc, boolsV_snoc, hy])
     clear HK1 hy q0 q1 q2 e0 e1 e2
     go_upto_region 8 with (at_builtin; refine wpList_appC elemBool _ rfl _ _ rfl w1.heap.size _ (boolsV ((List.range i).map f)) _ rfl rfl rfl rfl rfl (by exact HOW3.out) (by simp [boolsV]; omega) hsz3 ?_; intro v4 w4 hown4 q1 q2 q3 q4 hk4)
     have HB4 := Lib.hid (below_app HBEL3.out HOW3.out q1 q2 q3 q4 hk4 hsz3)
     have HOW4 := Lib.hid hown4
     have hsz4 : w1.heap.size ≤ w4.heap.size := by omega
     clear hown4 q1 q2 q3 q4 hk4
     cases y with
     | true =>
       go_wp2_with fail
       go_roundw
       case rel => exact ⟨i + 1, k + 1, by omega, by omega, by go_num, by go_num, Lib.hid HKY.out, HB4.out, by unfold OwnB; rw [HYY.out]; exact HOW4.out, hsz4⟩
       case measure => simp [intOf]; omega
     | false =>
       go_wp2_with fail
       go_roundw
       case rel => exact ⟨i + 1, k, by omega, by omega, by go_num, by go_num, Lib.hid HKY.out, HB4.out, by unfold OwnB; rw [HYY.out]; exact HOW4.out, hsz4⟩
       case measure => simp [intOf]; omega
    ·
     have he : i = n := by omega
     subst he
     have hiz : ¬ (i : Int) < i := by omega
     have HF : Hid (∀ b : Bool, b = B → Ending.returned (.bool b) = .returned (.bool B) ∧ Below w.heap.size w wr) := Lib.hid fun b hb => ⟨by rw [hb], HB1.out.trans (HBEL.out.mono HB1.out.size)⟩
     have hkids : 0 < i → ∃ g cap, u6 = .slice (some ⟨g, 0, none⟩) i cap ∧ ∀ j, j < i → wr.cell? ⟨g, j, none⟩ = some (.bool (f j)) := by
      intro hp
      obtain ⟨g, cap, e, _⟩ := hown.shape (by simp [boolsV]; omega)
      have e' : u6 = .slice (some ⟨g, 0, none⟩) i cap := by rw [e]; simp [boolsV]
      refine ⟨g, cap, e', fun j hj => ?_⟩
      rw [e'] at hown
      have := hown.cellB j (by simp; omega)
      rw [this]
      simp [List.getD, hj]
     clear hown
     rcases (show op = 1 ∨ op = 2 ∨ op = 3 ∨ op = 4 ∨ op = 5 ∨ op = 6 ∨ op = 7 ∨ op = 8 ∨ op = 9 ∨ op = 10 by omega) with rfl | rfl | rfl | rfl | rfl | rfl | rfl | rfl | rfl | rfl
     ·
      go_wp2_with fail
      go_ret
      exact HF.out _ (by rw [HE.out]; rfl)
     ·
      go_wp2_with fail
      go_ret
      exact HF.out _ (by rw [HE.out]; rfl)
     ·
      obtain ⟨v5, v6⟩ := v2 rfl
      obtain ⟨u, rfl⟩ : ∃ u : Nat, v = (u : Int) := ⟨v.toNat, by omega⟩
      have HEV : Hid (B = envOf ls u) := Lib.hid (by rw [HE.out]; rfl)
      by_cases hu : u < ls.length
      ·
       obtain ⟨bl, ol, rfl, cl0⟩ := (HLS.out.below (HB1.out.trans (HBEL.out.mono HB1.out.size))).cells u hu
       have huz : (u : Int) < ls.length := by omega
       have HEV2 : Hid (B = ls.getD u false) := HEV
       obtain ⟨yy, hyy⟩ : ∃ yy, yy = ls.getD u false := ⟨_, rfl⟩
       rw [← hyy] at cl0 HEV2
       clear hyy
       go_wp2_with fail
       go_ret
       exact HF.out _ HEV2.out.symm
      ·
       have huz : ¬ (u : Int) < ls.length := by omega
       have HEV2 : Hid (B = false) := Lib.hid (by rw [HEV.out]; unfold envOf; simp [List.getD, List.getElem?_eq_none (show ls.length ≤ u by omega)])
       go_wp2_with fail
       go_ret
       exact HF.out _ HEV2.out.symm
     ·
      have HV : Hid (((k : Int) == 0) = B) := Lib.hid (by rw [HE.out, HK.out]; exact nat_beq _ 0)
      go_wp2_with fail
      go_ret
      exact HF.out _ HV.out
     ·
      have HV : Hid (((k : Int) == (i : Int)) = B) := Lib.hid (by rw [HE.out, HK.out]; exact nat_beq _ i)
      go_wp2_with fail
      go_ret
      exact HF.out _ HV.out
     ·
      have HV : Hid (decide (0 < k) = B) := Lib.hid (by
       rw [HE.out, HK.out]
       rfl)
      go_wp2_with fail
      go_ret
      exact HF.out _ HV.out
     ·
      have HV : Hid (((k : Int).tmod 2 == 1) = B) := Lib.hid (by rw [HE.out, HK.out]; exact tmod2 _)
      go_wp2_with fail
      go_ret
      exact HF.out _ HV.out
     ·
      have := hl2 (.inl rfl)
      subst this
      obtain ⟨g, cap, rfl, hc⟩ := hkids (by omega)
      have c0 := hc 0 (by omega)
      have c1 := hc 1 (by omega)
      have HV : Hid ((!(f 0) || f 1) = B) := Lib.hid (by rw [HE.out]; rfl)
      obtain ⟨y0, hy0⟩ : ∃ y, y = f 0 := ⟨_, rfl⟩
      obtain ⟨y1, hy1⟩ : ∃ y, y = f 1 := ⟨_, rfl⟩
      rw [← hy0] at c0 HV
      rw [← hy1] at c1 HV
      clear hy0 hy1 hc hkids
      cases y0 with
      | true =>
        go_wp2_with fail
        go_ret
        exact HF.out _ HV.out
      | false =>
        go_wp2_with fail
        go_ret
        exact HF.out _ HV.out
     ·
      have HV : Hid (((k : Int) != 1) = B) := Lib.hid (by
       rw [HE.out, HK.out]
       show (!((cntT i f : Int) == ((1 : Nat) : Int))) = decide (cntT i f ≠ 1)
       rw [nat_beq]
       by_cases h : cntT i f = 1 <;> simp [h])
      go_wp2_with fail
      go_ret
      exact HF.out _ HV.out
     ·
      have := hl3 rfl
      subst this
      obtain ⟨g, cap, rfl, hc⟩ := hkids (by omega)
      have c0 := hc 0 (by omega)
      have c1 := hc 1 (by omega)
      have c2 := hc 2 (by omega)
      have HV : Hid (iteB (f 0) (f 1) (f 2) = B) := Lib.hid (by rw [HE.out]; rfl)
      obtain ⟨y0, hy0⟩ : ∃ y, y = f 0 := ⟨_, rfl⟩
      obtain ⟨y1, hy1⟩ : ∃ y, y = f 1 := ⟨_, rfl⟩
      obtain ⟨y2, hy2⟩ : ∃ y, y = f 2 := ⟨_, rfl⟩
      rw [← hy0] at c0 HV
      rw [← hy1] at c1 HV
      rw [← hy2] at c2 HV
      clear hy0 hy1 hy2 hc hkids
      cases y0 with
      | true =>
        go_wp2_with fail
        go_ret
        exact HF.out _ HV.out
      | false =>
        go_wp2_with fail
        go_ret
        exact HF.out _ HV.out
open Go.RowKit
section
variable {P : Program} {ops : Array Oper} {S : World → Prop} {Q : Exit → Act → World → Prop} {last : Bool}
theorem mix_valueG {o : Oper} {r : List (Option Oper × Bool)} {a : Act} {w w' : World} {v : Value} (hw : Region.wanted o (yielded ops a.tmps) = true)
 (he : (execOp a.eval o).run P w = .ok (.value v) w') (hS : S w') (h : wpMix P ops Q S last r (a.put o.dst v) w') : wpMix P ops Q S last ((some o, true) :: r) a w := by
 unfold wpMix
 simp only [hw, if_true, Oper.wp, he, Oper.upon]
 exact ⟨.inr hS, h⟩
theorem mix_callGR {o : Oper} {r : List (Option Oper × Bool)} {a : Act} {w : World} {f : FuncId} {args : Array Value} {R : Value → World → Prop} (hw : Region.wanted o (yielded ops a.tmps) = true)
 (he : (execOp a.eval o).run P w = .ok (.enter f args) w) (hc : Calls P f args w fun e w' => ∃ v, e = .returned v ∧ S w' ∧ R v w')
 (h : ∀ v w', S w' → R v w' → wpMix P ops Q S last r (a.put o.dst v) w') : wpMix P ops Q S last ((some o, true) :: r) a w := by
 unfold wpMix
 simp only [hw, if_true, Oper.wp, he, Oper.upon]
 exact hc.mono fun e w' ⟨v, h1, h2, h3⟩ => by subst h1; exact ⟨.inr h2, h v w' h2 h3⟩
end
set_option maxRecDepth 100000 in
theorem manConst_any (mb : Nat) (b : Bool) (w : World) : Calls Tryz.prog 54 #[.pointer (some ⟨mb, 0, none⟩), .bool b] w fun x w' => x = .returned (.int .i64 (if b then 1 else 0)) ∧ w = w' := by
 cases b with
 | true =>
   go_enter Tryz.func54, Tryz.ntmps54
   go_wp2_with fail
   go_ret
   exact ⟨rfl, rfl⟩
 | false =>
   go_enter Tryz.func54, Tryz.ntmps54
   go_wp2_with fail
   go_ret
   exact ⟨rfl, rfl⟩
theorem len_two {α : Type} {l : List α} (h : l.length = 2) : ∃ a b, l = [a, b] := by
 match l, h with
 | [a, b], _ => exact ⟨a, b, rfl⟩
theorem len_three {α : Type} {l : List α} (h : l.length = 3) : ∃ a b c, l = [a, b, c] := by
 match l, h with
 | [a, b, c], _ => exact ⟨a, b, c, rfl⟩
theorem sumN_pos {f : Nat → Nat} (h : ∀ i, 1 ≤ f i) : ∀ k, k ≤ sumN k f
 | 0 => Nat.zero_le _
 | k + 1 => by
   have := sumN_pos h k
   have := h k
   show k + 1 ≤ sumN k f + f k
   omega
section
variable {K : Law} {n : Nat} {Od : List Nat → Prop} {room : Nat} {w0 w w' w'' : World} {mb : Nat} {fs fs' : List (Int × BF)} {nx nx' : Int} {o o' : Own} {m m' : ManD} {V V' : Nat → BF}
theorem Goes.refl (h : SatE K n Od room w0 mb fs nx w o m V) (hw : m.waits = []) : Goes K n Od room w0 mb fs nx NoW o w w := ⟨o, m, V, ChgX.of_below (Below.refl _ _) o NoB, hw, h⟩
theorem Goes.after {Wt : List Ev → Int → Prop} (hc : ChgX NoB o o' w w') (g : Goes K n Od room w0 mb fs nx Wt o' w' w'') : Goes K n Od room w0 mb fs nx Wt o w w'' := by
 obtain ⟨o2, m2, V2, h1, h2, h3⟩ := g
 exact ⟨o2, m2, V2, hc.trans h1 (fun _ _ e => e), h2, h3⟩
theorem Goes.cell {Wt : List Ev → Int → Prop} (g : Goes K n Od room w0 mb fs nx Wt o w w') {p : Addr} {v : Value} (hc : w.cell? p = some v) (hb : o p.block = none) : w'.cell? p = some v := by
 obtain ⟨o2, m2, V2, h1, h2, h3⟩ := g
 exact h1.cell hc hb (fun e => e)
theorem Goes.below0 {Wt : List Ev → Int → Prop} (g : Goes K n Od room w0 mb fs nx Wt o w w') : Below w0.heap.size w0 w' := by
 obtain ⟨o2, m2, V2, h1, h2, h3⟩ := g
 exact h3.chg.below0
structure BuiT (K : Law) (n : Nat) (Od : List Nat → Prop) (room : Nat) (w0 : World) (mb : Nat) (fs : List (Int × BF)) (nx : Int) (o : Own) (w : World) (vl : Value) (ks : List Int) (W : World) (o' : Own) (m' : ManD) (V' : Nat → BF) : Prop where
 sat : SatE K n Od room w0 mb fs nx W o' m' V'
 waits : m'.waits = []
 chg : ChgX NoB o o' w W
 l : LawL W o' w.heap.size vl ks
def BuiS (K : Law) (n : Nat) (Od : List Nat → Prop) (room : Nat) (w0 : World) (mb : Nat) (fs : List (Int × BF)) (nx : Int) (o : Own) (w : World) (vl : Value) (ks : List Int) (W : World) : Prop := ∃ o' m' V', BuiT K n Od room w0 mb fs nx o w vl ks W o' m' V'
section
variable {vl vl' : Value} {ks : List Int} {W W' : World}
theorem BuiT.go (h : BuiT K n Od room w0 mb fs nx o w vl ks W o' m' V') (g : Goes K n Od room w0 mb fs' nx' NoW o' W W') : BuiS K n Od room w0 mb fs' nx' o w vl ks W' := by
 obtain ⟨o2, m2, V2, h1, h2, h3⟩ := g
 exact ⟨o2, m2, V2, h3, h2, h.chg.trans h1 (fun _ _ e => e), h.l.chg h1⟩
theorem BuiT.refl (h : BuiT K n Od room w0 mb fs nx o w vl ks W o' m' V') : Goes K n Od room w0 mb fs nx NoW o' W W := Goes.refl h.sat h.waits
theorem BuiS.below (h : BuiS K n Od room w0 mb fs nx o w vl ks W) (hb : Below W.heap.size W W') : BuiS K n Od room w0 mb fs nx o w vl ks W' := by
 obtain ⟨o', m', V', h⟩ := h
 exact h.go (h.refl.below hb)
theorem BuiS.goes (h : BuiS K n Od room w0 mb fs nx o w vl ks W) : Goes K n Od room w0 mb fs nx NoW o w W := by
 obtain ⟨o', m', V', h⟩ := h
 exact ⟨o', m', V', h.chg, h.waits, h.sat⟩
theorem BuiS.app {k : Int} (h : BuiT K n Od room w0 mb fs nx o w vl ks W o' m' V') (hown : OwnC 3 W' w.heap.size vl' (intsV ks ++ [.int .i64 k])) (e1 : W'.os = W.os) (e2 : W'.tape = W.tape) (e3 : W'.output = W.output) (e4 : W.heap.size ≤ W'.heap.size) (hk : KeepApp vl vl' W W') (hw0 : w0.heap.size ≤ w.heap.size) :
 BuiS K n Od room w0 mb fs nx o w vl' (ks ++ [k]) W' := by
 have hw := wr_app e1 e2 e3 e4 hk
 exact ⟨o', m', V', h.sat.other hw (fun k _ hk => ⟨by have := (h.l.own.lt k hk).1; omega, h.l.no k hk⟩), h.waits, h.chg.trans (ChgX.of_wr (C := fun k => w.heap.size ≤ k) hw o' (fun k _ hk => (h.l.own.lt k hk).1)) (fun k hk e => by omega), h.l.app h.sat.lt hown hk⟩
theorem BuiS.cells (h : BuiS K n Od room w0 mb fs nx o w vl ks W) (hp : 0 < ks.length) : ∃ g c, vl = .slice (some ⟨g, 0, none⟩) ks.length c ∧ ∀ j, j < ks.length → W.cell? ⟨g, j, none⟩ = some (.int .i64 (at0 ks j)) := by
 obtain ⟨o', m', V', h⟩ := h
 obtain ⟨g, c, e, _⟩ := h.l.own.shape (by simpa [intsV] using hp)
 have e' : vl = .slice (some ⟨g, 0, none⟩) ks.length c := by rw [e]; simp [intsV]
 refine ⟨g, c, e', fun j hj => ?_⟩
 have ho := h.l.own
 rw [e'] at ho
 rw [ho.cell j (by simpa [intsV] using hj)]
 simp [intsV, at0_eq hj, hj]
theorem BuiS.cellsN (h : BuiS K n Od room w0 mb fs nx o w vl ks W) {i : Nat} (hl : ks.length = i) (hp : 0 < i) : ∃ g c, vl = .slice (some ⟨g, 0, none⟩) i c ∧ ∀ j, j < i → W.cell? ⟨g, j, none⟩ = some (.int .i64 (at0 ks j)) := by
 subst hl
 exact h.cells hp
end
structure BCtx (K : Law) (n : Nat) (Od : List Nat → Prop) (room : Nat) (w0 : World) (mb : Nat) (fs : List (Int × BF)) (nx : Int) (w w1 : World) (o : Own) (m : ManD) (V : Nat → BF) (op v : Int) (nk : Nat) (kid : Nat → ExT) (a : Option Addr) (c : Nat) (E : ExT) (Q : Ending → World → Prop) : Prop where
 HKK : Hid (LawOK K)
 H5 : Hid (∀ k, k < nk → ∃ b off x0 x1 x2, a = some ⟨b, off, none⟩ ∧ w0.cell? ⟨b, off + k * 3, none⟩ = some x0 ∧ w0.cell? ⟨b, off + k * 3 + 1, none⟩ = some x1 ∧ w0.cell? ⟨b, off + k * 3 + 2, none⟩ = some x2 ∧ ExprAt w0 (kid k) (.agg #[x0, x1, x2]))
 HKS : Hid (∀ i, i < nk → (sumN i fun i => (kid i).size) + (kid i).size + 1 ≤ E.size)
 HSZ : Hid (E.size = 1 + sumN nk fun i => (kid i).size)
 HPOS : Hid (∀ k, k ≤ sumN k fun i => (kid i).size)
 IH : Hid (∀ (i : Nat) (x : Value) (fs' : List (Int × BF)) (nx' : Int) (W : World) (o' : Own) (m' : ManD) (V' : Nat → BF), i < nk → SatE K n Od room w0 mb fs' nx' W o' m' V' → m'.waits = [] → B2 fs' → ExprAt w0 (kid i) x → nx' + 3 * (kid i).size < 549755813000 → fs'.length + (kid i).size ≤ fs.length + E.size →
  Calls Tryz.prog 83 #[.pointer (some ⟨mb, 0, none⟩), x] W fun y w' => ∃ k : Int, y = .returned (.tuple #[.int .i64 k, .bool true]) ∧ k + 3 ≤ nx' + 3 * (kid i).size ∧ Goes K n Od room w0 mb (fs' ++ [(k, fnT (kid i))]) (k + 1) NoW o' W w')
 HW1 : Hid (w.alloc (.cells #[.int .i64 op, .int .i64 v, .slice a nk c] 39) = w1)
 HG1 : Hid (Goes K n Od room w0 mb fs nx NoW o w1 w1)
 HSAT1 : Hid (SatE K n Od room w0 mb fs nx w1 o m V)
 HWT : Hid (m.waits = [])
 HB2 : Hid (B2 fs)
 HQ : Hid (∀ (k : Int) F W, F = fnT E → k + 3 ≤ nx + 3 * E.size → Goes K n Od room w0 mb (fs ++ [(k, F)]) (k + 1) NoW o w1 W → Q (.returned (.tuple #[.int .i64 k, .bool true])) W)
 hn64 : nk ≤ 64
 hnx : nx + 3 * E.size < 549755813000
 hE1 : 1 ≤ E.size
 hs1 : w1.heap.size = w.heap.size + 1
 d0 : w1.cell? ⟨w.heap.size, 0, none⟩ = some (.int .i64 op)
 d1 : w1.cell? ⟨w.heap.size, 1, none⟩ = some (.int .i64 v)
 d2 : w1.cell? ⟨w.heap.size, 2, none⟩ = some (.slice a nk c)
 on : o w.heap.size = none
 hw0 : w0.heap.size ≤ w1.heap.size
 hr8 : (fs.length + 8) * 2 ^ n ≤ room
 hp2 : 0 < 2 ^ n
 h2 : -9223372036854775808 ≤ op ∧ op ≤ 9223372036854775807
 h3 : -9223372036854775808 ≤ v ∧ v ≤ 9223372036854775807
set_option maxRecDepth 100000 in
set_option maxHeartbeats 8000000 in
theorem build_true {w1 : World} {op v : Int} {nk : Nat} {kid : Nat → ExT} {a : Option Addr} {c : Nat} {E : ExT} {Q : Ending → World → Prop} (hctx : BCtx K n Od room w0 mb fs nx w w1 o m V op v nk kid a c E Q) (h1 : op = 1) (hF : fnT E = fun _ => true) :
 Calls Tryz.prog 83 #[.pointer (some ⟨mb, 0, none⟩), .agg #[.int .i64 op, .int .i64 v, .slice a nk c]] w Q := by
 obtain ⟨HKK, H5, HKS, HSZ, HPOS, IH, HW1, HG1, HSAT1, HWT, HB2, HQ, hn64, hnx, hE1, hs1, d0, d1, d2, on, hw0, hr8, hp2, h2, h3⟩ := hctx
 subst h1
 have HCN := Lib.hid (manConst_any mb true w1)
 have HCP := Lib.hid (copy_ok HKK.out HG1.out (by omega) (k := 1) (F := fun _ => true) HB2.out.one)
 have HFF : Hid ((fun _ => true) = fnT E) := Lib.hid hF.symm
 clear IH
 go_enter Tryz.func83, Tryz.ntmps83
 go_upto_region 1 with fail
 rw [HW1.out]
 go_wp2_with fail
 refine HCN.out.mono ?_
 rintro y w' ⟨rfl, rfl⟩
 go_wp2_with fail
 refine HCP.out.mono ?_
 rintro y w2 ⟨rfl, g⟩
 have HF := Lib.hid (HQ.out nx _ w2 HFF.out (by omega) g)
 clear g
 go_wp2_with fail
 exact HF.out
set_option maxRecDepth 100000 in
set_option maxHeartbeats 8000000 in
theorem build_false {w1 : World} {op v : Int} {nk : Nat} {kid : Nat → ExT} {a : Option Addr} {c : Nat} {E : ExT} {Q : Ending → World → Prop} (hctx : BCtx K n Od room w0 mb fs nx w w1 o m V op v nk kid a c E Q) (h1 : op = 2) (hF : fnT E = fun _ => false) :
 Calls Tryz.prog 83 #[.pointer (some ⟨mb, 0, none⟩), .agg #[.int .i64 op, .int .i64 v, .slice a nk c]] w Q := by
 obtain ⟨HKK, H5, HKS, HSZ, HPOS, IH, HW1, HG1, HSAT1, HWT, HB2, HQ, hn64, hnx, hE1, hs1, d0, d1, d2, on, hw0, hr8, hp2, h2, h3⟩ := hctx
 subst h1
 have HCN := Lib.hid (manConst_any mb false w1)
 have HCP := Lib.hid (copy_ok HKK.out HG1.out (by omega) (k := 0) (F := fun _ => false) HB2.out.zero)
 have HFF : Hid ((fun _ => false) = fnT E) := Lib.hid hF.symm
 clear IH
 go_enter Tryz.func83, Tryz.ntmps83
 go_upto_region 1 with fail
 rw [HW1.out]
 go_wp2_with fail
 refine HCN.out.mono ?_
 rintro y w' ⟨rfl, rfl⟩
 go_wp2_with fail
 refine HCP.out.mono ?_
 rintro y w2 ⟨rfl, g⟩
 have HF := Lib.hid (HQ.out nx _ w2 HFF.out (by omega) g)
 clear g
 go_wp2_with fail
 exact HF.out
set_option maxRecDepth 100000 in
set_option maxHeartbeats 8000000 in
theorem build_var {w1 : World} {op v : Int} {nk : Nat} {kid : Nat → ExT} {a : Option Addr} {c : Nat} {E : ExT} {Q : Ending → World → Prop} (hctx : BCtx K n Od room w0 mb fs nx w w1 o m V op v nk kid a c E Q) {u : Nat} (hu : u < n) (h1 : op = 3) (hvu : v = u) (hF : fnT E = varF u) :
 Calls Tryz.prog 83 #[.pointer (some ⟨mb, 0, none⟩), .agg #[.int .i64 op, .int .i64 v, .slice a nk c]] w Q := by
 obtain ⟨HKK, H5, HKS, HSZ, HPOS, IH, HW1, HG1, HSAT1, HWT, HB2, HQ, hn64, hnx, hE1, hs1, d0, d1, d2, on, hw0, hr8, hp2, h2, h3⟩ := hctx
 subst hvu
 subst h1
 have HCP := Lib.hid (var_ok HKK.out HG1.out (by omega) (Nat.le_trans (Nat.mul_le_mul_right _ (by omega)) hr8) hu)
 have HFF : Hid (varF u = fnT E) := Lib.hid hF.symm
 clear IH
 go_enter Tryz.func83, Tryz.ntmps83
 go_upto_region 1 with fail
 rw [HW1.out]
 go_wp2_with fail
 refine HCP.out.mono ?_
 rintro y w2 ⟨rfl, g⟩
 have HF := Lib.hid (HQ.out nx _ w2 HFF.out (by omega) g)
 clear g
 go_wp2_with fail
 exact HF.out
end
open Go.RowKit
section
variable {K : Law} {n : Nat} {Od : List Nat → Prop} {room : Nat} {w0 w w' w'' : World} {mb : Nat} {fs fs' : List (Int × BF)} {nx nx' : Int} {o o' : Own} {m m' : ManD} {V V' : Nat → BF}
set_option maxRecDepth 100000 in
set_option maxHeartbeats 8000000 in
theorem build_acc {w1 : World} {op v : Int} {nk : Nat} {kid : Nat → ExT} {a : Option Addr} {c : Nat} {E : ExT} {Q : Ending → World → Prop} (hctx : BCtx K n Od room w0 mb fs nx w w1 o m V op v nk kid a c E Q) (h1 : op = 5 ∨ op = 6 ∨ op = 7) (hF : fnT E = accT op kid nk) :
 Calls Tryz.prog 83 #[.pointer (some ⟨mb, 0, none⟩), .agg #[.int .i64 op, .int .i64 v, .slice a nk c]] w Q := by
 obtain ⟨HKK, H5, HKS, HSZ, HPOS, IH, HW1, HG1, HSAT1, HWT, HB2, HQ, hn64, hnx, hE1, hs1, d0, d1, d2, on, hw0, hr8, hp2, h2, h3⟩ := hctx
 have h59 : 5 ≤ op ∧ op ≤ 9 := by omega
 have HFF : Hid (accT op kid nk = fnT E) := Lib.hid hF.symm
 have HCN := Lib.hid (fun b => manConst_any mb b w1)
 have HCP : Hid (∀ z : Int, z = (if op = 5 then 1 else 0) → Calls Tryz.prog 48 #[.pointer (some ⟨mb, 0, none⟩), .int .i64 z] w1 fun x w'' => x = .returned (.tuple #[.int .i64 nx, .int .i64 0]) ∧ Goes K n Od room w0 mb (fs ++ [(nx, accT op kid 0)]) (nx + 1) NoW o w1 w'') := Lib.hid (by
  rintro z rfl
  by_cases e : op = 5
  ·
   rw [if_pos e, show accT op kid 0 = fun _ => true by unfold accT; simp [e]]
   exact copy_ok HKK.out HG1.out (by omega) HB2.out.one
  ·
   rw [if_neg e, show accT op kid 0 = fun _ => false by unfold accT; simp [e]]
   exact copy_ok HKK.out HG1.out (by omega) HB2.out.zero)
 obtain ⟨A, hA⟩ : ∃ A : Nat → BF, A = accT op kid := ⟨_, rfl⟩
 have HAJ : Hid (∀ i, joinF op (A i) (fnT (kid i)) = A (i + 1)) := Lib.hid fun i => by rw [hA]; rfl
 rw [← hA] at HCP HFF
 clear hA
 rcases h1 with h1 | h1 | h1
 all_goals
  subst h1
  go_enter Tryz.func83, Tryz.ntmps83
  go_upto_region 1 with fail
  rw [HW1.out]
  go_wp2_with fail
  refine (HCN.out _).mono ?_
  rintro y w' ⟨rfl, rfl⟩
  go_wp2_with fail
  refine (HCP.out _ (by rfl)).mono ?_
  rintro y w2 ⟨rfl, g⟩
  have HG0 := Lib.hid g
  clear g HCN HCP
  go_wp2_with fail
  go_loopw [10, 12, 13, 14] (fun s10 s12 s13 s14 wr => ∃ (i : Nat) (k : Int), i ≤ nk ∧ s10 = .int .i64 k ∧ s12 = .bool true ∧ s13 = .int .i64 i ∧ Hid (k + 3 ≤ nx + 3 * ((1 + sumN i fun i => (kid i).size : Nat) : Int)) ∧ Hid (Goes K n Od room w0 mb (fs ++ [(k, A i)]) (k + 1) NoW o w1 wr)) (fun _ _ s13 _ _ => nk - (intOf s13).toNat)
  case atStart => exact ⟨0, nx, Nat.zero_le _, rfl, rfl, rfl, Lib.hid (by show nx + 3 ≤ nx + 3 * ((1 + 0 : Nat) : Int); omega), HG0⟩
  case round =>
   obtain ⟨i, k, hi, rfl, rfl, rfl, HN, HG⟩ := hrel
   have e0 := HG.out.cell (p := ⟨w.heap.size, 0, none⟩) d0 on
   have e2 := HG.out.cell (p := ⟨w.heap.size, 2, none⟩) d2 on
   by_cases hlt : i < nk
   ·
    obtain ⟨b, off, x0, x1, x2, rfl, c0, c1, c2, hx⟩ := H5.out i hlt
    have hb0 := HG.out.below0
    have q0 := (hb0.cell (p := ⟨b, off + i * 3, none⟩) (lt_of_cell c0)).trans c0
    have q1 := (hb0.cell (p := ⟨b, off + i * 3 + 1, none⟩) (lt_of_cell c1)).trans c1
    have q2 := (hb0.cell (p := ⟨b, off + i * 3 + 2, none⟩) (lt_of_cell c2)).trans c2
    have hiz : (i : Int) < nk := by omega
    have hks := HKS.out i hlt
    obtain ⟨o1, m1, V1, hc1, hw1', hs1'⟩ := HG.out
    have hsum := HN.out
    have HCALL := Lib.hid (IH.out i _ (fs ++ [(k, A i)]) (k + 1) _ o1 m1 V1 hlt hs1' hw1' (HB2.out.app _) hx (by omega) (by simp; omega))
    have HCH := Lib.hid hc1
    clear hb0 c0 c1 c2 hx hs1' hw1' hc1
    go_wp2_with fail
    refine HCALL.out.mono ?_
    rintro y w3 ⟨k2, rfl, hk2, g3⟩
    have HG3 : Hid (Goes K n Od room w0 mb (fs ++ [(k, A i), (k2, fnT (kid i))]) (k2 + 1) NoW o w1 w3) := Lib.hid (by
     have := g3.after HCH.out
     rw [List.append_assoc] at this
     exact this)
    have f0 := HG3.out.cell (p := ⟨w.heap.size, 0, none⟩) d0 on
    have HJ := Lib.hid (join_any HKK.out HG3.out HB2.out (by omega) (Nat.le_trans (Nat.mul_le_mul_right _ (by omega)) hr8) h59.1 h59.2)
    clear g3 HCALL HCH q0 q1 q2 e0 e2
    go_wp2_with fail
    refine HJ.out.mono ?_
    rintro y w4 ⟨k4, rfl, hk4, g4⟩
    have HG4 : Hid (Goes K n Od room w0 mb (fs ++ [(k4, A (i + 1))]) (k4 + 1) NoW o w1 w4) := Lib.hid (by rw [← HAJ.out i]; exact g4)
    have HN4 : Hid (k4 + 3 ≤ nx + 3 * ((1 + sumN (i + 1) fun i => (kid i).size : Nat) : Int)) := Lib.hid (by
     show k4 + 3 ≤ nx + 3 * ((1 + ((sumN i fun i => (kid i).size) + (kid i).size) : Nat) : Int)
     omega)
    clear g4 HJ f0 HG3
    go_wp2_with fail
    go_roundw
    case rel => exact ⟨i + 1, k4, by omega, rfl, rfl, by go_num, HN4, HG4⟩
    case measure => simp [intOf]; omega
   ·
    obtain rfl : i = nk := by omega
    have hiz : ¬ (i : Int) < i := by omega
    have HF := Lib.hid (HQ.out k _ _ HFF.out (by have := HN.out; have := HSZ.out; omega) HG.out)
    go_wp2_with fail
    exact HF.out
end
open Go.RowKit
section
variable {K : Law} {n : Nat} {Od : List Nat → Prop} {room : Nat} {w0 w w' w'' : World} {mb : Nat} {fs fs' : List (Int × BF)} {nx nx' : Int} {o o' : Own} {m m' : ManD} {V V' : Nat → BF}
set_option maxRecDepth 100000 in
set_option maxHeartbeats 8000000 in
theorem build_not {w1 : World} {op v : Int} {nk : Nat} {kid : Nat → ExT} {a : Option Addr} {c : Nat} {E : ExT} {Q : Ending → World → Prop} (hctx : BCtx K n Od room w0 mb fs nx w w1 o m V op v nk kid a c E Q) (h1 : op = 4) (hnk : nk = 1) (hF : fnT E = notF (fnT (kid 0))) :
 Calls Tryz.prog 83 #[.pointer (some ⟨mb, 0, none⟩), .agg #[.int .i64 op, .int .i64 v, .slice a nk c]] w Q := by
 obtain ⟨HKK, H5, HKS, HSZ, HPOS, IH, HW1, HG1, HSAT1, HWT, HB2, HQ, hn64, hnx, hE1, hs1, d0, d1, d2, on, hw0, hr8, hp2, h2, h3⟩ := hctx
 have g1 : (op == 1) = false := by simp; omega
 have g2 : (op == 2) = false := by simp; omega
 have g3 : (op == 3) = false := by simp; omega
 have g5 : (op == 5) = false := by simp; omega
 have g6 : (op == 6) = false := by simp; omega
 have g7 : (op == 7) = false := by simp; omega
 have g4 : (op == 4) = true := by simp; omega
 have HNK := Lib.hid hnk
 clear h1 hnk
 obtain ⟨w2, hw2⟩ : ∃ w2, w2 = w1.alloc (.cells #[] 3) := ⟨_, rfl⟩
 have HW2 : Hid (_ = w2) := Lib.hid hw2.symm
 have hb2' : Below w1.heap.size w1 w2 := by rw [hw2]; exact below_new1 _ _
 have HBS0 : Hid (BuiS K n Od room w0 mb (fs ++ []) nx o w1 (.slice (some ⟨w.heap.size + 1, 0, none⟩) 0 0) (([] : List (Int × BF)).map Prod.fst) w2) := Lib.hid ⟨o, m, V, by rw [List.append_nil]; exact HSAT1.out.below hb2', HWT.out, chg_below hb2' o, by rw [hw2, ← hs1]; exact ownC_new _ _ _ (Nat.le_refl _), fun k hk => by cases hk; rw [← hs1]; exact HSAT1.out.lt.none (Nat.le_refl _)⟩
 have HB12 := Lib.hid hb2'
 clear hw2 hb2'
 go_enter Tryz.func83, Tryz.ntmps83
 go_upto_region 1 with fail
 rw [HW1.out]
 go_upto_region 23 with fail
 rw [HW2.out]
 have e2 := (HB12.out.cell (p := ⟨w.heap.size, 2, none⟩) (lt_of_cell d2)).trans d2
 go_wp2_with fail
 go_loopw [15, 106] (fun s15 s106 wr => ∃ (i : Nat) (hs : List (Int × BF)) (nxi : Int), i ≤ nk ∧ s106 = .int .i64 i ∧ hs.length = i ∧ nxi + 2 * i ≤ nx + 3 * ((sumN i fun i => (kid i).size : Nat) : Int) ∧ Hid (∀ j (hj : j < hs.length), hs[j].2 = fnT (kid j)) ∧ Hid (BuiS K n Od room w0 mb (fs ++ hs) nxi o w1 s15 (hs.map Prod.fst) wr)) (fun _ s106 _ => nk - (intOf s106).toNat)
 case atStart => exact ⟨0, [], nx, Nat.zero_le _, rfl, rfl, by show nx + 2 * ((0 : Nat) : Int) ≤ nx + 3 * ((0 : Nat) : Int); omega, Lib.hid (fun j hj => by simp at hj), HBS0⟩
 case round =>
  clear HBS0 HB12 e2
  rename World => wy
  obtain ⟨i, hs, nxi, hi, rfl, hhl, hnxi, HFS, HBS⟩ := hrel
  by_cases hlt : i < nk
  ·
   obtain ⟨b, off, x0, x1, x2, rfl, c0, c1, c2, hx⟩ := H5.out i hlt
   have hb0 := HBS.out.goes.below0
   have q0 := (hb0.cell (p := ⟨b, off + i * 3, none⟩) (lt_of_cell c0)).trans c0
   have q1 := (hb0.cell (p := ⟨b, off + i * 3 + 1, none⟩) (lt_of_cell c1)).trans c1
   have q2 := (hb0.cell (p := ⟨b, off + i * 3 + 2, none⟩) (lt_of_cell c2)).trans c2
   obtain ⟨zo, zv, za, zn, zc, rfl, rfl, rfl⟩ := hx.parts
   have hiz : (i : Int) < nk := by omega
   have hks := HKS.out i hlt
   obtain ⟨wz, hwz⟩ : ∃ wz, wz = wy.alloc (.cells #[.int .i64 zo, .int .i64 zv, .slice za zn zc] 39) := ⟨_, rfl⟩
   have HWZ : Hid (_ = wz) := Lib.hid hwz.symm
   have hbz : Below wy.heap.size wy wz := by rw [hwz]; exact below_new1 _ _
   have hblk : wz.heap[wy.heap.size]? = some (.cells #[.int .i64 zo, .int .i64 zv, .slice za zn zc] 39 (0, 0)) := by rw [hwz]; exact heap_alloc_new _ _
   have p0 : wz.cell? ⟨wy.heap.size, 0, none⟩ = some (.int .i64 zo) := by rw [cell_of_row _ _ 0 _ _ _ hblk]; rfl
   have p1 : wz.cell? ⟨wy.heap.size, 1, none⟩ = some (.int .i64 zv) := by rw [cell_of_row _ _ 1 _ _ _ hblk]; rfl
   have p2 : wz.cell? ⟨wy.heap.size, 2, none⟩ = some (.slice za zn zc) := by rw [cell_of_row _ _ 2 _ _ _ hblk]; rfl
   obtain ⟨o1, m1, V1, bt⟩ := HBS.out.below hbz
   have hpos := HPOS.out i
   have HCALL := Lib.hid (IH.out i _ (fs ++ hs) nxi wz o1 m1 V1 hlt bt.sat bt.waits (HB2.out.app _) hx (by omega) (by simp; omega))
   have HBT := Lib.hid bt
   clear hb0 c0 c1 c2 hx bt hwz hbz hblk HBS
   go_upto_region 26 with fail
   rw [HWZ.out]
   clear q0 q1 q2
   go_wp2_with fail
   refine HCALL.out.mono ?_
   rintro y w3 ⟨k2, rfl, hk2, gg⟩
   have HBS3 := Lib.hid (HBT.out.go gg)
   have HF3 : Hid (∀ j (hj : j < (hs ++ [(k2, fnT (kid i))]).length), (hs ++ [(k2, fnT (kid i))])[j].2 = fnT (kid j)) := Lib.hid fun j hj => by
    rcases Nat.lt_or_ge j hs.length with h | h
    ·
     rw [List.getElem_append_left h]; exact HFS.out j h
    ·
     have hj' : j = i := by simp at hj; omega
     subst hj'
     rw [List.getElem_append_right (by omega)]
     simp
   clear gg HCALL HBT p0 p1 p2
   obtain ⟨o3, m3, V3, bt3⟩ := HBS3.out
   have hsz3 : w1.heap.size ≤ w3.heap.size := bt3.chg.size
   have HBT3 := Lib.hid bt3
   clear bt3
   go_upto_region 30 with (at_builtin; refine wpList_appC elemInt _ rfl _ _ rfl w1.heap.size _ (intsV (hs.map Prod.fst)) _ rfl rfl rfl rfl rfl (by exact HBT3.out.l.own) (by simp [intsV]; omega) hsz3 ?_; intro v5 w5 hown5 r1 r2 r3 r4 hk5)
   have HBS5 : Hid (BuiS K n Od room w0 mb (fs ++ (hs ++ [(k2, fnT (kid i))])) (k2 + 1) o w1 v5 ((hs ++ [(k2, fnT (kid i))]).map Prod.fst) w5) := Lib.hid (by
    have := BuiS.app HBT3.out hown5 r1 r2 r3 r4 hk5 hw0
    rw [List.append_assoc] at this
    rw [List.map_append]
    exact this)
   clear hown5 r1 r2 r3 r4 hk5 HBT3 HBS3
   go_wp2_with fail
   go_roundw
   case rel => exact ⟨i + 1, hs ++ [(k2, fnT (kid i))], k2 + 1, by omega, by go_num, by simp; omega, by
    show k2 + 1 + 2 * ((i + 1 : Nat) : Int) ≤ nx + 3 * (((sumN i fun i => (kid i).size) + (kid i).size : Nat) : Int)
    omega, HF3, HBS5⟩
   case measure => simp [intOf]; omega
  ·
   obtain rfl : i = nk := by omega
   have hiz : ¬ (i : Int) < i := by omega
   have f0 := HBS.out.goes.cell (p := ⟨w.heap.size, 0, none⟩) d0 on
   have hszn := HSZ.out
   have hsum : nxi + 2 * i + 3 ≤ nx + 3 * E.size := by omega
   have hnk := HNK.out
   have hnk1 : 1 ≤ i := by omega
   clear hszn H5 IH HSZ HKS HPOS
   obtain ⟨o1, m1, V1, bt⟩ := HBS.out
   have HBT := Lib.hid bt
   clear bt
   subst hnk
   obtain ⟨⟨k0, F0⟩, rfl⟩ := List.length_eq_one_iff.1 hhl
   obtain ⟨g, cp, rfl, hcells⟩ := HBS.out.cellsN (i := 1) rfl (by omega)
   have c0 : wy.cell? ⟨g, 0, none⟩ = some (.int .i64 k0) := hcells 0 (by omega)
   have HF : Hid (notF F0 = fnT E) := Lib.hid (by rw [hF, ← HFS.out 0 (by simp)]; rfl)
   have HN := Lib.hid (not_ok HKK.out HBT.out.refl (by omega) (k := k0) (F := F0) (by simp))
   clear hcells
   go_wp2_with fail
   refine HN.out.mono ?_
   rintro y w3 ⟨rfl, g3⟩
   have HB3 := Lib.hid (HBT.out.go g3)
   obtain ⟨g', cp', ev, hc3⟩ := HB3.out.cellsN (i := 1) rfl (by omega)
   cases ev
   have c3 : w3.cell? ⟨g, 0, none⟩ = some (.int .i64 k0) := hc3 0 (by omega)
   have HD := Lib.hid (drop_ok HKK.out (hs := [(k0, F0)]) (r := [(nxi, notF F0)]) (by have := HB3.out.goes; rw [List.append_assoc] at this; exact this) HB2.out (by omega) (by simp) (T := w3.alloc (.cells #[.int .i64 k0] 3)) rfl)
   clear g3 hc3 HN
   go_wp2_with fail
   refine HD.out.mono ?_
   rintro y w4 ⟨rfl, g4⟩
   have HFN := Lib.hid (HQ.out nxi _ w4 HF.out (by omega) g4)
   clear g4 HD
   go_wp2_with fail
   exact HFN.out
end
end Go.Proofs.YtchliiaknmknhaaGreat
