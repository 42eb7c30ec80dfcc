/- The walk of a law: WaitsW. -/
import Derived.Test.YtchliiaknmknhaaGreatW7
set_option linter.unusedSimpArgs false
set_option linter.unusedVariables false
set_option linter.unusedSectionVars false
set_option linter.unnecessarySimpa false
set_option maxRecDepth 100000
set_option maxHeartbeats 8000000
namespace Go.Proofs.YtchliiaknmknhaaGreat
open Go.RowKit
def WR (asks : Nat) : List Ev -> Int -> Nat
 | [], _ => 0
 | ev :: ws, c => if 1 <= asks /\ ev.after <= c + asks then WR asks ws 0 else ws.length + 1
theorem WR_yes {asks : Nat} {ev : Ev} {ws : List Ev} {c : Int} (h1 : 1 <= asks) (h2 : ev.after <= c + asks) : WR asks (ev :: ws) c = WR asks ws 0 := by
 show (if _ then _ else _) = _
 rw [if_pos ⟨h1, h2⟩]
theorem WR_no {asks : Nat} {l : List Ev} {c : Int} (h : ∀ ev ws, l = ev :: ws -> ¬ (1 <= asks /\ ev.after <= c + asks)) : WR asks l c = l.length := by
 cases l with
 | nil => rfl
 | cons ev ws =>
   show (if _ then _ else _) = _
   rw [if_neg (h ev ws rfl)];rfl
theorem refWaits_any (asks : Nat) (ha : asks <= 400) (a : Option Addr) (c : Nat) (l : List Ev) (hl : l.length <= 1000) (w : World) (h : EvsAt w a l) :
 Calls Tryz.prog 31 #[.slice a l.length c, .int .i64 asks] w fun y w' => y = .returned (.int .i64 (WR asks l 0)) /\ w = w' := by
 have HI := Lib.hid h;obtain ⟨N, hN⟩ : ∃ N, N = WR asks l 0 := ⟨_, rfl⟩;have HN : Hid (WR asks (l.drop 0) 0 = N) := Lib.hid hN.symm;rw [<- hN];clear h hN
 go_enter Tryz.func31, Tryz.ntmps31
 go_wp2_with fail
 go_loopw [5, 6, 7] (fun s5 s6 s7 wr => ∃ k i : Nat, k <= l.length /\ i <= asks /\ s5 = .int .i64 k /\ s6 = .int .i64 i /\ s7 = .int .i64 i /\ Hid (wr = w) /\ Hid (WR asks (l.drop k) 0 = N) /\ Hid (∀ hk : k < l.length, 0 < i -> (i : Int) < l[k].after)) (fun s5 _ s7 _ => (l.length - (intOf s5).toNat) * (asks + 1) + (asks - (intOf s7).toNat))
 case atStart => exact ⟨0, 0, Nat.zero_le _, Nat.zero_le _, rfl, rfl, rfl, Lib.hid rfl, HN, Lib.hid fun _ h => by omega⟩
 case round =>
  obtain ⟨k, i, hk, hi, rfl, rfl, rfl, HW, HNK, HA⟩ := hrel
  by_cases hlt : i < asks
  ·
   have hiz : (i : Int) < (asks : Int) := by omega
   by_cases hkl : k < l.length
   ·
    have hkz : (k : Int) < (l.length : Int) := by omega
    obtain ⟨b, off, rfl, c0, _, _⟩ := HI.out.cells k hkl;have hw := HW.out;subst hw;obtain ⟨af, haf⟩ : ∃ af, af = l[k].after := ⟨_, rfl⟩;rw [<- haf] at c0;have HAF := Lib.hid haf;have HDR : Hid (l.drop k = l[k] :: l.drop (k + 1)) := Lib.hid (List.drop_eq_getElem_cons hkl);clear haf
    by_cases hge : (i : Int) + 1 >= af
    ·
     have HN2 : Hid (WR asks (l.drop (k + 1)) 0 = N) := Lib.hid (by
      rw [<- HNK.out, HDR.out, WR_yes (by omega) (by rw [<- HAF.out]; omega)])
     go_wp2_with fail;go_roundw
     case rel => exact ⟨k + 1, 0, by omega, by omega, by go_num, by go_num, by go_num, Lib.hid (by first | rfl | trivial), HN2, Lib.hid fun _ h => by omega⟩
     case measure =>
      have e : l.length - k = (l.length - (k + 1)) + 1 := by omega
      have e2 : ((k : Int) + 1).toNat = k + 1 := by omega
      simp only [intOf, e2, Int.toNat_natCast];rw [e, Nat.add_mul];simp;omega
    ·
     have HA2 : Hid (∀ hk : k < l.length, 0 < i + 1 -> ((i + 1 : Nat) : Int) < l[k].after) := Lib.hid fun _ _ => by rw [<- HAF.out]; omega
     go_wp2_with fail;go_roundw
     case rel => exact ⟨k, i + 1, by omega, by omega, rfl, by go_num, by go_num, Lib.hid (by first | rfl | trivial), HNK, HA2⟩
     case measure => simp [intOf]; omega
   ·
    have hkz : ¬ (k : Int) < (l.length : Int) := by omega
    have hw := HW.out;subst hw;go_wp2_with fail;go_roundw
    case rel => exact ⟨k, i + 1, by omega, by omega, rfl, by go_num, by go_num, Lib.hid (by first | rfl | trivial), HNK, Lib.hid fun h => by omega⟩
    case measure => simp [intOf]; omega
  ·
   have hiz : ¬ (i : Int) < (asks : Int) := by omega
   have hia : i = asks := by omega
   have hw := HW.out;subst hw
   have HF : Hid ((l.length : Int) - (k : Int) = (N : Int)) := Lib.hid (by
    have h1 := HNK.out
    rw [WR_no (fun ev ws e hc => by
     have hkl : k < l.length := by
      rcases Nat.lt_or_ge k l.length with h | h
      ·
       exact h
      ·
       rw [List.drop_eq_nil_of_le h] at e; cases e
     rw [List.drop_eq_getElem_cons hkl] at e;have h2 : l[k] = ev := by injection e
     have := HA.out hkl (by omega);rw [h2] at this;omega), List.length_drop] at h1
    omega)
   go_wp2_with fail;go_ret;exact ⟨show Ending.returned (.int .i64 ((l.length : Int) - (k : Int))) = _ by rw [HF.out], by first | rfl | trivial⟩
open Go.RowKit
structure BK (ab : Nat) (asks : Int) (W : World) : Prop where
 blk : W.heap[ab]? = some (.cells #[.int .i64 asks] 3 (0, 0))
theorem BK.keep {ab : Nat} {asks : Int} (W W' : World) (h : BK ab asks W) (hk : ∀ c, C1 ab c -> W'.heap[c]? = W.heap[c]?) : BK ab asks W' := ⟨(hk _ rfl).trans h.blk⟩
theorem ChgX.drop {C : Nat -> Prop} {o o' : Own} {w w' : World} (h : ChgX C o o' w w') (hk : ∀ k, C k -> w'.heap[k]? = w.heap[k]?) : ChgX NoB o o' w w' :=
 ⟨h.os, h.tape, h.output, h.size, fun k h1 h2 _ => by
  by_cases hc : C k
  ·
   exact hk k hc
  ·
   exact h.block k h1 h2 hc, h.ext, h.new⟩
theorem SatE.base {K : Law} {n : Nat} {Od : List Nat -> Prop} {room : Nat} {w0 w0' w : World} {mb : Nat} {fs : List (Int × BF)} {nx : Int} {o : Own} {m : ManD} {V : Nat -> BF} (h : SatE K n Od room w0 mb fs nx w o m V) (hc : ChgX NoB (fun _ => none) o w0' w) : SatE K n Od room w0' mb fs nx w o m V :=
 ⟨h.is, h.lt, h.ok, h.vars, h.od, h.room, h.next, h.hs, hc⟩
open Go.RowKit
theorem StoreOK.key {d : StoreD} {V : Nat -> BF} (hk : StoreOK d V) {v lo hi r : Nat} (hfree : ∃ id, id ≠ 0 /\ nodesOf d id = none) (hv : v < d.vars.length) (hlo : okE (nodesOf d) lo) (hhi : okE (nodesOf d) hi) (hgl : levN d v < lvE d.vars.length (levN d) (nodesOf d) lo) (hgh : levN d v < lvE d.vars.length (levN d) (nodesOf d) hi)
 (he : lo ≠ hi) (hr : okE (nodesOf d) r) (hef : ef V r = iteF v (ef V hi) (ef V lo)) : ∃ id, d.tab v (eflip lo (eneg hi), eflip hi (eneg hi)) = some id /\ r = eflip (2 * id) (eneg hi) := by
 obtain ⟨x, hx0, hxn⟩ := hfree;cases ht : d.tab v (eflip lo (eneg hi), eflip hi (eneg hi)) with
 | some id =>
   have hn := (hk.tab v hv _ _ id).1 ht;exact ⟨id, rfl, hk.dag.canon hr (okE_eflip (okE_two hn)) (by rw [hef, node_ef hk hn])⟩
 | none =>
   exfalso;have hnew : ∀ i, nodesOf d i ≠ some ⟨v, eflip lo (eneg hi), eflip hi (eneg hi)⟩ := fun i e => by rw [(hk.tab v hv _ _ i).2 e] at ht; cases ht
   have hd := hk.dag.add (b := ⟨v, eflip lo (eneg hi), eflip hi (eneg hi)⟩) hxn hx0 hv (okE_eflip hlo) (okE_eflip hhi) (by rw [lvE_eflip]; exact hgl) (by rw [lvE_eflip]; exact hgh) (eflip_even hi) (eflip_ne he) hnew;have e1 := ef_add (V := V) (b := ⟨v, eflip lo (eneg hi), eflip hi (eneg hi)⟩) hxn hx0 hr;have e2 : ef (addV V x ⟨v, eflip lo (eneg hi), eflip hi (eneg hi)⟩) (eflip (2 * x) (eneg hi)) = ef V r := by
    rw [hef];funext ρ;have h1 : ef (addV V x ⟨v, eflip lo (eneg hi), eflip hi (eneg hi)⟩) (2 * x) ρ = iteF v (ef V (eflip hi (eneg hi))) (ef V (eflip lo (eneg hi))) ρ := by
     have q1 : 2 * x / 2 = x := by omega
     have q2 : 2 * x % 2 = 0 := by omega
     simp [ef, addV, q1, q2]
    rw [ef_eflip, h1];unfold iteF;rw [ef_eflip, ef_eflip];split <;> cases eneg hi <;> simp
   have h3 := hd.canon (okE_add hxn hr) (okE_eflip (okE_two (addN_same x _))) (e1.trans e2.symm);have h4 : r / 2 = x := by rw [h3, eflip_half]; omega
   rcases hr with h | ⟨b', hb'⟩
   ·
    omega
   ·
    rw [h4, hxn] at hb'; cases hb'
theorem ctxMk_found {K : Law} {o : Own} {w : World} {xb mb : Nat} {m : ManD} {V : Nat -> BF} (h : ManAt (K m.d V) o w mb m) (hlt : OwnLt o w) (hx : CtxAt o w xb mb) (hk : StoreOK m.d V) (v lo hi : Nat) (hv : v < m.d.vars.length) (hlo : okE (nodesOf m.d) lo) (hhi : okE (nodesOf m.d) hi) (hgl : levN m.d v < lvE m.d.vars.length (levN m.d) (nodesOf m.d) lo) (hgh : levN m.d v < lvE m.d.vars.length (levN m.d) (nodesOf m.d) hi)
 (he : lo ≠ hi) (id : Nat) (hid : m.d.tab v (eflip lo (eneg hi), eflip hi (eneg hi)) = some id) (hdue : ∀ ev ws, m.waits = ev :: ws -> callsUp m.calls < ev.after) :
 Calls Tryz.prog 26 #[.pointer (some ⟨xb, 0, none⟩), .int .i64 v, .int .i64 lo, .int .i64 hi] w fun e w' => e = .returned (.int .i64 (eflip (2 * id) (eneg hi) : Nat)) /\ Step K o w mb m V o w' { m with calls := callsUp m.calls } V := by
 obtain ⟨s, h⟩ := h;obtain ⟨c0, c1, c2, c3, c4, c5, f0⟩ := cells6 h.blk;have cx := hx.cell;obtain ⟨W, hW⟩ : ∃ W, W = w.setCell ⟨mb, 5, none⟩ (.int .i64 (callsUp m.calls)) := ⟨_, rfl⟩;have hMW : ManIn (K m.d V) o W mb { m with calls := callsUp m.calls } s := by rw [hW]; exact h.field rfl rfl rfl rfl rfl h.waits rfl
 have hCW : Chg (fun _ => True) o o w W := by rw [hW]; exact (Chg.refl _ o w).setCell (p := ⟨mb, 5, none⟩) h.own trivial _
 have hLW : OwnLt o W := hlt.mono hCW.size;have hXW := hx.chg hCW;obtain ⟨d0, d1, d2, d3, d4, d5, g0⟩ := cells6 hMW.blk;have dx := hXW.cell;obtain ⟨aw, cw, hvw, hnil⟩ := hMW.waits.slice;have hwl : (m.waits = [] /\ True) \/ ∃ ev ws, m.waits = ev :: ws := by cases m.waits with
  | nil => exact .inl ⟨rfl, trivial⟩
  | cons ev ws => exact .inr ⟨ev, ws, rfl⟩
 have HCW := Lib.hid hCW;have HLW := Lib.hid hLW;have HMW := Lib.hid hMW;have HOK := Lib.hid hk;obtain ⟨r, hr⟩ : ∃ r, r = eflip (2 * id) (eneg hi) := ⟨_, rfl⟩;have HMK : Hid (∀ n, Calls Tryz.prog 89 #[.pointer (some ⟨s.sb, 0, none⟩), .int .i64 v, .int .i64 lo, .int .i64 hi] (W.drewN n) (MkSame (W.drewN n) r)) :=
  Lib.hid fun n => by
   obtain ⟨ss, hss⟩ := hMW.store;rw [hr];exact mk_found0 (hss.below hLW (below_draw W n)) (hLW.mono (below_draw W n).size) hk v lo hi hv hlo hhi hgl hgh he id hid
 rw [<- hr];have HDUE := Lib.hid hdue;have HW : Hid (w.setCell ⟨mb, 5, none⟩ (.int .i64 (wrap64 (m.calls + 1))) = W) := Lib.hid hW.symm;have hneg : 5 ≠ 4 := by decide
 clear h hlt hx hk hv hlo hhi hgl hgh he hid hr hMW hCW hLW hXW hW hdue
 go_enter Tryz.func26, Tryz.ntmps26
 go_upto_region 3 with fail;rw [HW.out];obtain ⟨cu, hcu⟩ : ∃ cu, cu = wrap64 (m.calls + 1) := ⟨_, rfl⟩;have d5' : W.cell? ⟨mb, 5, none⟩ = some (.int .i64 cu) := by rw [hcu]; exact d5
 have HCU : Hid (callsUp m.calls = cu) := Lib.hid hcu.symm;rw [<- hcu];clear c0 c1 c2 c3 c4 c5 f0 cx hneg d5 hcu;have STE : Hid (∀ w', Below W.heap.size W w' -> Step K o w mb m V o w' { m with calls := callsUp m.calls } V) :=
  Lib.hid fun w' hb => ⟨⟨s, HMW.out.below HLW.out hb⟩, HLW.out.mono hb.size, HCW.out.trans (Chg.of_below hb _ _), HOK.out, Ext.refl _ _, rfl, rfl⟩
 rcases hwl with ⟨hw0, _⟩ | ⟨ev, ws, hw1⟩
 ·
  rw [hvw] at d4;dsimp only at d4;rw [hw0] at d4;have d4' : W.cell? ⟨mb, 4, none⟩ = some (.slice aw 0 cw) := d4;clear d4 hw0 hvw hnil
  go_quiet (fail)
  go_wp2_with fail;refine (HMK.out nq).mono ?_;rintro x w' ⟨rfl, q2⟩;have H1 := Lib.hid (STE.out w' (belowOf q2));clear q2;go_wp2_with fail;go_ret;exact ⟨rfl, H1.out⟩
 ·
  have HWA := HMW.out.waits;have e0 : ({ m with calls := callsUp m.calls } : ManD).waits = ev :: ws := hw1;rw [e0] at HWA;obtain ⟨g, off, cap, hvs, hog, hwc, hcm, k0, k1, k2, _⟩ := HWA.first
  have hlt : ¬ ev.after <= cu := by have := HDUE.out ev ws hw1; rw [HCU.out] at this; omega
  rw [hvs] at d4;have hp : (0 : Int) < ((ws.length + 1 : Nat) : Int) := by omega
  clear hvw hvs hnil HWA e0 hw1 hog
  go_quiet (fail)
  go_wp2_with fail;refine (HMK.out nq).mono ?_;rintro x w' ⟨rfl, q2⟩;have H1 := Lib.hid (STE.out w' (belowOf q2));clear q2;go_wp2_with fail;go_ret;exact ⟨rfl, H1.out⟩
def wantF (i : Nat) : BF := if 0 < i then notF (varF 0) else fun _ => true
def StW (asks N room : Nat) (m : ManD) : Prop := m.calls = 0 /\ WR asks m.waits 0 = N /\ m.waits.length <= 10 /\ m.d.pool.many + m.waits.length + 1 <= room
def QW (asks N : Nat) (_ : World) (m' : ManD) (V' : Nat -> BF) (r : Nat) : Prop := ef V' r = wantF asks /\ m'.waits.length = N
def MkI (K : Law) (o : Own) (W : World) (mb : Nat) (m : ManD) (V : Nat -> BF) (i : Nat) (s : Value) (wr : World) : Prop :=
 ∃ o' m' V' r, s = .int .i64 (r : Nat) /\ Step K o W mb m V o' wr m' V' /\ m'.waits = m.waits /\ m'.calls = i /\ (∀ ev ws, m.waits = ev :: ws -> 0 < i -> (i : Int) < ev.after) /\ okE (nodesOf m'.d) r /\ ef V' r = wantF i /\ m'.d.pool.many <= m.d.pool.many + (if 0 < i then 1 else 0)
def MkE (K : Law) (o : Own) (W : World) (mb : Nat) (m : ManD) (V : Nat -> BF) (i : Nat) (e : Ending) (wr : World) : Prop :=
 ∃ o' m' V' ev, e = stopP 0 true ev /\ Step K o W mb m V o' wr m' V' /\ m.waits = ev :: m'.waits /\ ev.after <= i + 1 /\ m'.calls = 0 /\ m'.d.pool.many <= m.d.pool.many + 1
theorem mk_round {K : Law} (hK : LawOK K) {o : Own} {W wr : World} {mb xb : Nat} {m : ManD} {V : Nat -> BF} (hx : CtxAt o W xb mb) (hn : 0 < m.d.vars.length) (hmany : m.d.pool.many + 1 <= m.d.pool.room) {i : Nat} (hi : i < 100000) {s : Value} (h : MkI K o W mb m V i s wr) :
 Calls Tryz.prog 26 #[.pointer (some ⟨xb, 0, none⟩), .int .i64 (0 : Nat), .int .i64 (0 : Nat), .int .i64 (1 : Nat)] wr fun e w' => (∃ v, e = .returned v /\ MkI K o W mb m V (i + 1) v w') \/ MkE K o W mb m V i e w' := by
 obtain ⟨o', m', V', r, rfl, st, hw, hc, hdue, hr, hef, hmn⟩ := h;have hks := st.ok;have hx' := hx.chg st.chg;have hvl : 0 < m'.d.vars.length := by rw [st.ext.vars]; exact hn
 have o0 : okE (nodesOf m'.d) 0 := .inl rfl;have o1 : okE (nodesOf m'.d) 1 := .inl rfl;have hlv := hks.dag.lt 0 hvl;have hl0 : levN m'.d 0 < lvE m'.d.vars.length (levN m'.d) (nodesOf m'.d) 0 := by rw [lvE_const hks rfl]; exact hlv
 have hl1 : levN m'.d 0 < lvE m'.d.vars.length (levN m'.d) (nodesOf m'.d) 1 := by rw [lvE_const hks rfl]; exact hlv
 have hcu : callsUp m'.calls = i + 1 := by rw [hc]; unfold callsUp wrap64; omega
 have hfn : ∀ U : Nat -> BF, (∀ ρ, U 0 ρ = true) -> iteF 0 (ef U 1) (ef U 0) = wantF (i + 1) := fun U hU => by
  unfold wantF;rw [if_pos (by omega)];funext ρ;simp only [iteF, notF, varF, ef_zero hU, ef_one hU];cases ρ 0 <;> rfl
 by_cases hd : ∀ ev ws, m'.waits = ev :: ws -> callsUp m'.calls < ev.after
 ·
  have hdn : ∀ ev ws, m.waits = ev :: ws -> 0 < i + 1 -> ((i + 1 : Nat) : Int) < ev.after := fun ev ws e _ => by
   have := hd ev ws (by rw [hw]; exact e);rw [hcu] at this;omega
  by_cases h0 : 0 < i
  ·
   obtain ⟨sm, hsm⟩ := st.is;obtain ⟨ss, hss⟩ := hsm.store;have hfree : ∃ id, id ≠ 0 /\ nodesOf m'.d id = none := by
    refine ⟨m'.d.pool.at_.length + 1, by omega, ?_⟩;cases hb : nodesOf m'.d (m'.d.pool.at_.length + 1) with
    | none => rfl
    | some b => have := (hss.tk_lt hb).2.1; omega
   have hef' : ef V' r = iteF 0 (ef V' 1) (ef V' 0) := by
    rw [hfn V' hks.dag.one, hef];unfold wantF;rw [if_pos h0, if_pos (by omega)]
   obtain ⟨id, hid, hrid⟩ := hks.key hfree hvl o0 o1 hl0 hl1 (by decide) hr hef';refine (ctxMk_found ⟨sm, hsm⟩ st.lt hx' hks 0 0 1 hvl o0 o1 hl0 hl1 (by decide) id hid hd).mono ?_;rintro e w' ⟨rfl, st2⟩;rw [<- hrid];refine .inl ⟨_, rfl, o', _, V', r, rfl, st.trans st2, hw, hcu, hdn, hr, ?_, ?_⟩
   ·
    rw [hef', hfn V' hks.dag.one]
   ·
    rw [if_pos h0] at hmn;rw [if_pos (by omega)];exact hmn
  ·
   refine (ctxMk_go hK st.is st.lt hx' hks ((0 : Nat) : Int) 0 1 o0 o1 hd).mono ?_;rintro e w' ⟨o2, m2, V2, st2, ⟨ev, h1, h2, _⟩ | ⟨h1, h2, _, (⟨er, her, _, _, _⟩ | ⟨_, _, r2, rfl, h3, h4, _, h6⟩)⟩⟩
   ·
    have := hd ev _ h1; omega
   ·
    exfalso;rw [if_neg h0] at hmn;have hroom := st.ext.room;rcases her with ⟨_, h⟩ | ⟨_, _, _, h⟩ | ⟨_, h⟩
    ·
     exact h ⟨by omega, by omega⟩
    ·
     simp only [Int.toNat_natCast] at h; omega
    ·
     omega
   ·
    refine .inl ⟨_, rfl, o2, m2, V2, r2, rfl, st.trans st2, h1.trans hw, h2.trans hcu, hdn, h3, ?_, ?_⟩
    ·
     rw [h4];exact hfn V' hks.dag.one
    ·
     rw [if_neg h0] at hmn;rw [if_pos (by omega)];omega
 ·
  cases hwz : m'.waits with
  | nil => exact absurd (fun ev ws e => by rw [hwz] at e; cases e) hd
  | cons ev ws =>
    have hle : ev.after <= callsUp m'.calls := Int.not_lt.1 fun hl => hd fun ev' ws' e => by rw [hwz] at e; cases e; exact hl
    refine (ctxMk_due st.is st.lt hx' hks ((0 : Nat) : Int) 0 1 hwz hle).mono ?_;rintro e w' ⟨o2, m2, V2, st2, ⟨ev2, h1, h2, h3, h4, _, rfl⟩ | ⟨_, _, h, _⟩⟩
    ·
     rw [hcu] at h2;refine .inr ⟨o2, m2, V2, ev2, rfl, st.trans st2, by rw [<- hw]; exact h1, h2, h3, ?_⟩;rw [h4];split at hmn <;> omega
    ·
     have := h ev ws hwz; omega
theorem sumTo_one {f : Nat -> Int} (h01 : ∀ i, f i = 0 \/ f i = 1) (hu : ∀ i j, f i = 1 -> f j = 1 -> i = j) : ∀ k, sumTo k f <= 1
 | 0 => by show (0 : Int) <= 1; omega
 | k + 1 => by
   show sumTo k f + f k <= 1
   rcases h01 k with h | h
   ·
    have := sumTo_one h01 hu k;omega
   ·
    have : sumTo k f = sumTo k (fun _ => 0) := sumTo_congr k fun i hi => by
     rcases h01 i with h' | h'
     ·
      exact h'
     ·
      have := hu i k h' h; omega
    rw [this, sumTo_zero];omega
theorem SatE.many1 {K : Law} {Od : List Nat -> Prop} {room : Nat} {w0 w : World} {mb : Nat} {fs : List (Int × BF)} {nx : Int} {o : Own} {m : ManD} {V : Nat -> BF} (h : SatE K 1 Od room w0 mb fs nx w o m V) : m.d.pool.many <= 1 := by
 obtain ⟨s, hs⟩ := h.is;obtain ⟨s2, h2⟩ := hs.store;have hd := h.ok.store.dag;rw [h.vars] at hd;have hnode : ∀ i, m.d.pool.tk i = true -> nodesOf m.d i = some ⟨0, 1, 0⟩ := fun i hi => by
  cases hb : nodesOf m.d i with
  | none => have := nodesOf_none hb; rw [hi] at this; cases this
  | some b =>
    have hv := hd.var i b hb;have half : ∀ e, levN m.d b.v < lvE 1 (levN m.d) (nodesOf m.d) e -> okE (nodesOf m.d) e -> e / 2 = 0 := fun e hl ho => by
     rcases ho with h0 | ⟨b', hb'⟩
     ·
      exact h0
     ·
      exfalso;have hv' := hd.var _ _ hb';have := hd.lt b'.v hv';unfold lvE at hl;rw [hb'] at hl;dsimp only at hl;omega
    have h1 := half b.lo (hd.lvLo i b hb) (hd.okLo i b hb);have h2 := half b.hi (hd.lvHi i b hb) (hd.okHi i b hb);have h3 := hd.reg i b hb;have h4 := hd.ne i b hb;obtain ⟨v, lo, hi'⟩ := b;dsimp only at hv h1 h2 h3 h4;obtain rfl : v = 0 := by omega
    obtain rfl : hi' = 0 := by omega
    obtain rfl : lo = 1 := by omega
    rfl
 have := sumTo_one (f := fun i => if m.d.pool.tk i = true then 1 else 0) (fun i => by
  show (if m.d.pool.tk i = true then (1 : Int) else 0) = 0 \/ (if m.d.pool.tk i = true then (1 : Int) else 0) = 1
  split
  ·
   exact .inr rfl
  ·
   exact .inl rfl) (fun i j hi hj => by
  have hi' : m.d.pool.tk i = true := by
   by_cases e : m.d.pool.tk i = true
   ·
    exact e
   ·
    rw [if_neg e] at hi; cases hi
  have hj' : m.d.pool.tk j = true := by
   by_cases e : m.d.pool.tk j = true
   ·
    exact e
   ·
    rw [if_neg e] at hj; cases hj
  exact hd.uniq i j _ (hnode i hi') (hnode j hj')) m.d.pool.at_.length
 have h5 := h2.pool.cnt;omega
section
variable {K : Law} {n : Nat} {Od : List Nat -> Prop} {room : Nat} {w0 : World} {mb : Nat} {fs : List (Int × BF)} {nx : Int}
theorem enters_waits1 (args : Array Value) (w : World) : (callFunc 25 args).run Tryz.prog w = .ok (.enter 25 args) w := enters_of Tryz.func25 (by kernel_rfl) rfl args w
theorem waits1_gen (hK : LawOK K) (asks N : Nat) (ha : asks <= 400) (ab : Nat) (hn : 1 <= n) (hfew : fs.length * 2 ^ n + 11 <= room) (hhap : ∀ ev, HapG K n Od room w0 mb fs nx ev) :
 OpG K n Od room w0 mb fs nx (C1 ab) (BK ab asks) (StW asks N room) 25 #[.pointer (some ⟨ab, 0, none⟩)] (QW asks N) (fun _ _ _ => False) := by
 intro o W m V xb hsat hB hC hst hcx hnx;obtain ⟨q1, q2, q3, q4⟩ := hst;have hvn : 0 < m.d.vars.length := by rw [hsat.vars]; omega
 have hrm := hsat.room;have hnb := (hC ab rfl).2;have hlb := (hC ab rfl).1;have hbk := hB.blk;have hcb := cell1 hbk;have HMK : Hid (∀ (i : Nat) (s : Value) (wr : World), i < 100000 -> MkI K o W mb m V i s wr -> Calls Tryz.prog 26 #[.pointer (some ⟨xb, 0, none⟩), .int .i64 0, .int .i64 0, .int .i64 1] wr fun e w' => (∃ v, e = .returned v /\ MkI K o W mb m V (i + 1) v w') \/ MkE K o W mb m V i e w') :=
  Lib.hid fun i s wr hi h => mk_round hK hcx hvn (by omega) hi h
 have HI0 : Hid (MkI K o W mb m V 0 (.int .i64 0) W) := Lib.hid ⟨o, m, V, 0, rfl, ⟨hsat.is, hsat.lt, Chg.refl _ _ _, hsat.ok.store, Ext.refl _ _, rfl, rfl⟩, rfl, q1, fun _ _ _ h => by omega, .inl rfl, by rw [hsat.ok.store.dag.ef0]; rfl, by simp⟩;have HCL : Hid (∀ i s wr, MkI K o W mb m V i s wr -> wr.cell? ⟨ab, 0, none⟩ = some (.int .i64 asks)) := Lib.hid fun i s wr ⟨_, _, _, _, _, st, _⟩ => st.chg.cell hcb hnb
 obtain ⟨P, hP⟩ : ∃ P : Ending -> World -> Prop, P = fun e w' => ∃ (o' : Own) (m' : ManD) (V' : Nat -> BF), StepX (C1 ab) K o W mb m V o' w' m' V' /\ BK ab asks w' /\
  ((∃ r : Nat, e = .returned (.int .i64 r) /\ okE (nodesOf m'.d) r /\ QW asks N w' m' V' r) \/
   (∃ er : Int, e = stopP er false ev0 /\ er ≠ 0 /\ m'.waits = m.waits /\ StW asks N room m' /\ False) \/
   (∃ ev, e = stopP 0 true ev /\ m.waits = ev :: m'.waits /\ StE K n Od room w0 mb fs nx (StW asks N room) m' /\ HapG K n Od room w0 mb fs nx ev)) := ⟨_, rfl⟩
 have HFIN : Hid (∀ s wr, MkI K o W mb m V asks s wr -> P (.returned s) wr) := Lib.hid (by
  subst hP;rintro s wr ⟨o', m', V', r, rfl, st, hw, hc, hdue, hr, hef, hmn⟩;refine ⟨o', m', V', st.toX _, ⟨(st.chg.alien hlb hnb).trans hbk⟩, .inl ⟨r, rfl, hr, hef, ?_⟩⟩;rw [hw, <- q2, WR_no];rintro ev ws e ⟨h1, h2⟩;have := hdue ev ws e (by omega);omega)
 have HEV : Hid (∀ i e wr, i < asks -> MkE K o W mb m V i e wr -> ∃ ev, e = stopP 0 true ev /\ P (stopP 0 true ev) wr) := Lib.hid (by
  subst hP;rintro i e wr hi ⟨o', m', V', ev, rfl, st, hw, hle, hc, hmn⟩;refine ⟨ev, rfl, o', m', V', st.toX _, ⟨(st.chg.alien hlb hnb).trans hbk⟩, .inr (.inr ⟨ev, rfl, hw, ?_, hhap ev⟩)⟩;intro o2 W2 m2 V2 _ e1 e2 hm2;rw [hw] at q2 q3 q4;rw [WR_yes (by omega) (by omega)] at q2;rw [List.length_cons] at q3 q4;refine ⟨e2.trans hc, by rw [e1]; exact q2, by rw [e1]; omega, ?_⟩;rw [e1];omega)
 rw [<- hP];clear hP hsat hB hC hcx hnx q1 q2 q3 q4 hvn hrm hnb hfew hhap hK hn hlb hbk
 go_enter Tryz.func25, Tryz.ntmps25
 go_wp2_with fail
 go_loopw [4, 5] (fun s4 s5 wr => ∃ i : Nat, i <= asks /\ s5 = .int .i64 i /\ Hid (MkI K o W mb m V i s4 wr)) (fun _ s5 _ => asks - (intOf s5).toNat)
 case atStart => exact ⟨0, Nat.zero_le _, rfl, HI0⟩
 case round =>
  obtain ⟨i, hi, rfl, HI⟩ := hrel;have c1 := HCL.out _ _ _ HI.out
  by_cases hlt : i < asks
  ·
   have hiz : (i : Int) < asks := by omega
   have HC := Lib.hid (HMK.out i _ _ (by omega) HI.out);clear HI0 HFIN hcb;go_wp2_with fail;refine HC.out.mono ?_;rintro e w' (⟨v, rfl, h⟩ | h)
   ·
    have HN := Lib.hid h;clear h HC;go_wp2_with fail;go_roundw
    case rel => exact ⟨i + 1, by omega, by go_num, HN⟩
    case measure => simp [intOf]; omega
   ·
    obtain ⟨ev, rfl, hp⟩ := HEV.out i _ _ hlt h;have HPP := Lib.hid hp;clear h HC hp;unfold stopP;go_wp2_with fail;exact ⟨rfl, HPP.out⟩
  ·
   obtain rfl : i = asks := by omega
   have hiz : ¬ (i : Int) < i := by omega
   have HF := Lib.hid (HFIN.out _ _ HI.out);clear HI0 HFIN hcb HMK HEV;go_wp2_with fail;exact HF.out
theorem waits_do (hK : LawOK K) {w W : World} {o : Own} {m : ManD} {V : Nat -> BF} (h : SatE K n (fun _ => True) room w0 mb fs nx W o m V) (hb0 : Below w.heap.size w w0) {ab : Nat} (hwa : w.heap.size <= ab) (hab : ab < w0.heap.size) {asks N : Nat} (hbk : BK ab asks W) (ha : asks <= 400) (hn : 1 <= n) (hfew : fs.length * 2 ^ n + 11 <= room) (hnx : nx <= 549755813888) (hst : StW asks N room m) :
 Calls Tryz.prog 24 #[.pointer (some ⟨mb, 0, none⟩), .func (.func 25) #[] #[.pointer (some ⟨ab, 0, none⟩)]] W fun x w' => x = .returned (.tuple #[.int .i64 nx, .int .i64 0]) /\
  ∃ o' m' V', ChgX NoB o o' W w' /\ SatE K n (fun _ => True) room w0 mb (fs ++ [(nx, wantF asks)]) (nx + 1) w' o' m' V' /\ m'.waits.length = N := by
 have hs0 := h.base ((ChgX.of_below hb0 (fun _ => none) NoB).trans h.chg (fun _ _ e => e));have hno : o ab = none := h.none0 hab;have hlt : ab < W.heap.size := Nat.lt_of_lt_of_le hab h.chg.size;refine (do_gen hK BK.keep (fun _ _ _ _ _ h _ => h) ?_ ?_ enters_waits1 (waits1_gen hK asks N ha ab hn hfew (fun ev => happen_any hnx ev)) hs0 hbk ?_ hst (by omega)).mono ?_
 ·
  rintro m d ⟨h1, h2, h3, h4⟩ r;have := r.many;exact ⟨h1, h2, h3, by show d.pool.many + m.waits.length + 1 <= room; omega⟩
 ·
  rintro c rfl; exact hwa
 ·
  rintro c rfl; exact ⟨hlt, hno⟩
 ·
  rintro x w' ⟨o', m', V', hB, hc, ⟨r, m1, rfl, hs, ⟨q1, q2⟩, _, _, _, _, _, q3, _⟩ | ⟨er, m0, _, _, _, hf, _⟩⟩
  ·
   have hc' := hc.drop (fun k hk => by cases hk; rw [hB.blk, hbk.blk]);exact ⟨rfl, o', m', V', hc', by rw [<- q1]; exact hs.base (h.chg.trans hc' (fun _ _ e => e)), by rw [q3]; exact q2⟩
  ·
   exact hf.elim
end
open Go.RowKit
theorem waits_walk (q : AskD) (ao ae ap : Option Addr) (co ce cp : Nat) (za : Int) (w : World) (h : AskAt w q ao ae ap) :
 Calls Tryz.prog 4 #[askV q ao ae ap co ce cp, .int .i64 za] w fun y w' => y = .returned (.bool true) /\ Below w.heap.size w w' := by
 have HSM : Hid (∀ W, Below w.heap.size w W -> ∀ u, u = askV q ao ae ap co ce cp -> Calls Tryz.prog 12 #[u] W fun y w' => ∃ b, y = .returned (.bool b) /\ (b = true -> SmallP q) /\ Below W.heap.size W w') := Lib.hid fun W hb u hu => by subst hu; exact small_any q ao ae ap co ce cp W (h.below hb)
 have HST : Hid (∀ W n, Below w.heap.size w W -> SmallP q -> q.vars = (n : Nat) -> ∀ u, u = askV q ao ae ap co ce cp -> Calls Tryz.prog 23 #[u] W (SetP iteLaw q n W)) := Lib.hid fun W n hb hs hn u hu => by subst hu; exact setup_any iteLaw_ok q ao ae ap co ce cp W (h.below hb) hs n hn
 obtain ⟨vars, hvars⟩ : ∃ z, z = q.vars := ⟨_, rfl⟩;have HV := Lib.hid hvars;have HASK := Lib.hid h;obtain ⟨plen, hplen⟩ : ∃ z, z = q.plan.length := ⟨_, rfl⟩;have HPLN := Lib.hid hplen;unfold askV at HSM HST ⊢;rw [<- hvars, <- hplen] at HSM HST ⊢;obtain ⟨olen, holen⟩ : ∃ z, z = q.order.length := ⟨_, rfl⟩;obtain ⟨elen, helen⟩ : ∃ z, z = q.es.length := ⟨_, rfl⟩;rw [<- holen, <- helen] at HSM HST ⊢;obtain ⟨w1, hw1⟩ : ∃ w1, w1 = (w.alloc (.cells #[.int .i64 vars, .slice ao olen co, .slice ae elen ce, .slice ap plen cp] 26)).alloc (.cells #[.int .i64 za] 3) := ⟨_, rfl⟩;have HW1 : Hid (_ = w1) := Lib.hid hw1.symm;have HB1 : Hid (Below w.heap.size w w1) := by rw [hw1]; exact Lib.hid ((below_new1 _ _).alloc (by simp) _)
 have hblk : w1.heap[w.heap.size]? = some (.cells #[.int .i64 vars, .slice ao olen co, .slice ae elen ce, .slice ap plen cp] 26 (0, 0)) := by rw [hw1]; exact (Go.heap_alloc_old _ _ (by simp)).trans (heap_alloc_new _ _)
 have hbk : w1.heap[w.heap.size + 1]? = some (.cells #[.int .i64 za] 3 (0, 0)) := by
  rw [hw1];have := heap_alloc_new (w.alloc (.cells #[.int .i64 vars, .slice ao olen co, .slice ae elen ce, .slice ap plen cp] 26)) (.cells #[.int .i64 za] 3);rw [World.size_alloc] at this;exact this
 have hs1 : w1.heap.size = w.heap.size + 2 := by rw [hw1]; simp
 have HBK : Hid (∀ W, Below w1.heap.size w1 W -> W.heap[w.heap.size + 1]? = some (.cells #[.int .i64 za] 3 (0, 0))) := Lib.hid fun W hb => (hb.block _ (by omega)).trans hbk
 have HAC : Hid (∀ W, Below w1.heap.size w1 W -> W.cell? ⟨w.heap.size + 1, 0, none⟩ = some (.int .i64 za)) := Lib.hid fun W hb => cell1 ((hb.block _ (by omega)).trans hbk)
 have d0 : w1.cell? ⟨w.heap.size, 0, none⟩ = some (.int .i64 vars) := by rw [cell_of_row _ _ 0 _ _ _ hblk]; rfl
 have d1 : w1.cell? ⟨w.heap.size, 1, none⟩ = some (.slice ao olen co) := by rw [cell_of_row _ _ 1 _ _ _ hblk]; rfl
 have d2 : w1.cell? ⟨w.heap.size, 2, none⟩ = some (.slice ae elen ce) := by rw [cell_of_row _ _ 2 _ _ _ hblk]; rfl
 have d3 : w1.cell? ⟨w.heap.size, 3, none⟩ = some (.slice ap plen cp) := by rw [cell_of_row _ _ 3 _ _ _ hblk]; rfl
 clear h hw1 hblk hbk hvars hplen holen helen
 go_enter Tryz.func4, Tryz.ntmps4
 go_upto_region 1 with fail;rw [HW1.out];go_wp2_with fail;refine (HSM.out _ HB1.out _ rfl).mono ?_;rintro y w2 ⟨b, rfl, hb, hbel⟩;have HB := Lib.hid hb;have HBEL := Lib.hid (HB1.out.trans (hbel.mono HB1.out.size));have HB12 := Lib.hid hbel;have a2 := HAC.out w2 hbel;have e0 := (hbel.cell (p := ⟨w.heap.size, 0, none⟩) (lt_of_cell d0)).trans d0;have e1 := (hbel.cell (p := ⟨w.heap.size, 1, none⟩) (lt_of_cell d1)).trans d1;have e2 := (hbel.cell (p := ⟨w.heap.size, 2, none⟩) (lt_of_cell d2)).trans d2;have e3 := (hbel.cell (p := ⟨w.heap.size, 3, none⟩) (lt_of_cell d3)).trans d3;have HLV := Lib.hid (lives13b w2);clear hb hbel HSM d0 d1 d2 d3 HW1;cases b with
 | false =>
   go_wp2_with fail;refine HLV.out.mono ?_;rintro y w3 ⟨rfl, hb3⟩;have HB3 := Lib.hid (HBEL.out.trans (hb3.mono HBEL.out.size));clear hb3;go_wp2_with fail;go_ret;exact ⟨rfl, HB3.out⟩
 | true =>
   have HSP := Lib.hid (HB.out (by first | rfl | trivial));obtain ⟨n, hn⟩ : ∃ n : Nat, vars = (n : Nat) := ⟨vars.toNat, by have := HSP.out.lo; have := HV.out; omega⟩;subst hn;have hn6 : n <= 6 := by have := HSP.out.hi; have := HV.out; omega
   have hes : q.es.length <= 5 := HSP.out.es;have HSET := Lib.hid (HST.out w2 n HBEL.out HSP.out rfl _ rfl);clear HST HB
   by_cases hz0 : za < 0
   ·
    go_wp2_with fail;refine HLV.out.mono ?_;rintro y w3 ⟨rfl, hb3⟩;have HB3 := Lib.hid (HBEL.out.trans (hb3.mono HBEL.out.size));clear hb3;go_wp2_with fail;go_ret;exact ⟨rfl, HB3.out⟩
   by_cases hz4 : 400 < za
   ·
    go_wp2_with fail;refine HLV.out.mono ?_;rintro y w3 ⟨rfl, hb3⟩;have HB3 := Lib.hid (HBEL.out.trans (hb3.mono HBEL.out.size));clear hb3;go_wp2_with fail;go_ret;exact ⟨rfl, HB3.out⟩
   obtain ⟨asks, hasks⟩ : ∃ a : Nat, za = (a : Nat) := ⟨za.toNat, by omega⟩;subst hasks;have ha4 : asks <= 400 := by omega
   have hz4' : ¬ (400 : Int) < (asks : Int) := by omega
   clear HLV hz0 hz4;go_wp2_with fail;refine HSET.out.mono ?_;rintro y w3 ⟨mb, vl, vx, wb, hs, nx, rfl, hbw, hsnd, hnx, o3, m3, V3, lt3, hmn3⟩;have hhl : hs.length <= 5 := by have := congrArg List.length hsnd; simp at this; omega
   obtain ⟨al, cl, hvl⟩ : ∃ a c, vl = .slice a hs.length c := by
    obtain ⟨a, c, e, _⟩ := lt3.l.own.slice;exact ⟨a, c, by rw [e]; simp [intsV]⟩
   subst hvl;have HSUB : Hid (∀ p ∈ hs, p ∈ two ++ hs) := Lib.hid fun p hp => List.mem_append_right _ hp
   have hfl : (two ++ hs).length = 2 + hs.length := by simp [two]; omega
   have hn1 : 1 <= n := by have := HSP.out.lo; have := HV.out; omega
   have c0 := (hbw.cell (p := ⟨w.heap.size, 0, none⟩) (lt_of_cell e0)).trans e0;have c3 := (hbw.cell (p := ⟨w.heap.size, 3, none⟩) (lt_of_cell e3)).trans e3;have hbb := HBEL.out.trans (hbw.mono HBEL.out.size);have HBB := Lib.hid hbb;have HBK3 := Lib.hid (HBK.out _ (HB12.out.trans (hbw.mono HB12.out.size)));have hpl6 : q.plan.length <= 6 := HSP.out.plan;have hlab : w.heap.size + 1 < wb.heap.size := (Array.getElem?_eq_some_iff.1 HBK3.out).1;have HL := Lib.hid (lt3.withOd (Od' := fun _ => True) trivial);have HBKA : Hid (BK (w.heap.size + 1) asks w3) := Lib.hid ⟨(lt3.below0.block _ hlab).trans HBK3.out⟩
   have HRM : Hid (m3.d.pool.many + 7 <= roomOf n) := Lib.hid (by
    rcases Nat.lt_or_ge n 2 with h | h
    ·
     obtain rfl : n = 1 := by omega
     have h1 := lt3.sat.many1;have h2 : roomOf 1 = 400 := rfl;omega
    ·
     exact hmn3 h)
   obtain ⟨N, hN⟩ : ∃ N, N = WR asks q.plan 0 := ⟨_, rfl⟩;have HN := Lib.hid hN;have hfew : (two ++ hs).length * 2 ^ n + 11 <= roomOf n := by
    rw [hfl];have h1 := roomOf_many (n := n) (k := 20) (by omega);have h2 := Nat.mul_le_mul_right (2 ^ n) (show 2 + hs.length <= 7 by omega);have h3 : 0 < 2 ^ n := Nat.pow_pos (by omega);omega
   have HDO := Lib.hid (waits_do iteLaw_ok HL.out.sat hbb (ab := w.heap.size + 1) (asks := asks) (N := N) (by omega) hlab HBKA.out ha4 hn1 hfew (by omega) ⟨HL.out.st.2, by rw [HL.out.st.1, hN], by rw [HL.out.st.1]; omega, by rw [HL.out.st.1]; have := HRM.out; omega⟩);have a3 := cell1 HBKA.out.blk;have f0 := (lt3.below0.cell (p := ⟨w.heap.size, 0, none⟩) (lt_of_cell c0)).trans c0;clear lt3 hmn3 hbw hbb hsnd HSET e0 e1 e2 e3 a2 hN hfew;go_wp2_with fail;refine HDO.out.mono ?_;rintro y w4 ⟨rfl, o4, m4, V4, hc4, hs4, hw4⟩;have HC4 := Lib.hid hc4;have hL4 := HL.out.go (Wt' := fun _ _ => True) hs4 (HL.out.b2.app _) trivial hc4;have HB4 : Hid (∀ W, Below w4.heap.size w4 W -> LawT iteLaw n (fun _ => True) (roomOf n) wb mb (two ++ hs ++ [(nx, wantF asks)]) (nx + 1) (fun _ _ => True) hs hs W o4 m4 V4 (.slice al hs.length cl) vx /\ W.cell? ⟨w.heap.size, 0, none⟩ = some (.int .i64 (n : Nat)) /\ W.cell? ⟨w.heap.size, 3, none⟩ = some (.slice ap plen cp) /\ W.cell? ⟨w.heap.size + 1, 0, none⟩ = some (.int .i64 (asks : Nat)) /\ Below w.heap.size w W) := Lib.hid fun W hb => by
    have L := hL4.below hb;have hq := L.below0;exact ⟨L, (hq.cell (p := ⟨w.heap.size, 0, none⟩) (lt_of_cell c0)).trans c0, (hq.cell (p := ⟨w.heap.size, 3, none⟩) (lt_of_cell c3)).trans c3, (hq.cell (p := ⟨w.heap.size + 1, 0, none⟩) (lt_of_cell (cell1 HBK3.out))).trans (cell1 HBK3.out), HBB.out.trans (hq.mono HBB.out.size)⟩
   have HW4 : Hid (m4.waits.length = N) := Lib.hid hw4;obtain ⟨_, g0, g3, ga, _⟩ := HB4.out w4 (Below.refl _ _);have HCT := Lib.hid (refConst_tab true n (by omega) w4);have HAPL := Lib.hid (HASK.out.below (HB4.out w4 (Below.refl _ _)).2.2.2.2);clear hc4 hs4 hw4 hL4 HDO HL a3 f0 HBKA c0;go_wp2_with fail;refine HCT.out.mono ?_;rintro y w5 ⟨gv, rfl, hown5, hb5⟩;have hbs5 := hown5.boolsIs (by rw [tabB_length]; exact tab_small (by omega));have HBS5 := Lib.hid hbs5;have HB5 := Lib.hid hb5;obtain ⟨_, h0, h3, ha, _⟩ := HB4.out w5 hb5;obtain ⟨wt, hwt⟩ : ∃ F : BF, F = wantF asks := ⟨_, rfl⟩;have HREST : Hid (∀ (W : World) (v : Value) (hb : Below w4.heap.size w4 W), BoolsIs W v (tabB n wt) -> Calls Tryz.prog 29 #[.pointer (some ⟨mb, 0, none⟩), .int .i64 nx, v] W fun x w' => x = .returned (.bool true) /\ Below w4.heap.size w4 w') := Lib.hid fun W v hb hbs => by
    refine (is_any (HB4.out W hb).1.sat (by omega) (k := nx) (F := wt) (by rw [hwt]; simp) hbs).mono ?_;rintro x w' ⟨b, rfl, h1, h2⟩;obtain rfl := h1.2 (by first | rfl | trivial);exact ⟨rfl, hb.trans (h2.mono hb.size)⟩
   have HWT : Hid (∀ W, Below w4.heap.size w4 W -> Calls Tryz.prog 30 #[.pointer (some ⟨mb, 0, none⟩)] W fun x w' => x = .returned (.int .i64 (N : Nat)) /\ Below w4.heap.size w4 w') := Lib.hid fun W hb => (manWaits_any (HB4.out W hb).1.sat.is).mono fun x w' ⟨h1, h2⟩ => by rw [HW4.out] at h1; exact ⟨h1, by rw [<- h2]; exact hb⟩
   have HRW : Hid (∀ W, Below w4.heap.size w4 W -> Calls Tryz.prog 31 #[.slice ap plen cp, .int .i64 asks] W fun x w' => x = .returned (.int .i64 (N : Nat)) /\ Below w4.heap.size w4 w') := Lib.hid fun W hb => by
    have := refWaits_any asks ha4 ap cp q.plan (by omega) W (HAPL.out.plan.below hb);rw [<- HN.out, <- HPLN.out] at this;exact this.mono fun x w' ⟨h1, h2⟩ => ⟨h1, by rw [<- h2]; exact hb⟩
   have HAL : Hid (∀ W, Below w4.heap.size w4 W -> Calls Tryz.prog 21 #[.pointer (some ⟨mb, 0, none⟩), .slice al hs.length cl, vx] W fun x w' => x = .returned (.bool true) /\ Below w4.heap.size w4 w') := Lib.hid fun W hb => by
    refine (all_any (HB4.out W hb).1.sat (by omega) ((HB4.out W hb).1.row (fun p hp => List.mem_append_left _ (HSUB.out p hp)) (by omega))).mono ?_;rintro x w' ⟨h1, h2⟩;exact ⟨h1, hb.trans (h2.mono hb.size)⟩
   have HLF : Hid (∀ W, Below w4.heap.size w4 W -> Calls Tryz.prog 20 #[.pointer (some ⟨mb, 0, none⟩), .int .i64 ((hs.length : Nat) + 1)] W fun x w' => x = .returned (.bool true) /\ Below w4.heap.size w4 w') := Lib.hid fun W hb => (left_any (HB4.out W hb).1.sat (hs.length + 1) (by omega)).mono fun e w' ⟨h1, h2⟩ => by
    rw [h1, decide_eq_true (by simp [two] <;> omega)];exact ⟨rfl, by rw [<- h2]; exact hb⟩
   have HLV : Hid (∀ W, Below w4.heap.size w4 W -> Calls Tryz.prog 13 #[] W fun x w' => x = .returned (.bool true) /\ Below w4.heap.size w4 w') := Lib.hid fun W hb => (lives13b W).mono fun x w' ⟨h1, h2⟩ => ⟨h1, hb.trans (h2.mono hb.size)⟩
   have HSS : Hid (∀ W, Below w4.heap.size w4 W -> W.cell? ⟨w.heap.size, 3, none⟩ = some (.slice ap plen cp) /\ W.cell? ⟨w.heap.size + 1, 0, none⟩ = some (.int .i64 (asks : Nat))) := Lib.hid fun W hb => ⟨(HB4.out W hb).2.2.1, (HB4.out W hb).2.2.2.1⟩
   have HEND4 : Hid (∀ W, Below w4.heap.size w4 W -> Below w.heap.size w W) := Lib.hid fun W hb => (HB4.out W hb).2.2.2.2
   have HWR : Hid (IntKind.i64.wrap ((hs.length : Int) + 1) = (hs.length : Int) + 1) := Lib.hid (by simp [IntKind.wrap, IntKind.bits]; omega);have HWT0 : Hid (0 < asks -> notF (varF 0) = wt) := Lib.hid fun h => by rw [hwt]; unfold wantF; rw [if_pos h]
   have HWT1 : Hid (asks = 0 -> (fun _ => true) = wt) := Lib.hid fun h => by rw [hwt]; unfold wantF; rw [if_neg (by omega)]
   have HWANT : Hid (∃ (v : Value) (W : World), True) := Lib.hid ⟨.bool true, w5, trivial⟩;clear hown5 hb5 hbs5 HCT g0 g3 ga HWANT hwt HAPL HB4 HBB HBK3 HN HW4 HSUB;rcases Nat.eq_zero_or_pos asks with ha0 | ha0
   ·
    subst ha0;have HB6 := Lib.hid HB5.out;have HV6 : Hid (BoolsIs w5 (.slice (some ⟨gv, 0, none⟩) (2 ^ n) (2 ^ n)) (tabB n wt)) := Lib.hid (by rw [<- HWT1.out rfl]; exact HBS5.out);clear HWT0 HWT1 HBS5;go_upto_region 10 with fail;have hbd := HB6.out.trans ((below_draw w5 1).mono HB6.out.size);refine wp_region_mix (fun W : World => W.cell? ⟨w.heap.size, 3, none⟩ = some (.slice ap plen cp) /\ W.cell? ⟨w.heap.size + 1, 0, none⟩ = some (.int .i64 (0 : Nat))) false 34 [(0, false), (1, false), (2, false), (3, false), (4, false), (5, false), (6, true), (7, false), (8, false), (9, false), (11, false), (12, false), (13, false), (10, true), (14, true), (15, false), (16, false), (17, false), (18, false), (19, false), (20, false), (21, true), (22, false), (23, false), (24, false), (25, false), (26, false), (27, false), (28, true), (29, false), (30, false), (31, true), (32, false), (33, false)] (by kernel_rfl) (by kernel_rfl) (HSS.out _ hbd) ?_;simp only [planned, plnLz]
    iterate 3
     refine mix_readE rfl ?_;apply Exists.intro;refine ⟨fun w' hw => ?_, ?_⟩
     ·
      obtain ⟨h1, h2⟩ := hw;go_simp;rfl
     simp only [putLz]
    iterate 3
     refine mix_readGE true (by go_simp) ?_;apply Exists.intro;refine ⟨fun hgd w' hw => ?_, ?_⟩
     ·
      obtain ⟨h1, h2⟩ := hw;go_simp;rfl
     simp only [putLz]
    refine mix_callGR (R := fun v w' => v = .bool true /\ Below w4.heap.size w4 w') (by go_simp) (by go_simp) ((HREST.out _ _ hbd (HV6.out.below (below_draw w5 1))).mono (fun e w' he => ?_)) ?_
    ·
     obtain ⟨rfl, h2⟩ := he;exact ⟨_, rfl, HSS.out _ h2, rfl, h2⟩
    rintro v wa - ⟨rfl, hba⟩;simp only [putLz]
    iterate 2
     refine mix_readE rfl ?_;apply Exists.intro;refine ⟨fun w' hw => ?_, ?_⟩
     ·
      obtain ⟨h1, h2⟩ := hw;go_simp;rfl
     simp only [putLz]
    iterate 4
     refine mix_readGE true (by go_simp) ?_;apply Exists.intro;refine ⟨fun hgd w' hw => ?_, ?_⟩
     ·
      obtain ⟨h1, h2⟩ := hw;go_simp;rfl
     simp only [putLz]
    refine mix_callGR (R := fun v w' => v = .int .i64 (N : Nat) /\ Below w4.heap.size w4 w') (by go_simp) (by go_simp) ((HWT.out _ hba).mono (fun e w' he => ?_)) ?_
    ·
     obtain ⟨rfl, h2⟩ := he;exact ⟨_, rfl, HSS.out _ h2, rfl, h2⟩
    rintro v2 wb2 - ⟨rfl, hbb⟩;simp only [putLz];refine mix_callGR (R := fun v w' => v = .int .i64 (N : Nat) /\ Below w4.heap.size w4 w') (by go_simp) (by go_simp) ((HRW.out _ hbb).mono (fun e w' he => ?_)) ?_
    ·
     obtain ⟨rfl, h2⟩ := he;exact ⟨_, rfl, HSS.out _ h2, rfl, h2⟩
    rintro v3 wc - ⟨rfl, hbc⟩;simp only [putLz]
    iterate 1
     refine mix_readGE true (by go_simp) ?_;apply Exists.intro;refine ⟨fun hgd w' hw => ?_, ?_⟩
     ·
      obtain ⟨h1, h2⟩ := hw;go_simp;rfl
     simp only [putLz]
    iterate 2
     refine mix_readE rfl ?_;apply Exists.intro;refine ⟨fun w' hw => ?_, ?_⟩
     ·
      obtain ⟨h1, h2⟩ := hw;go_simp;rfl
     simp only [putLz]
    iterate 3
     refine mix_readGE true (by go_simp) ?_;apply Exists.intro;refine ⟨fun hgd w' hw => ?_, ?_⟩
     ·
      obtain ⟨h1, h2⟩ := hw;go_simp;rfl
     simp only [putLz]
    refine mix_callGR (R := fun v w' => v = .bool true /\ Below w4.heap.size w4 w') (by go_simp) (by go_simp) ((HAL.out _ hbc).mono (fun e w' he => ?_)) ?_
    ·
     obtain ⟨rfl, h2⟩ := he;exact ⟨_, rfl, HSS.out _ h2, rfl, h2⟩
    rintro v4 wd - ⟨rfl, hbd4⟩;simp only [putLz]
    iterate 2
     refine mix_readE rfl ?_;apply Exists.intro;refine ⟨fun w' hw => ?_, ?_⟩
     ·
      obtain ⟨h1, h2⟩ := hw;go_simp;rfl
     simp only [putLz]
    iterate 4
     refine mix_readGE true (by go_simp) ?_;apply Exists.intro;refine ⟨fun hgd w' hw => ?_, ?_⟩
     ·
      obtain ⟨h1, h2⟩ := hw;go_simp;rfl
     simp only [putLz]
    refine mix_callGR (R := fun v w' => v = .bool true /\ Below w4.heap.size w4 w') (by go_simp) (by go_simp; exact HWR.out) ((HLF.out _ hbd4).mono (fun e w' he => ?_)) ?_
    ·
     obtain ⟨rfl, h2⟩ := he;exact ⟨_, rfl, HSS.out _ h2, rfl, h2⟩
    rintro v5 we - ⟨rfl, hbe⟩;simp only [putLz]
    iterate 2
     refine mix_readE rfl ?_;apply Exists.intro;refine ⟨fun w' hw => ?_, ?_⟩
     ·
      obtain ⟨h1, h2⟩ := hw;go_simp;rfl
     simp only [putLz]
    refine mix_callGR (R := fun v w' => v = .bool true /\ Below w4.heap.size w4 w') (by go_simp) (by go_simp) ((HLV.out _ hbe).mono (fun e w' he => ?_)) ?_
    ·
     obtain ⟨rfl, h2⟩ := he;exact ⟨_, rfl, HSS.out _ h2, rfl, h2⟩
    rintro v6 wf - ⟨rfl, hbf⟩;simp only [putLz]
    iterate 2
     refine mix_readE rfl ?_;apply Exists.intro;refine ⟨fun w' hw => ?_, ?_⟩
     ·
      obtain ⟨h1, h2⟩ := hw;go_simp;rfl
     simp only [putLz]
    refine mix_end ?_;have HFN := Lib.hid (HEND4.out _ hbf);clear hba hbb hbc hbd4 hbe hbf hbd;go_wp2_with fail;go_ret;exact ⟨rfl, HFN.out⟩
   ·
    have haz : (0 : Int) < (asks : Int) := by omega
    have HVAR := Lib.hid (refVar_tab 0 n (by omega) (by omega) w5);clear h3;go_wp2_with fail;refine HVAR.out.mono ?_;rintro y w6 ⟨g6, rfl, hown6, hb6⟩;have hbs6 := hown6.boolsIs (by rw [tabB_length]; exact tab_small (by omega));have hba : BoolsAt w6 (some ⟨g6, 0, none⟩) (tabB n (varF 0)) := by
     obtain ⟨a, c, e, h1, _⟩ := hbs6;injection e with e1 e2 e3
     rw [e1];exact h1
    have HNT := Lib.hid (refNot_tab n (varF 0) _ (2 ^ n) w6 hba);have HB6' := Lib.hid (HB5.out.trans (hb6.mono HB5.out.size));clear hown6 hb6 hbs6 hba HVAR h0 ha;go_wp2_with fail;refine HNT.out.mono ?_;rintro y w7 ⟨g7, rfl, hbs7, hb7⟩;have HB6 := Lib.hid (HB6'.out.trans (hb7.mono HB6'.out.size));have HV6 : Hid (BoolsIs w7 (.slice (some ⟨g7, 0, none⟩) (2 ^ n) (2 ^ n)) (tabB n wt)) := Lib.hid (by rw [<- HWT0.out ha0]; exact hbs7);clear HWT0 HWT1 HBS5 hbs7 hb7 HNT HB6' HB5;go_upto_region 10 with fail;have hbd := HB6.out.trans ((below_draw w7 1).mono HB6.out.size);refine wp_region_mix (fun W : World => W.cell? ⟨w.heap.size, 3, none⟩ = some (.slice ap plen cp) /\ W.cell? ⟨w.heap.size + 1, 0, none⟩ = some (.int .i64 (asks : Nat))) false 34 [(0, false), (1, false), (2, false), (3, false), (4, false), (5, false), (6, true), (7, false), (8, false), (9, false), (11, false), (12, false), (13, false), (10, true), (14, true), (15, false), (16, false), (17, false), (18, false), (19, false), (20, false), (21, true), (22, false), (23, false), (24, false), (25, false), (26, false), (27, false), (28, true), (29, false), (30, false), (31, true), (32, false), (33, false)] (by kernel_rfl) (by kernel_rfl) (HSS.out _ hbd) ?_;simp only [planned, plnLz]
    iterate 3
     refine mix_readE rfl ?_;apply Exists.intro;refine ⟨fun w' hw => ?_, ?_⟩
     ·
      obtain ⟨h1, h2⟩ := hw;go_simp;rfl
     simp only [putLz]
    iterate 3
     refine mix_readGE true (by go_simp) ?_;apply Exists.intro;refine ⟨fun hgd w' hw => ?_, ?_⟩
     ·
      obtain ⟨h1, h2⟩ := hw;go_simp;rfl
     simp only [putLz]
    refine mix_callGR (R := fun v w' => v = .bool true /\ Below w4.heap.size w4 w') (by go_simp) (by go_simp) ((HREST.out _ _ hbd (HV6.out.below (below_draw w7 1))).mono (fun e w' he => ?_)) ?_
    ·
     obtain ⟨rfl, h2⟩ := he;exact ⟨_, rfl, HSS.out _ h2, rfl, h2⟩
    rintro v wa - ⟨rfl, hba⟩;simp only [putLz]
    iterate 2
     refine mix_readE rfl ?_;apply Exists.intro;refine ⟨fun w' hw => ?_, ?_⟩
     ·
      obtain ⟨h1, h2⟩ := hw;go_simp;rfl
     simp only [putLz]
    iterate 4
     refine mix_readGE true (by go_simp) ?_;apply Exists.intro;refine ⟨fun hgd w' hw => ?_, ?_⟩
     ·
      obtain ⟨h1, h2⟩ := hw;go_simp;rfl
     simp only [putLz]
    refine mix_callGR (R := fun v w' => v = .int .i64 (N : Nat) /\ Below w4.heap.size w4 w') (by go_simp) (by go_simp) ((HWT.out _ hba).mono (fun e w' he => ?_)) ?_
    ·
     obtain ⟨rfl, h2⟩ := he;exact ⟨_, rfl, HSS.out _ h2, rfl, h2⟩
    rintro v2 wb2 - ⟨rfl, hbb⟩;simp only [putLz];refine mix_callGR (R := fun v w' => v = .int .i64 (N : Nat) /\ Below w4.heap.size w4 w') (by go_simp) (by go_simp) ((HRW.out _ hbb).mono (fun e w' he => ?_)) ?_
    ·
     obtain ⟨rfl, h2⟩ := he;exact ⟨_, rfl, HSS.out _ h2, rfl, h2⟩
    rintro v3 wc - ⟨rfl, hbc⟩;simp only [putLz]
    iterate 1
     refine mix_readGE true (by go_simp) ?_;apply Exists.intro;refine ⟨fun hgd w' hw => ?_, ?_⟩
     ·
      obtain ⟨h1, h2⟩ := hw;go_simp;rfl
     simp only [putLz]
    iterate 2
     refine mix_readE rfl ?_;apply Exists.intro;refine ⟨fun w' hw => ?_, ?_⟩
     ·
      obtain ⟨h1, h2⟩ := hw;go_simp;rfl
     simp only [putLz]
    iterate 3
     refine mix_readGE true (by go_simp) ?_;apply Exists.intro;refine ⟨fun hgd w' hw => ?_, ?_⟩
     ·
      obtain ⟨h1, h2⟩ := hw;go_simp;rfl
     simp only [putLz]
    refine mix_callGR (R := fun v w' => v = .bool true /\ Below w4.heap.size w4 w') (by go_simp) (by go_simp) ((HAL.out _ hbc).mono (fun e w' he => ?_)) ?_
    ·
     obtain ⟨rfl, h2⟩ := he;exact ⟨_, rfl, HSS.out _ h2, rfl, h2⟩
    rintro v4 wd - ⟨rfl, hbd4⟩;simp only [putLz]
    iterate 2
     refine mix_readE rfl ?_;apply Exists.intro;refine ⟨fun w' hw => ?_, ?_⟩
     ·
      obtain ⟨h1, h2⟩ := hw;go_simp;rfl
     simp only [putLz]
    iterate 4
     refine mix_readGE true (by go_simp) ?_;apply Exists.intro;refine ⟨fun hgd w' hw => ?_, ?_⟩
     ·
      obtain ⟨h1, h2⟩ := hw;go_simp;rfl
     simp only [putLz]
    refine mix_callGR (R := fun v w' => v = .bool true /\ Below w4.heap.size w4 w') (by go_simp) (by go_simp; exact HWR.out) ((HLF.out _ hbd4).mono (fun e w' he => ?_)) ?_
    ·
     obtain ⟨rfl, h2⟩ := he;exact ⟨_, rfl, HSS.out _ h2, rfl, h2⟩
    rintro v5 we - ⟨rfl, hbe⟩;simp only [putLz]
    iterate 2
     refine mix_readE rfl ?_;apply Exists.intro;refine ⟨fun w' hw => ?_, ?_⟩
     ·
      obtain ⟨h1, h2⟩ := hw;go_simp;rfl
     simp only [putLz]
    refine mix_callGR (R := fun v w' => v = .bool true /\ Below w4.heap.size w4 w') (by go_simp) (by go_simp) ((HLV.out _ hbe).mono (fun e w' he => ?_)) ?_
    ·
     obtain ⟨rfl, h2⟩ := he;exact ⟨_, rfl, HSS.out _ h2, rfl, h2⟩
    rintro v6 wf - ⟨rfl, hbf⟩;simp only [putLz]
    iterate 2
     refine mix_readE rfl ?_;apply Exists.intro;refine ⟨fun w' hw => ?_, ?_⟩
     ·
      obtain ⟨h1, h2⟩ := hw;go_simp;rfl
     simp only [putLz]
    refine mix_end ?_;have HFN := Lib.hid (HEND4.out _ hbf);clear hba hbb hbc hbd4 hbe hbf hbd;go_wp2_with fail;go_ret;exact ⟨rfl, HFN.out⟩
end Go.Proofs.YtchliiaknmknhaaGreat
