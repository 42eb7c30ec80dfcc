/- Several texts in one file. The node store: more. The node store: less. The node store: its parts and what a step in one of them leaves of the others. -/
import Derived.Test.YtchliiaknmknhaaGreatM3
set_option linter.unusedSimpArgs false
set_option linter.unusedVariables false
set_option linter.unusedSectionVars false
set_option linter.unnecessarySimpa false

-- Store6
namespace Go.Proofs.YtchliiaknmknhaaGreat
open Go.RowKit

theorem results_0 {fn : Func} (h : fn.results = #[]) (tmps : Array Value) (P : Program) (w : World) : (results fn tmps).run P w = .ok (.tuple #[]) w := by simp [results, h]
/-- What more and less leave behind: e' is the change outside. -/
def CountPost (o : Own) (w : World) (sb : Nat) (d : StoreD) (s : StoreW) (rk : Nat → Nat) (m : Nat) (less : Bool) (ext' : Nat → Int) (e : Ending) (w' : World) : Prop :=
  ∃ cs dd, e = .returned (.tuple #[]) ∧ StoreIn o w' sb (d.cd cs dd) s ∧ LiveC (d.cd cs dd) ext' ∧ cs.length = d.counts.length ∧ (∀ i, m ≤ rk i → cs.getD i 0 = d.counts.getD i 0) ∧ (less = true → ∀ i, cs.getD i 0 ≤ d.counts.getD i 0) ∧ Chg RCnt o o w w'
structure MoreOk (o : Own) (w : World) (sb : Nat) (d : StoreD) (s : StoreW) (rk : Nat → Nat) (ext : Nat → Int) (f : Nat) (m : Nat) : Prop where
  st : StoreIn o w sb d s
  lt : OwnLt o w
  acy : Acy (nodesOf d) rk
  ok : okE (nodesOf d) f
  live : LiveC d ext
  top : ∀ y b, nodesOf d y = some b → ext y + toE f y ≤ 1099511627776
  low : f / 2 = 0 ∨ rk (f / 2) < m
structure LessOk (o : Own) (w : World) (sb : Nat) (d : StoreD) (s : StoreW) (rk : Nat → Nat) (ext : Nat → Int) (f : Nat) (m : Nat) : Prop where
  st : StoreIn o w sb d s
  lt : OwnLt o w
  acy : Acy (nodesOf d) rk
  ok : okE (nodesOf d) f
  live : LiveC d ext
  top : ∀ y, cntOf d y ≤ 2199023255552
  pos : ∀ y b, nodesOf d y = some b → 0 ≤ ext y - toE f y
  low : f / 2 = 0 ∨ rk (f / 2) < m
theorem StoreIn.tk_lt {o : Own} {w : World} {sb : Nat} {d : StoreD} {s : StoreW} (h : StoreIn o w sb d s) {i : Nat} {b : BN} (hi : nodesOf d i = some b) : 0 < i ∧ i < d.pool.at_.length ∧ d.pool.at_.length ≤ 1048577 := by
  have h1 := h.pool.tk_lt (nodesOf_some hi).1
  have h2 := h.pool.top
  have h3 := h.pool.room
  omega
theorem StoreIn.edge_lt {o : Own} {w : World} {sb : Nat} {d : StoreD} {s : StoreW} (h : StoreIn o w sb d s) {f : Nat} (hf : okE (nodesOf d) f) : f < 2097156 := by
  rcases hf with h0 | ⟨b, hb⟩
  · omega
  · have := h.tk_lt hb; omega
theorem addE_bump {ext : Nat → Int} {f : Nat} : addE ext f 1 = bump ext (f / 2) 1 := by
  funext y
  unfold addE bump toE
  by_cases e : f / 2 = y
  · subst e; simp
  · simp [e, Ne.symm e]
theorem addE_bump' {ext : Nat → Int} {f : Nat} : addE ext f (-1) = bump ext (f / 2) (-1) := by
  funext y
  unfold addE bump toE
  by_cases e : f / 2 = y
  · subst e; simp
  · simp [e, Ne.symm e]
set_option maxRecDepth 100000 in
set_option maxHeartbeats 800000 in
theorem more_live {o : Own} {w : World} {sb : Nat} {d : StoreD} {s : StoreW} {rk : Nat → Nat} {ext : Nat → Int} {f m : Nat} (h : MoreOk o w sb d s rk ext f m) {b : BN} (hx : nodesOf d (enode f) = some b) (hc : 0 < cntOf d (enode f)) :
    Calls Tryz.prog 139 #[.pointer (some ⟨sb, 0, none⟩), .int .i64 f] w (CountPost o w sb d s rk m false (addE ext f 1)) := by
  have hfl := h.st.edge_lt h.ok
  have hf : f < eMax := by unfold eMax; omega
  have hxl := h.live.has _ _ hx
  obtain ⟨gc, cap, hv, hgo, hne, hlc, hcm, hfz, hcell⟩ := h.st.countsAt hxl
  obtain ⟨c0, c1, c2, c3, c4, f0⟩ := cells5 h.st.blk
  rw [hv] at c3
  have hcx := hcell _ hxl
  have hfx := hfz (enode f)
  have hcb := h.live.cnt.le hx
  have htop := h.top _ _ hx
  rw [show toE f (enode f) = 1 from toE_hit f] at htop
  have htk' := h.st.tk_lt hx
  have htk := h.st.tk_lt hx
  have HLOW : Hid (∀ i, m ≤ rk i → (d.counts.set (enode f) (cntOf d (enode f) + 1)).getD i 0 = d.counts.getD i 0) := fun i hi => by
    have : enode f ≠ i := by
      rintro rfl
      rcases h.low with h0 | h0
      · have : enode f = 0 := h0
        omega
      · have e : f / 2 = enode f := rfl
        rw [e] at h0; omega
    simp only [List.getD, List.getElem?_set, if_neg this]
  have HLE : Hid (false = true → ∀ i, (d.counts.set (enode f) (cntOf d (enode f) + 1)).getD i 0 ≤ d.counts.getD i 0) := fun e => (by cases e)
  have HPOST : Hid (StoreIn o (w.setCell ⟨gc, enode f, none⟩ (.int .i64 ((cntOf d (enode f) + 1 : Nat) : Int))) sb (d.cd (d.counts.set (enode f) (cntOf d (enode f) + 1)) d.dead) s ∧ LiveC (d.cd (d.counts.set (enode f) (cntOf d (enode f) + 1)) d.dead) (addE ext f 1)) :=
    ⟨h.st.setCount hv hne _ _, by rw [addE_bump]; exact h.live.moreLive hx hc⟩
  have HCHG := Lib.hid ((Chg.refl RCnt o w).setCell (p := ⟨gc, enode f, none⟩) hgo (.inr rfl) (.int .i64 ((cntOf d (enode f) + 1 : Nat) : Int)))
  rw [show ((cntOf d (enode f) + 1 : Nat) : Int) = (cntOf d (enode f) : Nat) + 1 from by omega] at HPOST HCHG
  have hid0 : ((enode f : Nat) : Int) ≠ 0 := by have := htk.1; omega
  have HN := Lib.hid (fun W => node_any f W hf)
  have hne' : sb ≠ gc := fun e => hne e.symm
  have hxl' : ((enode f : Nat) : Int) < d.counts.length := by omega
  obtain ⟨k, hk⟩ : ∃ k, k = enode f := ⟨_, rfl⟩
  obtain ⟨c, hcc⟩ : ∃ c, c = cntOf d (enode f) := ⟨_, rfl⟩
  have hcb1 : c ≤ 2199023255552 := by omega
  have hc1 : 0 < c := by omega
  rw [← hcc] at hcx HPOST HCHG HLOW HLE
  rw [← hk] at hcx hfx HPOST HCHG hid0 HN hxl' HLOW HLE
  have hk0 : ((k : Int) == 0) = false := by simpa using hid0
  have hk1 : 0 < k := by omega
  have hcm' : d.counts.length ≤ 9223372036854775807 := by unfold maxLen at hcm; omega
  have hc3 : (1 : Int) < (c : Int) + 1 := by omega
  clear h hx hc hv hgo hlc hcm hfz hcell hk hcc htop htk hid0 hxl hfl hf
  go_enter Tryz.func139, Tryz.ntmps139
  go_wp2_with fail
  refine (HN.out _).mono ?_
  rintro x w' ⟨rfl, rfl⟩
  go_wp2_with fail
  refine bodyPost_ret (results_0 rfl _ _ _) rfl ⟨_, _, rfl, HPOST.out.1, HPOST.out.2, by simp, HLOW.out, (fun e => by first | exact absurd e (by decide) | exact HLE.out (by simp)), HCHG.out⟩
theorem more_none {o : Own} {w : World} {sb : Nat} {d : StoreD} {s : StoreW} {rk : Nat → Nat} {ext : Nat → Int} {f m : Nat} (h : MoreOk o w sb d s rk ext f m) (hx : enode f = 0) :
    Calls Tryz.prog 139 #[.pointer (some ⟨sb, 0, none⟩), .int .i64 f] w (CountPost o w sb d s rk m false (addE ext f 1)) := by
  have hf : f < eMax := by have := h.st.edge_lt h.ok; unfold eMax; omega
  have HPOST : Hid (CountPost o w sb d s rk m false (addE ext f 1) (.returned (.tuple #[])) w) :=
    ⟨d.counts, d.dead, rfl, h.st, h.live.congr (fun y b hb => by
      have : y ≠ 0 := by rintro rfl; rw [h.acy.none0] at hb; cases hb
      have e : f / 2 = 0 := hx
      simp [addE, toE, e, Ne.symm this]), rfl, fun _ _ => rfl, fun _ _ => Nat.le_refl _, Chg.refl _ _ _⟩
  have HN := Lib.hid (fun W => node_any f W hf)
  rw [hx] at HN
  clear h hx hf
  go_enter Tryz.func139, Tryz.ntmps139
  go_wp2_with fail
  refine (HN.out _).mono ?_
  rintro x w' ⟨rfl, rfl⟩
  go_wp2_with fail
  refine bodyPost_ret (results_0 rfl _ _ _) rfl HPOST.out
set_option maxRecDepth 100000 in
set_option maxHeartbeats 1600000 in
theorem more_dead {o : Own} {w : World} {sb : Nat} {d : StoreD} {s : StoreW} {rk : Nat → Nat} {ext : Nat → Int} {f m : Nat} (h : MoreOk o w sb d s rk ext f (m + 1)) {b : BN} (hx : nodesOf d (enode f) = some b) (hc : cntOf d (enode f) = 0)
    (ih : ∀ w d ext f, MoreOk o w sb d s rk ext f m → Calls Tryz.prog 139 #[.pointer (some ⟨sb, 0, none⟩), .int .i64 f] w (CountPost o w sb d s rk m false (addE ext f 1))) :
    Calls Tryz.prog 139 #[.pointer (some ⟨sb, 0, none⟩), .int .i64 f] w (CountPost o w sb d s rk (m + 1) false (addE ext f 1)) := by
  have hfl := h.st.edge_lt h.ok
  have hf : f < eMax := by unfold eMax; omega
  have hxl := h.live.has _ _ hx
  obtain ⟨gc, cap, hv, hgo, hne, hlc, hcm, hfz, hcell⟩ := h.st.countsAt hxl
  obtain ⟨c0, c1, c2, c3, c4, f0⟩ := cells5 h.st.blk
  rw [hv] at c3
  have hcx := hcell _ hxl
  have hfx := hfz (enode f)
  have htk := h.st.tk_lt hx
  obtain ⟨hdp, hlv⟩ := h.live.moreDead hx hc
  have hdb : d.dead ≤ 1048577 := by
    have h1 := h.live.dead
    have h2 := sumTo_le (f := dead1 (nodesOf d) (cntOf d)) (B := 1) d.pool.at_.length (fun i _ => by unfold dead1; split <;> first | omega | (split <;> omega))
    have h3 : deadN d.pool.at_.length (nodesOf d) (cntOf d) = sumTo d.pool.at_.length (dead1 (nodesOf d) (cntOf d)) := rfl
    omega
  have HLT := Lib.hid h.lt
  have HLOW : ∀ i, m + 1 ≤ rk i → (d.counts.set (enode f) 1).getD i 0 = d.counts.getD i 0 := fun i hi => by
    have : enode f ≠ i := by
      rintro rfl
      rcases h.low with h0 | h0
      · have : enode f = 0 := h0
        omega
      · have e : f / 2 = enode f := rfl
        rw [e] at h0; omega
    simp only [List.getD, List.getElem?_set, if_neg this]
  have HLE : false = true → ∀ i, (d.counts.set (enode f) 1).getD i 0 ≤ d.counts.getD i 0 := fun e => (by cases e)
  have hrk : rk (enode f) ≤ m := by
    rcases h.low with h0 | h0
    · have : enode f = 0 := h0
      omega
    · have e : f / 2 = enode f := rfl
      rw [e] at h0; omega
  have hlow : ∀ e, (okE (nodesOf d) e) → (∀ c, nodesOf d (e / 2) = some c → rk (e / 2) < rk (enode f)) → e / 2 = 0 ∨ rk (e / 2) < m := fun e ho hr => by
    rcases ho with h0 | ⟨c, hc⟩
    · exact .inl h0
    · exact .inr (by have := hr c hc; omega)
  have st1 : StoreIn o (w.setCell ⟨gc, enode f, none⟩ (.int .i64 ((1 : Nat) : Int))) sb (d.cd (d.counts.set (enode f) 1) d.dead) s := h.st.setCount hv hne _ _
  have hlt1 : OwnLt o (w.setCell ⟨gc, enode f, none⟩ (.int .i64 ((1 : Nat) : Int))) := h.lt.mono (by simp [World.setCell])
  have st2 : StoreIn o ((w.setCell ⟨gc, enode f, none⟩ (.int .i64 ((1 : Nat) : Int))).setCell ⟨sb, 4, none⟩ (.int .i64 ((d.dead - 1 : Nat) : Int))) sb (d.cd (d.counts.set (enode f) 1) (d.dead - 1)) s := st1.setDead hlt1 _
  have HCHG := Lib.hid (((Chg.refl RCnt o w).setCell (p := ⟨gc, enode f, none⟩) hgo (.inr rfl) (.int .i64 ((1 : Nat) : Int))).setCell (p := ⟨sb, 4, none⟩) h.st.own (.inl rfl) (.int .i64 ((d.dead - 1 : Nat) : Int)))
  have hlt2 : OwnLt o ((w.setCell ⟨gc, enode f, none⟩ (.int .i64 ((1 : Nat) : Int))).setCell ⟨sb, 4, none⟩ (.int .i64 ((d.dead - 1 : Nat) : Int))) := hlt1.mono (by simp [World.setCell])
  have hpa := nodesOf_some hx
  have hbN : ∃ N, N = d.pool.has (enode f) ∧ N.lo = b.lo ∧ N.hi = b.hi := ⟨_, rfl, by rw [← hpa.2.2]; rfl, by rw [← hpa.2.2]; rfl⟩
  have hex : addE (addE (addE (addE (bump ext (enode f) 1) b.lo (-1)) b.hi (-1)) b.lo 1) b.hi 1 = addE ext f 1 := by
    funext y
    have h1 := congrFun (addE_bump (ext := ext) (f := f)) y
    have h2 : enode f = f / 2 := rfl
    rw [h2, h1]
    simp only [addE]
    omega
  obtain ⟨W2, hW2⟩ : ∃ W, W = (w.setCell ⟨gc, enode f, none⟩ (.int .i64 ((1 : Nat) : Int))).setCell ⟨sb, 4, none⟩ (.int .i64 ((d.dead - 1 : Nat) : Int)) := ⟨_, rfl⟩
  rw [← hW2] at st2 HCHG hlt2
  have HLT2 := Lib.hid hlt2
  have HPA : Hid (∀ W : World, Below W2.heap.size W2 W → Calls Tryz.prog 123 #[.pointer (some ⟨s.pb, 0, none⟩), .int .i64 (enode f : Nat)] W fun x w' => x = .returned (.tuple #[rnAgg (d.pool.has (enode f)), .bool (d.pool.tk (enode f))]) ∧ Below W.heap.size W w') :=
    Lib.hid (fun W hb => poolAt_any o s.pb d.pool (enode f) W (st2.pool.below hb hlt2) (hlt2.mono hb.size))
  have HC1 : Hid (∀ W : World, Below W2.heap.size W2 W → W.cell? ⟨sb, 1, none⟩ = some (.pointer (some ⟨s.pb, 0, none⟩))) := Lib.hid (fun W hb => (cells5 (st2.below hlt2 hb).blk).2.1)
  have HLO : Hid (∀ W : World, Below W2.heap.size W2 W → Calls Tryz.prog 139 #[.pointer (some ⟨sb, 0, none⟩), .int .i64 (b.lo : Nat)] W (CountPost o W sb (d.cd (d.counts.set (enode f) 1) (d.dead - 1)) s rk m false (addE (addE (addE (bump ext (enode f) 1) b.lo (-1)) b.hi (-1)) b.lo 1))) :=
    Lib.hid (fun W hb => ih W _ _ b.lo ⟨st2.below hlt2 hb, hlt2.mono hb.size, h.acy, h.acy.okLo _ _ hx, hlv, fun y q hq => by
      have h1 := h.top y q hq
      have h2 : toE f y = if enode f = y then 1 else 0 := rfl
      have h3 := toE_nonneg b.lo y
      have h4 := toE_nonneg b.hi y
      simp only [addE, bump]
      by_cases e : y = enode f
      · rw [if_pos e.symm] at h2; rw [if_pos e]; omega
      · rw [if_neg (Ne.symm e)] at h2; rw [if_neg e]; omega, hlow b.lo (h.acy.okLo _ _ hx) (fun c hc => h.acy.ltLo _ _ c hx hc)⟩)
  have HHI : Hid (∀ (W : World) (cs : List Nat) (dd : Nat), StoreIn o W sb ((d.cd (d.counts.set (enode f) 1) (d.dead - 1)).cd cs dd) s → LiveC ((d.cd (d.counts.set (enode f) 1) (d.dead - 1)).cd cs dd) (addE (addE (addE (bump ext (enode f) 1) b.lo (-1)) b.hi (-1)) b.lo 1) → (false = true → ∀ i, cs.getD i 0 ≤ (d.counts.set (enode f) 1).getD i 0) → Chg RCnt o o w W →
      Calls Tryz.prog 139 #[.pointer (some ⟨sb, 0, none⟩), .int .i64 (b.hi : Nat)] W (CountPost o W sb ((d.cd (d.counts.set (enode f) 1) (d.dead - 1)).cd cs dd) s rk m false (addE ext f 1))) :=
    Lib.hid (fun W cs dd hs hl hle hch => by
      rw [← hex]
      exact ih W _ _ b.hi ⟨hs, HLT.out.mono hch.size, h.acy, h.acy.okHi _ _ hx, hl, fun y q hq => by
        have h1 := h.top y q hq
        have h2 : toE f y = if enode f = y then 1 else 0 := rfl
        have h3 := toE_nonneg b.lo y
        have h4 := toE_nonneg b.hi y
        simp only [addE, bump]
        by_cases e : y = enode f
        · rw [if_pos e.symm] at h2; rw [if_pos e]; omega
        · rw [if_neg (Ne.symm e)] at h2; rw [if_neg e]; omega, hlow b.hi (h.acy.okHi _ _ hx) (fun c hc => h.acy.ltHi _ _ c hx hc)⟩)
  have HEND : Hid (∀ (W : World) (cs : List Nat) (dd : Nat), StoreIn o W sb (d.cd cs dd) s → LiveC (d.cd cs dd) (addE ext f 1) → cs.length = (d.counts.set (enode f) 1).length → (∀ i, m + 1 ≤ rk i → cs.getD i 0 = (d.counts.set (enode f) 1).getD i 0) → (false = true → ∀ i, cs.getD i 0 ≤ (d.counts.set (enode f) 1).getD i 0) → Chg RCnt o o w W →
      CountPost o w sb d s rk (m + 1) false (addE ext f 1) (.returned (.tuple #[])) W) :=
    fun W cs dd hs hl hlen hlw hle hch => ⟨cs, dd, rfl, hs, hl, by rw [hlen]; simp, fun i hi => (hlw i hi).trans (HLOW i hi), fun e i => Nat.le_trans (hle e i) (HLE e i), hch⟩
  have HWE : Hid (W2 = (w.setCell ⟨gc, enode f, none⟩ (.int .i64 1)).setCell ⟨sb, 4, none⟩ (.int .i64 ((d.dead : Int) - 1))) := by
    show _ = _
    rw [hW2, show ((d.dead - 1 : Nat) : Int) = (d.dead : Int) - 1 from by omega]; rfl
  have hid0 : ((enode f : Nat) : Int) ≠ 0 := by have := htk.1; omega
  have HN := Lib.hid (fun W => node_any f W hf)
  have hne' : sb ≠ gc := fun e => hne e.symm
  have hxl' : ((enode f : Nat) : Int) < d.counts.length := by omega
  obtain ⟨N, hN, hNlo, hNhi⟩ := hbN
  rw [← hN] at HPA
  rw [← hNlo, ← hNhi] at HLO HHI
  obtain ⟨B, hB⟩ : ∃ B, B = d.pool.tk (enode f) := ⟨_, rfl⟩
  rw [← hB] at HPA
  rw [hc] at hcx
  obtain ⟨k, hk⟩ : ∃ k, k = enode f := ⟨_, rfl⟩
  rw [← hk] at hcx hfx HPA hid0 HN hxl' HWE
  have hk0 : ((k : Int) == 0) = false := by simpa using hid0
  have hk1 : 0 < k := by omega
  have hcm' : d.counts.length ≤ 9223372036854775807 := by unfold maxLen at hcm; omega
  obtain ⟨dn, hdn⟩ : ∃ n, n = d.dead := ⟨_, rfl⟩
  rw [← hdn] at c4 hdb HWE hdp
  clear ih h hx hc hv hgo hlc hcm hfz hcell htk hid0 hxl hfl hf hlv st1 st2 hlt1 hlt2 HLOW HLE hrk hlow hW2 hex hN hNlo hNhi hB hdn hpa hk
  go_enter Tryz.func139, Tryz.ntmps139
  go_wp2_with fail
  refine (HN.out _).mono ?_
  rintro x w' ⟨rfl, rfl⟩
  go_wp2_with fail
  rw [← HWE.out]
  refine (HPA.out W2 (Below.refl _ _)).mono ?_
  rintro x v2 ⟨rfl, hb2⟩
  unfold rnAgg
  clear HWE c0 c1 c2 c3 c4 f0 hcx hfx HN hne hne' hxl' hk0 hk1 hcm' hdb hdp
  go_wp2_with fail
  obtain ⟨W3, hW3⟩ : ∃ W, W = v2.alloc (.cells #[.int .i64 N.id, .int .i64 N.v, .int .i64 N.lo, .int .i64 N.hi, .int .i64 N.refs] 157) := ⟨_, rfl⟩
  obtain ⟨bx, hbx⟩ : ∃ bx, bx = v2.heap.size := ⟨_, rfl⟩
  have hge : W2.heap.size ≤ bx := by rw [hbx]; exact hb2.size
  have hbf : Below W2.heap.size W2 W3 := by rw [hW3]; exact hb2.alloc hb2.size _
  have hxf : W3.heap[bx]? = some (.cells #[.int .i64 N.id, .int .i64 N.v, .int .i64 N.lo, .int .i64 N.hi, .int .i64 N.refs] 157 (0, 0)) := by rw [hW3, hbx]; exact heap_alloc_new v2 _
  rw [← hW3]
  rw [← hbx]
  clear hW3 hbx hb2 HPA HC1
  refine (HLO.out _ hbf).mono ?_
  rintro x w1 ⟨cs1, dd1, rfl, st1, lv1, len1, low1, le1, chg1⟩
  have hxg := (chg1.alien (Array.getElem?_eq_some_iff.1 hxf).1 (HLT2.out.none hge)).trans hxf
  obtain ⟨z0, z1, z2, z3, z4, zz⟩ := cells5 hxg
  have HS1 := Lib.hid st1
  have HL1 := Lib.hid lv1
  have HE1 := Lib.hid len1
  have HW1 := Lib.hid low1
  have HI1 := Lib.hid le1
  have HC3 := Lib.hid ((HCHG.out.trans (Chg.of_below hbf RCnt o)).trans chg1)
  clear st1 lv1 len1 low1 le1 chg1 hxf hxg hbf
  go_wp2_with fail
  refine (HHI.out w1 cs1 dd1 HS1.out HL1.out (fun e => by first | exact absurd e (by decide) | exact HI1.out (by simp)) HC3.out).mono ?_
  rintro x w2 ⟨cs2, dd2, rfl, st2, lv2, len2, low2, le2, chg2⟩
  have HFIN := Lib.hid (HEND.out w2 cs2 dd2 st2 lv2 (len2.trans HE1.out) (fun i hi => (low2 i (by omega)).trans (HW1.out i (by omega))) (fun e i => by first | exact absurd e (by decide) | exact Nat.le_trans (le2 (by simp) i) (HI1.out (by simp) i)) (HC3.out.trans chg2))
  clear st2 lv2 len2 low2 le2 chg2
  go_wp2_with fail
  refine bodyPost_end (results_0 rfl _ _ _) rfl HFIN.out
theorem storeMore_any (o : Own) (sb : Nat) (s : StoreW) (rk : Nat → Nat) : ∀ (m : Nat) (w : World) (d : StoreD) (ext : Nat → Int) (f : Nat), MoreOk o w sb d s rk ext f m →
    Calls Tryz.prog 139 #[.pointer (some ⟨sb, 0, none⟩), .int .i64 f] w (CountPost o w sb d s rk m false (addE ext f 1))
  | m, w, d, ext, f, h => by
    by_cases h0 : enode f = 0
    · exact more_none h h0
    · obtain ⟨b, hx⟩ : ∃ b, nodesOf d (enode f) = some b := h.ok.resolve_left h0
      by_cases hc : 0 < cntOf d (enode f)
      · exact more_live h hx hc
      · cases m with
        | zero => exact absurd (h.low.resolve_left h0) (by omega)
        | succ m => exact more_dead h hx (by omega) (storeMore_any o sb s rk m)

end Go.Proofs.YtchliiaknmknhaaGreat

-- Store7
namespace Go.Proofs.YtchliiaknmknhaaGreat
open Go.RowKit

set_option maxRecDepth 100000 in
set_option maxHeartbeats 800000 in
theorem less_live {o : Own} {w : World} {sb : Nat} {d : StoreD} {s : StoreW} {rk : Nat → Nat} {ext : Nat → Int} {f m : Nat} (h : LessOk o w sb d s rk ext f m) {b : BN} (hx : nodesOf d (enode f) = some b) (hc : 1 < cntOf d (enode f)) :
    Calls Tryz.prog 142 #[.pointer (some ⟨sb, 0, none⟩), .int .i64 f] w (CountPost o w sb d s rk m true (addE ext f (-1))) := by
  have hfl := h.st.edge_lt h.ok
  have hf : f < eMax := by unfold eMax; omega
  have hxl := h.live.has _ _ hx
  obtain ⟨gc, cap, hv, hgo, hne, hlc, hcm, hfz, hcell⟩ := h.st.countsAt hxl
  obtain ⟨c0, c1, c2, c3, c4, f0⟩ := cells5 h.st.blk
  rw [hv] at c3
  have hcx := hcell _ hxl
  have hfx := hfz (enode f)
  have htop := h.top (enode f)
  have htk := h.st.tk_lt hx
  have HLOW : Hid (∀ i, m ≤ rk i → (d.counts.set (enode f) (cntOf d (enode f) - 1)).getD i 0 = d.counts.getD i 0) := fun i hi => by
    have : enode f ≠ i := by
      rintro rfl
      rcases h.low with h0 | h0
      · have : enode f = 0 := h0
        omega
      · have e : f / 2 = enode f := rfl
        rw [e] at h0; omega
    simp only [List.getD, List.getElem?_set, if_neg this]
  have HLE : Hid (true = true → ∀ i, (d.counts.set (enode f) (cntOf d (enode f) - 1)).getD i 0 ≤ d.counts.getD i 0) := fun _ i => by
    by_cases e : enode f = i
    · subst e; simp only [List.getD, List.getElem?_set]; simp [hxl, cntOf, List.getD]
    · simp only [List.getD, List.getElem?_set, if_neg e]; omega
  have HPOST : Hid (StoreIn o (w.setCell ⟨gc, enode f, none⟩ (.int .i64 ((cntOf d (enode f) - 1 : Nat) : Int))) sb (d.cd (d.counts.set (enode f) (cntOf d (enode f) - 1)) d.dead) s ∧ LiveC (d.cd (d.counts.set (enode f) (cntOf d (enode f) - 1)) d.dead) (addE ext f (-1))) :=
    ⟨h.st.setCount hv hne _ _, by rw [addE_bump']; exact h.live.lessLive hx hc⟩
  have HCHG := Lib.hid ((Chg.refl RCnt o w).setCell (p := ⟨gc, enode f, none⟩) hgo (.inr rfl) (.int .i64 ((cntOf d (enode f) - 1 : Nat) : Int)))
  rw [show ((cntOf d (enode f) - 1 : Nat) : Int) = (cntOf d (enode f) : Nat) - 1 from by omega] at HPOST HCHG
  have hid0 : ((enode f : Nat) : Int) ≠ 0 := by have := htk.1; omega
  have HN := Lib.hid (fun W => node_any f W hf)
  have hne' : sb ≠ gc := fun e => hne e.symm
  have hxl' : ((enode f : Nat) : Int) < d.counts.length := by omega
  obtain ⟨k, hk⟩ : ∃ k, k = enode f := ⟨_, rfl⟩
  obtain ⟨c, hcc⟩ : ∃ c, c = cntOf d (enode f) := ⟨_, rfl⟩
  have hcb1 : c ≤ 2199023255552 := by omega
  have hc1 : 1 < c := by omega
  rw [← hcc] at hcx HPOST HCHG HLOW HLE
  rw [← hk] at hcx hfx HPOST HCHG hid0 HN hxl' HLOW HLE
  have hk0 : ((k : Int) == 0) = false := by simpa using hid0
  have hk1 : 0 < k := by omega
  have hcm' : d.counts.length ≤ 9223372036854775807 := by unfold maxLen at hcm; omega
  have hc3 : (1 : Int) < (c : Int) := by omega
  clear h hx hc hv hgo hlc hcm hfz hcell hk hcc htop htk hid0 hxl hfl hf
  go_enter Tryz.func142, Tryz.ntmps142
  go_wp2_with fail
  refine (HN.out _).mono ?_
  rintro x w' ⟨rfl, rfl⟩
  go_wp2_with fail
  refine bodyPost_ret (results_0 rfl _ _ _) rfl ⟨_, _, rfl, HPOST.out.1, HPOST.out.2, by simp, HLOW.out, (fun e => by first | exact absurd e (by decide) | exact HLE.out (by simp)), HCHG.out⟩
theorem less_none {o : Own} {w : World} {sb : Nat} {d : StoreD} {s : StoreW} {rk : Nat → Nat} {ext : Nat → Int} {f m : Nat} (h : LessOk o w sb d s rk ext f m) (hx : enode f = 0) :
    Calls Tryz.prog 142 #[.pointer (some ⟨sb, 0, none⟩), .int .i64 f] w (CountPost o w sb d s rk m true (addE ext f (-1))) := by
  have hf : f < eMax := by have := h.st.edge_lt h.ok; unfold eMax; omega
  have HPOST : Hid (CountPost o w sb d s rk m true (addE ext f (-1)) (.returned (.tuple #[])) w) :=
    ⟨d.counts, d.dead, rfl, h.st, h.live.congr (fun y b hb => by
      have : y ≠ 0 := by rintro rfl; rw [h.acy.none0] at hb; cases hb
      have e : f / 2 = 0 := hx
      simp [addE, toE, e, Ne.symm this]), rfl, fun _ _ => rfl, fun _ _ => Nat.le_refl _, Chg.refl _ _ _⟩
  have HN := Lib.hid (fun W => node_any f W hf)
  rw [hx] at HN
  clear h hx hf
  go_enter Tryz.func142, Tryz.ntmps142
  go_wp2_with fail
  refine (HN.out _).mono ?_
  rintro x w' ⟨rfl, rfl⟩
  go_wp2_with fail
  refine bodyPost_ret (results_0 rfl _ _ _) rfl HPOST.out
set_option maxRecDepth 100000 in
set_option maxHeartbeats 1600000 in
theorem less_dead {o : Own} {w : World} {sb : Nat} {d : StoreD} {s : StoreW} {rk : Nat → Nat} {ext : Nat → Int} {f m : Nat} (h : LessOk o w sb d s rk ext f (m + 1)) {b : BN} (hx : nodesOf d (enode f) = some b) (hc : cntOf d (enode f) = 1)
    (ih : ∀ w d ext f, LessOk o w sb d s rk ext f m → Calls Tryz.prog 142 #[.pointer (some ⟨sb, 0, none⟩), .int .i64 f] w (CountPost o w sb d s rk m true (addE ext f (-1)))) :
    Calls Tryz.prog 142 #[.pointer (some ⟨sb, 0, none⟩), .int .i64 f] w (CountPost o w sb d s rk (m + 1) true (addE ext f (-1))) := by
  have hfl := h.st.edge_lt h.ok
  have hf : f < eMax := by unfold eMax; omega
  have hxl := h.live.has _ _ hx
  obtain ⟨gc, cap, hv, hgo, hne, hlc, hcm, hfz, hcell⟩ := h.st.countsAt hxl
  obtain ⟨c0, c1, c2, c3, c4, f0⟩ := cells5 h.st.blk
  rw [hv] at c3
  have hcx := hcell _ hxl
  have hfx := hfz (enode f)
  have htk := h.st.tk_lt hx
  have hlv := h.live.lessDies hx hc
  have hdb : d.dead ≤ 1048577 := by
    have h1 := h.live.dead
    have h2 := sumTo_le (f := dead1 (nodesOf d) (cntOf d)) (B := 1) d.pool.at_.length (fun i _ => by unfold dead1; split <;> first | omega | (split <;> omega))
    have h3 : deadN d.pool.at_.length (nodesOf d) (cntOf d) = sumTo d.pool.at_.length (dead1 (nodesOf d) (cntOf d)) := rfl
    omega
  have HLT := Lib.hid h.lt
  have HLOW : ∀ i, m + 1 ≤ rk i → (d.counts.set (enode f) 0).getD i 0 = d.counts.getD i 0 := fun i hi => by
    have : enode f ≠ i := by
      rintro rfl
      rcases h.low with h0 | h0
      · have : enode f = 0 := h0
        omega
      · have e : f / 2 = enode f := rfl
        rw [e] at h0; omega
    simp only [List.getD, List.getElem?_set, if_neg this]
  have HLE : true = true → ∀ i, (d.counts.set (enode f) 0).getD i 0 ≤ d.counts.getD i 0 := fun _ i => by
    by_cases e : enode f = i
    · subst e; simp only [List.getD, List.getElem?_set]; simp [hxl]
    · simp only [List.getD, List.getElem?_set, if_neg e]; omega
  have hrk : rk (enode f) ≤ m := by
    rcases h.low with h0 | h0
    · have : enode f = 0 := h0
      omega
    · have e : f / 2 = enode f := rfl
      rw [e] at h0; omega
  have hlow : ∀ e, (okE (nodesOf d) e) → (∀ c, nodesOf d (e / 2) = some c → rk (e / 2) < rk (enode f)) → e / 2 = 0 ∨ rk (e / 2) < m := fun e ho hr => by
    rcases ho with h0 | ⟨c, hc⟩
    · exact .inl h0
    · exact .inr (by have := hr c hc; omega)
  have st1 : StoreIn o (w.setCell ⟨gc, enode f, none⟩ (.int .i64 ((0 : Nat) : Int))) sb (d.cd (d.counts.set (enode f) 0) d.dead) s := h.st.setCount hv hne _ _
  have hlt1 : OwnLt o (w.setCell ⟨gc, enode f, none⟩ (.int .i64 ((0 : Nat) : Int))) := h.lt.mono (by simp [World.setCell])
  have st2 : StoreIn o ((w.setCell ⟨gc, enode f, none⟩ (.int .i64 ((0 : Nat) : Int))).setCell ⟨sb, 4, none⟩ (.int .i64 ((d.dead + 1 : Nat) : Int))) sb (d.cd (d.counts.set (enode f) 0) (d.dead + 1)) s := st1.setDead hlt1 _
  have HCHG := Lib.hid (((Chg.refl RCnt o w).setCell (p := ⟨gc, enode f, none⟩) hgo (.inr rfl) (.int .i64 ((0 : Nat) : Int))).setCell (p := ⟨sb, 4, none⟩) h.st.own (.inl rfl) (.int .i64 ((d.dead + 1 : Nat) : Int)))
  have hlt2 : OwnLt o ((w.setCell ⟨gc, enode f, none⟩ (.int .i64 ((0 : Nat) : Int))).setCell ⟨sb, 4, none⟩ (.int .i64 ((d.dead + 1 : Nat) : Int))) := hlt1.mono (by simp [World.setCell])
  have hpa := nodesOf_some hx
  have hbN : ∃ N, N = d.pool.has (enode f) ∧ N.lo = b.lo ∧ N.hi = b.hi := ⟨_, rfl, by rw [← hpa.2.2]; rfl, by rw [← hpa.2.2]; rfl⟩
  have hex : addE (addE (addE (addE (bump ext (enode f) (-1)) b.lo 1) b.hi 1) b.lo (-1)) b.hi (-1) = addE ext f (-1) := by
    funext y
    have h1 := congrFun (addE_bump' (ext := ext) (f := f)) y
    have h2 : enode f = f / 2 := rfl
    rw [h2, h1]
    simp only [addE]
    omega
  obtain ⟨W2, hW2⟩ : ∃ W, W = (w.setCell ⟨gc, enode f, none⟩ (.int .i64 ((0 : Nat) : Int))).setCell ⟨sb, 4, none⟩ (.int .i64 ((d.dead + 1 : Nat) : Int)) := ⟨_, rfl⟩
  rw [← hW2] at st2 HCHG hlt2
  have HLT2 := Lib.hid hlt2
  have HPA : Hid (∀ W : World, Below W2.heap.size W2 W → Calls Tryz.prog 123 #[.pointer (some ⟨s.pb, 0, none⟩), .int .i64 (enode f : Nat)] W fun x w' => x = .returned (.tuple #[rnAgg (d.pool.has (enode f)), .bool (d.pool.tk (enode f))]) ∧ Below W.heap.size W w') :=
    Lib.hid (fun W hb => poolAt_any o s.pb d.pool (enode f) W (st2.pool.below hb hlt2) (hlt2.mono hb.size))
  have HC1 : Hid (∀ W : World, Below W2.heap.size W2 W → W.cell? ⟨sb, 1, none⟩ = some (.pointer (some ⟨s.pb, 0, none⟩))) := Lib.hid (fun W hb => (cells5 (st2.below hlt2 hb).blk).2.1)
  have HLO : Hid (∀ W : World, Below W2.heap.size W2 W → Calls Tryz.prog 142 #[.pointer (some ⟨sb, 0, none⟩), .int .i64 (b.lo : Nat)] W (CountPost o W sb (d.cd (d.counts.set (enode f) 0) (d.dead + 1)) s rk m true (addE (addE (addE (bump ext (enode f) (-1)) b.lo 1) b.hi 1) b.lo (-1)))) :=
    Lib.hid (fun W hb => ih W _ _ b.lo ⟨st2.below hlt2 hb, hlt2.mono hb.size, h.acy, h.acy.okLo _ _ hx, hlv, fun y => Nat.le_trans (HLE rfl y) (h.top y), fun y q hq => by
      have h1 := h.pos y q hq
      have h2 : toE f y = if enode f = y then 1 else 0 := rfl
      have h3 := toE_nonneg b.lo y
      have h4 := toE_nonneg b.hi y
      simp only [addE, bump]
      by_cases e : y = enode f
      · rw [if_pos e.symm] at h2; rw [if_pos e]; omega
      · rw [if_neg (Ne.symm e)] at h2; rw [if_neg e]; omega, hlow b.lo (h.acy.okLo _ _ hx) (fun c hc => h.acy.ltLo _ _ c hx hc)⟩)
  have HHI : Hid (∀ (W : World) (cs : List Nat) (dd : Nat), StoreIn o W sb ((d.cd (d.counts.set (enode f) 0) (d.dead + 1)).cd cs dd) s → LiveC ((d.cd (d.counts.set (enode f) 0) (d.dead + 1)).cd cs dd) (addE (addE (addE (bump ext (enode f) (-1)) b.lo 1) b.hi 1) b.lo (-1)) → (true = true → ∀ i, cs.getD i 0 ≤ (d.counts.set (enode f) 0).getD i 0) → Chg RCnt o o w W →
      Calls Tryz.prog 142 #[.pointer (some ⟨sb, 0, none⟩), .int .i64 (b.hi : Nat)] W (CountPost o W sb ((d.cd (d.counts.set (enode f) 0) (d.dead + 1)).cd cs dd) s rk m true (addE ext f (-1)))) :=
    Lib.hid (fun W cs dd hs hl hle hch => by
      rw [← hex]
      exact ih W _ _ b.hi ⟨hs, HLT.out.mono hch.size, h.acy, h.acy.okHi _ _ hx, hl, fun y => Nat.le_trans (Nat.le_trans (hle rfl y) (HLE rfl y)) (h.top y), fun y q hq => by
        have h1 := h.pos y q hq
        have h2 : toE f y = if enode f = y then 1 else 0 := rfl
        have h3 := toE_nonneg b.lo y
        have h4 := toE_nonneg b.hi y
        simp only [addE, bump]
        by_cases e : y = enode f
        · rw [if_pos e.symm] at h2; rw [if_pos e]; omega
        · rw [if_neg (Ne.symm e)] at h2; rw [if_neg e]; omega, hlow b.hi (h.acy.okHi _ _ hx) (fun c hc => h.acy.ltHi _ _ c hx hc)⟩)
  have HEND : Hid (∀ (W : World) (cs : List Nat) (dd : Nat), StoreIn o W sb (d.cd cs dd) s → LiveC (d.cd cs dd) (addE ext f (-1)) → cs.length = (d.counts.set (enode f) 0).length → (∀ i, m + 1 ≤ rk i → cs.getD i 0 = (d.counts.set (enode f) 0).getD i 0) → (true = true → ∀ i, cs.getD i 0 ≤ (d.counts.set (enode f) 0).getD i 0) → Chg RCnt o o w W →
      CountPost o w sb d s rk (m + 1) true (addE ext f (-1)) (.returned (.tuple #[])) W) :=
    fun W cs dd hs hl hlen hlw hle hch => ⟨cs, dd, rfl, hs, hl, by rw [hlen]; simp, fun i hi => (hlw i hi).trans (HLOW i hi), fun e i => Nat.le_trans (hle e i) (HLE e i), hch⟩
  have HWE : Hid (W2 = (w.setCell ⟨gc, enode f, none⟩ (.int .i64 0)).setCell ⟨sb, 4, none⟩ (.int .i64 ((d.dead : Int) + 1))) := by
    show _ = _
    rw [hW2, show ((d.dead + 1 : Nat) : Int) = (d.dead : Int) + 1 from by omega]; rfl
  have hid0 : ((enode f : Nat) : Int) ≠ 0 := by have := htk.1; omega
  have HN := Lib.hid (fun W => node_any f W hf)
  have hne' : sb ≠ gc := fun e => hne e.symm
  have hxl' : ((enode f : Nat) : Int) < d.counts.length := by omega
  obtain ⟨N, hN, hNlo, hNhi⟩ := hbN
  rw [← hN] at HPA
  rw [← hNlo, ← hNhi] at HLO HHI
  obtain ⟨B, hB⟩ : ∃ B, B = d.pool.tk (enode f) := ⟨_, rfl⟩
  rw [← hB] at HPA
  rw [hc] at hcx
  obtain ⟨k, hk⟩ : ∃ k, k = enode f := ⟨_, rfl⟩
  rw [← hk] at hcx hfx HPA hid0 HN hxl' HWE
  have hk0 : ((k : Int) == 0) = false := by simpa using hid0
  have hk1 : 0 < k := by omega
  have hcm' : d.counts.length ≤ 9223372036854775807 := by unfold maxLen at hcm; omega
  obtain ⟨dn, hdn⟩ : ∃ n, n = d.dead := ⟨_, rfl⟩
  rw [← hdn] at c4 hdb HWE
  clear ih h hx hc hv hgo hlc hcm hfz hcell htk hid0 hxl hfl hf hlv st1 st2 hlt1 hlt2 HLOW HLE hrk hlow hW2 hex hN hNlo hNhi hB hdn hpa hk
  go_enter Tryz.func142, Tryz.ntmps142
  go_wp2_with fail
  refine (HN.out _).mono ?_
  rintro x w' ⟨rfl, rfl⟩
  go_wp2_with fail
  rw [← HWE.out]
  refine (HPA.out W2 (Below.refl _ _)).mono ?_
  rintro x v2 ⟨rfl, hb2⟩
  unfold rnAgg
  clear HWE c0 c1 c2 c3 c4 f0 hcx hfx HN hne hne' hxl' hk0 hk1 hcm' hdb
  go_wp2_with fail
  obtain ⟨W3, hW3⟩ : ∃ W, W = v2.alloc (.cells #[.int .i64 N.id, .int .i64 N.v, .int .i64 N.lo, .int .i64 N.hi, .int .i64 N.refs] 157) := ⟨_, rfl⟩
  obtain ⟨bx, hbx⟩ : ∃ bx, bx = v2.heap.size := ⟨_, rfl⟩
  have hge : W2.heap.size ≤ bx := by rw [hbx]; exact hb2.size
  have hbf : Below W2.heap.size W2 W3 := by rw [hW3]; exact hb2.alloc hb2.size _
  have hxf : W3.heap[bx]? = some (.cells #[.int .i64 N.id, .int .i64 N.v, .int .i64 N.lo, .int .i64 N.hi, .int .i64 N.refs] 157 (0, 0)) := by rw [hW3, hbx]; exact heap_alloc_new v2 _
  rw [← hW3]
  rw [← hbx]
  clear hW3 hbx hb2 HPA HC1
  refine (HLO.out _ hbf).mono ?_
  rintro x w1 ⟨cs1, dd1, rfl, st1, lv1, len1, low1, le1, chg1⟩
  have hxg := (chg1.alien (Array.getElem?_eq_some_iff.1 hxf).1 (HLT2.out.none hge)).trans hxf
  obtain ⟨z0, z1, z2, z3, z4, zz⟩ := cells5 hxg
  have HS1 := Lib.hid st1
  have HL1 := Lib.hid lv1
  have HE1 := Lib.hid len1
  have HW1 := Lib.hid low1
  have HI1 := Lib.hid le1
  have HC3 := Lib.hid ((HCHG.out.trans (Chg.of_below hbf RCnt o)).trans chg1)
  clear st1 lv1 len1 low1 le1 chg1 hxf hxg hbf
  go_wp2_with fail
  refine (HHI.out w1 cs1 dd1 HS1.out HL1.out (fun e => by first | exact absurd e (by decide) | exact HI1.out (by simp)) HC3.out).mono ?_
  rintro x w2 ⟨cs2, dd2, rfl, st2, lv2, len2, low2, le2, chg2⟩
  have HFIN := Lib.hid (HEND.out w2 cs2 dd2 st2 lv2 (len2.trans HE1.out) (fun i hi => (low2 i (by omega)).trans (HW1.out i (by omega))) (fun e i => by first | exact absurd e (by decide) | exact Nat.le_trans (le2 (by simp) i) (HI1.out (by simp) i)) (HC3.out.trans chg2))
  clear st2 lv2 len2 low2 le2 chg2
  go_wp2_with fail
  refine bodyPost_end (results_0 rfl _ _ _) rfl HFIN.out
theorem storeLess_any (o : Own) (sb : Nat) (s : StoreW) (rk : Nat → Nat) : ∀ (m : Nat) (w : World) (d : StoreD) (ext : Nat → Int) (f : Nat), LessOk o w sb d s rk ext f m →
    Calls Tryz.prog 142 #[.pointer (some ⟨sb, 0, none⟩), .int .i64 f] w (CountPost o w sb d s rk m true (addE ext f (-1)))
  | m, w, d, ext, f, h => by
    by_cases h0 : enode f = 0
    · exact less_none h h0
    · obtain ⟨b, hx⟩ : ∃ b, nodesOf d (enode f) = some b := h.ok.resolve_left h0
      have hp : 0 < cntOf d (enode f) := h.live.cnt.pos_of_ext hx (by
        have h1 := h.pos _ _ hx
        rw [show toE f (enode f) = 1 from toE_hit f] at h1; omega)
      by_cases hc : 1 < cntOf d (enode f)
      · exact less_live h hx hc
      · cases m with
        | zero => exact absurd (h.low.resolve_left h0) (by omega)
        | succ m => exact less_dead h hx (by omega) (storeLess_any o sb s rk m)

end Go.Proofs.YtchliiaknmknhaaGreat

-- Store8
namespace Go.Proofs.YtchliiaknmknhaaGreat
open Go.RowKit

def RPool (r : Role) : Prop := r = .pool ∨ r = .slots ∨ r = .taken ∨ r = .free
/-- The roles of a store's blocks. -/
def RStore (r : Role) : Prop := r = .store ∨ r = .levels ∨ r = .vars ∨ r = .level ∨ RPool r ∨ r = .tabs ∨ (∃ v, r = .tab v ∨ r = .tmap v) ∨ r = .counts
section
variable {o o' : Own} {w w' : World} {sb : Nat} {d : StoreD} {s : StoreW}
theorem StoreIn.setPool (h : StoreIn o w sb d s) (hlt : OwnLt o w) {p' : PoolD} (hp : PoolAt o' w' s.pb p') (hc : Chg RPool o o' w w') : StoreIn o' w' sb { d with pool := p' } s := by
  have n : ∀ {r}, r ≠ .pool → r ≠ .slots → r ≠ .taken → r ≠ .free → ¬ RPool r := fun a b c d h => by rcases h with h | h | h | h <;> contradiction
  exact ⟨hc.ext _ _ h.own, hc.ext _ _ h.ownl, (hc.same hlt h.own (n (by simp) (by simp) (by simp) (by simp))).trans h.blk, (hc.same hlt h.ownl (n (by simp) (by simp) (by simp) (by simp))).trans h.lev,
    h.vars.chg hc hlt (n (by simp) (by simp) (by simp) (by simp)), h.level.chg hc hlt (n (by simp) (by simp) (by simp) (by simp)), hp, h.tabs.chg hc hlt (n (by simp) (by simp) (by simp) (by simp)),
    fun v hv => (h.tab v hv).chg hc hlt (n (by simp) (by simp) (by simp) (by simp)) (n (by simp) (by simp) (by simp) (by simp)), h.counts.chg hc hlt (n (by simp) (by simp) (by simp) (by simp)), h.len, h.tlen⟩
theorem StoreIn.setTab (h : StoreIn o w sb d s) (hlt : OwnLt o w) {v : Nat} {f' : Nat × Nat → Option Nat} (ht : TabIs o' w' v (s.ts.getD v 0) f') (hc : Chg (· = .tmap v) o o' w w') : StoreIn o' w' sb { d with tab := fun u => if u = v then f' else d.tab u } s := by
  refine ⟨hc.ext _ _ h.own, hc.ext _ _ h.ownl, (hc.same hlt h.own (by simp)).trans h.blk, (hc.same hlt h.ownl (by simp)).trans h.lev,
    h.vars.chg hc hlt (by simp), h.level.chg hc hlt (by simp), h.pool.chg hc hlt (by simp) (by simp) (by simp) (by simp), h.tabs.chg hc hlt (by simp),
    fun u hu => ?_, h.counts.chg hc hlt (by simp), h.len, h.tlen⟩
  dsimp only
  by_cases e : u = v
  · subst e; rw [if_pos rfl]; exact ht
  · rw [if_neg e]; exact (h.tab u hu).chg hc hlt (by simp) (by simpa using e)
theorem StoreIn.chg {R : Role → Prop} (h : StoreIn o w sb d s) (hlt : OwnLt o w) (hc : Chg R o o' w w') (hR : ∀ r, R r → ¬ RStore r) : StoreIn o' w' sb d s := by
  have n : ∀ {r}, RStore r → ¬ R r := fun hs hr => hR _ hr hs
  refine ⟨hc.ext _ _ h.own, hc.ext _ _ h.ownl, (hc.same hlt h.own (n ?_)).trans h.blk, (hc.same hlt h.ownl (n ?_)).trans h.lev,
    h.vars.chg hc hlt (n ?_), h.level.chg hc hlt (n ?_), h.pool.chg hc hlt (n ?_) (n ?_) (n ?_) (n ?_), h.tabs.chg hc hlt (n ?_),
    fun v hv => (h.tab v hv).chg hc hlt (n ?_) (n ?_), h.counts.chg hc hlt (n ?_), h.len, h.tlen⟩ <;> simp [RStore, RPool]
end
/-- The references from outside. -/
def extOf (d : StoreD) : Nat → Int := fun i => if d.pool.tk i = true then ((d.pool.nd i).refs : Int) else 0
/-- What Hold (one more) and Drop (one less) leave behind. -/
structure HoldRel (d d' : StoreD) (f : Nat) (sg : Int) : Prop where
  vars : d'.vars = d.vars
  level : d'.level = d.level
  tab : d'.tab = d.tab
  nodes : nodesOf d' = nodesOf d
  many : d'.pool.many = d.pool.many
  free : d'.pool.free = d.pool.free
  room : d'.pool.room = d.pool.room
  len : d'.pool.at_.length = d.pool.at_.length
  clen : d'.counts.length = d.counts.length
  ext : ∀ i, i ≠ 0 → extOf d' i = extOf d i + sg * toE f i
  live : LiveC d' (extOf d')
def HoldPost (o : Own) (w : World) (sb : Nat) (d : StoreD) (s : StoreW) (f : Nat) (sg : Int) (e : Ending) (w' : World) : Prop :=
  ∃ d', e = .returned (.int .i64 0) ∧ StoreIn o w' sb d' s ∧ OwnLt o w' ∧ HoldRel d d' f sg ∧ Chg RStore o o w w'
theorem rcnt_store : ∀ r, RCnt r → RStore r := fun r h => by rcases h with h | h <;> simp [RStore, h]
theorem rslots_store : ∀ r : Role, r = .slots → RStore r := fun r h => by simp [RStore, RPool, h]
def RN.ref (n : RN) (k : Nat) : RN := { n with refs := k }
theorem setRef_tk (p : PoolD) (x k : Nat) (i : Nat) : (p.setNd x ((p.nd x).ref k)).tk i = p.tk i := rfl
theorem setRef_nodes {d : StoreD} {x k : Nat} (hk : x < d.pool.at_.length) (ht : d.pool.tk x = true) : nodesOf { d with pool := d.pool.setNd x ((d.pool.nd x).ref k) } = nodesOf d := by
  funext i
  unfold nodesOf
  rw [PoolD.setNd_get hk ht]
  by_cases e : i = x
  · subst e; simp [PoolD.get, ht, RN.ref, bnOf]
  · rw [if_neg e]
theorem setRef_ext {d : StoreD} {x k : Nat} (hk : x < d.pool.at_.length) (ht : d.pool.tk x = true) : extOf { d with pool := d.pool.setNd x ((d.pool.nd x).ref k) } = fun i => if i = x then (k : Int) else extOf d i := by
  funext i
  unfold extOf
  have h1 : (d.pool.setNd x ((d.pool.nd x).ref k)).tk i = d.pool.tk i := rfl
  have h2 : (d.pool.setNd x ((d.pool.nd x).ref k)).nd i = if i = x then (d.pool.nd x).ref k else d.pool.nd i := nd_set hk i
  dsimp only
  rw [h1, h2]
  by_cases e : i = x
  · subst e; simp [ht, RN.ref]
  · simp [e]
theorem extOf_node {d : StoreD} {x : Nat} (ht : d.pool.tk x = true) : extOf d x = ((d.pool.nd x).refs : Int) := by simp [extOf, ht]
theorem setRef_live {d : StoreD} {x k : Nat} {ext : Nat → Int} (hk : x < d.pool.at_.length) (ht : d.pool.tk x = true) (h : LiveC d ext) : LiveC { d with pool := d.pool.setNd x ((d.pool.nd x).ref k) } ext := by
  have hn := setRef_nodes (k := k) hk ht
  have hL : ({ d with pool := d.pool.setNd x ((d.pool.nd x).ref k) } : StoreD).pool.at_.length = d.pool.at_.length := by simp [PoolD.setNd]
  refine ⟨?_, ?_, ?_⟩
  · rw [hn, hL]; exact h.cnt
  · rw [hn, hL]; exact h.dead
  · rw [hn]; exact h.has
set_option maxRecDepth 100000 in
set_option maxHeartbeats 800000 in
/-- At a constant. -/
theorem storeHold_none {o : Own} {w : World} {sb : Nat} {d : StoreD} {s : StoreW} (h : StoreIn o w sb d s) (hlt : OwnLt o w) (hl : LiveC d (extOf d)) (f : Nat) (hf : f < eMax) (hx : enode f = 0) :
    Calls Tryz.prog 125 #[.pointer (some ⟨sb, 0, none⟩), .int .i64 f] w (HoldPost o w sb d s f 1) := by
  obtain ⟨c0, c1, c2, c3, c4, f0⟩ := cells5 h.blk
  have lsb : sb < w.heap.size := lt_of_cell c0
  have HPOST : Hid (∀ W : World, Below w.heap.size w W → HoldPost o w sb d s f 1 (.returned (.int .i64 0)) W) := fun W hb =>
    ⟨d, rfl, h.below hlt hb, hlt.mono hb.size, ⟨rfl, rfl, rfl, rfl, rfl, rfl, rfl, rfl, rfl, fun i hi => by
      have e : f / 2 = 0 := hx
      simp [toE, e, Ne.symm hi], hl⟩, Chg.of_below hb _ _⟩
  have hisv : (decide (enode f = 0) || d.pool.tk (enode f)) = true := by rw [hx]; rfl
  have HIS : Hid (∀ W : World, Below w.heap.size w W → Calls Tryz.prog 87 #[.pointer (some ⟨sb, 0, none⟩), .int .i64 f] W fun x w' => x = .returned (.bool true) ∧ Below W.heap.size W w') := fun W hb => by
    have h1 := storeIs_any (h.below hlt hb) (hlt.mono hb.size) f hf
    rw [hisv] at h1
    exact h1
  have htk : d.pool.tk 0 = false := h.pool.zero
  have HPA : Hid (∀ W : World, Below w.heap.size w W → Calls Tryz.prog 123 #[.pointer (some ⟨s.pb, 0, none⟩), .int .i64 (enode f : Nat)] W fun x w' => x = .returned (.tuple #[rnAgg (d.pool.has (enode f)), .bool (d.pool.tk (enode f))]) ∧ Below W.heap.size W w') :=
    Lib.hid (fun W hb => poolAt_any o s.pb d.pool (enode f) W (h.pool.below hb hlt) (hlt.mono hb.size))
  have HC1 : Hid (∀ W : World, Below w.heap.size w W → W.cell? ⟨sb, 1, none⟩ = some (.pointer (some ⟨s.pb, 0, none⟩))) := Lib.hid (fun W hb => (hb.cell (p := ⟨sb, 1, none⟩) lsb).trans c1)
  have HN := Lib.hid (fun W => node_any f W hf)
  have htk' : d.pool.tk (enode f) = false := by rw [hx]; exact htk
  obtain ⟨N, hN⟩ : ∃ N, N = d.pool.has (enode f) := ⟨_, rfl⟩
  obtain ⟨B, hB⟩ : ∃ B, B = d.pool.tk (enode f) := ⟨_, rfl⟩
  obtain ⟨k, hk⟩ : ∃ k, k = enode f := ⟨_, rfl⟩
  rw [← hN, ← hB, ← hk] at HPA
  rw [← hk] at HN
  have HB := Lib.hid (hB.trans htk')
  clear h hlt hl hf hx hisv c0 c1 c2 c3 c4 f0 lsb htk htk' hN hk hB
  go_enter Tryz.func125, Tryz.ntmps125
  go_wp2_with fail
  refine (HIS.out _ (Below.refl _ _)).mono ?_
  rintro x w1 ⟨rfl, hb1⟩
  have HB1 := Lib.hid hb1
  clear hb1
  go_upto_region 5 with fail
  refine wp_region_left (fun W : World => Below w.heap.size w W) 13 (by kernel_rfl) (below_drewN HB1.out 1) ?_
  refine left_readE 0 rfl rfl (by kernel_rfl) ?_
  apply Exists.intro
  refine ⟨fun w' hw => ?_, ?_⟩
  · have hc1 := HC1.out w' hw
    go_simp
    rfl
  simp only [Act.put, List.setIfInBounds_toArray, List.set_cons_zero, List.set_cons_succ]
  refine left_readE 1 rfl rfl (by kernel_rfl) ?_
  apply Exists.intro
  refine ⟨fun w' hw => ?_, ?_⟩
  · have hc1 := HC1.out w' hw
    go_simp
    rfl
  simp only [Act.put, List.setIfInBounds_toArray, List.set_cons_zero, List.set_cons_succ]
  refine left_readE 2 rfl rfl (by kernel_rfl) ?_
  apply Exists.intro
  refine ⟨fun w' hw => ?_, ?_⟩
  · have hc1 := HC1.out w' hw
    go_simp
    rfl
  simp only [Act.put, List.setIfInBounds_toArray, List.set_cons_zero, List.set_cons_succ]
  refine left_readE 3 rfl rfl (by kernel_rfl) ?_
  apply Exists.intro
  refine ⟨fun w' hw => ?_, ?_⟩
  · have hc1 := HC1.out w' hw
    go_simp
    rfl
  simp only [Act.put, List.setIfInBounds_toArray, List.set_cons_zero, List.set_cons_succ]
  refine left_readE 4 rfl rfl (by kernel_rfl) ?_
  apply Exists.intro
  refine ⟨fun w' hw => ?_, ?_⟩
  · have hc1 := HC1.out w' hw
    go_simp
    rfl
  simp only [Act.put, List.setIfInBounds_toArray, List.set_cons_zero, List.set_cons_succ]
  refine left_alts [5, 10] (by kernel_rfl) (fun i hi hS o ho => ?_)
  simp only [List.mem_cons, List.not_mem_nil, or_false] at hi
  rcases hi with rfl | rfl
  · skip
    simp only [List.getElem?_cons_zero, List.getElem?_cons_succ, Option.some.injEq] at ho
    subst ho
    refine ⟨rfl, ?_⟩
    refine oper_call (v := (.int .i64 k)) (R := fun w' => w1.drew = w') (by go_simp) (HN.out _) ?_
    rintro w' rfl
    refine ⟨(below_drewN HB1.out 1), ?_⟩
    simp only [Act.put, List.setIfInBounds_toArray, List.set_cons_zero, List.set_cons_succ]
    refine left_alts [6, 10] (by kernel_rfl) (fun i hi hS o ho => ?_)
    simp only [List.mem_cons, List.not_mem_nil, or_false] at hi
    rcases hi with rfl | rfl
    · skip
      simp only [List.getElem?_cons_zero, List.getElem?_cons_succ, Option.some.injEq] at ho
      subst ho
      refine ⟨rfl, ?_⟩
      refine oper_call (v := (.tuple #[rnAgg N, .bool B])) (R := fun w' => Below (w1.drew).heap.size (w1.drew) w') (by go_simp) (HPA.out _ (below_drewN HB1.out 1)) ?_
      intro v2 hv2
      have hb2 := (below_drewN HB1.out 1).trans (hv2.mono (below_drewN HB1.out 1).size)
      refine ⟨hb2, ?_⟩
      simp only [Act.put, List.setIfInBounds_toArray, List.set_cons_zero, List.set_cons_succ]
      unfold rnAgg
      refine left_readE 7 rfl rfl (by kernel_rfl) ?_
      apply Exists.intro
      refine ⟨fun w' hw => ?_, ?_⟩
      · clear hw
        go_simp
        rfl
      simp only [Act.put, List.setIfInBounds_toArray, List.set_cons_zero, List.set_cons_succ]
      refine left_readE 8 rfl rfl (by kernel_rfl) ?_
      apply Exists.intro
      refine ⟨fun w' hw => ?_, ?_⟩
      · clear hw
        go_simp
        rfl
      simp only [Act.put, List.setIfInBounds_toArray, List.set_cons_zero, List.set_cons_succ]
      refine left_readE 9 rfl rfl (by kernel_rfl) ?_
      apply Exists.intro
      refine ⟨fun w' hw => ?_, ?_⟩
      · clear hw
        go_simp
        rfl
      simp only [Act.put, List.setIfInBounds_toArray, List.set_cons_zero, List.set_cons_succ]
      refine left_alts [10] (by kernel_rfl) (fun i hi hS o ho => ?_)
      simp only [List.mem_cons, List.not_mem_nil, or_false] at hi
      subst hi
      simp only [List.getElem?_cons_zero, List.getElem?_cons_succ, Option.some.injEq] at ho
      subst ho
      refine ⟨rfl, ?_⟩
      have hb3 := hb2.trans ((below_new1 (v2) (.cells #[.int .i64 0, .int .i64 0, .int .i64 0, .int .i64 0, .int .i64 0] 157)).mono hb2.size)
      have hx3 := heap_alloc_new (v2) (.cells #[.int .i64 0, .int .i64 0, .int .i64 0, .int .i64 0, .int .i64 0] 157)
      have hge : w.heap.size ≤ (v2).heap.size := hb2.size
      refine oper_value (v := .pointer (some ⟨(v2).heap.size, 0, none⟩)) (w' := (v2).alloc (.cells #[.int .i64 0, .int .i64 0, .int .i64 0, .int .i64 0, .int .i64 0] 157)) (by go_simp) ⟨hb3, ?_⟩
      simp only [Act.put, List.setIfInBounds_toArray, List.set_cons_zero, List.set_cons_succ]
      obtain ⟨bx, hbx⟩ : ∃ bx, bx = (v2).heap.size := ⟨_, rfl⟩
      rw [← hbx] at hx3 hge ⊢
      obtain ⟨u3, hu3⟩ : ∃ u, u = (v2).alloc (.cells #[.int .i64 0, .int .i64 0, .int .i64 0, .int .i64 0, .int .i64 0] 157) := ⟨_, rfl⟩
      rw [← hu3] at hx3 hb3 ⊢
      clear hu3 hbx
      refine left_alts [11] (by kernel_rfl) (fun i hi hS o ho => ?_)
      simp only [List.mem_cons, List.not_mem_nil, or_false] at hi
      subst hi
      simp only [List.getElem?_cons_zero, List.getElem?_cons_succ, Option.some.injEq] at ho
      subst ho
      refine ⟨rfl, ?_⟩
      obtain ⟨e0, e1, e2, e3, e4, fz⟩ := cells5 hx3
      refine oper_store (w' := set5 u3 bx 0 N) rfl (run_storeNode (k := 0) fz e0 e1 e2 e3 e4 _ _ _ _ _) ?_
      have hbf : Below w.heap.size w (set5 u3 bx 0 N) := below_set5 hb3 hge N
      have hxf := set5_new hx3 N
      refine ⟨hbf, ?_⟩
      simp only [Act.put, List.setIfInBounds_toArray, List.set_cons_zero, List.set_cons_succ]
      clear e0 e1 e2 e3 e4 fz
      refine left_readE 12 rfl rfl (by kernel_rfl) ?_
      apply Exists.intro
      refine ⟨fun w' hw => ?_, ?_⟩
      · clear hw
        go_simp
        rfl
      simp only [Act.put, List.setIfInBounds_toArray, List.set_cons_zero, List.set_cons_succ]
      refine left_end (by kernel_rfl) ?_
      obtain rfl : B = false := HB.out
      have HBF := Lib.hid hbf
      obtain ⟨W3, hW3⟩ : ∃ W, W = set5 u3 bx 0 N := ⟨_, rfl⟩
      rw [← hW3] at HBF ⊢
      clear hW3 hbf hxf HPA HN HIS HC1 HB1 HB
      go_wp2_with fail
      go_ret
      exact HPOST.out _ HBF.out
    · skip
      simp only [List.getElem?_cons_zero, List.getElem?_cons_succ, Option.some.injEq] at ho
      subst ho
      refine ⟨rfl, ?_⟩
      have hb4 := (below_drewN HB1.out 1).trans ((below_new1 (w1.drew) (.cells #[.int .i64 0, .int .i64 0, .int .i64 0, .int .i64 0, .int .i64 0] 157)).mono (below_drewN HB1.out 1).size)
      have hx4 := heap_alloc_new (w1.drew) (.cells #[.int .i64 0, .int .i64 0, .int .i64 0, .int .i64 0, .int .i64 0] 157)
      have hge : w.heap.size ≤ (w1.drew).heap.size := (below_drewN HB1.out 1).size
      refine oper_value (v := .pointer (some ⟨(w1.drew).heap.size, 0, none⟩)) (w' := (w1.drew).alloc (.cells #[.int .i64 0, .int .i64 0, .int .i64 0, .int .i64 0, .int .i64 0] 157)) (by go_simp) ⟨hb4, ?_⟩
      simp only [Act.put, List.setIfInBounds_toArray, List.set_cons_zero, List.set_cons_succ]
      obtain ⟨bx, hbx⟩ : ∃ bx, bx = (w1.drew).heap.size := ⟨_, rfl⟩
      rw [← hbx] at hx4 hge ⊢
      obtain ⟨u4, hu4⟩ : ∃ u, u = (w1.drew).alloc (.cells #[.int .i64 0, .int .i64 0, .int .i64 0, .int .i64 0, .int .i64 0] 157) := ⟨_, rfl⟩
      rw [← hu4] at hx4 hb4 ⊢
      clear hu4 hbx
      refine left_alts [6] (by kernel_rfl) (fun i hi hS o ho => ?_)
      simp only [List.mem_cons, List.not_mem_nil, or_false] at hi
      subst hi
      simp only [List.getElem?_cons_zero, List.getElem?_cons_succ, Option.some.injEq] at ho
      subst ho
      refine ⟨rfl, ?_⟩
      refine oper_call (v := (.tuple #[rnAgg N, .bool B])) (R := fun w' => Below (u4).heap.size (u4) w') (by go_simp) (HPA.out _ hb4) ?_
      intro v5 hv5
      have hb5 := hb4.trans (hv5.mono hb4.size)
      refine ⟨hb5, ?_⟩
      simp only [Act.put, List.setIfInBounds_toArray, List.set_cons_zero, List.set_cons_succ]
      unfold rnAgg
      have hx5 := (hv5.block _ (Array.getElem?_eq_some_iff.1 hx4).1).trans hx4
      refine left_readE 7 rfl rfl (by kernel_rfl) ?_
      apply Exists.intro
      refine ⟨fun w' hw => ?_, ?_⟩
      · clear hw
        go_simp
        rfl
      simp only [Act.put, List.setIfInBounds_toArray, List.set_cons_zero, List.set_cons_succ]
      refine left_readE 8 rfl rfl (by kernel_rfl) ?_
      apply Exists.intro
      refine ⟨fun w' hw => ?_, ?_⟩
      · clear hw
        go_simp
        rfl
      simp only [Act.put, List.setIfInBounds_toArray, List.set_cons_zero, List.set_cons_succ]
      refine left_readE 9 rfl rfl (by kernel_rfl) ?_
      apply Exists.intro
      refine ⟨fun w' hw => ?_, ?_⟩
      · clear hw
        go_simp
        rfl
      simp only [Act.put, List.setIfInBounds_toArray, List.set_cons_zero, List.set_cons_succ]
      refine left_alts [11] (by kernel_rfl) (fun i hi hS o ho => ?_)
      simp only [List.mem_cons, List.not_mem_nil, or_false] at hi
      subst hi
      simp only [List.getElem?_cons_zero, List.getElem?_cons_succ, Option.some.injEq] at ho
      subst ho
      refine ⟨rfl, ?_⟩
      obtain ⟨e0, e1, e2, e3, e4, fz⟩ := cells5 hx5
      refine oper_store (w' := set5 v5 bx 0 N) rfl (run_storeNode (k := 0) fz e0 e1 e2 e3 e4 _ _ _ _ _) ?_
      have hbf : Below w.heap.size w (set5 v5 bx 0 N) := below_set5 hb5 hge N
      have hxf := set5_new hx5 N
      refine ⟨hbf, ?_⟩
      simp only [Act.put, List.setIfInBounds_toArray, List.set_cons_zero, List.set_cons_succ]
      clear e0 e1 e2 e3 e4 fz
      refine left_readE 12 rfl rfl (by kernel_rfl) ?_
      apply Exists.intro
      refine ⟨fun w' hw => ?_, ?_⟩
      · clear hw
        go_simp
        rfl
      simp only [Act.put, List.setIfInBounds_toArray, List.set_cons_zero, List.set_cons_succ]
      refine left_end (by kernel_rfl) ?_
      obtain rfl : B = false := HB.out
      have HBF := Lib.hid hbf
      obtain ⟨W3, hW3⟩ : ∃ W, W = set5 v5 bx 0 N := ⟨_, rfl⟩
      rw [← hW3] at HBF ⊢
      clear hW3 hbf hxf HPA HN HIS HC1 HB1 HB
      go_wp2_with fail
      go_ret
      exact HPOST.out _ HBF.out
  · skip
    simp only [List.getElem?_cons_zero, List.getElem?_cons_succ, Option.some.injEq] at ho
    subst ho
    refine ⟨rfl, ?_⟩
    have hb6 := (below_drewN HB1.out 1).trans ((below_new1 (w1.drew) (.cells #[.int .i64 0, .int .i64 0, .int .i64 0, .int .i64 0, .int .i64 0] 157)).mono (below_drewN HB1.out 1).size)
    have hx6 := heap_alloc_new (w1.drew) (.cells #[.int .i64 0, .int .i64 0, .int .i64 0, .int .i64 0, .int .i64 0] 157)
    have hge : w.heap.size ≤ (w1.drew).heap.size := (below_drewN HB1.out 1).size
    refine oper_value (v := .pointer (some ⟨(w1.drew).heap.size, 0, none⟩)) (w' := (w1.drew).alloc (.cells #[.int .i64 0, .int .i64 0, .int .i64 0, .int .i64 0, .int .i64 0] 157)) (by go_simp) ⟨hb6, ?_⟩
    simp only [Act.put, List.setIfInBounds_toArray, List.set_cons_zero, List.set_cons_succ]
    obtain ⟨bx, hbx⟩ : ∃ bx, bx = (w1.drew).heap.size := ⟨_, rfl⟩
    rw [← hbx] at hx6 hge ⊢
    obtain ⟨u6, hu6⟩ : ∃ u, u = (w1.drew).alloc (.cells #[.int .i64 0, .int .i64 0, .int .i64 0, .int .i64 0, .int .i64 0] 157) := ⟨_, rfl⟩
    rw [← hu6] at hx6 hb6 ⊢
    clear hu6 hbx
    refine left_alts [5] (by kernel_rfl) (fun i hi hS o ho => ?_)
    simp only [List.mem_cons, List.not_mem_nil, or_false] at hi
    subst hi
    simp only [List.getElem?_cons_zero, List.getElem?_cons_succ, Option.some.injEq] at ho
    subst ho
    refine ⟨rfl, ?_⟩
    refine oper_call (v := (.int .i64 k)) (R := fun w' => u6 = w') (by go_simp) (HN.out _) ?_
    rintro w' rfl
    refine ⟨hb6, ?_⟩
    simp only [Act.put, List.setIfInBounds_toArray, List.set_cons_zero, List.set_cons_succ]
    refine left_alts [6] (by kernel_rfl) (fun i hi hS o ho => ?_)
    simp only [List.mem_cons, List.not_mem_nil, or_false] at hi
    subst hi
    simp only [List.getElem?_cons_zero, List.getElem?_cons_succ, Option.some.injEq] at ho
    subst ho
    refine ⟨rfl, ?_⟩
    refine oper_call (v := (.tuple #[rnAgg N, .bool B])) (R := fun w' => Below (u6).heap.size (u6) w') (by go_simp) (HPA.out _ hb6) ?_
    intro v8 hv8
    have hb8 := hb6.trans (hv8.mono hb6.size)
    refine ⟨hb8, ?_⟩
    simp only [Act.put, List.setIfInBounds_toArray, List.set_cons_zero, List.set_cons_succ]
    unfold rnAgg
    have hx8 := (hv8.block _ (Array.getElem?_eq_some_iff.1 hx6).1).trans hx6
    refine left_readE 7 rfl rfl (by kernel_rfl) ?_
    apply Exists.intro
    refine ⟨fun w' hw => ?_, ?_⟩
    · clear hw
      go_simp
      rfl
    simp only [Act.put, List.setIfInBounds_toArray, List.set_cons_zero, List.set_cons_succ]
    refine left_readE 8 rfl rfl (by kernel_rfl) ?_
    apply Exists.intro
    refine ⟨fun w' hw => ?_, ?_⟩
    · clear hw
      go_simp
      rfl
    simp only [Act.put, List.setIfInBounds_toArray, List.set_cons_zero, List.set_cons_succ]
    refine left_readE 9 rfl rfl (by kernel_rfl) ?_
    apply Exists.intro
    refine ⟨fun w' hw => ?_, ?_⟩
    · clear hw
      go_simp
      rfl
    simp only [Act.put, List.setIfInBounds_toArray, List.set_cons_zero, List.set_cons_succ]
    refine left_alts [11] (by kernel_rfl) (fun i hi hS o ho => ?_)
    simp only [List.mem_cons, List.not_mem_nil, or_false] at hi
    subst hi
    simp only [List.getElem?_cons_zero, List.getElem?_cons_succ, Option.some.injEq] at ho
    subst ho
    refine ⟨rfl, ?_⟩
    obtain ⟨e0, e1, e2, e3, e4, fz⟩ := cells5 hx8
    refine oper_store (w' := set5 v8 bx 0 N) rfl (run_storeNode (k := 0) fz e0 e1 e2 e3 e4 _ _ _ _ _) ?_
    have hbf : Below w.heap.size w (set5 v8 bx 0 N) := below_set5 hb8 hge N
    have hxf := set5_new hx8 N
    refine ⟨hbf, ?_⟩
    simp only [Act.put, List.setIfInBounds_toArray, List.set_cons_zero, List.set_cons_succ]
    clear e0 e1 e2 e3 e4 fz
    refine left_readE 12 rfl rfl (by kernel_rfl) ?_
    apply Exists.intro
    refine ⟨fun w' hw => ?_, ?_⟩
    · clear hw
      go_simp
      rfl
    simp only [Act.put, List.setIfInBounds_toArray, List.set_cons_zero, List.set_cons_succ]
    refine left_end (by kernel_rfl) ?_
    obtain rfl : B = false := HB.out
    have HBF := Lib.hid hbf
    obtain ⟨W3, hW3⟩ : ∃ W, W = set5 v8 bx 0 N := ⟨_, rfl⟩
    rw [← hW3] at HBF ⊢
    clear hW3 hbf hxf HPA HN HIS HC1 HB1 HB
    go_wp2_with fail
    go_ret
    exact HPOST.out _ HBF.out
set_option maxRecDepth 100000 in
set_option maxHeartbeats 1600000 in
/-- At a node. -/
theorem storeHold_node {o : Own} {w : World} {sb : Nat} {d : StoreD} {s : StoreW} (h : StoreIn o w sb d s) (hlt : OwnLt o w) (hl : LiveC d (extOf d)) {rk : Nat → Nat} (ha : Acy (nodesOf d) rk) (f : Nat) {b : BN} (hx : nodesOf d (enode f) = some b)
    (htop : ∀ y b, nodesOf d y = some b → extOf d y < 1099511627776) :
    Calls Tryz.prog 125 #[.pointer (some ⟨sb, 0, none⟩), .int .i64 f] w (HoldPost o w sb d s f 1) := by
  obtain ⟨c0, c1, c2, c3, c4, f0⟩ := cells5 h.blk
  have lsb : sb < w.heap.size := lt_of_cell c0
  have hok : okE (nodesOf d) f := .inr ⟨b, hx⟩
  have hf : f < eMax := by have := h.edge_lt hok; unfold eMax; omega
  have hns := nodesOf_some hx
  have htl := h.tk_lt hx
  have hrf : (d.pool.nd (enode f)).refs < 1099511627776 := by have := htop _ _ hx; rw [extOf_node hns.1] at this; omega
  have hid : (d.pool.nd (enode f)).id = enode f := h.pool.id _ hns.1
  have hisv : (decide (enode f = 0) || d.pool.tk (enode f)) = true := by rw [hns.1]; simp
  have HIS : Hid (∀ W : World, Below w.heap.size w W → Calls Tryz.prog 87 #[.pointer (some ⟨sb, 0, none⟩), .int .i64 f] W fun x w' => x = .returned (.bool true) ∧ Below W.heap.size W w') := fun W hb => by
    have h1 := storeIs_any (h.below hlt hb) (hlt.mono hb.size) f hf
    rw [hisv] at h1
    exact h1
  have HPA : Hid (∀ W : World, Below w.heap.size w W → Calls Tryz.prog 123 #[.pointer (some ⟨s.pb, 0, none⟩), .int .i64 (enode f : Nat)] W fun x w' => x = .returned (.tuple #[rnAgg (d.pool.has (enode f)), .bool (d.pool.tk (enode f))]) ∧ Below W.heap.size W w') :=
    Lib.hid (fun W hb => poolAt_any o s.pb d.pool (enode f) W (h.pool.below hb hlt) (hlt.mono hb.size))
  have HC1 : Hid (∀ W : World, Below w.heap.size w W → W.cell? ⟨sb, 1, none⟩ = some (.pointer (some ⟨s.pb, 0, none⟩))) := Lib.hid (fun W hb => (hb.cell (p := ⟨sb, 1, none⟩) lsb).trans c1)
  have HN := Lib.hid (fun W => node_any f W hf)
  obtain ⟨r, hr⟩ : ∃ r, r = (d.pool.nd (enode f)).refs := ⟨_, rfl⟩
  skip
  have HSET : Hid (∀ W : World, Below w.heap.size w W → Calls Tryz.prog 140 #[.pointer (some ⟨s.pb, 0, none⟩), rnAgg ((d.pool.nd (enode f)).ref (r + 1))] W fun x w' => x = .returned (.int .i64 0) ∧ StoreIn o w' sb { d with pool := d.pool.setNd (enode f) ((d.pool.nd (enode f)).ref (r + 1)) } s ∧ Chg RStore o o w w' ∧ OwnLt o w') := fun W hb => by
    have hi' : d.pool.tk ((d.pool.nd (enode f)).ref (r + 1)).id = true := by show d.pool.tk (d.pool.nd (enode f)).id = true; rw [hid]; exact hns.1
    refine (poolSet_any o s.pb d.pool ((d.pool.nd (enode f)).ref (r + 1)) W (h.pool.below hb hlt) (hlt.mono hb.size) hi').mono ?_
    rintro e w' ⟨rfl, hp, hc, hl'⟩
    have e1 : ((d.pool.nd (enode f)).ref (r + 1)).id = enode f := hid
    rw [e1] at hp
    exact ⟨rfl, (h.below hlt hb).setPool (hlt.mono hb.size) hp (hc.mono (fun r hr => by simp [RPool, hr])), (Chg.of_below hb _ _).trans (hc.mono rslots_store), hl'⟩
  have HMORE : Hid (∀ (W : World), StoreIn o W sb { d with pool := d.pool.setNd (enode f) ((d.pool.nd (enode f)).ref (r + 1)) } s → OwnLt o W → Chg RStore o o w W →
      Calls Tryz.prog 139 #[.pointer (some ⟨sb, 0, none⟩), .int .i64 f] W fun e w' => e = .returned (.tuple #[]) ∧ HoldPost o w sb d s f 1 (.returned (.int .i64 0)) w') := fun W hs hl' hch => by
    have hnd := setRef_nodes (d := d) (k := r + 1) htl.2.1 hns.1
    refine (storeMore_any o sb s rk (rk (enode f) + 1) W _ (extOf d) f ⟨hs, hl', by rw [hnd]; exact ha, by rw [hnd]; exact hok, setRef_live htl.2.1 hns.1 hl, fun y q hq => (by
      rw [hnd] at hq
      have h1 := htop y q hq
      have h2 : toE f y ≤ 1 := by unfold toE; split <;> omega
      omega), .inr (Nat.lt_succ_self _)⟩).mono ?_
    rintro e w' ⟨cs, dd, rfl, hs2, hl2, hcl, _, _, hc2⟩
    refine ⟨rfl, _, rfl, hs2, hl'.mono hc2.size, ⟨rfl, rfl, rfl, hnd, rfl, rfl, rfl, by simp [StoreD.cd, PoolD.setNd], hcl, fun i hi => ?_, hl2.congr (fun y b' hb' => ?_)⟩, hch.trans (hc2.mono rcnt_store)⟩
    · show extOf { d with pool := d.pool.setNd (enode f) ((d.pool.nd (enode f)).ref (r + 1)) } i = _
      rw [setRef_ext htl.2.1 hns.1]
      dsimp only
      unfold toE
      by_cases e : i = enode f
      · have e' : f / 2 = i := e.symm
        rw [if_pos e, if_pos e', e, extOf_node hns.1, ← hr]; omega
      · have e' : ¬ f / 2 = i := fun h' => e h'.symm
        rw [if_neg e, if_neg e']; omega
    · show extOf { d with pool := d.pool.setNd (enode f) ((d.pool.nd (enode f)).ref (r + 1)) } y = _
      rw [setRef_ext htl.2.1 hns.1]
      dsimp only
      unfold addE toE
      by_cases e : y = enode f
      · have e' : f / 2 = y := e.symm
        rw [if_pos e, if_pos e', e, extOf_node hns.1, ← hr]; omega
      · have e' : ¬ f / 2 = y := fun h' => e h'.symm
        rw [if_neg e, if_neg e']; omega
  have hNn : d.pool.has (enode f) = d.pool.nd (enode f) := hns.2.1
  rw [hNn] at HPA
  have HREF : Hid (rnAgg ((d.pool.nd (enode f)).ref (r + 1)) = .agg #[.int .i64 (d.pool.nd (enode f)).id, .int .i64 (d.pool.nd (enode f)).v, .int .i64 (d.pool.nd (enode f)).lo, .int .i64 (d.pool.nd (enode f)).hi, .int .i64 ((r : Int) + 1)]) := by
    show _ = _
    unfold rnAgg RN.ref
    dsimp only
    rw [show ((r + 1 : Nat) : Int) = (r : Int) + 1 from by omega]
  rw [hns.1] at HPA
  rw [← hr] at hrf
  obtain ⟨N, hN⟩ : ∃ N, N = d.pool.nd (enode f) := ⟨_, rfl⟩
  have hNr : N.refs = r := by rw [hN, hr]
  rw [← hN] at HPA HREF HSET HMORE
  obtain ⟨B, hB⟩ : ∃ B, B = true := ⟨_, rfl⟩
  rw [← hB] at HPA
  obtain ⟨k, hk⟩ : ∃ k, k = enode f := ⟨_, rfl⟩
  rw [← hk] at HPA HN
  have HBT := Lib.hid hB
  have HNR := Lib.hid hNr
  have HW0 := Lib.hid hk
  clear h hlt hl ha hx htop hf hns hisv htl hid hr hNn hN hB hk hok c0 c1 c2 c3 c4 f0 lsb hNr
  go_enter Tryz.func125, Tryz.ntmps125
  go_wp2_with fail
  refine (HIS.out _ (Below.refl _ _)).mono ?_
  rintro x w1 ⟨rfl, hb1⟩
  have HB1 := Lib.hid hb1
  clear hb1 HIS
  go_upto_region 5 with fail
  refine wp_region_left (fun W : World => Below w.heap.size w W) 13 (by kernel_rfl) (below_drewN HB1.out 1) ?_
  refine left_readE 0 rfl rfl (by kernel_rfl) ?_
  apply Exists.intro
  refine ⟨fun w' hw => ?_, ?_⟩
  · have hc1 := HC1.out w' hw
    go_simp
    rfl
  simp only [Act.put, List.setIfInBounds_toArray, List.set_cons_zero, List.set_cons_succ]
  refine left_readE 1 rfl rfl (by kernel_rfl) ?_
  apply Exists.intro
  refine ⟨fun w' hw => ?_, ?_⟩
  · have hc1 := HC1.out w' hw
    go_simp
    rfl
  simp only [Act.put, List.setIfInBounds_toArray, List.set_cons_zero, List.set_cons_succ]
  refine left_readE 2 rfl rfl (by kernel_rfl) ?_
  apply Exists.intro
  refine ⟨fun w' hw => ?_, ?_⟩
  · have hc1 := HC1.out w' hw
    go_simp
    rfl
  simp only [Act.put, List.setIfInBounds_toArray, List.set_cons_zero, List.set_cons_succ]
  refine left_readE 3 rfl rfl (by kernel_rfl) ?_
  apply Exists.intro
  refine ⟨fun w' hw => ?_, ?_⟩
  · have hc1 := HC1.out w' hw
    go_simp
    rfl
  simp only [Act.put, List.setIfInBounds_toArray, List.set_cons_zero, List.set_cons_succ]
  refine left_readE 4 rfl rfl (by kernel_rfl) ?_
  apply Exists.intro
  refine ⟨fun w' hw => ?_, ?_⟩
  · have hc1 := HC1.out w' hw
    go_simp
    rfl
  simp only [Act.put, List.setIfInBounds_toArray, List.set_cons_zero, List.set_cons_succ]
  refine left_alts [5, 10] (by kernel_rfl) (fun i hi hS o ho => ?_)
  simp only [List.mem_cons, List.not_mem_nil, or_false] at hi
  rcases hi with rfl | rfl
  · skip
    simp only [List.getElem?_cons_zero, List.getElem?_cons_succ, Option.some.injEq] at ho
    subst ho
    refine ⟨rfl, ?_⟩
    refine oper_call (v := (.int .i64 k)) (R := fun w' => w1.drew = w') (by go_simp) (HN.out _) ?_
    rintro w' rfl
    refine ⟨(below_drewN HB1.out 1), ?_⟩
    simp only [Act.put, List.setIfInBounds_toArray, List.set_cons_zero, List.set_cons_succ]
    refine left_alts [6, 10] (by kernel_rfl) (fun i hi hS o ho => ?_)
    simp only [List.mem_cons, List.not_mem_nil, or_false] at hi
    rcases hi with rfl | rfl
    · skip
      simp only [List.getElem?_cons_zero, List.getElem?_cons_succ, Option.some.injEq] at ho
      subst ho
      refine ⟨rfl, ?_⟩
      refine oper_call (v := (.tuple #[rnAgg N, .bool B])) (R := fun w' => Below (w1.drew).heap.size (w1.drew) w') (by go_simp) (HPA.out _ (below_drewN HB1.out 1)) ?_
      intro v2 hv2
      have hb2 := (below_drewN HB1.out 1).trans (hv2.mono (below_drewN HB1.out 1).size)
      refine ⟨hb2, ?_⟩
      simp only [Act.put, List.setIfInBounds_toArray, List.set_cons_zero, List.set_cons_succ]
      unfold rnAgg
      refine left_readE 7 rfl rfl (by kernel_rfl) ?_
      apply Exists.intro
      refine ⟨fun w' hw => ?_, ?_⟩
      · clear hw
        go_simp
        rfl
      simp only [Act.put, List.setIfInBounds_toArray, List.set_cons_zero, List.set_cons_succ]
      refine left_readE 8 rfl rfl (by kernel_rfl) ?_
      apply Exists.intro
      refine ⟨fun w' hw => ?_, ?_⟩
      · clear hw
        go_simp
        rfl
      simp only [Act.put, List.setIfInBounds_toArray, List.set_cons_zero, List.set_cons_succ]
      refine left_readE 9 rfl rfl (by kernel_rfl) ?_
      apply Exists.intro
      refine ⟨fun w' hw => ?_, ?_⟩
      · clear hw
        go_simp
        rfl
      simp only [Act.put, List.setIfInBounds_toArray, List.set_cons_zero, List.set_cons_succ]
      refine left_alts [10] (by kernel_rfl) (fun i hi hS o ho => ?_)
      simp only [List.mem_cons, List.not_mem_nil, or_false] at hi
      subst hi
      simp only [List.getElem?_cons_zero, List.getElem?_cons_succ, Option.some.injEq] at ho
      subst ho
      refine ⟨rfl, ?_⟩
      have hb3 := hb2.trans ((below_new1 (v2) (.cells #[.int .i64 0, .int .i64 0, .int .i64 0, .int .i64 0, .int .i64 0] 157)).mono hb2.size)
      have hx3 := heap_alloc_new (v2) (.cells #[.int .i64 0, .int .i64 0, .int .i64 0, .int .i64 0, .int .i64 0] 157)
      have hge : w.heap.size ≤ (v2).heap.size := hb2.size
      refine oper_value (v := .pointer (some ⟨(v2).heap.size, 0, none⟩)) (w' := (v2).alloc (.cells #[.int .i64 0, .int .i64 0, .int .i64 0, .int .i64 0, .int .i64 0] 157)) (by go_simp) ⟨hb3, ?_⟩
      simp only [Act.put, List.setIfInBounds_toArray, List.set_cons_zero, List.set_cons_succ]
      obtain ⟨bx, hbx⟩ : ∃ bx, bx = (v2).heap.size := ⟨_, rfl⟩
      rw [← hbx] at hx3 hge ⊢
      obtain ⟨u3, hu3⟩ : ∃ u, u = (v2).alloc (.cells #[.int .i64 0, .int .i64 0, .int .i64 0, .int .i64 0, .int .i64 0] 157) := ⟨_, rfl⟩
      rw [← hu3] at hx3 hb3 ⊢
      clear hu3 hbx
      refine left_alts [11] (by kernel_rfl) (fun i hi hS o ho => ?_)
      simp only [List.mem_cons, List.not_mem_nil, or_false] at hi
      subst hi
      simp only [List.getElem?_cons_zero, List.getElem?_cons_succ, Option.some.injEq] at ho
      subst ho
      refine ⟨rfl, ?_⟩
      obtain ⟨e0, e1, e2, e3, e4, fz⟩ := cells5 hx3
      refine oper_store (w' := set5 u3 bx 0 N) rfl (run_storeNode (k := 0) fz e0 e1 e2 e3 e4 _ _ _ _ _) ?_
      have hbf : Below w.heap.size w (set5 u3 bx 0 N) := below_set5 hb3 hge N
      have hxf := set5_new hx3 N
      refine ⟨hbf, ?_⟩
      simp only [Act.put, List.setIfInBounds_toArray, List.set_cons_zero, List.set_cons_succ]
      clear e0 e1 e2 e3 e4 fz
      refine left_readE 12 rfl rfl (by kernel_rfl) ?_
      apply Exists.intro
      refine ⟨fun w' hw => ?_, ?_⟩
      · clear hw
        go_simp
        rfl
      simp only [Act.put, List.setIfInBounds_toArray, List.set_cons_zero, List.set_cons_succ]
      refine left_end (by kernel_rfl) ?_
      obtain rfl : B = true := HBT.out
      have hxf' := hxf
      rw [HNR.out] at hxf'
      have HXF := Lib.hid hxf'
      have HBF := Lib.hid hbf
      obtain ⟨y0, y1, y2, y3, y4, yz⟩ := cells5 hxf'
      obtain ⟨W3, hW3⟩ : ∃ W, W = set5 u3 bx 0 N := ⟨_, rfl⟩
      rw [← hW3] at y0 y1 y2 y3 y4 yz HXF HBF ⊢
      clear hW3 hxf hxf' hbf HNR HPA HN HBT
      go_upto_region 8 with fail
      have hxz := heap_setCell_same (k := 4) HXF.out (.int .i64 ((r : Int) + 1))
      have hbz : Below w.heap.size w (W3.setCell ⟨bx, 4, none⟩ (.int .i64 ((r : Int) + 1))) := HBF.out.setCell (p := ⟨bx, 4, none⟩) hge _
      obtain ⟨W4, hW4⟩ : ∃ W, W = W3.setCell ⟨bx, 4, none⟩ (.int .i64 ((r : Int) + 1)) := ⟨_, rfl⟩
      rw [← hW4] at hxz hbz ⊢
      clear hW4 HXF HBF y0 y1 y2 y3 y4 yz
      simp at hxz
      obtain ⟨z0, z1, z2, z3, z4, zz⟩ := cells5 hxz
      have hc1 := HC1.out _ hbz
      refine wp_region_mix (fun w' => w' = W4.drew) true 5 [(0, false), (1, false), (2, false), (3, false), (4, false), (5, true)] (by kernel_rfl) (by kernel_rfl) rfl ?_
      simp only [planned, List.map_cons, List.map_nil, List.getElem?_cons_succ, List.getElem?_cons_zero]
      iterate 5
        refine mix_readE rfl ?_
        apply Exists.intro
        refine ⟨fun w' hw => ?_, ?_⟩
        · subst hw
          go_simp
          rfl
        simp only [Act.put, List.setIfInBounds_toArray, List.set_cons_zero, List.set_cons_succ]
      refine mix_last rfl (fun K hK => ?_)
      unfold Oper.wp
      go_simp
      rw [← HREF.out]
      refine (HSET.out _ (below_drewN hbz 1)).mono ?_
      rintro x w5 ⟨rfl, hs5, hc5, hl5⟩
      refine hK _ _ (np_normal ?_)
      have HS5 := Lib.hid hs5
      have HC5 := Lib.hid hc5
      have HL5 := Lib.hid hl5
      clear hs5 hc5 hl5 hxz hbz z0 z1 z2 z3 z4 zz hc1
      go_wp2_with fail
      refine (HMORE.out _ HS5.out HL5.out HC5.out).mono ?_
      rintro x w6 ⟨rfl, hp⟩
      have HP := Lib.hid hp
      clear hp
      go_wp2_with fail
      go_ret
      exact HP.out
    · skip
      simp only [List.getElem?_cons_zero, List.getElem?_cons_succ, Option.some.injEq] at ho
      subst ho
      refine ⟨rfl, ?_⟩
      have hb4 := (below_drewN HB1.out 1).trans ((below_new1 (w1.drew) (.cells #[.int .i64 0, .int .i64 0, .int .i64 0, .int .i64 0, .int .i64 0] 157)).mono (below_drewN HB1.out 1).size)
      have hx4 := heap_alloc_new (w1.drew) (.cells #[.int .i64 0, .int .i64 0, .int .i64 0, .int .i64 0, .int .i64 0] 157)
      have hge : w.heap.size ≤ (w1.drew).heap.size := (below_drewN HB1.out 1).size
      refine oper_value (v := .pointer (some ⟨(w1.drew).heap.size, 0, none⟩)) (w' := (w1.drew).alloc (.cells #[.int .i64 0, .int .i64 0, .int .i64 0, .int .i64 0, .int .i64 0] 157)) (by go_simp) ⟨hb4, ?_⟩
      simp only [Act.put, List.setIfInBounds_toArray, List.set_cons_zero, List.set_cons_succ]
      obtain ⟨bx, hbx⟩ : ∃ bx, bx = (w1.drew).heap.size := ⟨_, rfl⟩
      rw [← hbx] at hx4 hge ⊢
      obtain ⟨u4, hu4⟩ : ∃ u, u = (w1.drew).alloc (.cells #[.int .i64 0, .int .i64 0, .int .i64 0, .int .i64 0, .int .i64 0] 157) := ⟨_, rfl⟩
      rw [← hu4] at hx4 hb4 ⊢
      clear hu4 hbx
      refine left_alts [6] (by kernel_rfl) (fun i hi hS o ho => ?_)
      simp only [List.mem_cons, List.not_mem_nil, or_false] at hi
      subst hi
      simp only [List.getElem?_cons_zero, List.getElem?_cons_succ, Option.some.injEq] at ho
      subst ho
      refine ⟨rfl, ?_⟩
      refine oper_call (v := (.tuple #[rnAgg N, .bool B])) (R := fun w' => Below (u4).heap.size (u4) w') (by go_simp) (HPA.out _ hb4) ?_
      intro v5 hv5
      have hb5 := hb4.trans (hv5.mono hb4.size)
      refine ⟨hb5, ?_⟩
      simp only [Act.put, List.setIfInBounds_toArray, List.set_cons_zero, List.set_cons_succ]
      unfold rnAgg
      have hx5 := (hv5.block _ (Array.getElem?_eq_some_iff.1 hx4).1).trans hx4
      refine left_readE 7 rfl rfl (by kernel_rfl) ?_
      apply Exists.intro
      refine ⟨fun w' hw => ?_, ?_⟩
      · clear hw
        go_simp
        rfl
      simp only [Act.put, List.setIfInBounds_toArray, List.set_cons_zero, List.set_cons_succ]
      refine left_readE 8 rfl rfl (by kernel_rfl) ?_
      apply Exists.intro
      refine ⟨fun w' hw => ?_, ?_⟩
      · clear hw
        go_simp
        rfl
      simp only [Act.put, List.setIfInBounds_toArray, List.set_cons_zero, List.set_cons_succ]
      refine left_readE 9 rfl rfl (by kernel_rfl) ?_
      apply Exists.intro
      refine ⟨fun w' hw => ?_, ?_⟩
      · clear hw
        go_simp
        rfl
      simp only [Act.put, List.setIfInBounds_toArray, List.set_cons_zero, List.set_cons_succ]
      refine left_alts [11] (by kernel_rfl) (fun i hi hS o ho => ?_)
      simp only [List.mem_cons, List.not_mem_nil, or_false] at hi
      subst hi
      simp only [List.getElem?_cons_zero, List.getElem?_cons_succ, Option.some.injEq] at ho
      subst ho
      refine ⟨rfl, ?_⟩
      obtain ⟨e0, e1, e2, e3, e4, fz⟩ := cells5 hx5
      refine oper_store (w' := set5 v5 bx 0 N) rfl (run_storeNode (k := 0) fz e0 e1 e2 e3 e4 _ _ _ _ _) ?_
      have hbf : Below w.heap.size w (set5 v5 bx 0 N) := below_set5 hb5 hge N
      have hxf := set5_new hx5 N
      refine ⟨hbf, ?_⟩
      simp only [Act.put, List.setIfInBounds_toArray, List.set_cons_zero, List.set_cons_succ]
      clear e0 e1 e2 e3 e4 fz
      refine left_readE 12 rfl rfl (by kernel_rfl) ?_
      apply Exists.intro
      refine ⟨fun w' hw => ?_, ?_⟩
      · clear hw
        go_simp
        rfl
      simp only [Act.put, List.setIfInBounds_toArray, List.set_cons_zero, List.set_cons_succ]
      refine left_end (by kernel_rfl) ?_
      obtain rfl : B = true := HBT.out
      have hxf' := hxf
      rw [HNR.out] at hxf'
      have HXF := Lib.hid hxf'
      have HBF := Lib.hid hbf
      obtain ⟨y0, y1, y2, y3, y4, yz⟩ := cells5 hxf'
      obtain ⟨W3, hW3⟩ : ∃ W, W = set5 v5 bx 0 N := ⟨_, rfl⟩
      rw [← hW3] at y0 y1 y2 y3 y4 yz HXF HBF ⊢
      clear hW3 hxf hxf' hbf HNR HPA HN HBT
      go_upto_region 8 with fail
      have hxz := heap_setCell_same (k := 4) HXF.out (.int .i64 ((r : Int) + 1))
      have hbz : Below w.heap.size w (W3.setCell ⟨bx, 4, none⟩ (.int .i64 ((r : Int) + 1))) := HBF.out.setCell (p := ⟨bx, 4, none⟩) hge _
      obtain ⟨W4, hW4⟩ : ∃ W, W = W3.setCell ⟨bx, 4, none⟩ (.int .i64 ((r : Int) + 1)) := ⟨_, rfl⟩
      rw [← hW4] at hxz hbz ⊢
      clear hW4 HXF HBF y0 y1 y2 y3 y4 yz
      simp at hxz
      obtain ⟨z0, z1, z2, z3, z4, zz⟩ := cells5 hxz
      have hc1 := HC1.out _ hbz
      refine wp_region_mix (fun w' => w' = W4.drew) true 5 [(0, false), (1, false), (2, false), (3, false), (4, false), (5, true)] (by kernel_rfl) (by kernel_rfl) rfl ?_
      simp only [planned, List.map_cons, List.map_nil, List.getElem?_cons_succ, List.getElem?_cons_zero]
      iterate 5
        refine mix_readE rfl ?_
        apply Exists.intro
        refine ⟨fun w' hw => ?_, ?_⟩
        · subst hw
          go_simp
          rfl
        simp only [Act.put, List.setIfInBounds_toArray, List.set_cons_zero, List.set_cons_succ]
      refine mix_last rfl (fun K hK => ?_)
      unfold Oper.wp
      go_simp
      rw [← HREF.out]
      refine (HSET.out _ (below_drewN hbz 1)).mono ?_
      rintro x w5 ⟨rfl, hs5, hc5, hl5⟩
      refine hK _ _ (np_normal ?_)
      have HS5 := Lib.hid hs5
      have HC5 := Lib.hid hc5
      have HL5 := Lib.hid hl5
      clear hs5 hc5 hl5 hxz hbz z0 z1 z2 z3 z4 zz hc1
      go_wp2_with fail
      refine (HMORE.out _ HS5.out HL5.out HC5.out).mono ?_
      rintro x w6 ⟨rfl, hp⟩
      have HP := Lib.hid hp
      clear hp
      go_wp2_with fail
      go_ret
      exact HP.out
  · skip
    simp only [List.getElem?_cons_zero, List.getElem?_cons_succ, Option.some.injEq] at ho
    subst ho
    refine ⟨rfl, ?_⟩
    have hb6 := (below_drewN HB1.out 1).trans ((below_new1 (w1.drew) (.cells #[.int .i64 0, .int .i64 0, .int .i64 0, .int .i64 0, .int .i64 0] 157)).mono (below_drewN HB1.out 1).size)
    have hx6 := heap_alloc_new (w1.drew) (.cells #[.int .i64 0, .int .i64 0, .int .i64 0, .int .i64 0, .int .i64 0] 157)
    have hge : w.heap.size ≤ (w1.drew).heap.size := (below_drewN HB1.out 1).size
    refine oper_value (v := .pointer (some ⟨(w1.drew).heap.size, 0, none⟩)) (w' := (w1.drew).alloc (.cells #[.int .i64 0, .int .i64 0, .int .i64 0, .int .i64 0, .int .i64 0] 157)) (by go_simp) ⟨hb6, ?_⟩
    simp only [Act.put, List.setIfInBounds_toArray, List.set_cons_zero, List.set_cons_succ]
    obtain ⟨bx, hbx⟩ : ∃ bx, bx = (w1.drew).heap.size := ⟨_, rfl⟩
    rw [← hbx] at hx6 hge ⊢
    obtain ⟨u6, hu6⟩ : ∃ u, u = (w1.drew).alloc (.cells #[.int .i64 0, .int .i64 0, .int .i64 0, .int .i64 0, .int .i64 0] 157) := ⟨_, rfl⟩
    rw [← hu6] at hx6 hb6 ⊢
    clear hu6 hbx
    refine left_alts [5] (by kernel_rfl) (fun i hi hS o ho => ?_)
    simp only [List.mem_cons, List.not_mem_nil, or_false] at hi
    subst hi
    simp only [List.getElem?_cons_zero, List.getElem?_cons_succ, Option.some.injEq] at ho
    subst ho
    refine ⟨rfl, ?_⟩
    refine oper_call (v := (.int .i64 k)) (R := fun w' => u6 = w') (by go_simp) (HN.out _) ?_
    rintro w' rfl
    refine ⟨hb6, ?_⟩
    simp only [Act.put, List.setIfInBounds_toArray, List.set_cons_zero, List.set_cons_succ]
    refine left_alts [6] (by kernel_rfl) (fun i hi hS o ho => ?_)
    simp only [List.mem_cons, List.not_mem_nil, or_false] at hi
    subst hi
    simp only [List.getElem?_cons_zero, List.getElem?_cons_succ, Option.some.injEq] at ho
    subst ho
    refine ⟨rfl, ?_⟩
    refine oper_call (v := (.tuple #[rnAgg N, .bool B])) (R := fun w' => Below (u6).heap.size (u6) w') (by go_simp) (HPA.out _ hb6) ?_
    intro v8 hv8
    have hb8 := hb6.trans (hv8.mono hb6.size)
    refine ⟨hb8, ?_⟩
    simp only [Act.put, List.setIfInBounds_toArray, List.set_cons_zero, List.set_cons_succ]
    unfold rnAgg
    have hx8 := (hv8.block _ (Array.getElem?_eq_some_iff.1 hx6).1).trans hx6
    refine left_readE 7 rfl rfl (by kernel_rfl) ?_
    apply Exists.intro
    refine ⟨fun w' hw => ?_, ?_⟩
    · clear hw
      go_simp
      rfl
    simp only [Act.put, List.setIfInBounds_toArray, List.set_cons_zero, List.set_cons_succ]
    refine left_readE 8 rfl rfl (by kernel_rfl) ?_
    apply Exists.intro
    refine ⟨fun w' hw => ?_, ?_⟩
    · clear hw
      go_simp
      rfl
    simp only [Act.put, List.setIfInBounds_toArray, List.set_cons_zero, List.set_cons_succ]
    refine left_readE 9 rfl rfl (by kernel_rfl) ?_
    apply Exists.intro
    refine ⟨fun w' hw => ?_, ?_⟩
    · clear hw
      go_simp
      rfl
    simp only [Act.put, List.setIfInBounds_toArray, List.set_cons_zero, List.set_cons_succ]
    refine left_alts [11] (by kernel_rfl) (fun i hi hS o ho => ?_)
    simp only [List.mem_cons, List.not_mem_nil, or_false] at hi
    subst hi
    simp only [List.getElem?_cons_zero, List.getElem?_cons_succ, Option.some.injEq] at ho
    subst ho
    refine ⟨rfl, ?_⟩
    obtain ⟨e0, e1, e2, e3, e4, fz⟩ := cells5 hx8
    refine oper_store (w' := set5 v8 bx 0 N) rfl (run_storeNode (k := 0) fz e0 e1 e2 e3 e4 _ _ _ _ _) ?_
    have hbf : Below w.heap.size w (set5 v8 bx 0 N) := below_set5 hb8 hge N
    have hxf := set5_new hx8 N
    refine ⟨hbf, ?_⟩
    simp only [Act.put, List.setIfInBounds_toArray, List.set_cons_zero, List.set_cons_succ]
    clear e0 e1 e2 e3 e4 fz
    refine left_readE 12 rfl rfl (by kernel_rfl) ?_
    apply Exists.intro
    refine ⟨fun w' hw => ?_, ?_⟩
    · clear hw
      go_simp
      rfl
    simp only [Act.put, List.setIfInBounds_toArray, List.set_cons_zero, List.set_cons_succ]
    refine left_end (by kernel_rfl) ?_
    obtain rfl : B = true := HBT.out
    have hxf' := hxf
    rw [HNR.out] at hxf'
    have HXF := Lib.hid hxf'
    have HBF := Lib.hid hbf
    obtain ⟨y0, y1, y2, y3, y4, yz⟩ := cells5 hxf'
    obtain ⟨W3, hW3⟩ : ∃ W, W = set5 v8 bx 0 N := ⟨_, rfl⟩
    rw [← hW3] at y0 y1 y2 y3 y4 yz HXF HBF ⊢
    clear hW3 hxf hxf' hbf HNR HPA HN HBT
    go_upto_region 8 with fail
    have hxz := heap_setCell_same (k := 4) HXF.out (.int .i64 ((r : Int) + 1))
    have hbz : Below w.heap.size w (W3.setCell ⟨bx, 4, none⟩ (.int .i64 ((r : Int) + 1))) := HBF.out.setCell (p := ⟨bx, 4, none⟩) hge _
    obtain ⟨W4, hW4⟩ : ∃ W, W = W3.setCell ⟨bx, 4, none⟩ (.int .i64 ((r : Int) + 1)) := ⟨_, rfl⟩
    rw [← hW4] at hxz hbz ⊢
    clear hW4 HXF HBF y0 y1 y2 y3 y4 yz
    simp at hxz
    obtain ⟨z0, z1, z2, z3, z4, zz⟩ := cells5 hxz
    have hc1 := HC1.out _ hbz
    refine wp_region_mix (fun w' => w' = W4.drew) true 5 [(0, false), (1, false), (2, false), (3, false), (4, false), (5, true)] (by kernel_rfl) (by kernel_rfl) rfl ?_
    simp only [planned, List.map_cons, List.map_nil, List.getElem?_cons_succ, List.getElem?_cons_zero]
    iterate 5
      refine mix_readE rfl ?_
      apply Exists.intro
      refine ⟨fun w' hw => ?_, ?_⟩
      · subst hw
        go_simp
        rfl
      simp only [Act.put, List.setIfInBounds_toArray, List.set_cons_zero, List.set_cons_succ]
    refine mix_last rfl (fun K hK => ?_)
    unfold Oper.wp
    go_simp
    rw [← HREF.out]
    refine (HSET.out _ (below_drewN hbz 1)).mono ?_
    rintro x w5 ⟨rfl, hs5, hc5, hl5⟩
    refine hK _ _ (np_normal ?_)
    have HS5 := Lib.hid hs5
    have HC5 := Lib.hid hc5
    have HL5 := Lib.hid hl5
    clear hs5 hc5 hl5 hxz hbz z0 z1 z2 z3 z4 zz hc1
    go_wp2_with fail
    refine (HMORE.out _ HS5.out HL5.out HC5.out).mono ?_
    rintro x w6 ⟨rfl, hp⟩
    have HP := Lib.hid hp
    clear hp
    go_wp2_with fail
    go_ret
    exact HP.out

end Go.Proofs.YtchliiaknmknhaaGreat
