/- Several texts in one file. The pool's iterators. The pool's Each, which ranges over ids. The law DdNone: its walk. -/
import Derived.Test.YtchliiaknmknhaaGreatM7
set_option linter.unusedSimpArgs false
set_option linter.unusedVariables false
set_option linter.unusedSectionVars false
set_option linter.unnecessarySimpa false

-- Iter
namespace Go.Proofs.YtchliiaknmknhaaGreat
open Go.RowKit Go.Shelf

attribute [local go_sem] Oper.semAt_some

/-- The slots in use among the first k. -/
def takenU (p : PoolD) (k : Nat) : List Nat := (List.range k).filter p.tk
def takenL (p : PoolD) : List Nat := takenU p p.at_.length
theorem takenU_yes {p : PoolD} {k : Nat} (h : p.tk k = true) : takenU p (k + 1) = takenU p k ++ [k] := by
  unfold takenU; rw [List.range_succ, List.filter_append]; simp [h]
theorem takenU_no {p : PoolD} {k : Nat} (h : p.tk k = false) : takenU p (k + 1) = takenU p k := by
  unfold takenU; rw [List.range_succ, List.filter_append]; simp [h]
theorem takenU_pre (p : PoolD) {k m : Nat} : k ≤ m → ∃ suf, takenU p k ++ suf = takenU p m := by
  induction m with
  | zero => intro h; obtain rfl : k = 0 := by omega
            exact ⟨[], by simp⟩
  | succ m ih =>
    intro h
    by_cases e : k = m + 1
    · subst e; exact ⟨[], by simp⟩
    · obtain ⟨suf, hs⟩ := ih (by omega)
      cases h2 : p.tk m with
      | false => exact ⟨suf, by rw [takenU_no h2]; exact hs⟩
      | true => exact ⟨suf ++ [m], by rw [takenU_yes h2, ← hs, List.append_assoc]⟩
theorem takenU_suf {p : PoolD} {k : Nat} (h : p.tk k = true) (hk : k < p.at_.length) : ∃ suf, takenU p k ++ k :: suf = takenL p := by
  obtain ⟨suf, hs⟩ := takenU_pre p (k := k + 1) (m := p.at_.length) (by omega)
  rw [takenU_yes h, List.append_assoc] at hs
  exact ⟨suf, hs⟩
theorem mem_takenL {p : PoolD} {pre suf : List Nat} {x : Nat} (h : pre ++ x :: suf = takenL p) : p.tk x = true := by
  have : x ∈ takenL p := by rw [← h]; simp
  exact (List.mem_filter.1 this).2

/-- What an iterator over the pool keeps in sight: the pool, its own box. -/
structure ItS (n₀ : Nat) (o : Own) (w0 : World) (pb : Nat) (p : PoolD) (Bp : Nat) (M0 M : Nat → Prop) (W0 W : World) : Prop where
  low : Below n₀ w0 W
  box : W.cell? ⟨Bp, 0, none⟩ = some (.pointer (some ⟨pb, 0, none⟩))
  wr : Wr (fun k => n₀ ≤ k) W0 W
  sub : ∀ k, M k → M0 k ∨ W0.heap.size ≤ k
  nb : ¬ M Bp
theorem ItS.go {n₀ : Nat} {o : Own} {w0 : World} {pb : Nat} {p : PoolD} {Bp : Nat} {M0 M M' : Nat → Prop} {W0 W W' : World} (h : ItS n₀ o w0 pb p Bp M0 M W0 W) (hn : n₀ ≤ W0.heap.size) (hge : ∀ k, M k → n₀ ≤ k) (hw : Wr M W W')
    (hM : ∀ k, M' k → M k ∨ W.heap.size ≤ k) : ItS n₀ o w0 pb p Bp M0 M' W0 W' := by
  have hs := h.wr.size
  have hb := lt_of_cell h.box
  refine ⟨h.low.trans (hw.below hge (by omega)), ?_, h.wr.trans hw (fun _ _ h => h) (fun k _ hk => hge k hk), fun k hk => ?_, fun e => ?_⟩
  · exact (World.cell?_of_block (w := W) (a := ⟨Bp, 0, none⟩) (hw.keep Bp hb h.nb)).trans h.box
  · rcases hM k hk with h1 | h1
    · exact h.sub k h1
    · right; omega
  · rcases hM Bp e with h1 | h1
    · exact h.nb h1
    · have hb' : Bp < W.heap.size := hb
      omega
set_option maxRecDepth 100000 in
set_option maxHeartbeats 2000000 in
theorem ids1_gives (F : Fence) (n : Nat) (hF : F.fn 169) (hro : F.round = none) (hn : 1 ≤ n) (Bp n₀ pb : Nat) {o : Own} {w0 : World} {p : PoolD} (hp : PoolAt o w0 pb p) (hlt : OwnLt o w0) (h0 : w0.heap.size ≤ n₀) (w : World)
    (hw : Below n₀ w0 w) (hn0 : n₀ ≤ w.heap.size) (hBp : w.cell? ⟨Bp, 0, none⟩ = some (.pointer (some ⟨pb, 0, none⟩))) :
    Gives F n 0 Tryz.prog 169 #[.pointer (some ⟨Bp, 0, none⟩)] (fun i : Nat => #[.int .i64 i]) n₀ (· = Bp) (takenL p) w := by
  intro l J M W hOw hMi hWr hBM hY hJ
  have hb0 := lt_of_cell hBp
  have hS0 : ItS n₀ o w0 pb p Bp M M W W := ⟨hw.trans (hWr.below (fun k h => h.1) hn0), (World.cell?_of_block (w := w) (a := ⟨Bp, 0, none⟩) (hWr.keep Bp hb0 (fun h => h.2 rfl))).trans hBp, Wr.refl _ _, fun k h => .inl h, hBM Bp rfl⟩
  have hnW : n₀ ≤ W.heap.size := Nat.le_trans hn0 hWr.size
  have HP : ∀ W', Below n₀ w0 W' → PoolAt o W' pb p := fun W' hb => hp.below (hb.mono h0) hlt
  obtain ⟨vs, vt, vf, c0, c1, c2, c3, c4, hs, ht, _⟩ := (HP W hS0.low).cells
  have hbx := hS0.box
  have hpos := hp.pos
  obtain ⟨gs, cs, rfl, _⟩ := hs.shape hpos
  have hlen := hp.len
  have htop := hp.top
  have hroom := hp.room
  have HPH := Lib.hid HP
  have HYH := Lib.hid hY
  have HSH := Lib.hid hS0
  have HOW := Lib.hid hOw
  clear HP hY hs ht hp hlt h0 hS0 hOw hMi hWr hBM hw hn0 hBp hb0
  refine callsIn_of_wp Tryz.func169 rfl hF ?_ hro
  simp only [Tryz.ntmps169, List.size_toArray, List.length_cons, List.length_nil, Nat.reduceAdd, Nat.reduceSub, Array.replicate_succ, Array.replicate_zero, List.push_toArray, List.append_toArray, List.nil_append, List.cons_append]
  gi_wp2
  gi_loopw [11] (fun i wr => ∃ (k : Nat) (M1 : Nat → Prop), k ≤ p.at_.length ∧ i = .int .i64 k ∧ J (takenU p k) M1 wr ∧ ItS n₀ o w0 pb p Bp M M1 W wr) (fun i _ => p.at_.length - (intOf i).toNat)
  case atStart => exact ⟨0, M, Nat.zero_le _, rfl, hJ, HSH.out⟩
  case round =>
    obtain ⟨k, M1, hk, rfl, hJs, hS⟩ := hrel
    by_cases hlt : k < p.at_.length
    · obtain ⟨vs, vt, vf, d0, d1, d2, d3, d4, hs, ht, _⟩ := (HPH.out wr hS.low).cells
      have hbx := hS.box
      obtain ⟨gt, ct, rfl, _⟩ := ht.shape (by rw [hlen]; exact hpos)
      have hcf := PoolAt.flag ht (k := k) (by omega)
      rw [hlen] at d2
      have hlt' : (k : Int) < p.at_.length := by omega
      have HS := Lib.hid hS
      cases hB : p.tk k with
      | false =>
        rw [hB] at hcf
        have HJS : Hid (J (takenU p (k + 1)) M1 wr) := by show J _ _ _; rw [takenU_no hB]; exact hJs
        clear hB hs ht hS hJs hJ
        gi_wp2
        refine ⟨fun _ h => (by cases h), ?_⟩
        gi_wp2
        go_roundw
        case rel => exact ⟨k + 1, M1, by omega, by simp, HJS.out, HS.out⟩
        case measure => simp [intOf]; omega
      | true =>
        rw [hB] at hcf
        have HGE := Lib.hid (fun q (hq : M1 q) => (HOW.out _ _ _ hJs q hq).1)
        obtain ⟨fn, tmps, assign, body, hy, hR⟩ := HYH.out _ k M1 wr hJs (takenU_suf hB hlt)
        have HU := Lib.hid (takenU_yes hB)
        have HR := Lib.hid hR
        clear hs ht hS hJs hR hB hJ
        gi_wp2
        refine HR.out.mono ?_
        rintro e W3 ⟨rfl, M3, hJ3, hw3, hM3⟩
        have HJ3 := Lib.hid hJ3
        have HK3 := Lib.hid (HS.out.go hnW HGE.out hw3 hM3)
        clear hJ3 hw3 hM3
        gi_wp2
        go_roundw
        case rel => exact ⟨k + 1, M3, by omega, by simp, by rw [HU.out]; exact HJ3.out, HK3.out⟩
        case measure => simp [intOf]; omega
    · obtain rfl : k = p.at_.length := by omega
      have HJS := Lib.hid hJs
      have HS := Lib.hid hS
      clear hJs hS hJ
      gi_wp2
      go_end0
      exact ⟨⟨_, rfl⟩, M1, HJS.out, HS.out.wr, HS.out.sub⟩
set_option maxHeartbeats 1000000 in
theorem ids_in (F : Fence) (n : Nat) (hF : F.fn 158) (hro : F.round = none) (pb : Nat) (w : World) :
    CallsIn F n Tryz.prog 158 #[.pointer (some ⟨pb, 0, none⟩)] w fun e w' => e = .returned (.func (.func 169) #[] #[.pointer (some ⟨w.heap.size, 0, none⟩)]) ∧ w' = w.alloc (.cells #[.pointer (some ⟨pb, 0, none⟩)] 136) := by
  refine callsIn_of_wp Tryz.func158 rfl hF ?_ hro
  simp only [Tryz.ntmps158, List.size_toArray, List.length_cons, List.length_nil, Nat.reduceAdd, Nat.reduceSub, Array.replicate_succ, Array.replicate_zero, List.push_toArray, List.append_toArray, List.nil_append, List.cons_append]
  gi_wp2
  go_ret
  exact ⟨rfl, rfl⟩
set_option maxHeartbeats 1000000 in
theorem each_in (F : Fence) (n : Nat) (hF : F.fn 143) (hro : F.round = none) (pb : Nat) (w : World) :
    CallsIn F n Tryz.prog 143 #[.pointer (some ⟨pb, 0, none⟩)] w fun e w' => e = .returned (.func (.func 157) #[] #[.pointer (some ⟨w.heap.size, 0, none⟩)]) ∧ w' = w.alloc (.cells #[.pointer (some ⟨pb, 0, none⟩)] 136) := by
  refine callsIn_of_wp Tryz.func143 rfl hF ?_ hro
  simp only [Tryz.ntmps143, List.size_toArray, List.length_cons, List.length_nil, Nat.reduceAdd, Nat.reduceSub, Array.replicate_succ, Array.replicate_zero, List.push_toArray, List.append_toArray, List.nil_append, List.cons_append]
  gi_wp2
  go_ret
  exact ⟨rfl, rfl⟩
end Go.Proofs.YtchliiaknmknhaaGreat

-- Iter2
namespace Go.Proofs.YtchliiaknmknhaaGreat
open Go.RowKit Go.Shelf

attribute [local go_sem] Oper.semAt_some

/-- The state of Each's own loop: the outer body's, its two boxes. -/
structure EaS (n₀ : Nat) (o : Own) (w0 : World) (pb : Nat) (p : PoolD) (Bp By l : Nat) (M0 M : Nat → Prop) (W0 W : World) : Prop where
  it : ItS n₀ o w0 pb p Bp M0 M W0 W
  boxy : W.cell? ⟨By, 0, none⟩ = some (.func (.yield l) #[] #[])
  ny : ¬ M By
  ge : ∀ k, M k → n₀ ≤ k
theorem cell_wr {M : Nat → Prop} {W W' : World} {b k : Nat} {v : Value} (h : Wr M W W') (hc : W.cell? ⟨b, k, none⟩ = some v) (hn : ¬ M b) : W'.cell? ⟨b, k, none⟩ = some v :=
  (World.cell?_of_block (w := W) (a := ⟨b, k, none⟩) (h.keep b (lt_of_cell hc) hn)).trans hc
theorem EaS.go {n₀ : Nat} {o : Own} {w0 : World} {pb : Nat} {p : PoolD} {Bp By l : Nat} {M0 M M' : Nat → Prop} {W0 W W' : World} (h : EaS n₀ o w0 pb p Bp By l M0 M W0 W) (hn : n₀ ≤ W0.heap.size) (hw : Wr M W W')
    (hM : ∀ k, M' k → M k ∨ W.heap.size ≤ k) : EaS n₀ o w0 pb p Bp By l M0 M' W0 W' := by
  have hs := h.it.wr.size
  have hb : By < W.heap.size := lt_of_cell h.boxy
  refine ⟨h.it.go hn h.ge hw hM, cell_wr hw h.boxy h.ny, fun e => ?_, fun k hk => ?_⟩
  · rcases hM By e with h1 | h1
    · exact h.ny h1
    · omega
  · rcases hM k hk with h1 | h1
    · exact h.ge k h1
    · omega
set_option maxRecDepth 100000 in
set_option maxHeartbeats 4000000 in
theorem each1_gives (F : Fence) (n : Nat) (hF1 : F.fn 157) (hF2 : F.fn 158) (hF3 : F.fn 169) (hro : F.round = none) (hn : 4 ≤ n) (Bp n₀ pb : Nat) {o : Own} {w0 : World} {p : PoolD} (hp : PoolAt o w0 pb p) (hlt : OwnLt o w0) (h0 : w0.heap.size ≤ n₀) (w : World)
    (hw : Below n₀ w0 w) (hn0 : n₀ ≤ w.heap.size) (hBn : n₀ ≤ Bp) (hBp : w.cell? ⟨Bp, 0, none⟩ = some (.pointer (some ⟨pb, 0, none⟩))) :
    Gives F n 2 Tryz.prog 157 #[.pointer (some ⟨Bp, 0, none⟩)] (fun i : Nat => #[rnAgg (p.nd i)]) n₀ (· = Bp) (takenL p) w := by
  intro l J M W hOw hMi hWr hBM hY hJ
  have hb0 : Bp < w.heap.size := lt_of_cell hBp
  have hBW : Bp < W.heap.size := Nat.lt_of_lt_of_le hb0 hWr.size
  have hnW : n₀ ≤ W.heap.size := Nat.le_trans hn0 hWr.size
  have hbW : W.cell? ⟨Bp, 0, none⟩ = some (.pointer (some ⟨pb, 0, none⟩)) := cell_wr hWr hBp (fun h => h.2 rfl)
  have hlW : Below n₀ w0 W := hw.trans (hWr.below (fun k h => h.1) hn0)
  -- the two boxes
  obtain ⟨V, hV⟩ : ∃ V, V = (W.alloc (.cells #[.func (.yield l) #[] #[]] 132)).alloc (.cells #[.pointer (some ⟨pb, 0, none⟩)] 136) := ⟨_, rfl⟩
  have hWV : ∀ N, Wr N W V := fun N => by rw [hV]; exact ((Wr.refl N W).alloc _).alloc _
  have hJV : J [] M V := hMi _ _ _ _ hJ (hWV _)
  have hMlt := hOw _ _ _ hJ
  have hyV : V.cell? ⟨W.heap.size, 0, none⟩ = some (.func (.yield l) #[] #[]) := by rw [hV]; simp
  have hpV : V.cell? ⟨W.heap.size + 1, 0, none⟩ = some (.pointer (some ⟨pb, 0, none⟩)) := by rw [hV]; simp
  have hBV : V.cell? ⟨Bp, 0, none⟩ = some (.pointer (some ⟨pb, 0, none⟩)) := cell_wr (hWV (fun _ => False)) hbW (fun h => h)
  have hlowV : Below n₀ w0 V := hlW.trans ((hWV (fun k => n₀ ≤ k)).below (fun _ h => h) hnW)
  have hVs : V.heap.size = W.heap.size + 2 := by rw [hV]; simp
  have hEa : EaS n₀ o w0 pb p Bp W.heap.size l M M V V := ⟨⟨hlowV, hBV, Wr.refl _ _, fun k h => .inl h, hBM Bp rfl⟩, hyV, fun e => by have := (hMlt _ e).2; omega, fun k h => (hMlt k h).1⟩
  have HP : ∀ W', Below n₀ w0 W' → PoolAt o W' pb p := fun W' hb => hp.below (hb.mono h0) hlt
  have HG := Lib.hid (ids1_gives F (n - 1) hF3 hro (by omega) (W.heap.size + 1) n₀ pb hp hlt h0 V hlowV (by omega) hpV)
  have HPH := Lib.hid HP
  have HYH := Lib.hid hY
  have HEA := Lib.hid hEa
  have HOW := Lib.hid hOw
  have HMlt := Lib.hid hMlt
  have HMI := Lib.hid hMi
  have HJV := Lib.hid hJV
  have HWV := Lib.hid hWV
  have hlen := hp.len
  have hpos := hp.pos
  have htop := hp.top
  have hroom := hp.room
  have h1 : 1 ≤ n := by omega
  have hbA : (W.alloc (.cells #[.func (.yield l) #[] #[]] 132)).cell? ⟨Bp, 0, none⟩ = some (.pointer (some ⟨pb, 0, none⟩)) := cell_wr ((Wr.refl (fun _ => False) W).alloc _) hbW (fun h => h)
  refine callsIn_of_wp_marks Tryz.func157 rfl hF1 ?_ hro
  simp only [Tryz.ntmps157, List.size_toArray, List.length_cons, List.length_nil, Nat.reduceAdd, Nat.reduceSub, Array.replicate_succ, Array.replicate_zero, List.push_toArray, List.append_toArray, List.nil_append, List.cons_append]
  clear hOw hMi hWr hBM hY hJ hJV hMlt hyV hpV hBV hlowV hEa HP hp hlt h0 hw hBp hlW hWV hVs
  gi_wp2_with (gi_at_call 158; refine (ids_in F (n - 1) hF2 hro _ _).mono ?_; rintro e w' ⟨rfl, rfl⟩)
  rw [← hV]
  have hVs : V.heap.size = W.heap.size + 2 := by rw [hV]; simp
  clear hV
  have hmx : Tryz.prog.follows .mixedOrders = true := by kernel_rfl
  refine wp_range hro h1 (gf := 169) (lb := #[.pointer (some ⟨W.heap.size + 1, 0, none⟩)]) rfl hF3 (enters_of Tryz.func169 (by kernel_rfl) rfl) HG.out
    (by omega) (by rintro k rfl; omega) (fun x => rfl)
    (fun pre N V' => ∃ M1, (∀ k, N k ↔ M1 k ∨ k = W.heap.size ∨ k = Bp) ∧ J pre M1 V' ∧ EaS n₀ o w0 pb p Bp W.heap.size l M M1 V V')
    ?_ ?_ (fun k => M k ∨ k = W.heap.size ∨ k = Bp) ?_ ⟨M, fun k => Iff.rfl, HJV.out, HEA.out⟩
    (fun x a' _ _ => a' = {
      tmps :=
        #[Value.func (Fn.yield l) #[] #[], Value.pointer (some { block := Bp, off := 0 }),
          Value.pointer (some { block := W.heap.size, off := 0 }), Value.int IntKind.i64 ↑x,
          Value.pointer (some { block := pb, off := 0 }),
          Value.func (Fn.func 169) #[] #[Value.pointer (some { block := W.heap.size + 1, off := 0 })],
          Value.int IntKind.i64 ↑x, undef, undef, undef, undef, undef, undef, undef, undef, undef, undef],
      defers := [] }) ?_ ?_ ?_ ?_
  · rintro pre N V' ⟨M1, hN, hj, hE⟩ k hk
    rcases (hN k).1 hk with h | h | h
    · exact HOW.out _ _ _ hj k h
    · subst h; exact ⟨hnW, lt_of_cell hE.boxy⟩
    · subst h; exact ⟨hBn, lt_of_cell hE.it.box⟩
  · rintro pre N V' V'' ⟨M1, hN, hj, hE⟩ hw
    have hkeep : ∀ k, k < V'.heap.size → (k < n₀ ∨ N k) → V''.heap[k]? = V'.heap[k]? := fun k hk hn => hw.keep k hk (fun ⟨a, b⟩ => by
      rcases hn with h | h
      · omega
      · exact b h)
    refine ⟨M1, hN, HMI.out _ _ _ _ hj (hw.mono fun k ⟨a, b⟩ => ⟨a, fun h => b ((hN k).2 (.inl h))⟩), ⟨⟨?_, ?_, ?_, hE.it.sub, hE.it.nb⟩, ?_, hE.ny, hE.ge⟩⟩
    · exact hE.it.low.trans (hw.below (fun k h => h.1) (by have := hE.it.wr.size; omega))
    · exact (World.cell?_of_block (w := V') (a := ⟨Bp, 0, none⟩) (hkeep _ (lt_of_cell hE.it.box) (.inr ((hN _).2 (.inr (.inr rfl)))))).trans hE.it.box
    · exact hE.it.wr.trans hw (fun _ _ h => h) (fun k _ h => h.1)
    · exact (World.cell?_of_block (w := V') (a := ⟨W.heap.size, 0, none⟩) (hkeep _ (lt_of_cell hE.boxy) (.inr ((hN _).2 (.inr (.inl rfl)))))).trans hE.boxy
  · rintro k rfl h
    have hM1 : W.heap.size + 1 < W.heap.size ∨ W.heap.size + 1 = W.heap.size ∨ W.heap.size + 1 = Bp := by
      rcases h with h | h
      · left; exact (HMlt.out _ h).2
      · right; exact h
    omega
  · intro x a' W' W1 W2 l' _ h _
    exact h
  · intro l' pre x N V' K hI hK
    gi_wp2
    exact hK _ _ (Wr.refl _ _) rfl
  · rintro l' pre x a' N W0 W1 ⟨M1, hN, hj, hE⟩ rfl hs0 hs1 hsuf
    obtain ⟨suf, hsuf⟩ := hsuf
    have hx : p.tk x = true := mem_takenL hsuf
    obtain ⟨vs, vt, vf, d0, d1, d2, d3, d4, hs, ht, _⟩ := (HPH.out W1 hE.it.low).cells
    have hbx := hE.it.box
    have hby := hE.boxy
    obtain ⟨gs, cs, rfl, hsl⟩ := hs.shape hpos
    have hxl := ((HPH.out W1 hE.it.low).tk_lt hx).2
    have hcn := PoolAt.node hs (k := x) hxl
    have hxi : (x : Int) < p.at_.length := by omega
    obtain ⟨fn, tmps, assign, body, hy, hR⟩ := HYH.out _ x M1 W1.drew (HMI.out _ _ _ _ hj ((Wr.refl _ W1).drew)) ⟨suf, hsuf⟩
    simp only [rnAgg] at hy
    have HR := Lib.hid hR
    have HE := Lib.hid hE
    have HN := Lib.hid hN
    clear hs hE hj hR hN hsuf hsl
    gi_wp2
    gi_region_with_o (refine ⟨fun _ => by omega, HR.out.mono ?_⟩; rintro e W3 ⟨rfl, M3, hJ3, hw3, hM3⟩)
    all_goals gi_wp2
    all_goals exact ⟨fun k => M3 k ∨ k = W.heap.size ∨ k = Bp, ⟨M3, fun k => Iff.rfl, hJ3, HE.out.go (by omega) (Wr.trans ((Wr.refl M1 W1).drew) hw3 (fun _ _ h => h) (fun _ _ h => h)) hM3⟩,
      Wr.trans ((Wr.refl M1 W1).drew) hw3 (fun k _ h => .inl ((HN.out k).2 (.inl h))) (fun k _ h => .inl ((HN.out k).2 (.inl h))),
      fun k hk => by
        rcases hk with hk | hk
        · rcases hM3 k hk with h | h
          · exact .inl ((HN.out k).2 (.inl h))
          · right; have : W1.heap.size ≤ k := h; omega
        · exact .inl ((HN.out k).2 (.inr hk))⟩
  · rintro D N W2 hD1 hD2 ⟨M1, hN, hj, hE⟩ hN2 hw2 hD3
    gi_wp2
    refine ⟨by simp, .inl ⟨_, _, rfl, run_takeDeferred hD3, ?_⟩⟩
    have hDb : n₀ ≤ D := by omega
    refine ⟨_, results_none rfl _ _ _, ⟨_, rfl⟩, M1, ?_, ?_, ?_⟩
    · exact HMI.out _ _ _ _ hj ((Wr.refl _ _).putObj (.inl ⟨hDb, fun h => hD2 ((hN D).2 (.inl h))⟩) _)
    · exact ((HWV.out (fun k => n₀ ≤ k)).trans hw2 (fun _ _ h => h) (fun _ _ h => h)).putObj (.inl hDb) _
    · intro k hk
      rcases hE.it.sub k hk with h | h
      · exact .inl h
      · right; omega
end Go.Proofs.YtchliiaknmknhaaGreat

-- None
namespace Go.Proofs.YtchliiaknmknhaaGreat
open Go.RowKit Go.Shelf

theorem neqNilF (w : World) (g : Fn) (fs cs : Array Value) : (binOp .neq 90 (.func g fs cs) .nilFunc).run Tryz.prog w = .ok (.bool true) w := by
  have hd : Op.maxDepth = 9999 + 1 := rfl
  have h : (Op.equal 90 (.func g fs cs) .nilFunc).run Tryz.prog w = .ok false w := by
    unfold Op.equal
    rw [hd]
    unfold Op.equalIn
    simp only [Sem.run_bind, run_underlying Tryz.underlying90, Result.andThen_ok]
    simp
  simp only [binOp]
  simp [h]
set_option maxRecDepth 100000 in
theorem nilEach1 (y : Value) (w : World) : Calls Tryz.prog 108 #[y] w fun x w' => x = .returned (.tuple #[]) ∧ w' = w := by
  go_enter Tryz.func108, Tryz.ntmps108
  go_wp2_with fail
  go_end0
  exact ⟨rfl, rfl⟩
theorem nilEach_gives (n d n₀ : Nat) (encs : Empty → Array Value) (w : World) : Gives Fence.wide n d Tryz.prog 108 #[] encs n₀ (fun _ => False) [] w := by
  intro l J M W hOw hMi hWr hBM hY hJ
  refine callsIn_wide.2 ((nilEach1 _ W).mono ?_)
  rintro x w' ⟨rfl, rfl⟩
  exact ⟨⟨_, rfl⟩, M, hJ, Wr.refl _ _, fun k h => .inl h⟩
/-- A new manager, and what it answers. -/
def NewM (n room mb : Nat) (w : World) : Prop := ∃ o, ManAt (iteLaw (man0 n room).d (fun _ _ => true)) o w mb (man0 n room) ∧ OwnLt o w
section
variable {n room mb : Nat} {w : World}
theorem NewM.below {w' : World} (h : NewM n room mb w) (hb : Below w.heap.size w w') : NewM n room mb w' := by
  obtain ⟨o, ⟨s, h1⟩, h2⟩ := h
  exact ⟨o, ⟨s, h1.below h2 hb⟩, h2.mono hb.size⟩
theorem NewM.vars (h : NewM n room mb w) : Calls Tryz.prog 51 #[.pointer (some ⟨mb, 0, none⟩)] w fun x w' => x = .returned (.int .i64 n) ∧ w = w' := by
  obtain ⟨o, h1, h2⟩ := h
  have := manVars_any h1
  rw [show (man0 n room).d.vars.length = n by simp [man0, store0]] at this
  exact this
theorem NewM.rooms (h : NewM n room mb w) : Calls Tryz.prog 52 #[.pointer (some ⟨mb, 0, none⟩)] w fun x w' => x = .returned (.int .i64 room) ∧ w = w' := by
  obtain ⟨o, h1, h2⟩ := h
  exact manRoom_any h1
theorem NewM.handles (h : NewM n room mb w) : Calls Tryz.prog 70 #[.pointer (some ⟨mb, 0, none⟩)] w fun x w' => x = .returned (.int .i64 2) ∧ w = w' := by
  obtain ⟨o, h1, h2⟩ := h
  exact handles_any h1
theorem NewM.len (h : NewM n room mb w) : Calls Tryz.prog 22 #[.pointer (some ⟨mb, 0, none⟩)] w fun x w' => x = .returned (.int .i64 0) ∧ w = w' := by
  obtain ⟨o, h1, h2⟩ := h
  exact manLen_any h1
theorem NewM.order (h : NewM n room mb w) (hn : n ≤ 64) : Calls Tryz.prog 42 #[.pointer (some ⟨mb, 0, none⟩)] w fun x w' => ∃ a c, x = .returned (.slice a n c) ∧ IntsAt w' a ((List.range n).map Int.ofNat) ∧ Below w.heap.size w w' := by
  obtain ⟨o, h1, h2⟩ := h
  have e : (man0 n room).d.vars = List.range n := by simp [man0, store0]
  refine (manOrder_any h1 h2 (by rw [e]; simpa using hn)).mono ?_
  rintro x w' ⟨v, rfl, h3, h4⟩
  rw [e] at h3
  obtain ⟨a, c, rfl, h5, _⟩ := h3.sliceIs (by simp; omega)
  exact ⟨a, c, by simp, h5, h4⟩
theorem right_range (a : Option Addr) (c n : Nat) (w : World) (h : IntsAt w a ((List.range n).map Int.ofNat)) (hn : n ≤ 64) : Calls Tryz.prog 55 #[.slice a n c, .int .i64 n] w fun x w' => x = .returned (.bool true) ∧ w = w' := by
  have := right_any a c _ n w h (by simp; omega)
  rw [permB_range] at this
  simpa using this
theorem newM_any (n room : Nat) (w : World) (hn : n ≤ 64) (h1 : 1 ≤ room) (h2 : room ≤ 1048576) :
    Calls Tryz.prog 14 #[.int .i64 n, .int .i64 room] w fun x w' => ∃ mb, x = .returned (.tuple #[.pointer (some ⟨mb, 0, none⟩), .int .i64 0]) ∧ NewM n room mb w' ∧ Below w.heap.size w w' := by
  refine (new_man (F := iteLaw (man0 n room).d (fun _ _ => true)) (fun _ => none) n room w (fun k r h => by cases h) hn h1 h2).mono ?_
  rintro x w1 ⟨mb, o1, rfl, hm0, hc0, hl0, _⟩
  exact ⟨mb, rfl, ⟨o1, hm0, hl0⟩, hc0.os, hc0.tape, hc0.output, hc0.size, fun k hk => hc0.block k hk (by rintro r e; cases e)⟩
end
/-- The end of a function with a range over a function and one result in a cell. -/
theorem endM_cell {F : Fence} {n : Nat} {P : Program} {fn : Func} {tmps : Array Value} {D B : Nat} {w3 : World} {R : Ending → World → Prop} {u : Value}
    (hd : w3.heap[D]? = some (.deferred (some []))) (hc : w3.cell? ⟨B, 0, none⟩ = some u) (hl : ∀ w : World, w.cell? ⟨B, 0, none⟩ = some u → (results fn tmps).run P w = .ok u w) (hR : R (.returned u) (w3.putObj D (.deferred none))) :
    bodyPostM F n P fn R .ret { tmps := tmps, defers := [{ target := .collected D, args := #[] }] } w3 := by
  have hne : B ≠ D := by
    rintro rfl
    simp [World.cell?, hd] at hc
  have hc' : (w3.putObj D (.deferred none)).cell? ⟨B, 0, none⟩ = some u := (World.cell?_of_block (w := w3) (a := ⟨B, 0, none⟩) (World.putObj_heap_other hne)).trans hc
  exact ⟨by simp, .inl ⟨D, _, rfl, run_takeDeferred hd, u, hl _ hc', hR⟩⟩
theorem below_putObj {B : Nat} {w w' : World} (h : Below B w w') {D : Nat} (hD : B ≤ D) (o : Obj) : Below B w (w'.putObj D o) :=
  ⟨h.os, h.tape, h.output, by simp; exact h.size, fun k hk => (World.putObj_heap_other (by omega)).trans (h.block k hk)⟩
set_option maxRecDepth 100000 in
set_option maxHeartbeats 4000000 in
theorem none_walk (a b h v : Int) (w : World) : Calls Tryz.prog 11 #[.int .i64 a, .int .i64 b, .int .i64 h, .int .i64 v] w fun x w' => x = .returned (.bool true) ∧ Below w.heap.size w w' := by
  refine (callsIn_wide (n := 9)).1 ?_
  refine callsIn_of_wp_marks Tryz.func11 rfl trivial ?_
  refine wpIn_wide.2 ?_
  simp only [Tryz.ntmps11, List.size_toArray, List.length_cons, List.length_nil, Nat.reduceAdd, Nat.reduceSub, Array.replicate_succ, Array.replicate_zero, List.push_toArray, List.append_toArray, List.nil_append, List.cons_append]
  have HV := Lib.hid (fun W => nilVar v W)
  have HC := Lib.hid (fun W => nilCopy h W)
  have HS := Lib.hid (fun W => nilSame h h W)
  have HE := Lib.hid (fun W => nilEval h (.slice none 0 0) W)
  have HN := Lib.hid (fun W => nilNot h W)
  have HI := Lib.hid (fun W => nilIte h h h W)
  have HD := Lib.hid (fun W => nilDo (.func 68) #[] #[] W)
  have HSW := Lib.hid (fun W => nilSwap v W)
  have HIS := Lib.hid (fun W => nilIs h W)
  have HNQ := Lib.hid (fun W => neqNilF W (.func 108) #[] #[])
  obtain ⟨w0, hw0⟩ : ∃ w0, w0 = w.alloc (.cells #[.bool false] 4) := ⟨_, rfl⟩
  have hs0 : w0.heap.size = w.heap.size + 1 := by rw [hw0]; simp
  have HB0 : Hid (Below w.heap.size w w0) := Lib.hid (by rw [hw0]; exact below_new1 _ _)
  have HC0 : Hid (w0.heap[w.heap.size]? = some (.cells #[.bool false] 4 (0, 0))) := Lib.hid (by rw [hw0]; exact heap_alloc_new _ _)
  have HW0 : Hid (_ = w0) := Lib.hid hw0.symm
  clear hw0
  go_wp2_with fail
  rw [HW0.out]
  refine (HV.out _).mono ?_
  rintro x w1 ⟨rfl, h1⟩
  have H1 := Lib.hid h1
  clear h1
  go_wp2_with fail
  refine (HC.out _).mono ?_
  rintro x w2 ⟨rfl, h2⟩
  have H2 := Lib.hid (H1.out.trans (h2.mono H1.out.size))
  clear h2 H1
  go_wp2_with fail
  refine (HS.out _).mono ?_
  rintro x w1 ⟨rfl, h2⟩
  have H1 := Lib.hid (H2.out.trans (h2.mono H2.out.size))
  clear h2 H2
  go_wp2_with fail
  refine (HE.out _).mono ?_
  rintro x w2 ⟨rfl, h2⟩
  have H2 := Lib.hid (H1.out.trans (h2.mono H1.out.size))
  clear h2 H1
  go_wp2_with fail
  refine (HN.out _).mono ?_
  rintro x w1 ⟨rfl, h2⟩
  have H1 := Lib.hid (H2.out.trans (h2.mono H2.out.size))
  clear h2 H2
  go_wp2_with fail
  refine (HI.out _).mono ?_
  rintro x w2 ⟨rfl, h2⟩
  have H2 := Lib.hid (H1.out.trans (h2.mono H1.out.size))
  clear h2 H1
  go_wp2_with fail
  refine (HD.out _).mono ?_
  rintro x w1 ⟨rfl, h2⟩
  have H1 := Lib.hid (H2.out.trans (h2.mono H2.out.size))
  clear h2 H2
  go_wp2_with fail
  refine (nilDrop _ _).mono ?_
  rintro x w2 ⟨rfl, h2⟩
  have H2 : Hid (Below w0.heap.size w0 w2) := Lib.hid (H1.out.trans (((below_new1 _ _).trans (h2.mono (by simp))).mono H1.out.size))
  clear h2 H1
  go_wp2_with fail
  refine (nilLook _ _).mono ?_
  rintro x w1 ⟨rfl, h2⟩
  have H1 := Lib.hid (H2.out.trans (h2.mono H2.out.size))
  clear h2 H2
  go_wp2_with fail
  refine (HSW.out _).mono ?_
  rintro x w2 ⟨rfl, h2⟩
  have H2 := Lib.hid (H1.out.trans (h2.mono H1.out.size))
  clear h2 H1
  go_wp2_with fail
  refine (nilPlan _ _).mono ?_
  rintro x w1 ⟨rfl, h2⟩
  have H1 := Lib.hid (H2.out.trans (h2.mono H2.out.size))
  clear h2 H2
  obtain ⟨w2, hw2⟩ : ∃ w2, w2 = w1.alloc (.cells #[.int .i64 5, .int .i64 5, .int .i64 5, .int .i64 5, .int .i64 5, .int .i64 5, .int .i64 5, .int .i64 5, .int .i64 5, .int .i64 5, .int .i64 5] 30) := ⟨_, rfl⟩
  have H2 := Lib.hid (show Below w0.heap.size w0 w2 by rw [hw2]; exact H1.out.alloc H1.out.size _)
  have HCL : Hid (w2.heap[w1.heap.size]? = some (.cells #[.int .i64 5, .int .i64 5, .int .i64 5, .int .i64 5, .int .i64 5, .int .i64 5, .int .i64 5, .int .i64 5, .int .i64 5, .int .i64 5, .int .i64 5] 30 (0, 0))) := Lib.hid (by rw [hw2]; exact heap_alloc_new _ _)
  have HW2 : Hid (_ = w2) := Lib.hid hw2.symm
  clear hw2
  go_wp2_with fail
  rw [HW2.out]
  obtain ⟨bl, hbl⟩ : ∃ bl, bl = w1.heap.size := ⟨_, rfl⟩
  rw [← hbl] at HCL ⊢
  clear hbl HW2
  go_loopw [93] (fun i wx => ∃ k : Nat, k ≤ 11 ∧ i = .int .i64 k ∧ w2 = wx) (fun i _ => 11 - (intOf i).toNat)
  case atStart => exact ⟨0, Nat.zero_le _, rfl, rfl⟩
  case round =>
    obtain ⟨k, hk, rfl, rfl⟩ := hrel
    by_cases hlt : k < 11
    · have hk1 : (k : Int) < 11 := by omega
      have hc : w2.cell? ⟨bl, k, none⟩ = some (.int .i64 5) := by
        rw [cell_of_row w2 bl _ _ _ _ HCL.out]
        match k, hlt with
        | 0, _ => rfl
        | 1, _ => rfl
        | 2, _ => rfl
        | 3, _ => rfl
        | 4, _ => rfl
        | 5, _ => rfl
        | 6, _ => rfl
        | 7, _ => rfl
        | 8, _ => rfl
        | 9, _ => rfl
        | 10, _ => rfl
      go_wp2_with fail
      go_roundw
      case rel => exact ⟨k + 1, by omega, by go_num, trivial⟩
      case measure => simp [intOf]; omega
    · obtain rfl : k = 11 := by omega
      go_wp2_with fail
      refine (nilVars _).mono ?_
      rintro x w1 ⟨rfl, h2⟩
      have H1 := Lib.hid (H2.out.trans (h2.mono H2.out.size))
      clear h2 H2
      go_wp2_with fail
      refine (nilRoom _).mono ?_
      rintro x w2 ⟨rfl, h2⟩
      have H2 := Lib.hid (H1.out.trans (h2.mono H1.out.size))
      clear h2 H1
      go_wp2_with fail
      refine (nilLen _).mono ?_
      rintro x w1 ⟨rfl, h2⟩
      have H1 := Lib.hid (H2.out.trans (h2.mono H2.out.size))
      clear h2 H2
      go_wp2_with fail
      refine (nilHandles _).mono ?_
      rintro x w2 ⟨rfl, h2⟩
      have H2 := Lib.hid (H1.out.trans (h2.mono H1.out.size))
      clear h2 H1
      go_wp2_with fail
      refine (nilCollect _).mono ?_
      rintro x w1 ⟨rfl, h2⟩
      have H1 := Lib.hid (H2.out.trans (h2.mono H2.out.size))
      clear h2 H2
      go_wp2_with fail
      refine (nilWaits _).mono ?_
      rintro x w2 ⟨rfl, h2⟩
      have H2 := Lib.hid (H1.out.trans (h2.mono H1.out.size))
      clear h2 H1
      go_wp2_with fail
      refine (HIS.out _).mono ?_
      rintro x w1 ⟨rfl, h2⟩
      have H1 := Lib.hid (H2.out.trans (h2.mono H2.out.size))
      clear h2 H2
      go_wp2_with fail
      refine (nilOrder _).mono ?_
      rintro x w2 ⟨rfl, h2⟩
      have H2 := Lib.hid (H1.out.trans (h2.mono H1.out.size))
      clear h2 H1
      go_wp2_with fail
      refine (nilEach _).mono ?_
      rintro x w1 ⟨rfl, h2⟩
      have H1 := Lib.hid (H2.out.trans (h2.mono H2.out.size))
      clear h2 H2
      have hnq := HNQ.out w1
      go_wp2_with fail
      clear hnq
      refine (wpIn_wide (n := 9)).1 ?_
      refine wp_range rfl (by omega) (gf := 108) (lb := #[]) rfl trivial (enters_of Tryz.func108 (by kernel_rfl) rfl) (nilEach_gives _ 0 w1.heap.size (fun _ => #[.int .i64 0]) w1) (Nat.le_refl _) (fun k h => h.elim) (fun x => x.elim)
        (fun pre M V => (∀ k, ¬ M k) ∧ Below w1.heap.size w1 V) (fun pre M V h k hk => (h.1 k hk).elim) (fun pre M V V' h hw => ⟨h.1, h.2.trans (hw.below (fun k h => h.1) h.2.size)⟩) (fun _ => False) (fun k h => h.elim) ⟨fun k h => h, Below.refl _ _⟩
        (fun _ _ _ _ => True) (fun _ _ _ _ _ _ _ _ _ => trivial) (fun l pre x => x.elim) (fun l pre x => x.elim) ?_
      rintro D M w2 hD hDM ⟨_, hb2⟩ _ _ hD3
      have H2 := Lib.hid (H1.out.trans (hb2.mono H1.out.size))
      have HD3 := Lib.hid hD3
      have HDW := Lib.hid (show w0.heap.size ≤ D from Nat.le_trans H1.out.size hD)
      clear hb2 hD3 hDM hD H1
      go_wp2_with fail
      by_cases hbad : a < 0 ∨ 64 < a ∨ b < 1 ∨ 1048576 < b
      · refine (newMan_bad a b _ hbad).mono ?_
        rintro x w1 ⟨rfl, rfl⟩
        have HL := Lib.hid (lives13 w2)
        rcases (show a < 0 ∨ (¬ a < 0 ∧ 64 < a) ∨ (¬ a < 0 ∧ ¬ 64 < a ∧ b < 1) ∨ (¬ a < 0 ∧ ¬ 64 < a ∧ ¬ b < 1 ∧ 1048576 < b) by omega) with h1 | ⟨h1, h2⟩ | ⟨h1, h2, h3⟩ | ⟨h1, h2, h3, h4⟩
        · clear hbad
          go_wp2_with fail
          refine HL.out.mono ?_
          rintro x w3 ⟨rfl, hb3⟩
          have H3 := Lib.hid (H2.out.trans (hb3.mono H2.out.size))
          have hc3 := (H3.out.block w.heap.size (by omega)).trans HC0.out
          have c3 := cell1 hc3
          have f3 : w3.frozen? ⟨w.heap.size, 0, none⟩ = false := by simp [World.frozen?, hc3]
          have HC3 := Lib.hid hc3
          have HD4 := Lib.hid ((hb3.block D (Array.getElem?_eq_some_iff.1 HD3.out).1).trans HD3.out)
          clear hb3 hc3
          go_wp2_with fail
          have hne : D ≠ w.heap.size := by have := HDW.out; omega
          refine endM_cell (B := w.heap.size) (u := .bool true) ((heap_setCell_ne hne _).trans HD4.out) (cell1 (heap_setCell_same HC3.out _)) (fun W hW => by simp [results, Tryz.results11, go_sem, hW]) ⟨rfl, ?_⟩
          exact below_putObj ((HB0.out.trans (H3.out.mono HB0.out.size)).setCell (p := ⟨w.heap.size, 0, none⟩) (Nat.le_refl _) _) (by have := HDW.out; have := HB0.out.size; omega) _
        · clear hbad
          go_wp2_with fail
          refine HL.out.mono ?_
          rintro x w3 ⟨rfl, hb3⟩
          have H3 := Lib.hid (H2.out.trans (hb3.mono H2.out.size))
          have hc3 := (H3.out.block w.heap.size (by omega)).trans HC0.out
          have c3 := cell1 hc3
          have f3 : w3.frozen? ⟨w.heap.size, 0, none⟩ = false := by simp [World.frozen?, hc3]
          have HC3 := Lib.hid hc3
          have HD4 := Lib.hid ((hb3.block D (Array.getElem?_eq_some_iff.1 HD3.out).1).trans HD3.out)
          clear hb3 hc3
          go_wp2_with fail
          have hne : D ≠ w.heap.size := by have := HDW.out; omega
          refine endM_cell (B := w.heap.size) (u := .bool true) ((heap_setCell_ne hne _).trans HD4.out) (cell1 (heap_setCell_same HC3.out _)) (fun W hW => by simp [results, Tryz.results11, go_sem, hW]) ⟨rfl, ?_⟩
          exact below_putObj ((HB0.out.trans (H3.out.mono HB0.out.size)).setCell (p := ⟨w.heap.size, 0, none⟩) (Nat.le_refl _) _) (by have := HDW.out; have := HB0.out.size; omega) _
        · clear hbad
          go_wp2_with fail
          refine HL.out.mono ?_
          rintro x w3 ⟨rfl, hb3⟩
          have H3 := Lib.hid (H2.out.trans (hb3.mono H2.out.size))
          have hc3 := (H3.out.block w.heap.size (by omega)).trans HC0.out
          have c3 := cell1 hc3
          have f3 : w3.frozen? ⟨w.heap.size, 0, none⟩ = false := by simp [World.frozen?, hc3]
          have HC3 := Lib.hid hc3
          have HD4 := Lib.hid ((hb3.block D (Array.getElem?_eq_some_iff.1 HD3.out).1).trans HD3.out)
          clear hb3 hc3
          go_wp2_with fail
          have hne : D ≠ w.heap.size := by have := HDW.out; omega
          refine endM_cell (B := w.heap.size) (u := .bool true) ((heap_setCell_ne hne _).trans HD4.out) (cell1 (heap_setCell_same HC3.out _)) (fun W hW => by simp [results, Tryz.results11, go_sem, hW]) ⟨rfl, ?_⟩
          exact below_putObj ((HB0.out.trans (H3.out.mono HB0.out.size)).setCell (p := ⟨w.heap.size, 0, none⟩) (Nat.le_refl _) _) (by have := HDW.out; have := HB0.out.size; omega) _
        · clear hbad
          go_wp2_with fail
          refine HL.out.mono ?_
          rintro x w3 ⟨rfl, hb3⟩
          have H3 := Lib.hid (H2.out.trans (hb3.mono H2.out.size))
          have hc3 := (H3.out.block w.heap.size (by omega)).trans HC0.out
          have c3 := cell1 hc3
          have f3 : w3.frozen? ⟨w.heap.size, 0, none⟩ = false := by simp [World.frozen?, hc3]
          have HC3 := Lib.hid hc3
          have HD4 := Lib.hid ((hb3.block D (Array.getElem?_eq_some_iff.1 HD3.out).1).trans HD3.out)
          clear hb3 hc3
          go_wp2_with fail
          have hne : D ≠ w.heap.size := by have := HDW.out; omega
          refine endM_cell (B := w.heap.size) (u := .bool true) ((heap_setCell_ne hne _).trans HD4.out) (cell1 (heap_setCell_same HC3.out _)) (fun W hW => by simp [results, Tryz.results11, go_sem, hW]) ⟨rfl, ?_⟩
          exact below_putObj ((HB0.out.trans (H3.out.mono HB0.out.size)).setCell (p := ⟨w.heap.size, 0, none⟩) (Nat.le_refl _) _) (by have := HDW.out; have := HB0.out.size; omega) _
      · obtain ⟨n, rfl⟩ : ∃ n : Nat, (n : Int) = a := ⟨a.toNat, by omega⟩
        obtain ⟨room, rfl⟩ : ∃ n : Nat, (n : Int) = b := ⟨b.toNat, by omega⟩
        have hn64 : n ≤ 64 := by omega
        refine (newM_any n room w2 hn64 (by omega) (by omega)).mono ?_
        rintro x w1 ⟨mb, rfl, hm1, hb1⟩
        have HL := Lib.hid (lives13 w1)
        have HM1 := Lib.hid hm1
        have HB1 := Lib.hid hb1
        have g1 : ¬ (n : Int) < 0 := by omega
        have g2 : ¬ (64 : Int) < n := by omega
        have g3 : ¬ (room : Int) < 1 := by omega
        have g4 : ¬ (1048576 : Int) < room := by omega
        clear hbad hm1 hb1
        go_wp2_with fail
        refine HL.out.mono ?_
        rintro x w3 ⟨rfl, hb3⟩
        have HM3 := Lib.hid (HM1.out.below hb3)
        have HB3 := Lib.hid (HB1.out.trans (hb3.mono HB1.out.size))
        clear hb3
        go_wp2_with fail
        refine HM3.out.vars.mono ?_
        rintro x w4 ⟨rfl, rfl⟩
        go_wp2_with fail
        refine HM3.out.rooms.mono ?_
        rintro x w4 ⟨rfl, rfl⟩
        go_wp2_with fail
        refine HM3.out.handles.mono ?_
        rintro x w4 ⟨rfl, rfl⟩
        go_wp2_with fail
        refine HM3.out.len.mono ?_
        rintro x w4 ⟨rfl, rfl⟩
        go_wp2_with fail
        refine (HM3.out.order hn64).mono ?_
        rintro x w4 ⟨ao, co, rfl, hi4, hb4⟩
        have HR := Lib.hid (right_range ao co n w4 hi4 hn64)
        have HB4 := Lib.hid (HB3.out.trans (hb4.mono HB3.out.size))
        clear hi4 hb4
        go_wp2_with fail
        refine HR.out.mono ?_
        rintro x w5 ⟨rfl, rfl⟩
        have H3 := Lib.hid (H2.out.trans (HB4.out.mono H2.out.size))
        have hc3 := (H3.out.block w.heap.size (by omega)).trans HC0.out
        have c3 := cell1 hc3
        have f3 : w4.frozen? ⟨w.heap.size, 0, none⟩ = false := by simp [World.frozen?, hc3]
        have HC3 := Lib.hid hc3
        have HD4 := Lib.hid ((HB4.out.block D (Array.getElem?_eq_some_iff.1 HD3.out).1).trans HD3.out)
        clear hc3
        go_wp2_with fail
        have hne : D ≠ w.heap.size := by have := HDW.out; omega
        refine endM_cell (B := w.heap.size) (u := .bool true) ((heap_setCell_ne hne _).trans HD4.out) (cell1 (heap_setCell_same HC3.out _)) (fun W hW => by simp [results, Tryz.results11, go_sem, hW]) ⟨rfl, ?_⟩
        exact below_putObj ((HB0.out.trans (H3.out.mono HB0.out.size)).setCell (p := ⟨w.heap.size, 0, none⟩) (Nat.le_refl _) _) (by have := HDW.out; have := HB0.out.size; omega) _
end Go.Proofs.YtchliiaknmknhaaGreat
