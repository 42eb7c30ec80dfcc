/- Several texts in one file: contracts of the program's functions and what follows from them. -/
import Derived.Test.YtchliiaknmknhaaGreatS5
set_option linter.unusedSimpArgs false
set_option linter.unusedVariables false
set_option linter.unusedSectionVars false
set_option linter.unnecessarySimpa false
namespace Go.Proofs.YtchliiaknmknhaaGreat
open Go.RowKit Go.Shelf
attribute [local go_sem] Oper.semAt_some
structure EaS (n₀ : Nat) (o : Own) (w0 : World) (pb : Nat) (p : PoolD) (Bp By l : Nat) (M0 M : Nat → Prop) (W0 W : World) : Prop where
 it : ItS n₀ o w0 pb p Bp M0 M W0 W
 boxy : W.cell? ⟨By, 0, none⟩ = some (.func (.yield l) #[] #[])
 ny : ¬ M By
 ge : ∀ k, M k → n₀ ≤ k
theorem cell_wr {M : Nat → Prop} {W W' : World} {b k : Nat} {v : Value} (h : Wr M W W') (hc : W.cell? ⟨b, k, none⟩ = some v) (hn : ¬ M b) : W'.cell? ⟨b, k, none⟩ = some v :=
 (World.cell?_of_block (w := W) (a := ⟨b, k, none⟩) (h.keep b (lt_of_cell hc) hn)).trans hc
theorem EaS.go {n₀ : Nat} {o : Own} {w0 : World} {pb : Nat} {p : PoolD} {Bp By l : Nat} {M0 M M' : Nat → Prop} {W0 W W' : World} (h : EaS n₀ o w0 pb p Bp By l M0 M W0 W) (hn : n₀ ≤ W0.heap.size) (hw : Wr M W W')
 (hM : ∀ k, M' k → M k ∨ W.heap.size ≤ k) : EaS n₀ o w0 pb p Bp By l M0 M' W0 W' := by
 have hs := h.it.wr.size
 have hb : By < W.heap.size := lt_of_cell h.boxy
 refine ⟨h.it.go hn h.ge hw hM, cell_wr hw h.boxy h.ny, fun e => ?_, fun k hk => ?_⟩
 ·
  rcases hM By e with h1 | h1
  ·
   exact h.ny h1
  ·
   omega
 ·
  rcases hM k hk with h1 | h1
  ·
   exact h.ge k h1
  ·
   omega
set_option maxRecDepth 100000 in
set_option maxHeartbeats 4000000 in
theorem each1_gives (F : Fence) (n : Nat) (hF1 : F.fn 157) (hF2 : F.fn 158) (hF3 : F.fn 169) (hro : F.round = none) (hn : 4 ≤ n) (Bp n₀ pb : Nat) {o : Own} {w0 : World} {p : PoolD} (hp : PoolAt o w0 pb p) (hlt : OwnLt o w0) (h0 : w0.heap.size ≤ n₀) (w : World)
 (hw : Below n₀ w0 w) (hn0 : n₀ ≤ w.heap.size) (hBn : n₀ ≤ Bp) (hBp : w.cell? ⟨Bp, 0, none⟩ = some (.pointer (some ⟨pb, 0, none⟩))) :
 Gives F n 2 Tryz.prog 157 #[.pointer (some ⟨Bp, 0, none⟩)] (fun i : Nat => #[rnAgg (p.nd i)]) n₀ (· = Bp) (takenL p) w := by
 intro l J M W hOw hMi hWr hBM hY hJ
 have hb0 : Bp < w.heap.size := lt_of_cell hBp
 have hBW : Bp < W.heap.size := Nat.lt_of_lt_of_le hb0 hWr.size
 have hnW : n₀ ≤ W.heap.size := Nat.le_trans hn0 hWr.size
 have hbW : W.cell? ⟨Bp, 0, none⟩ = some (.pointer (some ⟨pb, 0, none⟩)) := cell_wr hWr hBp (fun h => h.2 rfl)
 have hlW : Below n₀ w0 W := hw.trans (hWr.below (fun k h => h.1) hn0)
 obtain ⟨V, hV⟩ : ∃ V, V = (W.alloc (.cells #[.func (.yield l) #[] #[]] 132)).alloc (.cells #[.pointer (some ⟨pb, 0, none⟩)] 136) := ⟨_, rfl⟩
 have hWV : ∀ N, Wr N W V := fun N => by rw [hV]; exact ((Wr.refl N W).alloc _).alloc _
 have hJV : J [] M V := hMi _ _ _ _ hJ (hWV _)
 have hMlt := hOw _ _ _ hJ
 have hyV : V.cell? ⟨W.heap.size, 0, none⟩ = some (.func (.yield l) #[] #[]) := by rw [hV]; simp
 have hpV : V.cell? ⟨W.heap.size + 1, 0, none⟩ = some (.pointer (some ⟨pb, 0, none⟩)) := by rw [hV]; simp
 have hBV : V.cell? ⟨Bp, 0, none⟩ = some (.pointer (some ⟨pb, 0, none⟩)) := cell_wr (hWV (fun _ => False)) hbW (fun h => h)
 have hlowV : Below n₀ w0 V := hlW.trans ((hWV (fun k => n₀ ≤ k)).below (fun _ h => h) hnW)
 have hVs : V.heap.size = W.heap.size + 2 := by rw [hV]; simp
 have hEa : EaS n₀ o w0 pb p Bp W.heap.size l M M V V := ⟨⟨hlowV, hBV, Wr.refl _ _, fun k h => .inl h, hBM Bp rfl⟩, hyV, fun e => by have := (hMlt _ e).2; omega, fun k h => (hMlt k h).1⟩
 have HP : ∀ W', Below n₀ w0 W' → PoolAt o W' pb p := fun W' hb => hp.below (hb.mono h0) hlt
 have HG := Lib.hid (ids1_gives F (n - 1) hF3 hro (by omega) (W.heap.size + 1) n₀ pb hp hlt h0 V hlowV (by omega) hpV)
 have HPH := Lib.hid HP
 have HYH := Lib.hid hY
 have HEA := Lib.hid hEa
 have HOW := Lib.hid hOw
 have HMlt := Lib.hid hMlt
 have HMI := Lib.hid hMi
 have HJV := Lib.hid hJV
 have HWV := Lib.hid hWV
 have hlen := hp.len
 have hpos := hp.pos
 have htop := hp.top
 have hroom := hp.room
 have h1 : 1 ≤ n := by omega
 have hbA : (W.alloc (.cells #[.func (.yield l) #[] #[]] 132)).cell? ⟨Bp, 0, none⟩ = some (.pointer (some ⟨pb, 0, none⟩)) := cell_wr ((Wr.refl (fun _ => False) W).alloc _) hbW (fun h => h)
 refine callsIn_of_wp_marks Tryz.func157 rfl hF1 ?_ hro
 simp only [Tryz.ntmps157, List.size_toArray, List.length_cons, List.length_nil, Nat.reduceAdd, Nat.reduceSub, Array.replicate_succ, Array.replicate_zero, List.push_toArray, List.append_toArray, List.nil_append, List.cons_append]
 clear hOw hMi hWr hBM hY hJ hJV hMlt hyV hpV hBV hlowV hEa HP hp hlt h0 hw hBp hlW hWV hVs
 gi_wp2_with (gi_at_call 158; refine (ids_in F (n - 1) hF2 hro _ _).mono ?_; rintro e w' ⟨rfl, rfl⟩)
 rw [← hV]
 have hVs : V.heap.size = W.heap.size + 2 := by rw [hV]; simp
 clear hV
 have hmx : Tryz.prog.follows .mixedOrders = true := by kernel_rfl
 refine wp_range hro h1 (gf := 169) (lb := #[.pointer (some ⟨W.heap.size + 1, 0, none⟩)]) rfl hF3 (enters_of Tryz.func169 (by kernel_rfl) rfl) HG.out
  (by omega) (by rintro k rfl; omega) (fun x => rfl)
  (fun pre N V' => ∃ M1, (∀ k, N k ↔ M1 k ∨ k = W.heap.size ∨ k = Bp) ∧ J pre M1 V' ∧ EaS n₀ o w0 pb p Bp W.heap.size l M M1 V V')
  ?_ ?_ (fun k => M k ∨ k = W.heap.size ∨ k = Bp) ?_ ⟨M, fun k => Iff.rfl, HJV.out, HEA.out⟩
  (fun x a' _ _ => a' = {
   tmps :=
    #[Value.func (Fn.yield l) #[] #[], Value.pointer (some { block := Bp, off := 0 }),
     Value.pointer (some { block := W.heap.size, off := 0 }), Value.int IntKind.i64 ↑x,
     Value.pointer (some { block := pb, off := 0 }),
     Value.func (Fn.func 169) #[] #[Value.pointer (some { block := W.heap.size + 1, off := 0 })],
     Value.int IntKind.i64 ↑x, undef, undef, undef, undef, undef, undef, undef, undef, undef, undef],
   defers := [] }) ?_ ?_ ?_ ?_
 ·
  rintro pre N V' ⟨M1, hN, hj, hE⟩ k hk
  rcases (hN k).1 hk with h | h | h
  ·
   exact HOW.out _ _ _ hj k h
  ·
   subst h; exact ⟨hnW, lt_of_cell hE.boxy⟩
  ·
   subst h; exact ⟨hBn, lt_of_cell hE.it.box⟩
 ·
  rintro pre N V' V'' ⟨M1, hN, hj, hE⟩ hw
  have hkeep : ∀ k, k < V'.heap.size → (k < n₀ ∨ N k) → V''.heap[k]? = V'.heap[k]? := fun k hk hn => hw.keep k hk (fun ⟨a, b⟩ => by
   rcases hn with h | h
   ·
    omega
   ·
    exact b h)
  refine ⟨M1, hN, HMI.out _ _ _ _ hj (hw.mono fun k ⟨a, b⟩ => ⟨a, fun h => b ((hN k).2 (.inl h))⟩), ⟨⟨?_, ?_, ?_, hE.it.sub, hE.it.nb⟩, ?_, hE.ny, hE.ge⟩⟩
  ·
   exact hE.it.low.trans (hw.below (fun k h => h.1) (by have := hE.it.wr.size; omega))
  ·
   exact (World.cell?_of_block (w := V') (a := ⟨Bp, 0, none⟩) (hkeep _ (lt_of_cell hE.it.box) (.inr ((hN _).2 (.inr (.inr rfl)))))).trans hE.it.box
  ·
   exact hE.it.wr.trans hw (fun _ _ h => h) (fun k _ h => h.1)
  ·
   exact (World.cell?_of_block (w := V') (a := ⟨W.heap.size, 0, none⟩) (hkeep _ (lt_of_cell hE.boxy) (.inr ((hN _).2 (.inr (.inl rfl)))))).trans hE.boxy
 ·
  rintro k rfl h
  have hM1 : W.heap.size + 1 < W.heap.size ∨ W.heap.size + 1 = W.heap.size ∨ W.heap.size + 1 = Bp := by
   rcases h with h | h
   ·
    left; exact (HMlt.out _ h).2
   ·
    right; exact h
  omega
 ·
  intro x a' W' W1 W2 l' _ h _
  exact h
 ·
  intro l' pre x N V' K hI hK
  gi_wp2
  exact hK _ _ (Wr.refl _ _) rfl
 ·
  rintro l' pre x a' N W0 W1 ⟨M1, hN, hj, hE⟩ rfl hs0 hs1 hsuf
  obtain ⟨suf, hsuf⟩ := hsuf
  have hx : p.tk x = true := mem_takenL hsuf
  obtain ⟨vs, vt, vf, d0, d1, d2, d3, d4, hs, ht, _⟩ := (HPH.out W1 hE.it.low).cells
  have hbx := hE.it.box
  have hby := hE.boxy
  obtain ⟨gs, cs, rfl, hsl⟩ := hs.shape hpos
  have hxl := ((HPH.out W1 hE.it.low).tk_lt hx).2
  have hcn := PoolAt.node hs (k := x) hxl
  have hxi : (x : Int) < p.at_.length := by omega
  obtain ⟨fn, tmps, assign, body, hy, hR⟩ := HYH.out _ x M1 W1.drew (HMI.out _ _ _ _ hj ((Wr.refl _ W1).drew)) ⟨suf, hsuf⟩
  simp only [rnAgg] at hy
  have HR := Lib.hid hR
  have HE := Lib.hid hE
  have HN := Lib.hid hN
  clear hs hE hj hR hN hsuf hsl
  gi_wp2
  gi_region_with_o (refine ⟨fun _ => by omega, HR.out.mono ?_⟩; rintro e W3 ⟨rfl, M3, hJ3, hw3, hM3⟩)
  all_goals gi_wp2
  all_goals exact ⟨fun k => M3 k ∨ k = W.heap.size ∨ k = Bp, ⟨M3, fun k => Iff.rfl, hJ3, HE.out.go (by omega) (Wr.trans ((Wr.refl M1 W1).drew) hw3 (fun _ _ h => h) (fun _ _ h => h)) hM3⟩,
   Wr.trans ((Wr.refl M1 W1).drew) hw3 (fun k _ h => .inl ((HN.out k).2 (.inl h))) (fun k _ h => .inl ((HN.out k).2 (.inl h))),
   fun k hk => by
    rcases hk with hk | hk
    ·
     rcases hM3 k hk with h | h
     ·
      exact .inl ((HN.out k).2 (.inl h))
     ·
      right; have : W1.heap.size ≤ k := h; omega
    ·
     exact .inl ((HN.out k).2 (.inr hk))⟩
 ·
  rintro D N W2 hD1 hD2 ⟨M1, hN, hj, hE⟩ hN2 hw2 hD3
  gi_wp2
  refine ⟨by simp, .inl ⟨_, _, rfl, run_takeDeferred hD3, ?_⟩⟩
  have hDb : n₀ ≤ D := by omega
  refine ⟨_, results_none rfl _ _ _, ⟨_, rfl⟩, M1, ?_, ?_, ?_⟩
  ·
   exact HMI.out _ _ _ _ hj ((Wr.refl _ _).putObj (.inl ⟨hDb, fun h => hD2 ((hN D).2 (.inl h))⟩) _)
  ·
   exact ((HWV.out (fun k => n₀ ≤ k)).trans hw2 (fun _ _ h => h) (fun _ _ h => h)).putObj (.inl hDb) _
  ·
   intro k hk
   rcases hE.it.sub k hk with h | h
   ·
    exact .inl h
   ·
    right; omega
end Go.Proofs.YtchliiaknmknhaaGreat
