/- Drawn regions in which more than one order stays open: step by step. -/
import Derived.Test.YtcembefhfadpbaaMix
namespace Go.Proofs.Ytcembefhfadpbaa
open Go.RowKit

section
variable {P : Program} {S : World → Prop} {Q : Exit → Act → World → Prop} {m : Nat}

/-- What is left of a region, with what it needs. -/
structure Left (P : Program) (l : List Oper) (Q : Exit → Act → World → Prop) (S : World → Prop) (m f : Nat) (L : Array Bool) (a : Act) (w : World) : Prop where
  goes : Closed l.toArray L → S w → wpAnyS P l.toArray (NP Q) S m f L a w

theorem wp_region_left {id : Nat} {a : Act} {w : World} {l : List Oper} (S : World → Prop) (m : Nat) (hm : P.follows .mixedOrders = true) (hS : S w.drew)
    (h : Left P l Q S m l.length (Array.replicate l.toArray.size false) a w.drew) : (Code.region id l.toArray true).wp P Q a w :=
  wp_of_np (wp_region_any hm (wpAny_of_S _ _ _ _ (h.goes (closed_start _) hS)))
/-- A read that may be taken first. -/
theorem left_read {l : List Oper} {f : Nat} {L : Array Bool} {a : Act} {w : World} (i : Nat) (o : Oper) (v : Value) (hi : l[i]? = some o)
    (hB : (Region.noSelect l.toArray && (Region.ready .any l.toArray L).contains i && Region.free .any l.toArray L i && (decide (l.toArray.size ≤ m) || reaches l.toArray l.toArray.size i m)) = true)
    (hy : ∀ w, S w → YieldsIf P l.toArray S o v a) (h : Left P l Q S m f (L.setIfInBounds i true) (a.put o.dst v) w) : Left P l Q S m (f + 1) L a w := by
  refine ⟨fun hc hS => ?_⟩
  simp only [Bool.and_eq_true] at hB
  obtain ⟨⟨⟨hs, hr⟩, hf⟩, hm⟩ := hB
  have hi' : l.toArray[i]? = some o := by simpa using hi
  have hr' : i ∈ Region.ready .any l.toArray L := by simpa using hr
  exact wpAnyS_first hi' hs (fun _ _ _ _ _ h => h) hm f L a w hc (Region.free_spec hi' hf) hr' (hy w hS) hS (h.goes (hc.set hr') hS)
theorem left_readE {l : List Oper} {f : Nat} {L : Array Bool} {a : Act} {w : World} (i : Nat) {o : Oper} (hi : l[i]? = some o) (hg : o.guard = none)
    (hB : (Region.noSelect l.toArray && (Region.ready .any l.toArray L).contains i && Region.free .any l.toArray L i && (decide (l.toArray.size ≤ m) || reaches l.toArray l.toArray.size i m)) = true)
    (h : ∃ v, (∀ w, S w → (execOp a.eval o).run P w = .ok (.value v) w) ∧ Left P l Q S m f (L.setIfInBounds i true) (a.put o.dst v) w) : Left P l Q S m (f + 1) L a w := by
  obtain ⟨v, h1, h2⟩ := h
  exact left_read i o v hi hB (fun w _ => .inl ⟨by simp [Region.wanted, hg], h1⟩) h2
/-- Whatever may come next comes. -/
theorem left_alts {l : List Oper} {f : Nat} {L : Array Bool} {a : Act} {w : World} (is : List Nat) (hr : (decide (Region.ready .any l.toArray L = is) && !is.isEmpty) = true)
    (h : ∀ i ∈ is, S w → ∀ o, l[i]? = some o → Region.wanted o (yielded l.toArray a.tmps) = true ∧ o.wp P a w (fun a' w' => S w' ∧ Left P l Q S m f (L.setIfInBounds i true) a' w') (NP Q)) : Left P l Q S m (f + 1) L a w := by
  refine ⟨fun hc hS => ?_⟩
  simp only [Bool.and_eq_true, decide_eq_true_eq] at hr
  obtain ⟨hr, hne⟩ := hr
  refine ⟨fun h0 => (by rw [h0] at hr; subst hr; simp at hne), fun i hi => ?_⟩
  have hi2 : i ∈ is := by rw [← hr]; exact hi
  obtain ⟨_, o, ho, _⟩ := mem_ready.1 hi
  obtain ⟨hw, hwp⟩ := h i hi2 hS o (by simpa using ho)
  unfold wpOp
  rw [ho]
  simp only [hw, if_true]
  left
  refine Oper.wp_mono ?_ hwp
  intro a' w' ⟨h1, h2⟩
  exact ⟨.inr h1, h2.goes (hc.set hi) h1⟩
theorem left_end {l : List Oper} {L : Array Bool} {a : Act} {w : World} (hr : (Region.ready .any l.toArray L).isEmpty = true) (h : Q .normal a w) : Left P l Q S m 0 L a w :=
  ⟨fun _ _ => ⟨by simpa [List.isEmpty_iff] using hr, h⟩⟩
theorem oper_value {o : Oper} {a : Act} {w w' : World} {v : Value} {K : Act → World → Prop} {Q : Exit → Act → World → Prop} (he : (execOp a.eval o).run P w = .ok (.value v) w') (h : K (a.put o.dst v) w') : o.wp P a w K Q := by
  unfold Oper.wp
  rw [he]; exact h
end
end Go.Proofs.Ytcembefhfadpbaa
