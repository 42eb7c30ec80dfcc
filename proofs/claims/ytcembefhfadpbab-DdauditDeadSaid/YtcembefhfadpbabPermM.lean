/- Plain functions on lists of integers: what the functions of the order packages compute, and their laws; no program in sight. -/
import Derived.Test.YtcembefhfadpbabBase
namespace Go.Proofs.Ytcembefhfadpbab

def placeZ (zs : List Int) (x : Int) : Int := match zs.idxOf? x with | some k => k | none => -1

theorem placeZ_found {zs : List Int} {x : Int} {k : Nat} (h : k < zs.length) (hx : at0 zs k = x) (hn : ∀ j, j < k → at0 zs j ≠ x) : placeZ zs x = k := by
  have : zs.idxOf? x = some k := by
    rw [List.idxOf?_eq_some_iff]
    refine ⟨h, by rw [at0_eq h] at hx; exact hx, ?_⟩
    intro j hj
    have := hn j hj
    rw [at0_eq (Nat.lt_trans hj h)] at this
    exact this
  simp [placeZ, this]
theorem placeZ_none {zs : List Int} {x : Int} (hn : ∀ j, j < zs.length → at0 zs j ≠ x) : placeZ zs x = -1 := by
  have : zs.idxOf? x = none := by
    rw [List.idxOf?_eq_none_iff]
    intro hx
    obtain ⟨j, hj, rfl⟩ := List.mem_iff_getElem.1 hx
    exact hn j hj (at0_eq hj)
  simp [placeZ, this]

def rightB (zs : List Int) : Bool := decide ((∀ k, k < zs.length → 0 ≤ at0 zs k ∧ at0 zs k < zs.length) ∧ ∀ i, i < zs.length → ∀ k, k < i → at0 zs k ≠ at0 zs i)

theorem rightB_iff (zs : List Int) : rightB zs = true ↔ (∀ k, k < zs.length → 0 ≤ at0 zs k ∧ at0 zs k < zs.length) ∧ ∀ i, i < zs.length → ∀ k, k < i → at0 zs k ≠ at0 zs i := by simp [rightB]
theorem rightB_false {zs : List Int} (h : ¬ ((∀ k, k < zs.length → 0 ≤ at0 zs k ∧ at0 zs k < zs.length) ∧ ∀ i, i < zs.length → ∀ k, k < i → at0 zs k ≠ at0 zs i)) : rightB zs = false := by
  rw [Bool.eq_false_iff]; intro h'; exact h ((rightB_iff zs).1 h')

theorem eq_of_at0 {xs ys : List Int} (hl : xs.length = ys.length) (h : ∀ k, k < xs.length → at0 xs k = at0 ys k) : xs = ys := by
  apply List.ext_getElem hl
  intro i h1 h2
  have := h i h1
  rwa [at0_eq h1, at0_eq h2] at this


def swapZ (zs : List Int) (i : Int) : List Int :=
  if 0 ≤ i ∧ i + 1 < zs.length then (zs.set i.toNat (at0 zs (i.toNat + 1))).set (i.toNat + 1) (at0 zs i.toNat) else zs
theorem swapZ_length (zs : List Int) (i : Int) : (swapZ zs i).length = zs.length := by unfold swapZ; split <;> simp
theorem swapZ_in {zs : List Int} {k : Nat} (h : k + 1 < zs.length) : swapZ zs (k : Int) = (zs.set k (at0 zs (k + 1))).set (k + 1) (at0 zs k) := by
  unfold swapZ; rw [if_pos (by omega)]; simp
theorem swapZ_out {zs : List Int} {i : Int} (h : ¬ (0 ≤ i ∧ i + 1 < zs.length)) : swapZ zs i = zs := by unfold swapZ; rw [if_neg h]

/-- The numbers 0, 1, .. n-1. -/
def iota (n : Nat) : List Int := (List.range n).map Int.ofNat
theorem iota_length (n : Nat) : (iota n).length = n := by simp [iota]
theorem iota_succ (n : Nat) : iota (n + 1) = iota n ++ [(n : Int)] := by simp [iota, List.range_succ]
def identZ (n : Int) : List Int := iota (min n.toNat 64)

def inverseZ (zs : List Int) : List Int := if rightB zs then (iota zs.length).map (placeZ zs) else []


theorem placeZ_lo (zs : List Int) (x : Int) : -1 ≤ placeZ zs x := by unfold placeZ; split <;> omega
theorem placeZ_lt (zs : List Int) (x : Int) : placeZ zs x < max 1 zs.length := by
  unfold placeZ
  split
  · rename_i k hk
    rw [List.idxOf?_eq_some_iff] at hk
    obtain ⟨h, _⟩ := hk
    omega
  · omega
theorem iota_map_succ (f : Int → Int) (n : Nat) : (iota (n + 1)).map f = (iota n).map f ++ [f n] := by simp [iota_succ]

/-- Move the element at i+d down to i by adjacent exchanges: the list, and the places of the exchanges. -/
def bub (zs : List Int) (i : Nat) : Nat → List Int × List Int
  | 0 => (zs, [])
  | d + 1 => ((bub (swapZ zs ((i + d : Nat) : Int)) i d).1, ((i + d : Nat) : Int) :: (bub (swapZ zs ((i + d : Nat) : Int)) i d).2)
theorem bub_length1 (i d : Nat) : ∀ zs : List Int, (bub zs i d).1.length = zs.length := by
  induction d with
  | zero => intro zs; rfl
  | succ d ih => intro zs; simp only [bub]; rw [ih, swapZ_length]
theorem bub_length2 (i d : Nat) : ∀ zs : List Int, (bub zs i d).2.length = d := by
  induction d with
  | zero => intro zs; rfl
  | succ d ih => intro zs; simp only [bub, List.length_cons]; rw [ih]

def bubTo (zs : List Int) (x : Int) (i : Nat) : List Int × List Int := bub zs i (placeZ zs x - i).toNat
/-- The exchanges that lead from an order to another. -/
def stepsZ : List Int → List Int → Nat → List Int
  | _, [], _ => []
  | now, b :: bs, i => (bubTo now b i).2 ++ stepsZ (bubTo now b i).1 bs (i + 1)
theorem stepsZ_nil (now : List Int) (i : Nat) : stepsZ now [] i = [] := rfl
theorem drop_at0 {zs : List Int} {k : Nat} (h : k < zs.length) : zs.drop k = at0 zs k :: zs.drop (k + 1) := by
  rw [List.drop_eq_getElem_cons h, at0_eq h]
theorem stepsZ_drop (now bs : List Int) (k : Nat) (h : k < bs.length) : stepsZ now (bs.drop k) k = (bubTo now (at0 bs k) k).2 ++ stepsZ (bubTo now (at0 bs k) k).1 (bs.drop (k + 1)) (k + 1) := by
  rw [drop_at0 h]; rfl
def stepsOf (a b : List Int) : List Int := if rightB a = true ∧ rightB b = true ∧ a.length = b.length then stepsZ a b 0 else []
def stepsErr (a b : List Int) : Int := if rightB a = true ∧ rightB b = true then (if a.length = b.length then 0 else 3) else 1

end Go.Proofs.Ytcembefhfadpbab
