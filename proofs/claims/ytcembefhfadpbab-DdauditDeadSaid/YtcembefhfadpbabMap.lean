/- Maps in memory, read as lists of keys and values: lookup, store, delete, len; over any program and any lawful key. -/
import Derived.Test.YtcembefhfadpbabBase
import Derived.MapKept
import Derived.ChangeKeysEq
import Derived.Maps.OwnSet
namespace Go.Proofs.Ytcembefhfadpbab
open Go.RowKit

set_option linter.unusedSectionVars false
section
variable {P : Program} {κ : Type} [DecidableEq κ]

/-- The value at a key, with its place. -/
def findL (k : κ) : List (κ × Value) → Nat → Option (Nat × Value)
  | [], _ => none
  | p :: l, i => if p.1 = k then some (i, p.2) else findL k l (i + 1)
def getL (l : List (κ × Value)) (k : κ) : Option Value := (findL k l 0).map (·.2)

/-- What a key's type must give. -/
structure KeyOk (P : Program) (K : TypeId) (enc : κ → Value) : Prop where
  check : ∀ (w : World) (em : Bool) (k : κ), (Instr.checkKey em 10000 K (enc k)).run P w = .ok () w
  find : ∀ (w : World) (k : κ) (l : List (κ × Value)) (es : List MapEntry), es.map (fun e => (e.key, e.val)) = l.map (fun p => (enc p.1, p.2)) →
    (Instr.findKey K (enc k) es).run P w = .ok (findL k l 0) w
  stays : ∀ (w : World) (k : κ), (Instr.keyThatStays (enc k) (enc k)).run P w = .ok (enc k) w

/-- Block b is a map that holds just these pairs. -/
structure MapIs (w : World) (b : Nat) (enc : κ → Value) (l : List (κ × Value)) : Prop where
  ex : ∃ es clock, w.heap[b]? = some (.map es clock) ∧ es.toList.map (fun e => (e.key, e.val)) = l.map (fun p => (enc p.1, p.2)) ∧
    (∀ e ∈ es.toList, e.born < clock) ∧ (es.toList.map (·.born)).Nodup
  nodup : (l.map Prod.fst).Nodup

theorem MapIs.lt {w : World} {b : Nat} {enc : κ → Value} {l : List (κ × Value)} (h : MapIs w b enc l) : b < w.heap.size := by
  obtain ⟨es, c, hb, _⟩ := h.ex
  exact (Array.getElem?_eq_some_iff.1 hb).1
theorem MapIs.keep {row : Option Nat} {w w' : World} {b : Nat} {enc : κ → Value} {l : List (κ × Value)} (h : MapIs w b enc l) (hk : KeepBut row w w') (hne : some b ≠ row) : MapIs w' b enc l := by
  obtain ⟨es, c, hb, rest⟩ := h.ex
  exact ⟨⟨es, c, by rw [hk b h.lt hne]; exact hb, rest⟩, h.nodup⟩
theorem keepBut_of_below {w w' : World} (h : Below w.heap.size w w') (row : Option Nat) : KeepBut row w w' := fun k hk _ => h.block k hk
theorem MapIs.below {w w' : World} {b : Nat} {enc : κ → Value} {l : List (κ × Value)} (h : MapIs w b enc l) (hb : Below w.heap.size w w') : MapIs w' b enc l :=
  h.keep (keepBut_of_below hb none) (by simp)
theorem mapIs_new (w : World) (enc : κ → Value) : MapIs (w.alloc (.map #[] 0)) w.heap.size enc [] :=
  ⟨⟨#[], 0, heap_alloc_new w _, by simp, by simp, by simp⟩, by simp⟩

theorem run_getObj_map {w : World} {b : Nat} {es : Array MapEntry} {c : Nat} (h : w.heap[b]? = some (.map es c)) : (getObj b).run P w = .ok (.map es c) w := by
  simp [getObj, Sem.run, h]
theorem findL_shift (k : κ) (l : List (κ × Value)) : ∀ i, findL k l (i + 1) = (findL k l i).map fun p => (p.1 + 1, p.2) := by
  induction l with
  | nil => intro i; rfl
  | cons p l ih => intro i; unfold findL; split <;> simp [ih]
theorem findL_some {k : κ} {l : List (κ × Value)} {j : Nat} {v : Value} : ∀ {i : Nat}, findL k l i = some (j, v) → ∃ n, j = i + n ∧ l[n]? = some (k, v) := by
  induction l with
  | nil => intro i h; cases h
  | cons p l ih =>
    intro i h
    unfold findL at h
    split at h
    · rename_i he
      simp only [Option.some.injEq, Prod.mk.injEq] at h
      obtain ⟨rfl, rfl⟩ := h
      exact ⟨0, rfl, by simp [← he]⟩
    · obtain ⟨n, h1, h2⟩ := ih h
      exact ⟨n + 1, by omega, by simpa using h2⟩
theorem findL_none {k : κ} {l : List (κ × Value)} : ∀ {i : Nat}, findL k l i = none → ∀ p ∈ l, p.1 ≠ k := by
  induction l with
  | nil => intro i _ p hp; cases hp
  | cons q l ih =>
    intro i h p hp
    unfold findL at h
    split at h
    · cases h
    · rename_i he
      rcases List.mem_cons.1 hp with rfl | hp
      · exact he
      · exact ih h p hp

theorem MapIs.lookup {w : World} {b : Nat} {K T E : TypeId} {enc : κ → Value} {l : List (κ × Value)} (h : MapIs w b enc l) (L : KeyOk P K enc) (hT : P.underlying T = some (.map K E)) {z : Value}
    (hz : ∀ w, (zeroValue E).run P w = .ok z w) (k : κ) (ok : Bool) :
    (Instr.lookup T (.map (some b)) (enc k) ok).run P w = .ok (if ok then .tuple #[(getL l k).getD z, .bool (getL l k).isSome] else (getL l k).getD z) w := by
  obtain ⟨es, c, hb, hm, _⟩ := h.ex
  simp only [Instr.lookup, Sem.run_bind, run_underlying hT, Result.andThen_ok, run_getObj_map hb, Sem.run_pure, L.check, L.find w k l es.toList hm]
  unfold getL
  cases hf : findL k l 0 with
  | none => simp [hz, Result.andThen]
  | some p => simp

/-- The pairs behind a store. -/
def putL (k : κ) (v : Value) (l : List (κ × Value)) : List (κ × Value) :=
  match findL k l 0 with
  | some (j, _) => l.set j (k, v)
  | none => l ++ [(k, v)]
/-- The pairs behind a delete. -/
def delL (k : κ) (l : List (κ × Value)) : List (κ × Value) :=
  match findL k l 0 with
  | some (j, _) => l.eraseIdx j
  | none => l

theorem getL_of_mem {l : List (κ × Value)} (hn : (l.map Prod.fst).Nodup) {k : κ} {v : Value} (h : (k, v) ∈ l) : getL l k = some v := by
  unfold getL
  cases hf : findL k l 0 with
  | none => exact (findL_none hf _ h rfl).elim
  | some p =>
    obtain ⟨j, u⟩ := p
    obtain ⟨n, _, h2⟩ := findL_some hf
    obtain ⟨m, hm, he⟩ := List.mem_iff_getElem.1 h
    have hnl : n < l.length := by
      rcases Nat.lt_or_ge n l.length with h' | h'
      · exact h'
      · rw [List.getElem?_eq_none h'] at h2; cases h2
    rw [List.getElem?_eq_getElem hnl] at h2
    have h3 : l[n] = (k, u) := by simpa using h2
    have h4 : n = m := by
      apply (List.getElem_inj (h₀ := by simpa using hnl) (h₁ := by simpa using hm) hn).1
      simp [h3, he]
    subst h4
    rw [h3] at he
    simp only [Prod.mk.injEq, true_and] at he
    simp [he]
theorem mem_of_getL {l : List (κ × Value)} {k : κ} {v : Value} (h : getL l k = some v) : (k, v) ∈ l := by
  unfold getL at h
  cases hf : findL k l 0 with
  | none => rw [hf] at h; cases h
  | some p =>
    obtain ⟨j, u⟩ := p
    obtain ⟨n, _, h2⟩ := findL_some hf
    rw [hf] at h
    simp only [Option.map_some, Option.some.injEq] at h
    subst h
    exact List.mem_of_getElem? h2
theorem getL_none {l : List (κ × Value)} {k : κ} : getL l k = none ↔ ∀ p ∈ l, p.1 ≠ k := by
  constructor
  · intro h
    unfold getL at h
    cases hf : findL k l 0 with
    | none => exact findL_none hf
    | some p => rw [hf] at h; cases h
  · intro h
    cases hg : getL l k with
    | none => rfl
    | some v => exact (h _ (mem_of_getL hg) rfl).elim
theorem getL_ext {l : List (κ × Value)} (hn : (l.map Prod.fst).Nodup) {k : κ} {o : Option Value} (h1 : ∀ v, o = some v → (k, v) ∈ l) (h2 : o = none → ∀ p ∈ l, p.1 ≠ k) : getL l k = o := by
  cases o with
  | none => exact getL_none.2 (h2 rfl)
  | some v => exact getL_of_mem hn (h1 v rfl)

theorem set_keys {l : List (κ × Value)} {n : Nat} {k : κ} {u v : Value} (h : l[n]? = some (k, u)) : (l.set n (k, v)).map Prod.fst = l.map Prod.fst := by
  have hn : n < l.length := by
    rcases Nat.lt_or_ge n l.length with h' | h'
    · exact h'
    · rw [List.getElem?_eq_none h'] at h; cases h
  apply List.ext_getElem (by simp)
  intro i h1 h2
  simp only [List.getElem_map, List.getElem_set]
  split
  · rename_i e; subst e
    rw [List.getElem?_eq_getElem hn] at h
    have : l[n] = (k, u) := by simpa using h
    simp [this]
  · rfl
theorem putL_nodup {l : List (κ × Value)} (hn : (l.map Prod.fst).Nodup) (k : κ) (v : Value) : ((putL k v l).map Prod.fst).Nodup := by
  unfold putL
  cases hf : findL k l 0 with
  | none =>
    simp only [List.map_append, List.map_cons, List.map_nil]
    refine List.nodup_append.2 ⟨hn, by simp, ?_⟩
    intro a ha b hb
    obtain ⟨p, hp, rfl⟩ := List.mem_map.1 ha
    simp at hb; subst hb
    exact findL_none hf p hp
  | some p =>
    obtain ⟨j, u⟩ := p
    obtain ⟨n, h1, h2⟩ := findL_some hf
    simp only [Nat.zero_add] at h1; subst h1
    rw [set_keys h2]; exact hn
theorem getL_putL {l : List (κ × Value)} (hn : (l.map Prod.fst).Nodup) (k k' : κ) (v : Value) : getL (putL k v l) k' = if k' = k then some v else getL l k' := by
  refine getL_ext (putL_nodup hn k v) ?_ ?_
  · intro u hu
    unfold putL
    cases hf : findL k l 0 with
    | none =>
      dsimp only
      split at hu
      · rename_i e; subst e; cases hu; simp
      · exact List.mem_append.2 (.inl (mem_of_getL hu))
    | some p =>
      obtain ⟨j, x⟩ := p
      obtain ⟨n, h1, h2⟩ := findL_some hf
      simp only [Nat.zero_add] at h1; subst h1
      dsimp only
      have hj : j < l.length := by
        rcases Nat.lt_or_ge j l.length with h' | h'
        · exact h'
        · rw [List.getElem?_eq_none h'] at h2; cases h2
      split at hu
      · rename_i e; subst e; cases hu
        exact List.mem_iff_getElem.2 ⟨j, by simpa using hj, by simp⟩
      · rename_i e
        obtain ⟨m, hm, he⟩ := List.mem_iff_getElem.1 (mem_of_getL hu)
        refine List.mem_iff_getElem.2 ⟨m, by simpa using hm, ?_⟩
        rw [List.getElem_set_ne]
        · exact he
        · rintro rfl
          rw [List.getElem?_eq_getElem hj] at h2
          have h3 : l[j] = (k, x) := by simpa using h2
          rw [h3] at he
          simp only [Prod.mk.injEq] at he
          exact e he.1.symm
  · intro ho p hp e
    split at ho
    · cases ho
    · rename_i hne
      have hno := getL_none.1 ho
      unfold putL at hp
      cases hf : findL k l 0 with
      | none =>
        rw [hf] at hp
        rcases List.mem_append.1 hp with hp | hp
        · exact hno p hp e
        · simp at hp; subst hp; exact hne e.symm
      | some q =>
        obtain ⟨j, x⟩ := q
        rw [hf] at hp
        rcases List.mem_or_eq_of_mem_set hp with hp | rfl
        · exact hno p hp e
        · exact hne e.symm

theorem MapIs.update {w : World} {b : Nat} {K T E : TypeId} {enc : κ → Value} {l : List (κ × Value)} (h : MapIs w b enc l) (L : KeyOk P K enc) (hT : P.underlying T = some (.map K E)) (k : κ) (v : Value) :
    ∃ w', (Instr.mapUpdate T (.map (some b)) (enc k) v).run P w = .ok () w' ∧ MapIs w' b enc (putL k v l) ∧ w.grownBy w' (some b) := by
  obtain ⟨es, c, hb, hm, hborn, hnd⟩ := h.ex
  have hlt := h.lt
  have hlen : es.toList.length = l.length := by have := congrArg List.length hm; simpa using this
  have hset : ∀ o : Obj, (setObj b o).run P w = .ok () { w with heap := w.heap.setIfInBounds b o } := by
    intro o; simp [setObj, Sem.run, hb]
  have hgrown : ∀ o : Obj, w.grownBy { w with heap := w.heap.setIfInBounds b o } (some b) := by
    intro o
    refine ⟨rfl, rfl, rfl, by simp, fun i hi hne => ?_⟩
    have : b ≠ i := by rintro rfl; exact hne rfl
    simp [this]
  cases hf : findL k l 0 with
  | none =>
    refine ⟨{ w with heap := w.heap.setIfInBounds b (.map (es.push { key := enc k, val := v, born := c }) (c + 1)) }, ?_, ?_, hgrown _⟩
    · simp only [Instr.mapUpdate, Sem.run_bind, run_underlying hT, Result.andThen_ok, run_getObj_map hb, L.check, L.find w k l es.toList hm, hf, hset]
    · refine ⟨⟨es.push { key := enc k, val := v, born := c }, c + 1, by simp [hlt], ?_, ?_, ?_⟩, ?_⟩
      · unfold putL; rw [hf]; simp [hm]
      · intro e he
        rw [Array.toList_push, List.mem_append] at he
        rcases he with he | he
        · have := hborn e he; omega
        · simp at he; subst he; simp
      · rw [Array.toList_push, List.map_append]
        refine List.nodup_append.2 ⟨hnd, by simp, ?_⟩
        intro a ha b' hb'
        obtain ⟨e, he, rfl⟩ := List.mem_map.1 ha
        simp at hb'; subst hb'
        have := hborn e he; omega
      · exact putL_nodup h.nodup k v
  | some p =>
    obtain ⟨j, u⟩ := p
    obtain ⟨n, h1, h2⟩ := findL_some hf
    simp only [Nat.zero_add] at h1; subst h1
    have hj : j < l.length := by
      rcases Nat.lt_or_ge j l.length with h' | h'
      · exact h'
      · rw [List.getElem?_eq_none h'] at h2; cases h2
    have hje : j < es.size := by have : es.toList.length = es.size := rfl; omega
    have hkey : es[j].key = enc k := by
      have h3 := congrArg (fun x => x[j]?) hm
      simp only [List.getElem?_map, h2, Option.map_some] at h3
      have h4 : es.toList[j]? = some es[j] := by simp [hje]
      rw [h4] at h3
      simp only [Option.map_some, Option.some.injEq, Prod.mk.injEq] at h3
      exact h3.1
    have hst : (Instr.keyThatStays (((es[j]?).map (·.key)).getD (enc k)) (enc k)).run P w = .ok (enc k) w := by
      simp only [Array.getElem?_eq_getElem hje, Option.map_some, Option.getD_some, hkey]; exact L.stays w k
    refine ⟨{ w with heap := w.heap.setIfInBounds b (.map (es.modify j fun e => { e with key := enc k, val := v }) c) }, ?_, ?_, hgrown _⟩
    · simp only [Instr.mapUpdate, Sem.run_bind, run_underlying hT, Result.andThen_ok, run_getObj_map hb, L.check, L.find w k l es.toList hm, hf, hst, hset]
    · have hml : (es.modify j fun e => { e with key := enc k, val := v }).toList = es.toList.set j { es[j] with key := enc k, val := v } := by
        apply List.ext_getElem (by simp)
        intro i hi1 hi2
        simp only [Array.getElem_toList, Array.getElem_modify, List.getElem_set]
        split
        · rename_i e; subst e; rfl
        · rfl
      refine ⟨⟨es.modify j fun e => { e with key := enc k, val := v }, c, by simp [hlt], ?_, ?_, ?_⟩, putL_nodup h.nodup k v⟩
      · unfold putL; rw [hf, hml]; simp [List.map_set, hm]
      · intro e he
        rw [hml] at he
        rcases List.mem_or_eq_of_mem_set he with he | rfl
        · exact hborn e he
        · exact hborn es[j] (by simp)
      · have : ((es.modify j fun e => { e with key := enc k, val := v }).toList.map (·.born)) = es.toList.map (·.born) := by
          rw [hml, List.map_set]
          apply List.ext_getElem (by simp)
          intro i hi1 hi2
          simp only [List.getElem_set, List.getElem_map, Array.getElem_toList]
          split
          · rename_i e; subst e; rfl
          · rfl
        rw [this]; exact hnd

theorem map_eraseIdx {α β : Type} (f : α → β) : ∀ (l : List α) (j : Nat), (l.eraseIdx j).map f = (l.map f).eraseIdx j
  | [], _ => rfl
  | _ :: _, 0 => rfl
  | x :: l, j + 1 => by simp [map_eraseIdx f l j]
theorem delL_nodup {l : List (κ × Value)} (hn : (l.map Prod.fst).Nodup) (k : κ) : ((delL k l).map Prod.fst).Nodup := by
  unfold delL
  split
  · exact hn.sublist ((List.eraseIdx_sublist _ _).map _)
  · exact hn
theorem getL_delL {l : List (κ × Value)} (hn : (l.map Prod.fst).Nodup) (k k' : κ) : getL (delL k l) k' = if k' = k then none else getL l k' := by
  refine getL_ext (delL_nodup hn k) ?_ ?_
  · intro u hu
    split at hu
    · cases hu
    · rename_i hne
      have hm := mem_of_getL hu
      unfold delL
      cases hf : findL k l 0 with
      | none => exact hm
      | some p =>
        obtain ⟨j, x⟩ := p
        obtain ⟨n, h1, h2⟩ := findL_some hf
        simp only [Nat.zero_add] at h1; subst h1
        dsimp only
        rw [List.mem_eraseIdx_iff_getElem?]
        obtain ⟨m, hm2, he⟩ := List.mem_iff_getElem.1 hm
        refine ⟨m, ?_, by rw [List.getElem?_eq_getElem hm2, he]⟩
        rintro rfl
        rw [List.getElem?_eq_getElem hm2, he] at h2
        simp only [Option.some.injEq, Prod.mk.injEq] at h2
        exact hne h2.1
  · intro ho p hp e
    unfold delL at hp
    cases hf : findL k l 0 with
    | none =>
      rw [hf] at hp
      split at ho
      · rename_i h; subst h; exact findL_none hf p hp e
      · exact getL_none.1 ho p hp e
    | some q =>
      obtain ⟨j, x⟩ := q
      rw [hf] at hp
      dsimp only at hp
      obtain ⟨n, h1, h2⟩ := findL_some hf
      simp only [Nat.zero_add] at h1; subst h1
      obtain ⟨m, hmj, hm⟩ := List.mem_eraseIdx_iff_getElem?.1 hp
      split at ho
      · rename_i h; subst h
        have hj : j < l.length := by
          rcases Nat.lt_or_ge j l.length with h' | h'
          · exact h'
          · rw [List.getElem?_eq_none h'] at h2; cases h2
        have hml : m < l.length := by
          rcases Nat.lt_or_ge m l.length with h' | h'
          · exact h'
          · rw [List.getElem?_eq_none h'] at hm; cases hm
        rw [List.getElem?_eq_getElem hj] at h2
        rw [List.getElem?_eq_getElem hml] at hm
        have : m = j := by
          apply (List.getElem_inj (h₀ := by simpa using hml) (h₁ := by simpa using hj) hn).1
          simp only [Option.some.injEq] at h2 hm
          simp [h2, hm, e]
        exact hmj this
      · exact getL_none.1 ho p (List.mem_of_getElem? hm) e

theorem MapIs.delete {w : World} {b : Nat} {K T E : TypeId} {enc : κ → Value} {l : List (κ × Value)} (h : MapIs w b enc l) (L : KeyOk P K enc) (hT : P.underlying T = some (.map K E)) (k : κ) (ty : TypeId) :
    ∃ w', (Builtin.delete_ #[T, K] ty #[.map (some b), enc k]).run P w = .ok (.tuple #[]) w' ∧ MapIs w' b enc (delL k l) ∧ w.grownBy w' (some b) := by
  obtain ⟨es, c, hb, hm, hborn, hnd⟩ := h.ex
  have hlt := h.lt
  have hlen : es.toList.length = l.length := by have := congrArg List.length hm; simpa using this
  have hset : ∀ o : Obj, (setObj b o).run P w = .ok () { w with heap := w.heap.setIfInBounds b o } := by
    intro o; simp [setObj, Sem.run, hb]
  have hgrown : ∀ o : Obj, w.grownBy { w with heap := w.heap.setIfInBounds b o } (some b) := by
    intro o
    refine ⟨rfl, rfl, rfl, by simp, fun i hi hne => ?_⟩
    have : b ≠ i := by rintro rfl; exact hne rfl
    simp [this]
  cases hf : findL k l 0 with
  | none =>
    refine ⟨{ w with heap := w.heap.setIfInBounds b (.map es c) }, ?_, ?_, hgrown _⟩
    · simp [Builtin.delete_, run_underlying hT, run_getObj_map hb, L.check, L.find w k l es.toList hm, hf, hset]
    · refine ⟨⟨es, c, by simp [hlt], ?_, hborn, hnd⟩, delL_nodup h.nodup k⟩
      unfold delL; rw [hf]; exact hm
  | some p =>
    obtain ⟨j, u⟩ := p
    obtain ⟨n, h1, h2⟩ := findL_some hf
    simp only [Nat.zero_add] at h1; subst h1
    have hj : j < l.length := by
      rcases Nat.lt_or_ge j l.length with h' | h'
      · exact h'
      · rw [List.getElem?_eq_none h'] at h2; cases h2
    have hje : j < es.size := by have : es.toList.length = es.size := rfl; omega
    refine ⟨{ w with heap := w.heap.setIfInBounds b (.map (es.eraseIdxIfInBounds j) c) }, ?_, ?_, hgrown _⟩
    · simp [Builtin.delete_, run_underlying hT, run_getObj_map hb, L.check, L.find w k l es.toList hm, hf, hset]
    · have hml : (es.eraseIdxIfInBounds j).toList = es.toList.eraseIdx j := by simp [Array.eraseIdxIfInBounds, hje]
      refine ⟨⟨es.eraseIdxIfInBounds j, c, by simp [hlt], ?_, ?_, ?_⟩, delL_nodup h.nodup k⟩
      · unfold delL; rw [hf, hml]; rw [map_eraseIdx, map_eraseIdx, hm]
      · intro e he
        rw [hml] at he
        exact hborn e (List.mem_of_mem_eraseIdx he)
      · rw [hml]
        exact hnd.sublist ((List.eraseIdx_sublist _ _).map _)
theorem MapIs.size {w : World} {b : Nat} {K T E : TypeId} {enc : κ → Value} {l : List (κ × Value)} (h : MapIs w b enc l) (hT : P.underlying T = some (.map K E)) (ty : TypeId) :
    (Builtin.len_ #[T] ty #[.map (some b)]).run P w = .ok (.int .i64 l.length) w := by
  obtain ⟨es, c, hb, hm, _⟩ := h.ex
  have hlen : es.toList.length = l.length := by have := congrArg List.length hm; simpa using this
  have : es.size = l.length := hlen
  simp [Builtin.len_, run_underlying hT, run_getObj_map hb, goInt, this]

/-- Integers as keys. -/
theorem keyOk_int {K : TypeId} (hK : P.underlying K = some (.int .i64)) : KeyOk P K (Value.int .i64) where
  check w em k := MapKept.run_checkKey hK (by simp [MapKept.IsKey]) em 9999
  find w k l es h := by
    have key : ∀ (es : List MapEntry) (l : List (Int × Value)) (i : Nat), es.map (fun e => (e.key, e.val)) = l.map (fun p => (Value.int .i64 p.1, p.2)) → Instr.findNow (.int .i64) (.int .i64 k) es i = some (findL k l i) := by
      intro es
      induction es with
      | nil => intro l i h; cases l with
        | nil => rfl
        | cons p l => simp at h
      | cons e es ih =>
        intro l i h
        cases l with
        | nil => simp at h
        | cons p l =>
          simp only [List.map_cons, List.cons.injEq, Prod.mk.injEq] at h
          obtain ⟨⟨h1, h2⟩, h3⟩ := h
          simp only [Instr.findNow, h1, Instr.sameNow, if_true, findL]
          by_cases e1 : p.1 = k
          · simp [e1, h2]
          · have h5 : (k == p.1) = false := by simpa using (fun e : k = p.1 => e1 e.symm)
            simp [e1, h5, ih l (i + 1) h3]
    simp [Instr.findKey, run_underlying hK, key es l 0 h]
  stays w k := by simp [Instr.keyThatStays, Instr.sameBits]

/-- Structs and arrays as keys. -/
theorem keyOk_agg {K : TypeId} {d : TypeDesc} {enc : κ → Value} (hK : P.underlying K = some d) (hd : ∀ a b, Instr.sameNow d (enc a) (enc b) = none)
    (heq : ∀ (w : World) a b, (Op.equal K (enc a) (enc b)).run P w = .ok (decide (a = b)) w)
    (hcheck : ∀ (w : World) (em : Bool) (k : κ), (Instr.checkKey em 10000 K (enc k)).run P w = .ok () w)
    (hstays : ∀ (w : World) (k : κ), (Instr.keyThatStays (enc k) (enc k)).run P w = .ok (enc k) w) : KeyOk P K enc where
  check := hcheck
  stays := hstays
  find w k l es h := by
    have key : ∀ (es : List MapEntry) (l : List (κ × Value)) (i : Nat), es.map (fun e => (e.key, e.val)) = l.map (fun p => (enc p.1, p.2)) → (Instr.findAsking K (enc k) es i).run P w = .ok (findL k l i) w := by
      intro es
      induction es with
      | nil => intro l i h; cases l with
        | nil => rfl
        | cons p l => simp at h
      | cons e es ih =>
        intro l i h
        cases l with
        | nil => simp at h
        | cons p l =>
          simp only [List.map_cons, List.cons.injEq, Prod.mk.injEq] at h
          obtain ⟨⟨h1, h2⟩, h3⟩ := h
          simp only [Instr.findAsking, Sem.run_bind, h1, heq, Result.andThen_ok, findL]
          by_cases e1 : k = p.1
          · have e2 : p.1 = k := e1.symm
            simp [e1, h2]
          · have e2 : ¬ p.1 = k := fun e => e1 e.symm
            simp [e1, e2, ih l (i + 1) h3]
    cases es with
    | nil =>
      cases l with
      | nil => simp [Instr.findKey, run_underlying hK, Instr.findNow, findL]
      | cons p l => simp at h
    | cons e es =>
      cases l with
      | nil => simp at h
      | cons p l =>
        have h' := h
        simp only [List.map_cons, List.cons.injEq, Prod.mk.injEq] at h'
        have hn : Instr.findNow d (enc k) (e :: es) 0 = none := by simp [Instr.findNow, h'.1.1, hd]
        simp [Instr.findKey, run_underlying hK, hn, key _ _ 0 h]

/-- The laws at the operations. -/
theorem wpList_lookupM {ops : Array Oper} {rest : List Oper} {o : Oper} {a : Act} {Q : Exit → Act → World → Prop} {w : World} {b : Nat} {K T E : TypeId} {enc : κ → Value} {l : List (κ × Value)}
    (hg : o.guard = none) (m x : Operand) (ok : Bool) (hop : o.op = Op.lookup T m x ok) (L : KeyOk P K enc) (hT : P.underlying T = some (.map K E)) {z : Value} (hz : ∀ w, (zeroValue E).run P w = .ok z w)
    (k : κ) (hm : a.eval m = .map (some b)) (hx : a.eval x = enc k) (h : MapIs w b enc l)
    (hK : wpList P ops Q rest (a.put o.dst (if ok then .tuple #[(getL l k).getD z, .bool (getL l k).isSome] else (getL l k).getD z)) w) : wpList P ops Q (o :: rest) a w := by
  refine wpList_plain hg fun K' hK' => ?_
  have hr := h.lookup L hT hz k ok
  unfold Oper.wp
  simp [execOp, hop, hm, hx, hr, Result.andThen]
  exact hK' _ _ hK
theorem wpList_updateM {ops : Array Oper} {rest : List Oper} {o : Oper} {a : Act} {Q : Exit → Act → World → Prop} {w : World} {b : Nat} {K T E : TypeId} {enc : κ → Value} {l : List (κ × Value)}
    (hg : o.guard = none) (m x y : Operand) (hop : o.op = Op.mapUpdate T m x y) (L : KeyOk P K enc) (hT : P.underlying T = some (.map K E))
    (k : κ) (v : Value) (hm : a.eval m = .map (some b)) (hx : a.eval x = enc k) (hy : a.eval y = v) (h : MapIs w b enc l)
    (hK : ∀ w', MapIs w' b enc (putL k v l) → w.grownBy w' (some b) → wpList P ops Q rest (a.put o.dst undef) w') : wpList P ops Q (o :: rest) a w := by
  refine wpList_plain hg fun K' hK' => ?_
  obtain ⟨w', hr, h1, h2⟩ := h.update L hT k v
  unfold Oper.wp
  simp [execOp, hop, hm, hx, hy, hr, Result.andThen]
  exact hK' _ _ (hK w' h1 h2)
theorem wpList_deleteM {ops : Array Oper} {rest : List Oper} {o : Oper} {a : Act} {Q : Exit → Act → World → Prop} {w : World} {b : Nat} {K T E : TypeId} {enc : κ → Value} {l : List (κ × Value)}
    (hg : o.guard = none) (m x : Operand) (hop : o.op = Op.call { callee := Callee.builtin Builtin.delete, args := #[m, x], argTypes := #[T, K] }) (L : KeyOk P K enc) (hT : P.underlying T = some (.map K E))
    (k : κ) (hm : a.eval m = .map (some b)) (hx : a.eval x = enc k) (h : MapIs w b enc l)
    (hK : ∀ w', MapIs w' b enc (delL k l) → w.grownBy w' (some b) → wpList P ops Q rest (a.put o.dst (.tuple #[])) w') : wpList P ops Q (o :: rest) a w := by
  refine wpList_plain hg fun K' hK' => ?_
  obtain ⟨w', hr, h1, h2⟩ := h.delete L hT k o.type
  unfold Oper.wp
  simp [execOp, hop, resolve, invoke, builtin, hm, hx, hr, Result.andThen]
  exact hK' _ _ (hK w' h1 h2)

end
end Go.Proofs.Ytcembefhfadpbab
