/- The program's Dead, up to its sorting. -/
import Derived.Test.YtcembefhfadpbabDeadP
import Derived.Test.YtcembefhfadpbabDeadT
namespace Go.Proofs.Ytcembefhfadpbab
open Go.RowKit
open Go.Maps

/-- One round over the nodes: R0 at its start, R now; a: has anything changed? -/
structure DeadRel (l : List Nd) (R0 R : Int → Bool) (a : Bool) (k : Nat) : Prop where
  ok : SetOk l R
  no : a = false → R = R0 ∧ ∀ i, i < k → R0 (nd l i).id = true → ∀ x, (leadsB (nd l i).lo x = true → R0 x = true) ∧ (leadsB (nd l i).hi x = true → R0 x = true)
  yes : a = true → leftN l R < leftN l R0
structure DeadRelJ (l : List Nd) (R0 R : Int → Bool) (a : Bool) (k j : Nat) : Prop where
  base : DeadRel l R0 R a k
  at_ : R (nd l k).id = true
  no : a = false → ∀ i, i < j → ∀ x, leadsB (edgeJ (nd l k) i) x = true → R0 x = true
theorem DeadRel.start {l : List Nd} {R : Int → Bool} (h : SetOk l R) : DeadRel l R R false 0 := ⟨h, fun _ => ⟨rfl, fun i hi => by omega⟩, fun h => by cases h⟩
theorem DeadRel.skip {l : List Nd} {R0 R : Int → Bool} {a : Bool} {k : Nat} (h : DeadRel l R0 R a k) (hn : R (nd l k).id = false) : DeadRel l R0 R a (k + 1) := by
  refine ⟨h.ok, fun ha => ?_, h.yes⟩
  obtain ⟨h1, h2⟩ := h.no ha
  refine ⟨h1, fun i hi hr => ?_⟩
  by_cases e : i = k
  · subst e; rw [h1, hr] at hn; cases hn
  · exact h2 i (by omega) hr
theorem DeadRel.enter {l : List Nd} {R0 R : Int → Bool} {a : Bool} {k : Nat} (h : DeadRel l R0 R a k) (hn : R (nd l k).id = true) : DeadRelJ l R0 R a k 0 := ⟨h, hn, fun _ i hi => by omega⟩
theorem DeadRelJ.neg {l : List Nd} {R0 R : Int → Bool} {a : Bool} {k j : Nat} (h : DeadRelJ l R0 R a k j) (he : edgeJ (nd l k) j < 0) : DeadRelJ l R0 R a k (j + 1) := by
  refine ⟨h.base, h.at_, fun ha i hi x hx => ?_⟩
  by_cases e : i = j
  · subst e; rw [leadsB_neg he] at hx; cases hx
  · exact h.no ha i (by omega) x hx
theorem DeadRelJ.old {l : List Nd} {R0 R : Int → Bool} {a : Bool} {k j : Nat} (h : DeadRelJ l R0 R a k j) (he : ¬ edgeJ (nd l k) j < 0) (hr : R (edgeJ (nd l k) j / 2) = true) : DeadRelJ l R0 R a k (j + 1) := by
  refine ⟨h.base, h.at_, fun ha i hi x hx => ?_⟩
  by_cases e : i = j
  · subst e
    rw [leadsB_pos he, decide_eq_true_eq] at hx
    rw [hx, ← (h.base.no ha).1]; exact hr
  · exact h.no ha i (by omega) x hx
theorem edgeJ_ends {l : List Nd} {k j : Nat} (hk : k < l.length) : edgeJ (nd l k) j / 2 ∈ ends l := by
  unfold edgeJ
  split
  · exact (mem_ends hk).1
  · exact (mem_ends hk).2
theorem DeadRelJ.new {l : List Nd} {R0 R : Int → Bool} {a : Bool} {k j : Nat} (h : DeadRelJ l R0 R a k j) (hk : k < l.length) (he : ¬ edgeJ (nd l k) j < 0) (hr : R (edgeJ (nd l k) j / 2) = false) :
    DeadRelJ l R0 (setS R (edgeJ (nd l k) j / 2) true) true k (j + 1) := by
  have hlt : leftN l (setS R (edgeJ (nd l k) j / 2) true) < leftN l R := leftN_add hr (edgeJ_ends hk)
  refine ⟨⟨⟨fun x hx => ?_, fun i hi hp => ?_⟩, fun h => (by cases h), fun _ => ?_⟩, ?_, fun h => (by cases h)⟩
  · unfold setS at hx
    split at hx
    · rename_i e
      subst e
      have hrk := h.base.ok.sound _ h.at_
      have hl : leadsB (edgeJ (nd l k) j) (edgeJ (nd l k) j / 2) = true := by rw [leadsB_pos he]; simp
      generalize hq : edgeJ (nd l k) j / 2 = q at hl
      unfold edgeJ at hl
      split at hl
      · exact .lo hk hrk hl
      · exact .hi hk hrk hl
    · exact h.base.ok.sound x hx
  · unfold setS
    split
    · rfl
    · exact h.base.ok.roots i hi hp
  · cases a with
    | false => rw [← (h.base.no rfl).1]; exact hlt
    | true => have := h.base.yes rfl; omega
  · unfold setS
    split
    · rfl
    · exact h.at_
theorem DeadRelJ.done {l : List Nd} {R0 R : Int → Bool} {a : Bool} {k : Nat} (h : DeadRelJ l R0 R a k 2) : DeadRel l R0 R a (k + 1) := by
  refine ⟨h.base.ok, fun ha => ?_, h.base.yes⟩
  obtain ⟨h1, h2⟩ := h.base.no ha
  refine ⟨h1, fun i hi hr x => ?_⟩
  by_cases e : i = k
  · subst e
    exact ⟨h.no ha 0 (by omega) x, h.no ha 1 (by omega) x⟩
  · exact h2 i (by omega) hr x
theorem DeadRel.closed {l : List Nd} {R0 R : Int → Bool} (h : DeadRel l R0 R false l.length) (x : Int) : R x = true ↔ Reach l x := by
  obtain ⟨h1, h2⟩ := h.no rfl
  subst h1
  exact set_closed h.ok (fun k x hk hr => (h2 k hk hr x).1) (fun k x hk hr => (h2 k hk hr x).2) x
/-- The numbers of the first k nodes that are held. -/
def rootsK (l : List Nd) (k : Nat) : Int → Bool := fun x => (l.take k).any (fun n => n.id == x && decide (0 < n.refs))
theorem rootsK_succ {l : List Nd} {k : Nat} (hk : k < l.length) : rootsK l (k + 1) = setS (rootsK l k) (nd l k).id (rootsK l k (nd l k).id || decide (0 < (nd l k).refs)) := by
  funext x
  unfold rootsK setS
  rw [List.take_succ_eq_append_getElem hk, List.any_append, ← nd_eq hk]
  by_cases e : x = (nd l k).id
  · subst e; simp
  · have : ((nd l k).id == x) = false := by simpa using fun h => e h.symm
    simp [e, this]
theorem rootsK_ok (l : List Nd) : SetOk l (rootsK l l.length) := by
  refine ⟨fun x hx => ?_, fun k hk hr => ?_⟩
  · unfold rootsK at hx
    rw [List.take_length, List.any_eq_true] at hx
    obtain ⟨n, hn, h⟩ := hx
    obtain ⟨k, hk, rfl⟩ := List.getElem_of_mem hn
    rw [← nd_eq hk] at h
    simp only [Bool.and_eq_true, beq_iff_eq, decide_eq_true_eq] at h
    rw [← h.1]; exact .root hk h.2
  · unfold rootsK
    rw [List.take_length, List.any_eq_true]
    exact ⟨nd l k, by rw [nd_eq hk]; exact List.getElem_mem hk, by simp [hr]⟩

/-- What stands in Dead while the set grows. -/
structure GrowRel (w : World) (l : List Nd) (R : Int → Bool) (wr : World) : Prop where
  set : SetIs wr w.heap.size R
  below : Below w.heap.size w wr
theorem GrowRel.alloc {w wr : World} {l : List Nd} {R : Int → Bool} (h : GrowRel w l R wr) (o : Obj) : GrowRel w l R (wr.alloc o) := ⟨h.set.below (below_new1 _ _), h.below.alloc h.below.size _⟩
theorem GrowRel.put {w wr wy : World} {l : List Nd} {R R' : Int → Bool} (h : GrowRel w l R wr) (h1 : SetIs wy w.heap.size R') (h2 : wr.grownBy wy (some w.heap.size)) : GrowRel w l R' wy :=
  ⟨h1, h.below.grown h2 h.below.size (by simp)⟩
def ndObj (n : Nd) : Obj := .cells #[.int .i64 n.id, .int .i64 n.v, .int .i64 n.lo, .int .i64 n.hi, .int .i64 n.refs] 31

set_option maxRecDepth 100000 in
set_option maxHeartbeats 3200000 in
theorem ddDead_any (a : Option Addr) (c : Nat) (l : List Nd) (w : World) (h : NodesAt w a l) (hlen : l.length ≤ 1000) :
    Calls Try.prog 7 #[.slice a l.length c] w fun e w' => ∃ v zs, e = .returned v ∧ OwnI w' w.heap.size v zs ∧ zs.Pairwise (· < ·) ∧ (∀ x, x ∈ zs ↔ ∃ k, k < l.length ∧ (nd l k).id = x ∧ ¬ Reach l x) ∧ Below w.heap.size w w' := by
  have HN := Lib.hid h
  clear h
  have hmm := @run_makeMap Try.prog
  go_enter Try.func7, Try.ntmps7
  go_wp2_with fail
  have hg0 : GrowRel w l (fun _ => false) (w.alloc (.map #[] 0)) := ⟨setIs_new w, below_new1 _ _⟩
  go_loopw [19] (fun s19 wr => ∃ k : Nat, k ≤ l.length ∧ s19 = .int .i64 k ∧ GrowRel w l (rootsK l k) wr) (fun s19 _ => l.length - (intOf s19).toNat)
  case atStart => exact ⟨0, by omega, rfl, by have e : rootsK l 0 = fun _ => false := by { funext x; simp [rootsK] }; rw [e]; exact hg0⟩
  case round =>
    obtain ⟨k, hk, rfl, hg⟩ := hrel
    have HG := Lib.hid hg
    clear hg hg0
    by_cases hkt : k < l.length
    · obtain ⟨bb, off, rfl, c0, c1, c2, c3, c4⟩ := (HN.out.below HG.out.below).cells k hkt
      have HK := Lib.hid (rootsK_succ hkt)
      obtain ⟨B, hB⟩ : ∃ B, rootsK l k (nd l k).id = B := ⟨_, rfl⟩
      obtain ⟨D, hD⟩ : ∃ D, decide (0 < (nd l k).refs) = D := ⟨_, rfl⟩
      rw [hB, hD] at HK
      have HG2 := Lib.hid (HG.out.alloc (ndObj (nd l k)))
      have hlk := HG2.out.set.look (nd l k).id
      unfold ndObj at hlk HG2
      rw [hB] at hlk
      clear hB
      cases B
      · cases D
        · go_wp2_with (refine wpList_putSet (R := rootsK l k) rfl _ _ _ rfl (nd l k).id false rfl rfl rfl (by exact HG2.out.set) ?_; intro w2 hs2 hg2)
          go_roundw
          case rel => exact ⟨k + 1, by omega, by go_num, by rw [HK.out]; exact HG2.out.put hs2 hg2⟩
          case measure => simp [intOf]; omega
        · go_wp2_with (refine wpList_putSet (R := rootsK l k) rfl _ _ _ rfl (nd l k).id true rfl rfl rfl (by exact HG2.out.set) ?_; intro w2 hs2 hg2)
          go_roundw
          case rel => exact ⟨k + 1, by omega, by go_num, by rw [HK.out]; exact HG2.out.put hs2 hg2⟩
          case measure => simp [intOf]; omega
      · clear hD
        go_wp2_with (refine wpList_putSet (R := rootsK l k) rfl _ _ _ rfl (nd l k).id true rfl rfl rfl (by exact HG2.out.set) ?_; intro w2 hs2 hg2)
        go_roundw
        case rel => exact ⟨k + 1, by omega, by go_num, by rw [HK.out]; exact HG2.out.put hs2 hg2⟩
        case measure => simp [intOf]; omega
    · obtain rfl : k = l.length := by omega
      have hok := rootsK_ok l
      obtain ⟨R1, hR1⟩ : ∃ R, R = rootsK l l.length := ⟨_, rfl⟩
      rw [← hR1] at hok HG
      clear hR1
      go_wp2_with fail
      go_loopg [6] (leftN l R1 + 1) (fun gk s6 wx => ∃ (R : Int → Bool) (a : Bool), s6 = .bool a ∧ GrowRel w l R wx ∧ SetOk l R ∧ (a = true → leftN l R < gk) ∧ (a = false → ∀ x, R x = true ↔ Reach l x))
      case atStart => exact ⟨R1, true, rfl, HG.out, hok, fun _ => by omega, fun h => by cases h⟩
      case round =>
        obtain ⟨R, ag, rfl, hg, hok, h1, h2⟩ := hrel
        cases ag
        · have HR := Lib.hid (h2 rfl)
          have HG := Lib.hid hg
          clear h1 h2 hg hok
          go_wp2_with fail
          go_loopw [74, 13] (fun s74 s13 wx => ∃ k : Nat, k ≤ l.length ∧ s74 = .int .i64 k ∧ OwnI wx w.heap.size s13 (outP l R k) ∧ s13.ownBlock ≠ some w.heap.size ∧ GrowRel w l R wx) (fun s74 _ _ => l.length - (intOf s74).toNat)
          case atStart => exact ⟨0, by omega, rfl, ownI_nil _ _, by simp [Value.ownBlock], HG.out⟩
          case round =>
            obtain ⟨k, hk, rfl, hown, hne, hg⟩ := hrel
            have HG := Lib.hid hg
            have HO := Lib.hid hown
            have HNE := Lib.hid hne
            have hol := outP_length l R k
            clear hg hown hne
            by_cases hkt : k < l.length
            · obtain ⟨bb, off, rfl, c0, c1, c2, c3, c4⟩ := (HN.out.below HG.out.below).cells k hkt
              have HG2 := Lib.hid (HG.out.alloc (ndObj (nd l k)))
              have hlk := HG2.out.set.look (nd l k).id
              have HO2 := Lib.hid (HO.out.alloc (ndObj (nd l k)))
              unfold ndObj at hlk HG2 HO2
              have HS := Lib.hid (outP_succ (R := R) hkt)
              obtain ⟨B, hB⟩ : ∃ B, R (nd l k).id = B := ⟨_, rfl⟩
              rw [hB] at hlk HS
              clear hB
              obtain ⟨zs, hzs⟩ : ∃ zs, zs = outP l R k := ⟨_, rfl⟩
              rw [← hzs] at HO2 HS hol
              clear hzs HO
              cases B
              · go_wp2_with (at_builtin; refine wpList_app1 _ rfl _ _ rfl w.heap.size w u13 zs (nd l k).id rfl rfl rfl (by simp) (by exact HO2.out) (by omega) (by exact HG2.out.below.size) (by exact HG2.out.below) ?_; intro v' wy h1 h2 h3 h4)
                go_roundw
                case rel => exact ⟨k + 1, by omega, by go_num, by rw [HS.out]; exact h1, h4.ne HNE.out HG2.out.set.lt, ⟨HG2.out.set.keep h4.keep (fun e => HNE.out e.symm), h2⟩⟩
                case measure => simp [intOf]; omega
              · go_wp2_with fail
                go_roundw
                case rel => exact ⟨k + 1, by omega, by go_num, by rw [HS.out]; exact HO2.out, HNE.out, HG2.out⟩
                case measure => simp [intOf]; omega
            · obtain rfl : k = l.length := by omega
              go_wp2_with fail
              refine (sortI_any _ w.heap.size _ _ HO.out HG.out.below.size (by omega)).mono ?_
              rintro e w2 ⟨rfl, hown2, hb2⟩
              have HB2 := Lib.hid (HG.out.below.trans hb2)
              have HO2 := Lib.hid hown2
              clear hown2 hb2
              go_wp2_with fail
              refine (compactI_any _ w.heap.size _ _ HO2.out HB2.out.size (by rw [sortZ_length]; omega) (sortZ_sorted _)).mono ?_
              rintro e w3 ⟨v', rfl, hown3, hb3⟩
              have HB3 := Lib.hid (HB2.out.trans hb3)
              have HO3 := Lib.hid hown3
              clear hown3 hb3
              go_wp2_with fail
              go_ret
              refine ⟨_, _, rfl, HO3.out, (compact_sorted (sortZ_sorted _)).1, fun x => ?_, HB3.out⟩
              rw [(compact_sorted (sortZ_sorted _)).2, sortZ_mem, mem_outP]
              constructor
              · rintro ⟨k, hk, he, hr⟩
                exact ⟨k, hk, he, fun h => by rw [(HR.out x).2 h] at hr; cases hr⟩
              · rintro ⟨k, hk, he, hr⟩
                refine ⟨k, hk, he, ?_⟩
                cases e : R x with
                | false => rfl
                | true => exact absurd ((HR.out x).1 e) hr
        · have hlt := h1 rfl
          have HG := Lib.hid hg
          have HR0 := Lib.hid (DeadRel.start hok)
          clear h1 h2 hg hok
          go_wp2_with fail
          go_loopw [39, 6] (fun s39 s6 wx => ∃ (k : Nat) (R' : Int → Bool) (a : Bool), k ≤ l.length ∧ s39 = .int .i64 k ∧ s6 = .bool a ∧ GrowRel w l R' wx ∧ DeadRel l R R' a k) (fun s39 _ _ => l.length - (intOf s39).toNat)
          case atStart => exact ⟨0, R, false, by omega, rfl, rfl, HG.out, HR0.out⟩
          case round =>
            obtain ⟨k, R', a', hk, rfl, rfl, hg, hd⟩ := hrel
            have HG := Lib.hid hg
            have HD := Lib.hid hd
            clear hg hd
            by_cases hkt : k < l.length
            · obtain ⟨bb, off, rfl, c0, c1, c2, c3, c4⟩ := (HN.out.below HG.out.below).cells k hkt
              obtain ⟨_, _, ⟨i5, i6⟩, ⟨i7, i8⟩⟩ := HN.out.ok k hkt
              have HG2 := Lib.hid (HG.out.alloc (ndObj (nd l k)))
              have hlk := HG2.out.set.look (nd l k).id
              unfold ndObj at hlk HG2
              obtain ⟨B, hB⟩ : ∃ B, R' (nd l k).id = B := ⟨_, rfl⟩
              rw [hB] at hlk
              cases B
              · have HS := Lib.hid (HD.out.skip hB)
                clear hB
                go_wp2_with fail
                go_roundw
                case rel => exact ⟨k + 1, R', a', by omega, by go_num, rfl, HG2.out, HS.out⟩
                case measure => simp [intOf]; omega
              · have HJ := Lib.hid (HD.out.enter hB)
                clear hB
                go_wp2_with fail
                go_loopw [53, 6] (fun s53 s6 wx => ∃ (j : Nat) (R2 : Int → Bool) (a : Bool), j ≤ 2 ∧ s53 = .int .i64 j ∧ s6 = .bool a ∧ GrowRel w l R2 wx ∧ DeadRelJ l R R2 a k j) (fun s53 _ _ => 2 - (intOf s53).toNat)
                case atStart => exact ⟨0, R', a', by omega, rfl, rfl, HG2.out, HJ.out⟩
                case round =>
                  obtain ⟨j, R2, a2, hj, rfl, rfl, hg, hd⟩ := hrel
                  clear hlk HG HG2 HJ HD c0 c1 c2 c3 c4
                  have HG := Lib.hid hg
                  have HJ := Lib.hid hd
                  clear hg hd
                  by_cases hjt : j < 2
                  · have hix : ∀ w, (Instr.index 39 (.agg #[.int .i64 (nd l k).lo, .int .i64 (nd l k).hi]) (.int .i64 j)).run Try.prog w = .ok (.int .i64 (edgeJ (nd l k) j)) w := by
                      intro w
                      obtain rfl | rfl : j = 0 ∨ j = 1 := by omega
                      · kernel_rfl
                      · kernel_rfl
                    have he6 : edgeJ (nd l k) j ≤ 9223372036854775807 := by unfold edgeJ; split <;> assumption
                    have HN1 := fun he => HJ.out.neg he
                    have HN2 := fun he hi => HJ.out.old he hi
                    have HN3 := fun he hi => HJ.out.new hkt he hi
                    have hlk := HG.out.set.look (edgeJ (nd l k) j / 2)
                    obtain ⟨e, he⟩ : ∃ e, e = edgeJ (nd l k) j := ⟨_, rfl⟩
                    rw [← he] at hix he6 HN1 HN2 HN3 hlk
                    obtain ⟨B, hB⟩ : ∃ B, B = R2 (e / 2) := ⟨_, rfl⟩
                    rw [← hB] at hlk HN2 HN3
                    have HN1 := Lib.hid HN1
                    have HN2 := Lib.hid HN2
                    have HN3 := Lib.hid HN3
                    clear he hB
                    by_cases h0 : e < 0
                    · go_wp2_with fail
                      refine (leads_any e _ he6).mono ?_
                      rintro x w' ⟨rfl, rfl⟩
                      rw [if_pos h0]
                      go_wp2_with fail
                      go_roundw
                      case rel => exact ⟨j + 1, R2, a2, by omega, by go_num, rfl, HG.out, HN1.out h0⟩
                      case measure => simp [intOf]; omega
                    · have h0' : 0 ≤ e := by omega
                      cases B
                      · go_wp2_with fail
                        refine (leads_any e _ he6).mono ?_
                        rintro x w' ⟨rfl, rfl⟩
                        rw [if_neg (by omega)]
                        go_wp2_with (refine wpList_putSet (R := R2) rfl _ _ _ rfl (e / 2) true rfl rfl rfl (by exact HG.out.set) ?_; intro w2 hs2 hg2)
                        go_roundw
                        case rel => exact ⟨j + 1, setS R2 (e / 2) true, true, by omega, by go_num, rfl, HG.out.put hs2 hg2, HN3.out (by omega) (by simp)⟩
                        case measure => simp [intOf]; omega
                      · go_wp2_with fail
                        refine (leads_any e _ he6).mono ?_
                        rintro x w' ⟨rfl, rfl⟩
                        rw [if_neg (by omega)]
                        go_wp2_with fail
                        go_roundw
                        case rel => exact ⟨j + 1, R2, a2, by omega, by go_num, rfl, HG.out, HN2.out (by omega) (by simp)⟩
                        case measure => simp [intOf]; omega
                  · obtain rfl : j = 2 := by omega
                    have HD := Lib.hid HJ.out.done
                    go_wp2_with fail
                    go_roundw
                    case rel => exact ⟨k + 1, R2, a2, by omega, by go_num, rfl, HG.out, HD.out⟩
                    case measure => simp [intOf]; omega
            · obtain rfl : k = l.length := by omega
              go_wp2_with fail
              go_roundg (leftN l R)
              case measure => exact hlt
              case rel => exact ⟨R', a', rfl, HG.out, HD.out.ok, HD.out.yes, fun e => by subst e; exact HD.out.closed⟩
end Go.Proofs.Ytcembefhfadpbab
