/- Several texts in one file. Law DdRooms, walked. -/
import Derived.Test.YtchliiaknmknhaaGreatM11
set_option linter.unusedSimpArgs false
set_option linter.unusedVariables false
set_option linter.unusedSectionVars false
set_option linter.unnecessarySimpa false

-- Rooms
namespace Go.Proofs.YtchliiaknmknhaaGreat
open Go.RowKit

def b2 : List (Int × BF) := [(0, fun _ => false), (1, fun _ => true)]
theorem new_satE {K : Law} (n room : Nat) (w : World) (hn : n ≤ 64) (h1 : 1 ≤ room) (h2 : room ≤ 1048576) :
    Calls Tryz.prog 14 #[.int .i64 n, .int .i64 room] w fun x w' => ∃ mb, x = .returned (.tuple #[.pointer (some ⟨mb, 0, none⟩), .int .i64 0]) ∧ ∃ o m V, SatE K n room w mb b2 2 w' o m V ∧ m.waits = [] ∧ m.calls = 0 ∧ m.d.vars = List.range n := by
  refine (new_man (F := K (man0 n room).d (fun _ _ => true)) (fun _ => none) n room w (fun k r h => by cases h) hn h1 h2).mono ?_
  rintro x w1 ⟨mb, o1, rfl, hm0, hc0, hl0, _⟩
  exact ⟨mb, rfl, o1, man0 n room, fun _ _ => true, ⟨hm0, hl0, man0_ok n room hn, by simp [man0, store0], by simp [man0, store0, pool0], rfl, by simp [man0, b2, ef]; constructor <;> rfl, ChgX.of_chg hc0 NoB⟩, rfl, rfl, rfl⟩
theorem SatE.many_le {K : Law} {n room : Nat} {w0 : World} {mb : Nat} {fs : List (Int × BF)} {nx : Int} {w : World} {o : Own} {m : ManD} {V : Nat → BF} (h : SatE K n room w0 mb fs nx w o m V) : m.d.pool.many ≤ room := by
  obtain ⟨s, hs⟩ := h.is
  obtain ⟨ss, hst⟩ := hs.store
  have h1 := hst.pool.many
  have h2 := hst.pool.top
  have h3 := h.room
  omega
/-- Between two operations of the law. -/
structure RoomS (n room : Nat) (w0 : World) (mb : Nat) (hs : List (Int × BF)) (W : World) (o : Own) (m : ManD) (V : Nat → BF) (vl vx : Value) : Prop where
  sat : SatE iteLaw n room w0 mb (b2 ++ hs) ((b2 ++ hs).length : Nat) W o m V
  waits : m.waits = []
  l : LawL W o w0.heap.size vl (hs.map Prod.fst)
  x : LawX W o w0.heap.size vx (hs.map fun p => tabB n p.2)
def Rooms (n room : Nat) (w0 : World) (mb : Nat) (hs : List (Int × BF)) (W : World) (vl vx : Value) : Prop := ∃ o m V, RoomS n room w0 mb hs W o m V vl vx
theorem Rooms.below {n room : Nat} {w0 : World} {mb : Nat} {hs : List (Int × BF)} {W W' : World} {vl vx : Value} (h : Rooms n room w0 mb hs W vl vx) (hb : Below W.heap.size W W') : Rooms n room w0 mb hs W' vl vx := by
  obtain ⟨o, m, V, h⟩ := h
  exact ⟨o, m, V, h.sat.below hb, h.waits, h.l.chg (chg_below hb o), h.x.chg (chg_below hb o)⟩
theorem Rooms.below0 {n room : Nat} {w0 : World} {mb : Nat} {hs : List (Int × BF)} {W : World} {vl vx : Value} (h : Rooms n room w0 mb hs W vl vx) : Below w0.heap.size w0 W := by
  obtain ⟨o, m, V, h⟩ := h
  exact h.sat.chg.below0
section
variable {n room : Nat} {w0 w : World} {mb : Nat} {hs : List (Int × BF)} {vl vx : Value}
/-- Behind an operation that gave a handle of F: the lists lack it yet. -/
structure RoomP (n room : Nat) (w0 : World) (mb : Nat) (hs : List (Int × BF)) (p : Int × BF) (W : World) (o : Own) (m : ManD) (V : Nat → BF) (vl vx : Value) : Prop where
  sat : SatE iteLaw n room w0 mb (b2 ++ (hs ++ [p])) ((b2 ++ (hs ++ [p])).length : Nat) W o m V
  waits : m.waits = []
  l : LawL W o w0.heap.size vl (hs.map Prod.fst)
  x : LawX W o w0.heap.size vx (hs.map fun p => tabB n p.2)
/-- The handle is in its list, the table is not. -/
structure RoomQ (n room : Nat) (w0 : World) (mb : Nat) (hs : List (Int × BF)) (p : Int × BF) (W : World) (o : Own) (m : ManD) (V : Nat → BF) (vl vx : Value) : Prop where
  sat : SatE iteLaw n room w0 mb (b2 ++ (hs ++ [p])) ((b2 ++ (hs ++ [p])).length : Nat) W o m V
  waits : m.waits = []
  l : LawL W o w0.heap.size vl ((hs ++ [p]).map Prod.fst)
  x : LawX W o w0.heap.size vx (hs.map fun p => tabB n p.2)
theorem RoomP.appL {p : Int × BF} {o : Own} {m : ManD} {V : Nat → BF} {W' : World} {v' : Value} (h : RoomP n room w0 mb hs p w o m V vl vx) (hown : OwnC 3 W' w0.heap.size v' (intsV (hs.map Prod.fst) ++ [.int .i64 p.1])) (e1 : W'.os = w.os) (e2 : W'.tape = w.tape) (e3 : W'.output = w.output) (e4 : w.heap.size ≤ W'.heap.size) (hk : KeepApp vl v' w W') :
    RoomQ n room w0 mb hs p W' o m V v' vx := by
  have hw := wr_app e1 e2 e3 e4 hk
  refine ⟨h.sat.other hw (fun k _ hk => ⟨(h.l.own.lt k hk).1, h.l.no k hk⟩), h.waits, ?_, h.x.typ hw (by decide) (by decide) h.l.own.typed⟩
  rw [List.map_append]
  exact h.l.app h.sat.lt hown hk
theorem RoomQ.below {p : Int × BF} {o : Own} {m : ManD} {V : Nat → BF} {W' : World} (h : RoomQ n room w0 mb hs p w o m V vl vx) (hb : Below w.heap.size w W') : RoomQ n room w0 mb hs p W' o m V vl vx :=
  ⟨h.sat.below hb, h.waits, h.l.chg (chg_below hb o), h.x.chg (chg_below hb o)⟩
theorem RoomQ.appX {p : Int × BF} {o : Own} {m : ManD} {V : Nat → BF} {W' : World} {v' v : Value} {bs : List Bool} (h : RoomQ n room w0 mb hs p w o m V vl vx) (hb : LawB w o w0.heap.size v bs) (hbs : bs = tabB n p.2) {rs : List Value} (hrs : rs.length = hs.length) (hrow : OwnC 36 w w0.heap.size vx rs) (hall : ∀ i v, rs[i]? = some v → LawB w o w0.heap.size v ((hs.map fun p => tabB n p.2).getD i []))
    (hown : OwnC 36 W' w0.heap.size v' (rs ++ [v])) (e1 : W'.os = w.os) (e2 : W'.tape = w.tape) (e3 : W'.output = w.output) (e4 : w.heap.size ≤ W'.heap.size) (hk : KeepApp vx v' w W') : Rooms n room w0 mb (hs ++ [p]) W' vl v' := by
  have hw := wr_app e1 e2 e3 e4 hk
  refine ⟨o, m, V, h.sat.other hw (fun k _ hk => ⟨(hrow.lt k hk).1, h.x.no k hk⟩), h.waits, h.l.typ hw (by decide) hrow.typed, ?_⟩
  rw [List.map_append]
  have := h.x.app h.sat.lt (by simp [hrs]) hall hw hrow.typed hb hown hk
  rw [hbs] at this
  exact this
theorem varTab (n v : Nat) (hv : v < n) : (List.range (2 ^ n)).map (fun i => bitB i v) = tabB n (varF v) := by
  refine tab_ext (by simp) fun i hi => ?_
  have e : varF v (envOf (bitsL i n)) = bitB i v := by unfold varF; rw [envOf_bits]; simp [hv]
  rw [e]; simp [List.getD, hi]
theorem RoomS.below {o : Own} {m : ManD} {V : Nat → BF} {W' : World} (h : RoomS n room w0 mb hs w o m V vl vx) (hb : Below w.heap.size w W') : RoomS n room w0 mb hs W' o m V vl vx :=
  ⟨h.sat.below hb, h.waits, h.l.chg (chg_below hb o), h.x.chg (chg_below hb o)⟩
/-- A row that is no one's. -/
structure LawF (W : World) (o : Own) (v : Value) (bs : List Bool) : Prop where
  is : BoolsIs W v bs
  no : ∀ k, v.ownBlock = some k → k < W.heap.size ∧ o k = none ∧ ∃ cur, W.heap[k]? = some (.cells cur 4 (0, 0))
theorem LawF.chg {o o' : Own} {W W' : World} {v : Value} {bs : List Bool} (h : LawF W o v bs) (hc : ChgX NoB o o' W W') : LawF W' o' v bs :=
  ⟨h.is.same fun k hk => hc.block k (h.no k hk).1 (h.no k hk).2.1 (fun e => e), fun k hk => by
    obtain ⟨h1, h2, cur, h3⟩ := h.no k hk
    exact ⟨Nat.lt_of_lt_of_le h1 hc.size, hc.none' h1 h2, cur, (hc.block k h1 h2 (fun e => e)).trans h3⟩⟩
theorem LawF.typ {C : Nat → Prop} {o : Own} {W W' : World} {v : Value} {bs : List Bool} (h : LawF W o v bs) (hw : Wr C W W') {T : TypeId} (hT : T ≠ 4) (hC : ∀ k, C k → ∃ cur, W.heap[k]? = some (.cells cur T (0, 0))) : LawF W' o v bs := by
  have hk : ∀ k, v.ownBlock = some k → W'.heap[k]? = W.heap[k]? := fun k hk => by
    obtain ⟨h2, h3, cur, h4⟩ := h.no k hk
    exact hw.keep k h2 fun e => by
      obtain ⟨c1, q1⟩ := hC k e
      rw [q1] at h4; cases h4; exact hT rfl
  exact ⟨h.is.same hk, fun k hkk => by
    obtain ⟨h2, h3, cur, h4⟩ := h.no k hkk
    exact ⟨Nat.lt_of_lt_of_le h2 hw.size, h3, cur, (hk k hkk).trans h4⟩⟩
theorem LawF.tab {o : Own} {W : World} {v : Value} {n : Nat} {F : BF} (h : LawF W o v (tabB n F)) : ∃ a c, v = .slice a (2 ^ n) c ∧ BoolsAt W a (tabB n F) := by
  obtain ⟨a, c, e, h1, _⟩ := h.is
  rw [tabB_length] at e
  exact ⟨a, c, e, h1⟩
theorem refIte_tab (n : Nat) (F G H : BF) (au av aw : Option Addr) (cu cv cw : Nat) (w : World) (h1 : BoolsAt w au (tabB n F)) (h2 : BoolsAt w av (tabB n G)) (h3 : BoolsAt w aw (tabB n H)) :
    Calls Tryz.prog 19 #[.slice au (2 ^ n) cu, .slice av (2 ^ n) cv, .slice aw (2 ^ n) cw] w fun x w' => ∃ g, x = .returned (.slice (some ⟨g, 0, none⟩) (2 ^ n) (2 ^ n)) ∧ OwnB w' w.heap.size (.slice (some ⟨g, 0, none⟩) (2 ^ n) (2 ^ n)) (tabB n (iteFn F G H)) ∧ Below w.heap.size w w' := by
  have := refIte_any (tabB n F) (tabB n G) (tabB n H) (by simp [tabB_length]) (by simp [tabB_length]) au av aw cu cv cw w h1 h2 h3
  rw [tabB_length] at this
  rw [show iteL (tabB n F) (tabB n G) (tabB n H) = tabB n (iteFn F G H) from iteL_tab n F G H] at this
  exact this
theorem tab_pos (n : Nat) (F : BF) : 0 < (tabB n F).length := by rw [tabB_length]; exact Nat.pow_pos (by omega)
theorem one_rooms {o : Own} {m : ManD} {V : Nat → BF} (h : RoomS n room w0 mb hs w o m V vl vx) (hn : n ≤ 16) (hl : hs.length ≤ 100) (k : Int) :
    Calls Tryz.prog 17 #[.int .i64 n, vl, vx, .int .i64 k] w fun x w' => ∃ a F v, x = .returned (.tuple #[.int .i64 a, v]) ∧ (a, F) ∈ b2 ++ hs ∧ LawF w' o v (tabB n F) ∧ Below w.heap.size w w' := by
  refine (one_any hn (by simp [b2]) (lawR_of (n := n) (fs := b2 ++ hs) (hs := hs) h.l h.x (fun p hp => List.mem_append_right _ hp) (by omega)) k).mono ?_
  rintro x w' ⟨a, F, v, rfl, h1, h2, h3, h4⟩
  refine ⟨a, F, v, rfl, h1, ⟨h2, fun g hg => ?_⟩, h4⟩
  rcases h3 g hg with ⟨_, h6, h7, cur, h8⟩ | ⟨h5, cur, h6⟩
  · exact ⟨Nat.lt_of_lt_of_le h6 h4.size, h7, cur, (h4.block g h6).trans h8⟩
  · exact ⟨(Array.getElem?_eq_some_iff.1 h6).1, h.sat.lt.none h5, cur, h6⟩
theorem iteTab (n : Nat) (F G H : BF) : iteL (tabB n F) (tabB n G) (tabB n H) = tabB n (iteFn F G H) := iteL_tab n F G H
theorem opRoom {k : Nat} {F : BF} {o : Own} {m : ManD} {V : Nat → BF} (h : RoomS n room w0 mb hs w o m V vl vx) {x : Ending} {w' : World} (hp : OpLeft iteLaw n room w0 mb (b2 ++ hs) ((b2 ++ hs).length : Nat) [] k F o w x w') :
    ∃ o', ChgX NoB o o' w w' ∧ ((x = .returned (.tuple #[.int .i64 ((b2 ++ hs).length : Nat), .int .i64 0]) ∧ ∃ m' V', RoomP n room w0 mb hs (((b2 ++ hs).length : Nat), F) w' o' m' V' vl vx) ∨ (x = .returned (.tuple #[.int .i64 0, .int .i64 7]) ∧ ∃ m' V', RoomS n room w0 mb hs w' o' m' V' vl vx)) := by
  obtain ⟨o', m', V', hc, hw, hcase⟩ := hp
  have hw' : m'.waits = [] := by simpa using hw
  refine ⟨o', hc, ?_⟩
  rcases hcase with ⟨rfl, hst⟩ | ⟨rfl, hst, _⟩
  · refine .inl ⟨rfl, m', V', ?_, hw', h.l.chg hc, h.x.chg hc⟩
    have e : (((b2 ++ (hs ++ [((((b2 ++ hs).length : Nat) : Int), F)])).length : Nat) : Int) = (((b2 ++ hs).length : Nat) : Int) + 1 := by simp; omega
    rw [e, ← List.append_assoc]
    exact hst
  · exact .inr ⟨rfl, m', V', hst, hw', h.l.chg hc, h.x.chg hc⟩
end
def askB (q : AskD) (ao ae ap : Option Addr) (co ce cp : Nat) : Array Value := #[.int .i64 q.vars, .slice ao q.order.length co, .slice ae q.es.length ce, .slice ap q.plan.length cp]
theorem kidsR_ok {op : Int} (h : 0 ≤ (kidsR op).1) : 1 ≤ op ∧ op ≤ 10 ∧ (kidsR op).2 ≤ 64 := by
  unfold kidsR at h ⊢
  split
  · rename_i h1; exact ⟨by omega, by omega, by simp⟩
  · split
    · rename_i h1; exact ⟨by omega, by omega, by simp⟩
    · split
      · rename_i h1; exact ⟨by omega, by omega, by simp⟩
      · split
        · rename_i h1; exact ⟨by omega, by omega, by simp⟩
        · split
          · rename_i h1; exact ⟨by omega, by omega, by simp⟩
          · exfalso; revert h; simp_all
theorem ExprAt.partsOk {w : World} {e : ExT} {x0 x1 x2 : Value} (h : ExprAt w e (.agg #[x0, x1, x2])) {d : Nat} (hk : okT e d) : ∃ (op v : Int) (a : Option Addr) (n c : Nat), x0 = .int .i64 op ∧ x1 = .int .i64 v ∧ x2 = .slice a n c ∧ 1 ≤ op ∧ op ≤ 10 ∧ 0 ≤ v ∧ v ≤ 64 ∧ n ≤ 64 := by
  cases e with
  | nil => unfold ExprAt at h; exact h.elim
  | mk op v n kid =>
    unfold ExprAt at h
    obtain ⟨a, c, hx, _⟩ := h
    cases hx
    obtain ⟨_, h1, h2, h3, h4, h5, _⟩ := hk
    obtain ⟨k1, k2, k3⟩ := kidsR_ok h1
    refine ⟨_, _, _, _, _, rfl, rfl, rfl, k1, k2, ?_, ?_, by omega⟩
    · by_cases e : op = 3
      · exact (h2 e).1
      · rw [h3 e]; omega
    · by_cases e : op = 3
      · have := (h2 e).2; omega
      · rw [h3 e]; omega
set_option maxRecDepth 100000 in
set_option maxHeartbeats 8000000 in
theorem rooms_walk (q : AskD) (ao ae ap : Option Addr) (co ce cp : Nat) (room : Int) (w : World) (h : AskAt w q ao ae ap) :
    Calls Tryz.prog 3 #[askV q ao ae ap co ce cp, .int .i64 room] w fun y w' => y = .returned (.bool true) ∧ Below w.heap.size w w' := by
  have HSM : Hid (∀ W, Below w.heap.size w W → ∀ u, u = askV q ao ae ap co ce cp → Calls Tryz.prog 12 #[u] W fun y w' => ∃ b, y = .returned (.bool b) ∧ (b = true → SmallP q) ∧ Below W.heap.size W w') := Lib.hid fun W hb u hu => by subst hu; exact small_any q ao ae ap co ce cp W (h.below hb)
  obtain ⟨vars, order, es, plan⟩ := q
  obtain ⟨hv, ho, he, hp⟩ := h
  dsimp only [askV] at hv ho he hp HSM ⊢
  have HE := Lib.hid he
  obtain ⟨w1, hw1⟩ : ∃ w1, w1 = w.alloc (.cells #[.int .i64 vars, .slice ao order.length co, .slice ae es.length ce, .slice ap plan.length cp] 26) := ⟨_, rfl⟩
  have HW1 : Hid (_ = w1) := Lib.hid hw1.symm
  have HB1 : Hid (Below w.heap.size w w1) := by rw [hw1]; exact Lib.hid (below_new1 _ _)
  have hblk : w1.heap[w.heap.size]? = some (.cells #[.int .i64 vars, .slice ao order.length co, .slice ae es.length ce, .slice ap plan.length cp] 26 (0, 0)) := by rw [hw1]; exact heap_alloc_new _ _
  have d0 : w1.cell? ⟨w.heap.size, 0, none⟩ = some (.int .i64 vars) := by rw [cell_of_row _ _ 0 _ _ _ hblk]; rfl
  have d1 : w1.cell? ⟨w.heap.size, 1, none⟩ = some (.slice ao order.length co) := by rw [cell_of_row _ _ 1 _ _ _ hblk]; rfl
  have d2 : w1.cell? ⟨w.heap.size, 2, none⟩ = some (.slice ae es.length ce) := by rw [cell_of_row _ _ 2 _ _ _ hblk]; rfl
  have d3 : w1.cell? ⟨w.heap.size, 3, none⟩ = some (.slice ap plan.length cp) := by rw [cell_of_row _ _ 3 _ _ _ hblk]; rfl
  clear ho he hp hw1 hblk hv
  go_enter Tryz.func3, Tryz.ntmps3
  go_upto_region 1 with fail
  rw [HW1.out]
  go_cut [32] (fun s32 wx => ∃ bad : Bool, s32 = .bool bad ∧ Below w1.heap.size w1 wx ∧ Hid (bad = false → SmallP ⟨vars, order, es, plan⟩ ∧ 1 ≤ room ∧ room ≤ 200))
  case first =>
    go_wp2_with fail
    refine (HSM.out _ HB1.out _ rfl).mono ?_
    rintro y w2 ⟨b, rfl, hb, hbel⟩
    have HB := Lib.hid hb
    have HBEL := Lib.hid hbel
    clear hb hbel
    cases b with
    | false =>
      go_wp2_with fail
      go_meet
      case rel => exact ⟨true, rfl, HBEL.out, Lib.hid (by simp)⟩
    | true =>
      by_cases h1 : room < 1
      · go_wp2_with fail
        go_meet
        case rel => exact ⟨true, rfl, HBEL.out, Lib.hid (by simp)⟩
      · by_cases h2 : room > 200
        · go_wp2_with fail
          go_meet
          case rel => exact ⟨true, rfl, HBEL.out, Lib.hid (by simp)⟩
        · go_wp2_with fail
          go_meet
          case rel => exact ⟨false, by first | rfl | trivial | (simp; omega), HBEL.out, Lib.hid fun _ => ⟨HB.out (by trivial), by omega, by omega⟩⟩
  case rest =>
    obtain ⟨bad, rfl, hbel, HBAD⟩ := hcut
    have HBEL := Lib.hid (HB1.out.trans (hbel.mono HB1.out.size))
    cases bad with
    | true =>
      have HF := Lib.hid (lives13 wc)
      clear hbel
      go_wp2_with fail
      refine HF.out.mono ?_
      rintro y w3 ⟨rfl, hb3⟩
      have HB3 := Lib.hid (HBEL.out.trans (hb3.mono HBEL.out.size))
      clear hb3
      go_wp2_with fail
      go_ret
      exact ⟨rfl, HB3.out⟩
    | false =>
      obtain ⟨hsm, hr1, hr2⟩ := HBAD.out rfl
      obtain ⟨n, rfl⟩ := Int.eq_ofNat_of_zero_le (show 0 ≤ vars by have := hsm.lo; dsimp only at this; omega)
      obtain ⟨rm, rfl⟩ := Int.eq_ofNat_of_zero_le (show 0 ≤ room by omega)
      have hn1 : 1 ≤ n := by have := hsm.lo; dsimp only at this; omega
      have hn6 : n ≤ 6 := by have := hsm.hi; dsimp only at this; omega
      have hes := hsm.es
      dsimp only at hes
      have HEX : Hid (∀ e ∈ es, okT e 1) := Lib.hid fun e he => (hsm.expr e he).2.1
      have e0 := (hbel.cell (p := ⟨w.heap.size, 0, none⟩) (lt_of_cell d0)).trans d0
      have e2 := (hbel.cell (p := ⟨w.heap.size, 2, none⟩) (lt_of_cell d2)).trans d2
      have HNEW := Lib.hid (new_satE (K := iteLaw) n rm wc (by omega) (by omega) (by omega))
      have HEA := Lib.hid (HE.out.below HBEL.out)
      clear hsm hbel d0 d1 d2 d3 HBAD HSM HE
      go_upto_region 3 with fail
      go_wp2_with fail
      refine HNEW.out.mono ?_
      rintro y w3 ⟨mb, rfl, o, m, V, hsat, hwt, _, _⟩
      have HR0 : Hid (Rooms n rm wc mb [] w3 (.slice none 0 0) (.slice none 0 0)) := Lib.hid ⟨o, m, V, by simpa [b2] using hsat, hwt, ⟨ownC_nil _ _ _, fun k hk => by cases hk⟩, ⟨⟨[], rfl, ownC_nil _ _ _, fun i v hv => by simp at hv⟩, fun k hk => by cases hk⟩⟩
      clear hsat hwt HNEW
      go_wp2_with fail
      go_loopw [7, 8, 9, 10, 11] (fun s7 s8 s9 s10 s11 wr => ∃ (v : Nat) (hs : List (Int × BF)), v ≤ n ∧ s9 = .int .i64 v ∧ hs.length ≤ v ∧ Hid (Rooms n rm wc mb hs wr s7 s8)) (fun _ _ s9 _ _ _ => n - (intOf s9).toNat)
      case atStart => exact ⟨0, [], Nat.zero_le _, rfl, Nat.le_refl _, HR0⟩
      case round =>
        obtain ⟨v, hs, hv, rfl, hl, HR⟩ := hrel
        have f0 := (HR.out.below0.cell (p := ⟨w.heap.size, 0, none⟩) (lt_of_cell e0)).trans e0
        by_cases hlt : v < n
        · have hlz : (v : Int) < n := by omega
          obtain ⟨o, m, V, hrs⟩ := HR.out
          have HVAR := Lib.hid (manVar_gen iteLaw_ok hrs.sat [] (by rw [hrs.waits]; exact List.suffix_refl _) (by simp) (by simp [b2]; omega) v hlt)
          have HOP := Lib.hid (fun x w' hp => opRoom hrs (k := 1) (F := varF v) (x := x) (w' := w') hp)
          clear hrs
          go_wp2_with fail
          refine HVAR.out.mono ?_
          intro y w4 hp
          obtain ⟨o', hc, hcase⟩ := HOP.out y w4 hp
          clear hp hc HVAR HOP
          obtain ⟨nx, hnx⟩ : ∃ nx : Int, nx = (((b2 ++ hs).length : Nat) : Int) := ⟨_, rfl⟩
          rw [← hnx] at hcase
          rcases hcase with ⟨rfl, m', V', hrp⟩ | ⟨rfl, m', V', hrs'⟩
          · have g0 := (hrp.sat.chg.below0.cell (p := ⟨w.heap.size, 0, none⟩) (lt_of_cell e0)).trans e0
            have HRP := Lib.hid hrp
            have hsz4 := hrp.sat.chg.size
            clear hrp hnx
            go_upto_region 16 with (at_builtin; refine wpList_appC elemInt _ rfl _ _ rfl wc.heap.size _ (intsV (hs.map Prod.fst)) _ rfl rfl rfl rfl rfl (by exact HRP.out.l.own) (by simp [intsV]; omega) hsz4 ?_; intro v5 w5 hown5 q1 q2 q3 q4 hk5)
            have HRQ := Lib.hid (HRP.out.appL hown5 q1 q2 q3 q4 hk5)
            have g5 := (HRQ.out.sat.chg.below0.cell (p := ⟨w.heap.size, 0, none⟩) (lt_of_cell e0)).trans e0
            clear hown5 q1 q2 q3 q4 hk5 g0 HRP hsz4
            go_wp2_with fail
            refine (refVar_any v n (by omega) (by omega) _).mono ?_
            rintro y w6 ⟨g, rfl, hown6, hb6⟩
            have HRQ6 := Lib.hid (HRQ.out.below hb6)
            have HLB : Hid (LawB w6 o' wc.heap.size (.slice (some ⟨g, 0, none⟩) (2 ^ n) (2 ^ n)) ((List.range (2 ^ n)).map (fun i => bitB i v))) := Lib.hid (lawB_new (n := n) hown6 (by have := Nat.pow_le_pow_right (show 1 ≤ 2 by omega) hn6; simp; omega) HRQ.out.sat.lt HRQ.out.sat.chg.size)
            obtain ⟨rs, hrs1, hrs2, hrs3⟩ := HRQ6.out.x.ex
            have HRS := Lib.hid hrs2
            have HR3 := Lib.hid hrs3
            have hsz6 := HRQ6.out.sat.chg.size
            have hrl : rs.length = hs.length := by rw [hrs1]; simp
            clear hown6 hb6 hrs2 hrs3 HRQ g5
            go_wp2_with (at_builtin; refine wpList_appC elemRow _ rfl _ _ rfl wc.heap.size _ rs _ rfl rfl rfl rfl rfl (by exact HRS.out) (by omega) hsz6 ?_; intro v7 w7 hown7 q1 q2 q3 q4 hk7)
            have HRN := Lib.hid (HRQ6.out.appX HLB.out (varTab n v hlt) hrl HRS.out HR3.out hown7 q1 q2 q3 q4 hk7)
            clear hown7 q1 q2 q3 q4 hk7
            go_roundw
            case rel => exact ⟨v + 1, _, by omega, by go_num, by simp; omega, HRN⟩
            case measure => simp [intOf]; omega
          · have HRN : Hid (Rooms n rm wc mb hs w4 u7 u8) := Lib.hid ⟨o', m', V', hrs'⟩
            clear hrs' hnx
            go_wp2_with fail
            go_roundw
            case rel => exact ⟨v + 1, hs, by omega, by go_num, by omega, HRN⟩
            case measure => simp [intOf]; omega
        · have hlz : ¬ (v : Int) < n := by omega
          have hl6 : hs.length ≤ 6 := by omega
          have f2 := (HR.out.below0.cell (p := ⟨w.heap.size, 2, none⟩) (lt_of_cell e2)).trans e2
          clear hl
          go_wp2_with fail
          go_loopw [7, 8, 81] (fun s7 s8 s81 wx => ∃ (j : Nat) (hs : List (Int × BF)), j ≤ es.length ∧ s81 = .int .i64 j ∧ hs.length ≤ 6 + j ∧ Hid (Rooms n rm wc mb hs wx s7 s8)) (fun _ _ s81 _ => es.length - (intOf s81).toNat)
          case atStart => exact ⟨0, hs, Nat.zero_le _, rfl, by omega, HR⟩
          case round =>
            clear f0 f2 HR hl6
            clear hs
            rename World => wy
            obtain ⟨j, hs, hj, rfl, hl, HR⟩ := hrel
            by_cases hlt : j < es.length
            · obtain ⟨o, m, V, hrs⟩ := HR.out
              have hb0 := HR.out.below0
              obtain ⟨b, off, x0, x1, x2, rfl, c0, c1, c2, hx⟩ := (HEA.out.below hb0).cells j hlt
              obtain ⟨op, vv, ka, kn, kc, rfl, rfl, rfl, p1, p2, p3, p4, p5⟩ := hx.partsOk (HEX.out _ (List.getElem_mem hlt))
              have hjz : (j : Int) < es.length := by omega
              have f0 := (hb0.cell (p := ⟨w.heap.size, 0, none⟩) (lt_of_cell e0)).trans e0
              obtain ⟨wz, hwz⟩ : ∃ wz, wz = wy.alloc (.cells #[.int .i64 op, .int .i64 vv, .slice ka kn kc] 39) := ⟨_, rfl⟩
              have hbz : Below wy.heap.size wy wz := by rw [hwz]; exact below_new1 _ _
              have hblk : wz.heap[wy.heap.size]? = some (.cells #[.int .i64 op, .int .i64 vv, .slice ka kn kc] 39 (0, 0)) := by rw [hwz]; exact heap_alloc_new _ _
              have HRZ := Lib.hid (hrs.below hbz)
              have HWZ : Hid (_ = wz) := Lib.hid hwz.symm
              have f0z := (hbz.cell (p := ⟨w.heap.size, 0, none⟩) (lt_of_cell f0)).trans f0
              have k0 : wz.cell? ⟨wy.heap.size, 0, none⟩ = some (.int .i64 op) := by rw [cell_of_row _ _ 0 _ _ _ hblk]; rfl
              have k1 : wz.cell? ⟨wy.heap.size, 1, none⟩ = some (.int .i64 vv) := by rw [cell_of_row _ _ 1 _ _ _ hblk]; rfl
              have k2 : wz.cell? ⟨wy.heap.size, 2, none⟩ = some (.slice ka kn kc) := by rw [cell_of_row _ _ 2 _ _ _ hblk]; rfl
              clear hrs hb0 hx hbz hblk hwz HR
              go_upto_region 20 with fail
              rw [HWZ.out]
              clear c0 c1 c2 f0 HWZ
              have HONE := Lib.hid (one_rooms HRZ.out (by omega) (by omega))
              go_wp2_with fail
              refine (HONE.out _).mono ?_
              rintro y wA ⟨a1, F1, r1, rfl, hm1, hf1, hbA⟩
              have HRA := Lib.hid (HRZ.out.below hbA)
              have HF1 := Lib.hid hf1
              have fA := (hbA.cell (p := ⟨w.heap.size, 0, none⟩) (lt_of_cell f0z)).trans f0z
              have kA0 := (hbA.cell (p := ⟨wy.heap.size, 0, none⟩) (lt_of_cell k0)).trans k0
              have kA1 := (hbA.cell (p := ⟨wy.heap.size, 1, none⟩) (lt_of_cell k1)).trans k1
              have HONE2 := Lib.hid (one_rooms HRA.out (by omega) (by omega))
              clear hf1 hbA f0z k0 k1 k2 HONE HRZ
              go_wp2_with fail
              refine (HONE2.out _).mono ?_
              rintro y wB ⟨a2, F2, r2, rfl, hm2, hf2, hbB⟩
              have HRB := Lib.hid (HRA.out.below hbB)
              have HF1B := Lib.hid (HF1.out.chg (chg_below hbB o))
              have HF2 := Lib.hid hf2
              have fB := (hbB.cell (p := ⟨w.heap.size, 0, none⟩) (lt_of_cell fA)).trans fA
              have kB1 := (hbB.cell (p := ⟨wy.heap.size, 1, none⟩) (lt_of_cell kA1)).trans kA1
              have HONE3 := Lib.hid (one_rooms HRB.out (by omega) (by omega))
              clear hf2 hbB fA kA0 kA1 HONE2 HRA HF1
              go_wp2_with fail
              refine (HONE3.out _).mono ?_
              rintro y wC ⟨a3, F3, r3, rfl, hm3, hf3, hbC⟩
              have HRC := Lib.hid (HRB.out.below hbC)
              have HF1C := Lib.hid (HF1B.out.chg (chg_below hbC o))
              have HF2C := Lib.hid (HF2.out.chg (chg_below hbC o))
              have HF3C := Lib.hid hf3
              have hlb : (b2 ++ hs).length ≤ 100 := by simp [b2]; omega
              have HITE := Lib.hid (manIte_gen iteLaw_ok HRC.out.sat [] (by rw [HRC.out.waits]; exact List.suffix_refl _) (by simp) (by omega) hm1 hm2 hm3)
              have HOP := Lib.hid (fun x w' hp => opRoom HRC.out (k := 2 ^ n - 1) (F := iteFn F1 F2 F3) (x := x) (w' := w') hp)
              clear hf3 hbC fB kB1 HONE3 HRB HF1B HF2 hm1 hm2 hm3
              go_wp2_with fail
              refine HITE.out.mono ?_
              intro y w4 hp
              obtain ⟨o', hc, hcase⟩ := HOP.out y w4 hp
              have HC := Lib.hid hc
              clear hp hc HITE HOP
              obtain ⟨nx, hnx⟩ : ∃ nx : Int, nx = (((b2 ++ hs).length : Nat) : Int) := ⟨_, rfl⟩
              rw [← hnx] at hcase
              rcases hcase with ⟨rfl, m', V', hrp⟩ | ⟨rfl, m', V', hrs'⟩
              · have HRP := Lib.hid hrp
                have hsz4 := hrp.sat.chg.size
                have hfl1 := HF1C.out.chg HC.out
                have hfl2 := HF2C.out.chg HC.out
                have hfl3 := HF3C.out.chg HC.out
                obtain ⟨aa1, ca1, rfl, _⟩ := hfl1.tab
                obtain ⟨aa2, ca2, rfl, _⟩ := hfl2.tab
                obtain ⟨aa3, ca3, rfl, _⟩ := hfl3.tab
                have HFL1 := Lib.hid hfl1
                have HFL2 := Lib.hid hfl2
                have HFL3 := Lib.hid hfl3
                clear hrp hnx HC HRC HF1C HF2C HF3C hfl1 hfl2 hfl3
                go_upto_region 28 with (at_builtin; refine wpList_appC elemInt _ rfl _ _ rfl wc.heap.size _ (intsV (hs.map Prod.fst)) _ rfl rfl rfl rfl rfl (by exact HRP.out.l.own) (by simp [intsV]; omega) hsz4 ?_; intro v5 w5 hown5 q1 q2 q3 q4 hk5)
                have HRQ := Lib.hid (HRP.out.appL hown5 q1 q2 q3 q4 hk5)
                have hw5 := wr_app q1 q2 q3 q4 hk5
                obtain ⟨_, _, s1, hB1⟩ := (HFL1.out.typ hw5 (by decide) HRP.out.l.own.typed).tab
                obtain ⟨_, _, s2, hB2⟩ := (HFL2.out.typ hw5 (by decide) HRP.out.l.own.typed).tab
                obtain ⟨_, _, s3, hB3⟩ := (HFL3.out.typ hw5 (by decide) HRP.out.l.own.typed).tab
                cases s1
                cases s2
                cases s3
                have HRI := Lib.hid (refIte_tab n F1 F2 F3 aa1 aa2 aa3 ca1 ca2 ca3 w5 hB1 hB2 hB3)
                clear hown5 q1 q2 q3 q4 hk5 HRP hsz4 hw5 hB1 hB2 hB3 HFL1 HFL2 HFL3
                go_wp2_with fail
                refine HRI.out.mono ?_
                rintro y w6 ⟨g, rfl, hown6, hb6⟩
                have HRQ6 := Lib.hid (HRQ.out.below hb6)
                have HLB : Hid (LawB w6 o' wc.heap.size (.slice (some ⟨g, 0, none⟩) (2 ^ n) (2 ^ n)) (tabB n (iteFn F1 F2 F3))) := Lib.hid (lawB_new (n := n) hown6 (by have := Nat.pow_le_pow_right (show 1 ≤ 2 by omega) hn6; rw [tabB_length]; omega) HRQ.out.sat.lt HRQ.out.sat.chg.size)
                obtain ⟨rs, hrs1, hrs2, hrs3⟩ := HRQ6.out.x.ex
                have HRS := Lib.hid hrs2
                have HR3 := Lib.hid hrs3
                have hsz6 := HRQ6.out.sat.chg.size
                have hrl : rs.length = hs.length := by rw [hrs1]; simp
                clear hown6 hb6 hrs2 hrs3 HRQ HRI
                go_upto_region 29 with (at_builtin; refine wpList_appC elemRow _ rfl _ _ rfl wc.heap.size _ rs _ rfl rfl rfl rfl rfl (by exact HRS.out) (by omega) hsz6 ?_; intro v7 w7 hown7 q1 q2 q3 q4 hk7)
                have HRN := Lib.hid (HRQ6.out.appX HLB.out rfl hrl HRS.out HR3.out hown7 q1 q2 q3 q4 hk7)
                clear hown7 q1 q2 q3 q4 hk7 HRS HR3 HRQ6 HLB
                obtain ⟨hs2, hhs2⟩ : ∃ hs2, hs2 = hs ++ [(nx, iteFn F1 F2 F3)] := ⟨_, rfl⟩
                have hl2 : hs2.length ≤ 6 + j + 1 := by rw [hhs2]; simp; omega
                rw [← hhs2] at HRN
                have hl2e : hs2.length = hs.length + 1 := by rw [hhs2]; simp
                clear hhs2
                obtain ⟨o9, m9, V9, hr9⟩ := HRN.out
                have HLEFT := Lib.hid (left_any hr9.sat hs2.length (by omega))
                have HALL := Lib.hid (all_any hr9.sat (by omega) (lawR_of (n := n) (fs := b2 ++ hs2) (hs := hs2) hr9.l hr9.x (fun p hp => List.mem_append_right _ hp) (by omega)))
                have HLEN : Hid (∀ W, Below w7.heap.size w7 W → Calls Tryz.prog 22 #[.pointer (some ⟨mb, 0, none⟩)] W fun x w' => x = .returned (.int .i64 m9.d.pool.many) ∧ W = w') := Lib.hid fun W hb => (hr9.sat.below hb).len_any
                have hmany := hr9.sat.many_le
                have hdl : decide ((b2 ++ hs2).length = hs2.length + 2) = true := by simp [b2]
                rw [hdl] at HLEFT
                have hlenl : ∃ al cl, v5 = .slice al hs2.length cl := by
                  obtain ⟨al, cl, e, _⟩ := hr9.l.own.slice
                  exact ⟨al, cl, by rw [e]; simp [intsV]⟩
                obtain ⟨al9, cl9, hvl⟩ := hlenl
                rw [hl2e] at HLEFT hvl
                have e99 : ((hs.length + 1 : Nat) : Int) = (hs.length : Int) + 1 := by omega
                rw [e99] at HLEFT
                rw [hvl] at HALL HRN
                clear hr9 hdl
                go_wp2_with fail
                refine HLEFT.out.mono ?_
                rintro y w' ⟨rfl, rfl⟩
                go_wp2_with fail
                refine HALL.out.mono ?_
                rintro y w10 ⟨rfl, hb10⟩
                have HRN2 := Lib.hid (HRN.out.below hb10)
                have HL10 := Lib.hid (HLEN.out _ hb10)
                clear hb10
                go_wp2_with fail
                refine HL10.out.mono ?_
                rintro y w' ⟨rfl, rfl⟩
                have hmz : ¬ (m9.d.pool.many : Int) > (rm : Int) := by omega
                go_wp2_with fail
                go_roundw
                case rel => exact ⟨j + 1, hs2, by omega, by go_num, by omega, HRN2⟩
                case measure => simp [intOf]; omega
              · have HRN : Hid (Rooms n rm wc mb hs w4 u7 u8) := Lib.hid ⟨o', m', V', hrs'⟩
                clear hrs' hnx HC HRC HF1C HF2C HF3C
                obtain ⟨o9, m9, V9, hr9⟩ := HRN.out
                have HLEFT := Lib.hid (left_any hr9.sat hs.length (by omega))
                have HALL := Lib.hid (all_any hr9.sat (by omega) (lawR_of (n := n) (fs := b2 ++ hs) (hs := hs) hr9.l hr9.x (fun p hp => List.mem_append_right _ hp) (by omega)))
                have HLEN : Hid (∀ W, Below w4.heap.size w4 W → Calls Tryz.prog 22 #[.pointer (some ⟨mb, 0, none⟩)] W fun x w' => x = .returned (.int .i64 m9.d.pool.many) ∧ W = w') := Lib.hid fun W hb => (hr9.sat.below hb).len_any
                have hmany := hr9.sat.many_le
                have hdl : decide ((b2 ++ hs).length = hs.length + 2) = true := by simp [b2]
                rw [hdl] at HLEFT
                have hlenl : ∃ al cl, u7 = .slice al hs.length cl := by
                  obtain ⟨al, cl, e, _⟩ := hr9.l.own.slice
                  exact ⟨al, cl, by rw [e]; simp [intsV]⟩
                obtain ⟨al9, cl9, hvl⟩ := hlenl
                rw [hvl] at HALL HRN
                clear hr9 hdl
                go_wp2_with fail
                refine HLEFT.out.mono ?_
                rintro y w' ⟨rfl, rfl⟩
                go_wp2_with fail
                refine HALL.out.mono ?_
                rintro y w10 ⟨rfl, hb10⟩
                have HRN2 := Lib.hid (HRN.out.below hb10)
                have HL10 := Lib.hid (HLEN.out _ hb10)
                clear hb10
                go_wp2_with fail
                refine HL10.out.mono ?_
                rintro y w' ⟨rfl, rfl⟩
                have hmz : ¬ (m9.d.pool.many : Int) > (rm : Int) := by omega
                go_wp2_with fail
                go_roundw
                case rel => exact ⟨j + 1, hs, by omega, by go_num, by omega, HRN2⟩
                case measure => simp [intOf]; omega
            · have hjz : ¬ (j : Int) < es.length := by omega
              have HB9 := Lib.hid HR.out.below0
              have HF := Lib.hid (lives13 wy)
              go_wp2_with fail
              refine HF.out.mono ?_
              rintro y w3 ⟨rfl, hb3⟩
              have HB3 := Lib.hid (HBEL.out.trans ((HB9.out.trans (hb3.mono HB9.out.size)).mono HBEL.out.size))
              clear hb3
              go_wp2_with fail
              go_ret
              exact ⟨rfl, HB3.out⟩
end Go.Proofs.YtchliiaknmknhaaGreat
