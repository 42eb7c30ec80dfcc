/- Several texts in one file: contracts of the program's functions and what follows from them. -/
import Derived.Test.YtchliiaknmknhaaGreatW6
import Derived.Deep.CutBlock
set_option linter.unusedSimpArgs false
set_option linter.unusedVariables false
set_option linter.unusedSectionVars false
set_option linter.unnecessarySimpa false
set_option maxRecDepth 100000
set_option maxHeartbeats 8000000
namespace Go.Proofs.YtchliiaknmknhaaGreat
open Go.RowKit
def dropF {α : Type} (l : List (Int × α)) (ks : List Int) : List (Int × α) := ks.foldl (fun l k => if 1 < k then delK k l else l) l
theorem dropF_take {α : Type} {l : List (Int × α)} {ks : List Int} {j : Nat} (hj : j < ks.length) : dropF l (ks.take (j + 1)) = if 1 < at0 ks j then delK (at0 ks j) (dropF l (ks.take j)) else dropF l (ks.take j) := by
 unfold dropF;rw [List.take_succ_eq_append_getElem hj, List.foldl_append, at0_eq hj];rfl
section
variable {K : Law} {n : Nat} {Od : List Nat -> Prop} {room : Nat} {w0 w w' : World} {mb : Nat} {fs : List (Int × BF)} {nx : Int} {o o' : Own} {m m' : ManD} {V V' : Nat -> BF}
structure DropH (K : Law) (n : Nat) (Od : List Nat -> Prop) (room : Nat) (w0 : World) (mb : Nat) (fs : List (Int × BF)) (nx : Int) (o : Own) (w : World) (m : ManD) (V : Nat -> BF) (o' : Own) (w' : World) (m' : ManD) : Prop where
 sat : SatE K n Od room w0 mb fs nx w' o' m' V
 waits : m'.waits = m.waits
 calls : m'.calls = m.calls
 nodes : nodesOf m'.d = nodesOf m.d
 many : m'.d.pool.many = m.d.pool.many
 chg : Chg (fun _ => True) o o' w w'
theorem DropH.trans {fs' fs'' : List (Int × BF)} {o'' : Own} {w'' : World} {m'' : ManD} (h : DropH K n Od room w0 mb fs' nx o w m V o' w' m') (h' : DropH K n Od room w0 mb fs'' nx o' w' m' V o'' w'' m'') : DropH K n Od room w0 mb fs'' nx o w m V o'' w'' m'' :=
 ⟨h'.sat, h'.waits.trans h.waits, h'.calls.trans h.calls, h'.nodes.trans h.nodes, h'.many.trans h.many, h.chg.trans h'.chg⟩
theorem drop_one (hK : LawOK K) (h : SatE K n Od room w0 mb fs nx w o m V) {k : Int} {f : Nat} (hf : (k, f) ∈ m.hs) (h1 : 1 < k) {s : ManW} (hs : ManIn (K m.d V) o w mb m s) {w1 : World} {d' : StoreD} (hst : StoreAt o w1 s.sb d') (hl1 : OwnLt o w1) (hr : HoldRel m.d d' f (-1)) (hc1 : Chg RStore o o w w1) :
 ManIn (K m.d V) o w1 mb { m with d := d' } s /\ ∃ w2, (Builtin.delete_ #[101, 3] 0 #[.map (some s.hb), .int .i64 k]).run Tryz.prog w1 = .ok (.tuple #[]) w2 /\ DropH K n Od room w0 mb (delK k fs) nx o w m V o w2 { m with d := d', hs := delK k m.hs } := by
 have hM1 := hs.setStore h.lt hst hc1;refine ⟨hM1, ?_⟩;obtain ⟨w2, hrun, hm2, hg2⟩ := hM1.map.delete kI Tryz.underlying101 k 0;refine ⟨w2, hrun, ?_⟩;have he : delL k (encH m.hs) = encH (delK k m.hs) := by
  rw [delL_eq (encH_nodup h.ok.handles.nodup) (v := .int .i64 (f : Nat)) (List.mem_map.2 ⟨(k, f), hf, rfl⟩)];exact (delK_map k m.hs (fun p => (p.1, Value.int .i64 (p.2 : Nat))) (fun _ => rfl)).symm
 have hm3 : MapIs w2 s.hb (Value.int .i64) (encH (delK k m.hs)) := by rw [<- he]; exact hm2
 have hM2 := hM1.setMap hl1 hm3 hg2;have hl2 : OwnLt o w2 := hl1.mono hg2.size;have hc2 : Chg (fun _ => True) o o w w2 := hc1.any.grown hg2 (fun g hg => by cases hg; exact ⟨_, hM1.ownh, trivial⟩);refine ⟨⟨⟨s, hM2.mono fun op a b c r q => hK.same _ _ _ _ _ _ _ _ hr.vars hr.level hr.nodes q⟩, hl2, ⟨hr.ok h.ok.store, handles_drop h.ok.handles hr hf h1 h.ok.store.dag.none0⟩, ?_, ?_, ?_, h.next, ?_, h.chg.lower (ChgX.of_chg hc2 NoB) (fun _ e => e.elim)⟩, rfl, rfl, hr.nodes, hr.many, hc2⟩
 ·
  show d'.vars.length = n
  rw [hr.vars]; exact h.vars
 ·
  show Od d'.vars
  rw [hr.vars]; exact h.od
 ·
  show d'.pool.room = room
  rw [hr.room]; exact h.room
 ·
  show (delK k m.hs).map (fun p => (p.1, ef V p.2)) = delK k fs
  rw [delK_map k m.hs (fun p => (p.1, ef V p.2)) (fun _ => rfl), h.hs]
theorem manDrop_any (hK : LawOK K) (h : SatE K n Od room w0 mb fs nx w o m V) (hn : nx < 549755813888) {a : Option Addr} {c : Nat} {ks : List Int} (hks : IntsAt w a ks) (hno : ∀ x, a = some x -> o x.block = none)
 (hin : ∀ j, j < ks.length -> ∃ F, (at0 ks j, F) ∈ dropF fs (ks.take j)) :
 Calls Tryz.prog 49 #[.pointer (some ⟨mb, 0, none⟩), .slice a ks.length c] w fun x w' => x = .returned (.int .i64 0) /\ ∃ o' m', DropH K n Od room w0 mb (dropF fs ks) nx o w m V o' w' m' := by
 have hrl := hks.len;have HI0 : Hid (∃ o' m', DropH K n Od room w0 mb (dropF fs (ks.take 0)) nx o w m V o' w m' /\ IntsAt w a ks /\ (∀ x, a = some x -> o' x.block = none)) := Lib.hid ⟨o, m, ⟨h, rfl, rfl, rfl, rfl, Chg.refl _ _ _⟩, hks, hno⟩;have HIN := Lib.hid hin;have HN := Lib.hid hn;have HLAW := Lib.hid hK;clear h hn hks hno hin hK
 go_enter Tryz.func49, Tryz.ntmps49
 go_wp2_with fail
 go_loopw [13] (fun s13 wr => ∃ j : Nat, j <= ks.length /\ s13 = .int .i64 j /\ Hid (∃ o' m', DropH K n Od room w0 mb (dropF fs (ks.take j)) nx o w m V o' wr m' /\ IntsAt wr a ks /\ (∀ x, a = some x -> o' x.block = none))) (fun s13 _ => ks.length - (intOf s13).toNat)
 case atStart => exact ⟨0, Nat.zero_le _, rfl, HI0⟩
 case round =>
  obtain ⟨j, hj, rfl, HH⟩ := hrel;obtain ⟨oj, mj, hh, hi, hno⟩ := HH.out
  by_cases hlt : j < ks.length
  ·
   obtain ⟨b, off, rfl, hcell⟩ := hi.cells j hlt;obtain ⟨s, hs⟩ := hh.sat.is;obtain ⟨c0, c1, c2, c3, c4, c5, f0⟩ := cells6 hs.blk;have hjz : (j : Int) < ks.length := by omega
   obtain ⟨z, hz⟩ : ∃ z, z = at0 ks j := ⟨_, rfl⟩;obtain ⟨F, hF⟩ := HIN.out j hlt;rw [<- hz] at hF hcell;obtain ⟨f, hf, hfF⟩ := hh.sat.find hF;have hl := look_yes hs hh.sat.ok.handles.nodup hf;have HHJ := Lib.hid hh;have HIJ := Lib.hid hi;have HNO := Lib.hid hno;have HBL : Hid (b < wr.heap.size) := Lib.hid (lt_of_cell hcell);have HJL := Lib.hid hlt;have HZ := Lib.hid hz;have HS := Lib.hid hs;have HF := Lib.hid hf
   by_cases h1 : z > 1
   ·
    have HD := Lib.hid (storeDrop_ok hs.store hh.sat.lt hh.sat.ok hf h1 (by rw [hh.sat.next]; exact HN.out));have H1 := Lib.hid h1;clear hh hi hno hs HH HI0 hz hF hf hfF;go_wp2_with fail;refine HD.out.mono ?_;rintro x w1 ⟨rfl, d', hst, hl1, hr, hc1⟩;obtain ⟨hM1, w2, hrun, hdh⟩ := drop_one HLAW.out HHJ.out.sat HF.out H1.out HS.out hst hl1 hr hc1;obtain ⟨e0, e1, e2, e3, e4, e5, g0⟩ := cells6 hM1.blk
    have HNX : Hid (DropH K n Od room w0 mb (dropF fs (ks.take (j + 1))) nx o w m V oj w2 { mj with d := d', hs := delK z mj.hs } /\ IntsAt w2 (some ⟨b, off, none⟩) ks /\ (∀ x, some (⟨b, off, none⟩ : Addr) = some x -> oj x.block = none)) := Lib.hid ⟨by
     rw [dropF_take HJL.out, <- HZ.out, if_pos H1.out];exact HHJ.out.trans hdh, HIJ.out.chg hdh.chg HNO.out, fun x hx => hdh.chg.alien' (by cases hx; exact HBL.out) (HNO.out x hx)⟩
    clear hM1 hst hl1 hr hc1 hdh c0 c1 c2 c3 c4 c5 f0 hcell hl;go_wp2_with fail;go_roundw
    case rel => exact ⟨j + 1, Nat.succ_le_of_lt HJL.out, by go_num, Lib.hid ⟨_, _, HNX.out.1, HNX.out.2.1, HNX.out.2.2⟩⟩
    case measure =>
     have := HJL.out;simp [intOf];omega
   ·
    have HNX : Hid (DropH K n Od room w0 mb (dropF fs (ks.take (j + 1))) nx o w m V oj wr mj /\ IntsAt wr (some ⟨b, off, none⟩) ks /\ (∀ x, some (⟨b, off, none⟩ : Addr) = some x -> oj x.block = none)) := Lib.hid ⟨by
     rw [dropF_take HJL.out, <- HZ.out, if_neg h1];exact HHJ.out, HIJ.out, HNO.out⟩
    clear hh hi hno hs HH HI0 hz hF hf hfF;go_wp2_with fail;go_roundw
    case rel => exact ⟨j + 1, Nat.succ_le_of_lt HJL.out, by go_num, Lib.hid ⟨_, _, HNX.out.1, HNX.out.2.1, HNX.out.2.2⟩⟩
    case measure =>
     have := HJL.out;simp [intOf];omega
  ·
   obtain rfl : j = ks.length := by omega
   have HF : Hid (∃ o' m', DropH K n Od room w0 mb (dropF fs ks) nx o w m V o' wr m') := Lib.hid ⟨oj, mj, by rw [List.take_length] at hh; exact hh⟩;clear hh hi hno HH HI0;go_wp2_with fail;go_ret;exact ⟨rfl, HF.out⟩
end
open Go.RowKit
section
variable {K : Law} {n : Nat} {Od : List Nat -> Prop} {room : Nat} {w0 w w' : World} {mb : Nat} {fs : List (Int × BF)} {nx : Int} {o o' : Own} {m m' : ManD} {V V' : Nat -> BF}
structure Swapped (K : Law) (n room : Nat) (w0 : World) (mb : Nat) (fs : List (Int × BF)) (nx : Int) (k : Nat) (o : Own) (w : World) (m : ManD) (o' : Own) (w' : World) (m' : ManD) (V' : Nat -> BF) : Prop where
 sat : SatE K n (fun l => l = (swapD m.d k).vars) room w0 mb fs nx w' o' m' V'
 waits : m'.waits = m.waits
 calls : m'.calls = m.calls
 dead : m'.d.dead = 0
 chg : Chg (fun _ => True) o o' w w'
theorem manSwap_ok (h : SatE K n Od room w0 mb fs nx w o m V) {k : Nat} (hk1 : k + 1 < n) (hn : nx <= 549755813888) (hr : 3 * (fs.length * 2 ^ n) <= room) :
 Calls Tryz.prog 45 #[.pointer (some ⟨mb, 0, none⟩), .int .i64 k] w fun e w' => e = .returned (.int .i64 0) /\ ∃ o' m' V', Swapped K n room w0 mb fs nx k o w m o' w' m' V' := by
 refine (manSwap_any h hk1 hn).mono ?_;rintro e w' ⟨o', m', V', hm⟩;obtain ⟨d0, cr, ⟨rfl, e1, e2, hlow⟩ | ⟨rfl, so⟩⟩ := hm.way
 ·
  exfalso;have h1 := hm.sat.few (by rw [e1]; exact cr.dead);have h2 := hm.sat.room;rw [e1] at h1 h2;omega
 ·
  refine ⟨rfl, o', m', V', ⟨hm.sat.withOd ?_, hm.waits, hm.calls, so.dead, hm.chg⟩⟩;rw [so.vars];unfold swapD;dsimp only;rw [cr.vars]
theorem manSame_any (h : SatE K n Od room w0 mb fs nx w o m V) {k l : Int} {F G : BF} (hk : (k, F) ∈ fs) (hl : (l, G) ∈ fs) :
 Calls Tryz.prog 56 #[.pointer (some ⟨mb, 0, none⟩), .int .i64 k, .int .i64 l] w fun x w' => ∃ b : Bool, x = .returned (.tuple #[.bool b, .int .i64 0]) /\ (b = true ↔ F = G) /\ w = w' := by
 obtain ⟨f, hf, rfl⟩ := h.find hk;obtain ⟨g, hg, rfl⟩ := h.find hl;refine (same_yes h.is h.ok.handles.nodup hf hg).mono ?_;rintro x w' ⟨rfl, rfl⟩;refine ⟨_, rfl, ?_, rfl⟩;rw [beq_iff_eq];exact ⟨fun e => by rw [e], fun e => h.ok.store.dag.canon (h.ok.handles.ok _ hf) (h.ok.handles.ok _ hg) e⟩
end
open Go.RowKit
theorem mem_dropF {α : Type} {p : Int × α} : ∀ {ks : List Int} {l : List (Int × α)}, p ∈ l -> p.1 ∉ ks -> p ∈ dropF l ks
 | [], l, h, _ => h
 | k :: ks, l, h, hn => by
   show p ∈ dropF (if 1 < k then delK k l else l) ks
   simp only [List.mem_cons, not_or] at hn;refine mem_dropF ?_ hn.2;split
   ·
    exact mem_delK.2 ⟨h, hn.1⟩
   ·
    exact h
theorem delK_mid {α : Type} {l r : List (Int × α)} {p : Int × α} (h : ((l ++ p :: r).map Prod.fst).Nodup) : delK p.1 (l ++ p :: r) = l ++ r := by
 rw [List.map_append, List.map_cons, List.nodup_append] at h;obtain ⟨h1, h2, h3⟩ := h;have hl : ∀ q ∈ l, q.1 ≠ p.1 := fun q hq e => h3 q.1 (List.mem_map.2 ⟨q, hq, rfl⟩) p.1 (List.mem_cons_self ..) e
 have hr : ∀ q ∈ r, q.1 ≠ p.1 := fun q hq e => (List.nodup_cons.1 h2).1 (List.mem_map.2 ⟨q, hq, e⟩)
 have e1 : delK p.1 (l ++ p :: r) = delK p.1 l ++ delK p.1 r := by
  unfold delK;rw [List.filter_append, List.filter_cons];simp
 rw [e1, delK_none hl, delK_none hr]
theorem dropF_mid {α : Type} : ∀ (hs l r : List (Int × α)), ((l ++ (hs ++ r)).map Prod.fst).Nodup -> (∀ p ∈ hs, 1 < p.1) -> dropF (l ++ (hs ++ r)) (hs.map Prod.fst) = l ++ r
 | [], l, r, _, _ => rfl
 | p :: hs, l, r, hn, h1 => by
   show dropF (if 1 < p.1 then delK p.1 (l ++ (p :: (hs ++ r))) else l ++ (p :: (hs ++ r))) (hs.map Prod.fst) = _
   have hn' : ((l ++ p :: (hs ++ r)).map Prod.fst).Nodup := hn;rw [if_pos (h1 p (List.mem_cons_self ..)), delK_mid hn'];refine dropF_mid hs l r ?_ (fun q hq => h1 q (List.mem_cons_of_mem _ hq));have := hn;rw [List.map_append, List.nodup_append] at this ⊢;obtain ⟨q1, q2, q3⟩ := this;exact ⟨q1, (List.nodup_cons.1 q2).2, fun x hx y hy => q3 x hx y (List.mem_cons_of_mem _ hy)⟩
section
variable {K : Law} {n : Nat} {Od : List Nat -> Prop} {room : Nat} {w0 w w' : World} {mb : Nat} {fs : List (Int × BF)} {nx : Int} {o o' : Own} {m m' : ManD} {V V' : Nat -> BF}
theorem SatE.fst (h : SatE K n Od room w0 mb fs nx w o m V) : fs.map Prod.fst = m.hs.map Prod.fst := by rw [<- h.hs, List.map_map]; rfl
theorem SatE.nodup (h : SatE K n Od room w0 mb fs nx w o m V) : (fs.map Prod.fst).Nodup := by rw [h.fst]; exact h.ok.handles.nodup
theorem SatE.range (h : SatE K n Od room w0 mb fs nx w o m V) : ∀ p ∈ fs, 0 <= p.1 /\ p.1 < nx := by
 intro p hp;rw [<- h.hs] at hp;obtain ⟨q, hq, rfl⟩ := List.mem_map.1 hp;rw [<- h.next];exact h.ok.handles.lt q hq
structure B2 (fs : List (Int × BF)) : Prop where
 zero : (0, fun _ => false) ∈ fs
 one : (1, fun _ => true) ∈ fs
theorem B2.app {fs : List (Int × BF)} (h : B2 fs) (hs : List (Int × BF)) : B2 (fs ++ hs) := ⟨List.mem_append_left _ h.zero, List.mem_append_left _ h.one⟩
theorem SatE.gt {hs : List (Int × BF)} (h : SatE K n Od room w0 mb (fs ++ hs) nx w o m V) (hb : B2 fs) : ∀ p ∈ hs, 1 < p.1 := by
 intro p hp;have h1 := (h.range p (List.mem_append_right _ hp)).1;have h2 := h.nodup;rw [List.map_append, List.nodup_append] at h2;have h3 := fun k hk => h2.2.2 k hk p.1 (List.mem_map.2 ⟨p, hp, rfl⟩)
 have h4 := h3 0 (List.mem_map.2 ⟨_, hb.zero, rfl⟩);have h5 := h3 1 (List.mem_map.2 ⟨_, hb.one, rfl⟩);omega
theorem manDrop_mid (hK : LawOK K) {hs r : List (Int × BF)} (h : SatE K n Od room w0 mb (fs ++ (hs ++ r)) nx w o m V) (hb : B2 fs) (hn : nx < 549755813888) {a : Option Addr} {c : Nat} (hks : IntsAt w a (hs.map Prod.fst)) (hno : ∀ x, a = some x -> o x.block = none) :
 Calls Tryz.prog 49 #[.pointer (some ⟨mb, 0, none⟩), .slice a hs.length c] w fun x w' => x = .returned (.int .i64 0) /\ ∃ o' m', DropH K n Od room w0 mb (fs ++ r) nx o w m V o' w' m' := by
 have hnd := h.nodup;have hgt := h.gt hb;have e : dropF (fs ++ (hs ++ r)) (hs.map Prod.fst) = fs ++ r := dropF_mid hs fs r hnd (fun p hp => hgt p (List.mem_append_left _ hp));have := manDrop_any hK h hn (c := c) hks hno fun j hj => by
  have hj' : j < hs.length := by simpa using hj
  have e1 : at0 (hs.map Prod.fst) j = hs[j].1 := by rw [at0_eq hj]; simp
  refine ⟨hs[j].2, ?_⟩;rw [e1];refine mem_dropF (List.mem_append_right _ (List.mem_append_left _ (List.getElem_mem hj'))) ?_;rw [List.map_append, List.nodup_append, List.map_append, List.nodup_append] at hnd;have hh := hnd.2.1.1;intro hc;obtain ⟨i, hi, e2⟩ := List.getElem_of_mem hc;have hi2 : i < j := by simp at hi; omega
  rw [List.getElem_take] at e2;exact (List.pairwise_iff_getElem.1 hh) i j (by simp; omega) hj hi2 (by rw [e2]; simp)
 rw [e, List.length_map] at this;exact this
theorem opLeft_lim {M k : Nat} {F : BF} {x : Ending} (hp : OpLeft K n Od room w0 mb fs nx [] (some M) k F o w x w') :
 ∃ o' m' V', ChgX NoB o o' w w' /\ (m'.waits = [] /\ m'.d.pool.many <= M + k) /\ x = .returned (.tuple #[.int .i64 nx, .int .i64 0]) /\ SatE K n Od room w0 mb (fs ++ [(nx, F)]) (nx + 1) w' o' m' V' := by
 obtain ⟨o', m', V', h1, h2, ⟨h3, h5, h4⟩ | ⟨_, h, _⟩⟩ := hp
 ·
  exact ⟨o', m', V', h1, ⟨by simpa using h2, h5 M rfl⟩, h3, h4⟩
 ·
  cases h
end
open Go.RowKit
def cntT : Nat -> (Nat -> Bool) -> Nat
 | 0, _ => 0
 | k + 1, f => cntT k f + (if f k then 1 else 0)
theorem cntT_succ (k : Nat) (f : Nat -> Bool) : cntT (k + 1) f = cntT k f + (if f k then 1 else 0) := rfl
theorem cntT_le (f : Nat -> Bool) : ∀ k, cntT k f <= k
 | 0 => Nat.le_refl _
 | k + 1 => by
   have := cntT_le f k;rw [cntT_succ];split <;> omega
def opB (op : Int) (n : Nat) (f : Nat -> Bool) : Bool :=
 if op = 1 then true else if op = 4 then decide (cntT n f = 0) else if op = 5 then decide (cntT n f = n) else if op = 6 then decide (0 < cntT n f) else if op = 7 then decide (cntT n f % 2 = 1)
 else if op = 8 then (!f 0 || f 1) else if op = 9 then decide (cntT n f ≠ 1) else if op = 10 then iteB (f 0) (f 1) (f 2) else false
def fnT : ExT -> BF
 | .nil => fun _ => false
 | .mk op v n kid => fun ρ => if op = 3 then ρ v.toNat else opB op n fun i => fnT (kid i) ρ
def notF (F : BF) : BF := fun ρ => !F ρ
def joinF (op : Int) (F G : BF) : BF :=
 if op = 5 then iteFn F G (fun _ => false) else if op = 6 then iteFn F (fun _ => true) G else if op = 8 then iteFn F G (fun _ => true) else if op = 7 then iteFn F (notF G) G else iteFn F G (notF G)
def accT (op : Int) (kid : Nat -> ExT) : Nat -> BF
 | 0 => fun _ => decide (op = 5)
 | k + 1 => joinF op (accT op kid k) (fnT (kid k))
theorem accT_5 (kid : Nat -> ExT) (ρ : Nat -> Bool) : ∀ k, accT 5 kid k ρ = decide (cntT k (fun i => fnT (kid i) ρ) = k)
 | 0 => rfl
 | k + 1 => by
   have h1 : accT 5 kid (k + 1) ρ = iteB (accT 5 kid k ρ) (fnT (kid k) ρ) false := rfl;have h2 := cntT_le (fun i => fnT (kid i) ρ) k;rw [h1, accT_5 kid ρ k, cntT_succ];unfold iteB;cases hf : fnT (kid k) ρ
   ·
    have : (cntT k fun i => fnT (kid i) ρ) + 0 ≠ k + 1 := by omega
    simp only [Bool.false_eq_true, if_false, decide_eq_false this];split <;> rfl
   ·
    simp
theorem accT_6 (kid : Nat -> ExT) (ρ : Nat -> Bool) : ∀ k, accT 6 kid k ρ = decide (0 < cntT k (fun i => fnT (kid i) ρ))
 | 0 => rfl
 | k + 1 => by
   have h1 : accT 6 kid (k + 1) ρ = iteB (accT 6 kid k ρ) true (fnT (kid k) ρ) := rfl;rw [h1, accT_6 kid ρ k, cntT_succ];unfold iteB;cases hf : fnT (kid k) ρ <;> simp
theorem accT_7 (kid : Nat -> ExT) (ρ : Nat -> Bool) : ∀ k, accT 7 kid k ρ = decide (cntT k (fun i => fnT (kid i) ρ) % 2 = 1)
 | 0 => rfl
 | k + 1 => by
   have h1 : accT 7 kid (k + 1) ρ = iteB (accT 7 kid k ρ) (!(fnT (kid k) ρ)) (fnT (kid k) ρ) := rfl;rw [h1, accT_7 kid ρ k, cntT_succ];unfold iteB;rcases Nat.mod_two_eq_zero_or_one (cntT k fun i => fnT (kid i) ρ) with e | e
   ·
    cases hf : fnT (kid k) ρ <;> simp [e] <;> omega
   ·
    cases hf : fnT (kid k) ρ <;> simp [e] <;> omega
theorem fnT_acc {op : Int} (h : op = 5 \/ op = 6 \/ op = 7) (v : Int) (n : Nat) (kid : Nat -> ExT) : fnT (.mk op v n kid) = accT op kid n := by
 funext ρ;rcases h with rfl | rfl | rfl
 ·
  rw [accT_5]; rfl
 ·
  rw [accT_6]; rfl
 ·
  rw [accT_7]; rfl
theorem cntT_one (f : Nat -> Bool) : cntT 1 f = if f 0 then 1 else 0 := by rw [cntT_succ]; exact Nat.zero_add _
theorem cntT_two (f : Nat -> Bool) : cntT 2 f = (if f 0 then 1 else 0) + (if f 1 then 1 else 0) := by rw [cntT_succ, cntT_one]
theorem fnT_not (v : Int) (kid : Nat -> ExT) : fnT (.mk 4 v 1 kid) = notF (fnT (kid 0)) := by
 funext ρ
 show decide (cntT 1 (fun i => fnT (kid i) ρ) = 0) = !(fnT (kid 0) ρ)
 rw [Bool.eq_iff_iff, decide_eq_true_iff, cntT_one];cases fnT (kid 0) ρ <;> simp
theorem fnT_ite (v : Int) (kid : Nat -> ExT) : fnT (.mk 10 v 3 kid) = iteFn (fnT (kid 0)) (fnT (kid 1)) (fnT (kid 2)) := rfl
theorem fnT_join {op : Int} (h : op = 8 \/ op = 9) (v : Int) (kid : Nat -> ExT) : fnT (.mk op v 2 kid) = joinF op (fnT (kid 0)) (fnT (kid 1)) := by
 funext ρ;rcases h with rfl | rfl
 ·
  show (!fnT (kid 0) ρ || fnT (kid 1) ρ) = iteB (fnT (kid 0) ρ) (fnT (kid 1) ρ) true
  unfold iteB;cases fnT (kid 0) ρ <;> simp
 ·
  show decide (cntT 2 (fun i => fnT (kid i) ρ) ≠ 1) = iteB (fnT (kid 0) ρ) (fnT (kid 1) ρ) (!fnT (kid 1) ρ)
  rw [Bool.eq_iff_iff, decide_eq_true_iff, cntT_two];unfold iteB;cases fnT (kid 0) ρ <;> cases fnT (kid 1) ρ <;> simp
theorem fnT_const {op : Int} (h : op = 1 \/ op = 2) (v : Int) (n : Nat) (kid : Nat -> ExT) : fnT (.mk op v n kid) = fun _ => decide (op = 1) := by
 rcases h with rfl | rfl <;> rfl
theorem fnT_var (v : Nat) (n : Nat) (kid : Nat -> ExT) : fnT (.mk 3 v n kid) = varF v := by
 funext ρ;rfl
theorem mem_flatN {f : Nat -> List Int} {i : Nat} {x : Int} : ∀ {n : Nat}, i < n -> x ∈ f i -> x ∈ flatN n f
 | 0, h, _ => by omega
 | k + 1, h, hx => by
   unfold flatN;rcases Nat.lt_or_ge i k with h' | h'
   ·
    exact List.mem_append_left _ (mem_flatN h' hx)
   ·
    obtain rfl : i = k := by omega
    exact List.mem_append_right _ hx
open Go.RowKit
theorem surj_of_inj {n : Nat} {f : Nat -> Nat} (h1 : ∀ i, i < n -> f i < n) (h2 : ∀ i j, i < n -> j < n -> f i = f j -> i = j) {j : Nat} (hj : j < n) : ∃ i, i < n /\ f i = j := by
 by_cases h : ∃ i, i < n /\ f i = j
 ·
  exact h
 exfalso;have hno : ∀ i, i < n -> f i ≠ j := fun i hi e => h ⟨i, hi, e⟩
 have hnd : (j :: (List.range n).map f).Nodup := by
  refine List.nodup_cons.2 ⟨?_, ?_⟩
  ·
   intro hm;obtain ⟨i, hi, e⟩ := List.mem_map.1 hm;exact hno i (List.mem_range.1 hi) e
  ·
   refine List.pairwise_map.2 (List.nodup_range.imp_of_mem ?_);intro a b ha hb hab e;exact hab (h2 a b (List.mem_range.1 ha) (List.mem_range.1 hb) e)
 have := nodup_lt n _ hnd (fun x hx => by
  rcases List.mem_cons.1 hx with rfl | hx
  ·
   exact hj
  ·
   obtain ⟨i, hi, rfl⟩ := List.mem_map.1 hx;exact h1 i (List.mem_range.1 hi))
 simp at this;omega
theorem cntP_at {zs : List Int} {v : Int} {p : Nat} (h : at0 zs p = v) (hu : ∀ i, i < zs.length -> at0 zs i = v -> i = p) : ∀ k, k <= zs.length -> cntP zs v k = if p < k then 1 else 0
 | 0, _ => by simp [cntP]
 | k + 1, hk => by
   have ih := cntP_at h hu k (by omega)
   by_cases e : at0 zs k = v
   ·
    have := hu k (by omega) e;subst this;rw [cntP_yes (by omega) e, ih];simp
   ·
    rw [cntP_no (by omega) e, ih];have : p ≠ k := fun e2 => e (by rw [<- e2]; exact h)
    by_cases h3 : p < k
    ·
     rw [if_pos h3, if_pos (by omega)]
    ·
     rw [if_neg h3, if_neg (by omega)]
theorem cntP_mono {zs : List Int} {v : Int} {i : Nat} : ∀ {j : Nat}, i <= j -> j <= zs.length -> cntP zs v i <= cntP zs v j
 | 0, h, _ => by
   obtain rfl : i = 0 := by omega
   exact Nat.le_refl _
 | j + 1, h, hj => by
   rcases Nat.lt_or_ge i (j + 1) with h' | h'
   ·
    have := cntP_mono (zs := zs) (v := v) (show i <= j by omega) (by omega)
    by_cases e : at0 zs j = v
    ·
     rw [cntP_yes (by omega) e]; omega
    ·
     rw [cntP_no (by omega) e]; omega
   ·
    obtain rfl : i = j + 1 := by omega
    exact Nat.le_refl _
structure PermP (zs : List Int) (n : Nat) : Prop where
 len : zs.length = n
 lt : ∀ i, i < n -> ∃ v : Nat, v < n /\ at0 zs i = (v : Nat)
 inj : ∀ i j, i < n -> j < n -> at0 zs i = at0 zs j -> i = j
theorem permP_of {zs : List Int} {n : Nat} (h : permB zs n = true) : PermP zs n := by
 unfold permB at h;rw [decide_eq_true_eq] at h;obtain ⟨h1, h2⟩ := h;have h1' : zs.length = n := by omega
 subst h1';have hp : ∀ v : Nat, v < zs.length -> ∃ p, p < zs.length /\ at0 zs p = (v : Nat) := by
  intro v hv;have e := h2 v hv;unfold cntP at e;rw [List.take_length] at e;have hm : 0 < (zs.filter (fun z => decide (z = (v : Int)))).length := by omega
  obtain ⟨z, hz⟩ := List.length_pos_iff_exists_mem.1 hm;obtain ⟨q1, q2⟩ := List.mem_filter.1 hz;obtain ⟨i, hi, e2⟩ := List.getElem_of_mem q1;refine ⟨i, hi, ?_⟩;rw [at0_eq hi, e2];simpa using q2
 have hsur : ∀ i, i < zs.length -> ∃ v, v < zs.length /\ at0 zs i = (v : Nat) := by
  have hc : ∃ f : Nat -> Nat, ∀ v, v < zs.length -> f v < zs.length /\ at0 zs (f v) = (v : Nat) := by
   refine ⟨fun v => if hv : v < zs.length then Classical.choose (hp v hv) else 0, fun v hv => ?_⟩;dsimp only;rw [dif_pos hv];exact Classical.choose_spec (hp v hv)
  obtain ⟨f, hf⟩ := hc;intro i hi
  obtain ⟨v, hv, e⟩ := surj_of_inj (n := zs.length) (f := f) (fun v hv => (hf v hv).1) (fun a b ha hb e => by
   have e1 := (hf a ha).2;have e2 := (hf b hb).2;rw [e, e2] at e1;omega) hi
  exact ⟨v, hv, by rw [<- e]; exact (hf v hv).2⟩
 refine ⟨rfl, hsur, fun i j hi hj e => ?_⟩;obtain ⟨v, hv, ei⟩ := hsur i hi;have ec := h2 v hv;have ej : at0 zs j = (v : Nat) := by rw [<- e]; exact ei
 rcases Nat.lt_trichotomy i j with hlt | rfl | hlt
 ·
  have a1 := cntP_yes hi ei;have a2 := cntP_yes hj ej;have a3 := cntP_mono (zs := zs) (v := (v : Nat)) (show i + 1 <= j by omega) (by omega);have a4 := cntP_mono (zs := zs) (v := (v : Nat)) (show j + 1 <= zs.length by omega) (Nat.le_refl _);omega
 ·
  rfl
 ·
  have a1 := cntP_yes hi ei;have a2 := cntP_yes hj ej;have a3 := cntP_mono (zs := zs) (v := (v : Nat)) (show j + 1 <= i by omega) (by omega);have a4 := cntP_mono (zs := zs) (v := (v : Nat)) (show i + 1 <= zs.length by omega) (Nat.le_refl _);omega
theorem at0_nat {l : List Nat} {i : Nat} (hi : i < l.length) : at0 (l.map Int.ofNat) i = (l.getD i 0 : Nat) := by
 rw [at0_eq (by simpa using hi)];simp [List.getD, hi]
theorem StoreOK.mem {d : StoreD} {V : Nat -> BF} (h : StoreOK d V) {v : Nat} (hv : v < d.vars.length) : ∃ i, i < d.vars.length /\ d.vars.getD i 0 = v := ⟨levN d v, h.dag.lt v hv, h.inv v hv⟩
theorem StoreOK.inj {d : StoreD} {V : Nat -> BF} (h : StoreOK d V) {i j : Nat} (hi : i < d.vars.length) (hj : j < d.vars.length) (e : d.vars.getD i 0 = d.vars.getD j 0) : i = j := by
 have a := (h.vlt i hi).2;have b := (h.vlt j hj).2;rw [e, b] at a;exact a.symm
def exL (l : List Nat) (k : Nat) : List Nat := (l.set k (l.getD (k + 1) 0)).set (k + 1) (l.getD k 0)
theorem exL_here {l : List Nat} {k : Nat} (h : k + 1 < l.length) : (exL l k).getD k 0 = l.getD (k + 1) 0 := by
 unfold exL;simp [List.getD, List.getElem?_set, h, show k < l.length by omega]
theorem exL_ne {l : List Nat} {k i : Nat} (h1 : i ≠ k) (h2 : i ≠ k + 1) : (exL l k).getD i 0 = l.getD i 0 := by
 unfold exL;simp only [List.getD, List.getElem?_set];rw [if_neg (fun e => h2 e.symm), if_neg (fun e => h1 e.symm)]
theorem swapD_exL (d : StoreD) (k : Nat) : (swapD d k).vars = exL d.vars k := rfl
open Go.RowKit
structure LawT (K : Law) (n : Nat) (Od : List Nat -> Prop) (room : Nat) (w0 : World) (mb : Nat) (fs : List (Int × BF)) (nx : Int) (Wt : List Ev -> Int -> Prop) (hl hx : List (Int × BF)) (W : World) (o : Own) (m : ManD) (V : Nat -> BF) (vl vx : Value) : Prop where
 sat : SatE K n Od room w0 mb fs nx W o m V
 b2 : B2 fs
 st : Wt m.waits m.calls
 l : LawL W o w0.heap.size vl (hl.map Prod.fst)
 x : LawX W o w0.heap.size vx (hx.map fun p => tabB n p.2)
section
variable {K : Law} {n : Nat} {Od : List Nat -> Prop} {room : Nat} {w0 : World} {mb : Nat} {fs : List (Int × BF)} {nx : Int} {Wt : List Ev -> Int -> Prop} {hl hx hs : List (Int × BF)} {W W' w : World} {o o' : Own} {m m' : ManD} {V V' : Nat -> BF} {vl vx v' v : Value} {p : Int × BF}
theorem LawT.below (h : LawT K n Od room w0 mb fs nx Wt hl hx W o m V vl vx) (hb : Below W.heap.size W W') : LawT K n Od room w0 mb fs nx Wt hl hx W' o m V vl vx :=
 ⟨h.sat.below hb, h.b2, h.st, h.l.chg (chg_below hb o), h.x.chg (chg_below hb o)⟩
theorem LawT.below0 (h : LawT K n Od room w0 mb fs nx Wt hl hx W o m V vl vx) : Below w0.heap.size w0 W := h.sat.chg.below0
theorem LawT.go {Od' : List Nat -> Prop} {fs' : List (Int × BF)} {nx' : Int} {Wt' : List Ev -> Int -> Prop} (h : LawT K n Od room w0 mb fs nx Wt hl hx W o m V vl vx) (hs : SatE K n Od' room w0 mb fs' nx' W' o' m' V') (hb : B2 fs') (ht : Wt' m'.waits m'.calls) (hc : ChgX NoB o o' W W') :
 LawT K n Od' room w0 mb fs' nx' Wt' hl hx W' o' m' V' vl vx := ⟨hs, hb, ht, h.l.chg hc, h.x.chg hc⟩
theorem LawT.withOd {Od' : List Nat -> Prop} (h : LawT K n Od room w0 mb fs nx Wt hl hx W o m V vl vx) (hO : Od' m.d.vars) : LawT K n Od' room w0 mb fs nx Wt hl hx W o m V vl vx := ⟨h.sat.withOd hO, h.b2, h.st, h.l, h.x⟩
theorem LawT.appL (h : LawT K n Od room w0 mb fs nx Wt hl hx W o m V vl vx) (hown : OwnC 3 W' w0.heap.size v' (intsV (hl.map Prod.fst) ++ [.int .i64 p.1])) (e1 : W'.os = W.os) (e2 : W'.tape = W.tape) (e3 : W'.output = W.output) (e4 : W.heap.size <= W'.heap.size) (hk : KeepApp vl v' W W') :
 LawT K n Od room w0 mb fs nx Wt (hl ++ [p]) hx W' o m V v' vx := by
 have hw := wr_app e1 e2 e3 e4 hk;refine ⟨h.sat.other hw (fun k _ hk => ⟨(h.l.own.lt k hk).1, h.l.no k hk⟩), h.b2, h.st, ?_, h.x.typ hw (by decide) (by decide) h.l.own.typed⟩;rw [List.map_append];exact h.l.app h.sat.lt hown hk
theorem LawT.appX {bs : List Bool} (h : LawT K n Od room w0 mb fs nx Wt hl hx W o m V vl vx) (hb : LawB W o w0.heap.size v bs) (hbs : bs = tabB n p.2) {rs : List Value} (hrs : rs.length = hx.length) (hrow : OwnC 36 W w0.heap.size vx rs) (hall : ∀ i v, rs[i]? = some v -> LawB W o w0.heap.size v ((hx.map fun p => tabB n p.2).getD i []))
 (hown : OwnC 36 W' w0.heap.size v' (rs ++ [v])) (e1 : W'.os = W.os) (e2 : W'.tape = W.tape) (e3 : W'.output = W.output) (e4 : W.heap.size <= W'.heap.size) (hk : KeepApp vx v' W W') : LawT K n Od room w0 mb fs nx Wt hl (hx ++ [p]) W' o m V vl v' := by
 have hw := wr_app e1 e2 e3 e4 hk;refine ⟨h.sat.other hw (fun k _ hk => ⟨(hrow.lt k hk).1, h.x.no k hk⟩), h.b2, h.st, h.l.typ hw (by decide) hrow.typed, ?_⟩;rw [List.map_append];have := h.x.app h.sat.lt (by simp [hrs]) hall hw hrow.typed hb hown hk;rw [hbs] at this;exact this
theorem LawT.row (h : LawT K n Od room w0 mb fs nx Wt hs hs W o m V vl vx) (hsub : ∀ p ∈ hs, p ∈ fs) (hsm : hs.length <= 1000) :
 LawR (fun g => w0.heap.size <= g /\ g < W.heap.size /\ o g = none /\ ∃ cur, W.heap[g]? = some (.cells cur 4 (0, 0))) n fs W vl vx hs := lawR_of h.l h.x hsub hsm
end
open Go.RowKit
theorem intsAt_new (W : World) (zs : List Int) (hl : zs.length <= 1000000) : IntsAt (W.alloc (.cells (intsV zs).toArray 3)) (some ⟨W.heap.size, 0, none⟩) zs :=
 ⟨by omega, fun k hk => ⟨W.heap.size, 0, rfl, by
  rw [Nat.zero_add, cell_of_row _ _ k _ _ _ (heap_alloc_new _ _)];simp [intsV, at0_eq hk, hk]⟩⟩
section
variable {K : Law} {n : Nat} {Od : List Nat -> Prop} {room : Nat} {w0 w w' : World} {mb : Nat} {fs : List (Int × BF)} {nx : Int} {o o' : Own} {m m' : ManD} {V V' : Nat -> BF}
def Goes (K : Law) (n : Nat) (Od : List Nat -> Prop) (room : Nat) (w0 : World) (mb : Nat) (fs : List (Int × BF)) (nx : Int) (Wt : List Ev -> Int -> Nat -> Prop) (o : Own) (w w' : World) : Prop :=
 ∃ o' m' V', ChgX NoB o o' w w' /\ Wt m'.waits m'.calls m'.d.pool.many /\ SatE K n Od room w0 mb fs nx w' o' m' V'
def NoW (M : Nat) (ws : List Ev) (_ : Int) (k : Nat) : Prop := ws = [] /\ k <= M
theorem Goes.more {M M' : Nat} (h : Goes K n Od room w0 mb fs nx (NoW M) o w w') (hm : M <= M') : Goes K n Od room w0 mb fs nx (NoW M') o w w' := by
 obtain ⟨o', m', V', h1, h2, h3⟩ := h;exact ⟨o', m', V', h1, ⟨h2.1, Nat.le_trans h2.2 hm⟩, h3⟩
theorem Goes.below {Wt : List Ev -> Int -> Nat -> Prop} {w'' : World} (h : Goes K n Od room w0 mb fs nx Wt o w w') (hb : Below w'.heap.size w' w'') : Goes K n Od room w0 mb fs nx Wt o w w'' := by
 obtain ⟨o', m', V', h1, h2, h3⟩ := h;exact ⟨o', m', V', h1.trans (chg_below hb o') (fun _ _ e => e), h2, h3.below hb⟩
theorem ite_ok (hK : LawOK K) {M : Nat} (h : Goes K n Od room w0 mb fs nx (NoW M) o w w') (hn : nx < 549755813888) (hr : M + (2 ^ n - 1) <= room) {kf kg kh : Int} {F G H : BF} (hf : (kf, F) ∈ fs) (hg : (kg, G) ∈ fs) (hh : (kh, H) ∈ fs) :
 Calls Tryz.prog 18 #[.pointer (some ⟨mb, 0, none⟩), .int .i64 kf, .int .i64 kg, .int .i64 kh] w' fun x w'' => x = .returned (.tuple #[.int .i64 nx, .int .i64 0]) /\ Goes K n Od room w0 mb (fs ++ [(nx, iteFn F G H)]) (nx + 1) (NoW (M + (2 ^ n - 1))) o w w'' := by
 obtain ⟨o', m', V', h1, h2, h3⟩ := h;refine (manIte_gen hK h3 [] (by rw [h2.1]; exact List.suffix_refl _) (some M) (fun _ e => by cases e; exact ⟨rfl, hr⟩) (fun _ e => by cases e; exact h2.2) (by simp) (by omega) hf hg hh).mono ?_;rintro x w'' hp;obtain ⟨o2, m2, V2, q1, q2, q3, q4⟩ := opLeft_lim hp;exact ⟨q3, o2, m2, V2, h1.trans q1 (fun _ _ e => e), q2, q4⟩
theorem var_ok (hK : LawOK K) {M : Nat} (h : Goes K n Od room w0 mb fs nx (NoW M) o w w') (hn : nx < 549755813888) (hr : M + 1 <= room) {v : Nat} (hv : v < n) :
 Calls Tryz.prog 15 #[.pointer (some ⟨mb, 0, none⟩), .int .i64 v] w' fun x w'' => x = .returned (.tuple #[.int .i64 nx, .int .i64 0]) /\ Goes K n Od room w0 mb (fs ++ [(nx, varF v)]) (nx + 1) (NoW (M + 1)) o w w'' := by
 obtain ⟨o', m', V', h1, h2, h3⟩ := h;refine (manVar_gen hK h3 [] (by rw [h2.1]; exact List.suffix_refl _) (some M) (fun _ e => by cases e; exact ⟨rfl, hr⟩) (fun _ e => by cases e; exact h2.2) (by simp) (by omega) v hv).mono ?_;rintro x w'' hp;obtain ⟨o2, m2, V2, q1, q2, q3, q4⟩ := opLeft_lim hp;exact ⟨q3, o2, m2, V2, h1.trans q1 (fun _ _ e => e), q2, q4⟩
theorem not_ok (hK : LawOK K) {Wt : List Ev -> Int -> Nat -> Prop} (h : Goes K n Od room w0 mb fs nx Wt o w w') (hn : nx < 549755813888) {k : Int} {F : BF} (hf : (k, F) ∈ fs) :
 Calls Tryz.prog 47 #[.pointer (some ⟨mb, 0, none⟩), .int .i64 k] w' fun x w'' => x = .returned (.tuple #[.int .i64 nx, .int .i64 0]) /\ Goes K n Od room w0 mb (fs ++ [(nx, notF F)]) (nx + 1) Wt o w w'' := by
 obtain ⟨o', m', V', h1, h2, h3⟩ := h;refine (manNot_any hK h3 hn hf).mono ?_;rintro x w'' ⟨rfl, o2, m2, q⟩;exact ⟨rfl, o2, m2, V', h1.trans (ChgX.of_chg q.chg NoB) (fun _ _ e => e), by rw [q.waits, q.calls, q.many]; exact h2, q.sat⟩
theorem copy_ok (hK : LawOK K) {Wt : List Ev -> Int -> Nat -> Prop} (h : Goes K n Od room w0 mb fs nx Wt o w w') (hn : nx < 549755813888) {k : Int} {F : BF} (hf : (k, F) ∈ fs) :
 Calls Tryz.prog 48 #[.pointer (some ⟨mb, 0, none⟩), .int .i64 k] w' fun x w'' => x = .returned (.tuple #[.int .i64 nx, .int .i64 0]) /\ Goes K n Od room w0 mb (fs ++ [(nx, F)]) (nx + 1) Wt o w w'' := by
 obtain ⟨o', m', V', h1, h2, h3⟩ := h;refine (manCopy_any hK h3 hn hf).mono ?_;rintro x w'' ⟨rfl, o2, m2, q⟩;exact ⟨rfl, o2, m2, V', h1.trans (ChgX.of_chg q.chg NoB) (fun _ _ e => e), by rw [q.waits, q.calls, q.many]; exact h2, q.sat⟩
theorem drop_ok (hK : LawOK K) {Wt : List Ev -> Int -> Nat -> Prop} {hs r : List (Int × BF)} (h : Goes K n Od room w0 mb (fs ++ (hs ++ r)) nx Wt o w w') (hb : B2 fs) (hn : nx < 549755813888) (hl : hs.length <= 1000) {T : World} (hT : T = w'.alloc (.cells (intsV (hs.map Prod.fst)).toArray 3)) :
 Calls Tryz.prog 49 #[.pointer (some ⟨mb, 0, none⟩), .slice (some ⟨w'.heap.size, 0, none⟩) hs.length hs.length] T fun x w'' => x = .returned (.int .i64 0) /\ Goes K n Od room w0 mb (fs ++ r) nx Wt o w w'' := by
 obtain ⟨o', m', V', h1, h2, h3⟩ := h;subst hT;have hbn := below_new1 w' (.cells (intsV (hs.map Prod.fst)).toArray 3);refine (manDrop_mid hK (h3.below hbn) hb hn (intsAt_new w' (hs.map Prod.fst) (by simp; omega)) (fun x hx => by cases hx; exact h3.lt.none (Nat.le_refl _))).mono ?_;rintro x w'' ⟨rfl, o2, m2, q⟩;exact ⟨rfl, o2, m2, V', (h1.trans (chg_below hbn o') (fun _ _ e => e)).trans (ChgX.of_chg q.chg NoB) (fun _ _ e => e), by rw [q.waits, q.calls, q.many]; exact h2, q.sat⟩
theorem join_any (hK : LawOK K) {a b : Int} {F G : BF} {M : Nat} (h : Goes K n Od room w0 mb (fs ++ [(a, F), (b, G)]) nx (NoW M) o w w') (hb : B2 fs) (hn : nx + 2 < 549755813888) (hr : M + (2 ^ n - 1) <= room) {op : Int} (h5 : 5 <= op) (h9 : op <= 9) :
 Calls Tryz.prog 118 #[.pointer (some ⟨mb, 0, none⟩), .int .i64 op, .int .i64 a, .int .i64 b] w' fun x w'' => ∃ k : Int, x = .returned (.tuple #[.int .i64 k, .bool true]) /\ k <= nx + 1 /\ Goes K n Od room w0 mb (fs ++ [(k, joinF op F G)]) (k + 1) (NoW (M + (2 ^ n - 1))) o w w'' := by
 obtain ⟨M', hM'⟩ : ∃ M', M' = M + (2 ^ n - 1) := ⟨_, rfl⟩;have HITE : Hid (∀ c d e A B C, (c, A) ∈ fs ++ [(a, F), (b, G)] -> (d, B) ∈ fs ++ [(a, F), (b, G)] -> (e, C) ∈ fs ++ [(a, F), (b, G)] -> Calls Tryz.prog 18 #[.pointer (some ⟨mb, 0, none⟩), .int .i64 c, .int .i64 d, .int .i64 e] w' fun x w'' => x = .returned (.tuple #[.int .i64 nx, .int .i64 0]) /\ Goes K n Od room w0 mb (fs ++ [(a, F), (b, G)] ++ [(nx, iteFn A B C)]) (nx + 1) (NoW (M + (2 ^ n - 1))) o w w'') :=
  Lib.hid fun c d e A B C h1 h2 h3 => ite_ok hK h (by omega) hr h1 h2 h3
 have HNOT := Lib.hid (not_ok hK h (by omega) (k := b) (F := G) (by simp))
 have HITE2 : Hid (∀ W, Goes K n Od room w0 mb (fs ++ [(a, F), (b, G)] ++ [(nx, notF G)]) (nx + 1) (NoW M) o w W -> ∀ c d e A B C, (c, A) ∈ fs ++ [(a, F), (b, G)] ++ [(nx, notF G)] -> (d, B) ∈ fs ++ [(a, F), (b, G)] ++ [(nx, notF G)] -> (e, C) ∈ fs ++ [(a, F), (b, G)] ++ [(nx, notF G)] ->
  Calls Tryz.prog 18 #[.pointer (some ⟨mb, 0, none⟩), .int .i64 c, .int .i64 d, .int .i64 e] W fun x w'' => x = .returned (.tuple #[.int .i64 (nx + 1), .int .i64 0]) /\ Goes K n Od room w0 mb (fs ++ [(a, F), (b, G)] ++ [(nx, notF G)] ++ [(nx + 1, iteFn A B C)]) (nx + 1 + 1) (NoW (M + (2 ^ n - 1))) o w w'') :=
  Lib.hid fun W hW c d e A B C h1 h2 h3 => ite_ok hK hW (by omega) hr h1 h2 h3
 have HDN : Hid (∀ W H T, Goes K n Od room w0 mb (fs ++ [(a, F), (b, G)] ++ [(nx, notF G)] ++ [(nx + 1, H)]) (nx + 1 + 1) (NoW M') o w W -> T = W.alloc (.cells #[.int .i64 nx] 3) -> Calls Tryz.prog 49 #[.pointer (some ⟨mb, 0, none⟩), .slice (some ⟨W.heap.size, 0, none⟩) 1 1] T fun x w'' => x = .returned (.int .i64 0) /\ Goes K n Od room w0 mb (fs ++ [(a, F), (b, G)] ++ [(nx + 1, H)]) (nx + 1 + 1) (NoW M') o w w'') :=
  Lib.hid fun W H T hW hT => drop_ok hK (hs := [(nx, notF G)]) (r := [(nx + 1, H)]) (by rw [List.append_assoc] at hW; exact hW) (hb.app _) (by omega) (by simp) hT
 have HDAB : Hid (∀ W k H T, k + 1 < 549755813888 -> Goes K n Od room w0 mb (fs ++ [(a, F), (b, G)] ++ [(k, H)]) (k + 1) (NoW M') o w W -> T = W.alloc (.cells #[.int .i64 a, .int .i64 b] 3) -> Calls Tryz.prog 49 #[.pointer (some ⟨mb, 0, none⟩), .slice (some ⟨W.heap.size, 0, none⟩) 2 2] T fun x w'' => x = .returned (.int .i64 0) /\ Goes K n Od room w0 mb (fs ++ [(k, H)]) (k + 1) (NoW M') o w w'') :=
  Lib.hid fun W k H T hk hW hT => drop_ok hK (hs := [(a, F), (b, G)]) (r := [(k, H)]) (by rw [List.append_assoc] at hW; exact hW) hb (by omega) (by simp) hT
 have m0 : (0, fun _ => false) ∈ fs ++ [(a, F), (b, G)] := List.mem_append_left _ hb.zero;have m1 : (1, fun _ => true) ∈ fs ++ [(a, F), (b, G)] := List.mem_append_left _ hb.one;have ma : (a, F) ∈ fs ++ [(a, F), (b, G)] := by simp
 have mb' : (b, G) ∈ fs ++ [(a, F), (b, G)] := by simp
 have pa : (a, F) ∈ fs ++ [(a, F), (b, G)] ++ [(nx, notF G)] := by simp
 have pb : (b, G) ∈ fs ++ [(a, F), (b, G)] ++ [(nx, notF G)] := by simp
 have pn : (nx, notF G) ∈ fs ++ [(a, F), (b, G)] ++ [(nx, notF G)] := by simp
 rw [<- hM'] at HITE HITE2 ⊢;clear h hb hr hK hM';rcases (show op = 5 \/ op = 6 \/ op = 7 \/ op = 8 \/ op = 9 by omega) with rfl | rfl | rfl | rfl | rfl
 ·
  have HI := Lib.hid (HITE.out a b 0 _ _ _ ma mb' m0);clear HITE HITE2 HNOT HDN
  go_enter Tryz.func118, Tryz.ntmps118
  go_wp2_with fail;refine HI.out.mono ?_;rintro x w1 ⟨rfl, g1⟩;have HD := Lib.hid (HDAB.out w1 nx _ _ (by omega) g1 rfl);clear g1 HI;go_wp2_with fail;refine HD.out.mono ?_;rintro x w2 ⟨rfl, g2⟩;have HG := Lib.hid g2;clear g2 HD;go_wp2_with fail
  go_ret2
  exact ⟨nx, rfl, by omega, HG.out⟩
 ·
  have HI := Lib.hid (HITE.out a 1 b _ _ _ ma m1 mb');clear HITE HITE2 HNOT HDN
  go_enter Tryz.func118, Tryz.ntmps118
  go_wp2_with fail;refine HI.out.mono ?_;rintro x w1 ⟨rfl, g1⟩;have HD := Lib.hid (HDAB.out w1 nx _ _ (by omega) g1 rfl);clear g1 HI;go_wp2_with fail;refine HD.out.mono ?_;rintro x w2 ⟨rfl, g2⟩;have HG := Lib.hid g2;clear g2 HD;go_wp2_with fail
  go_ret2
  exact ⟨nx, rfl, by omega, HG.out⟩
 ·
  clear HITE
  go_enter Tryz.func118, Tryz.ntmps118
  go_wp2_with fail;refine HNOT.out.mono ?_;rintro x w1 ⟨rfl, g1⟩;have HI := Lib.hid (HITE2.out w1 g1 a nx b _ _ _ pa pn pb);clear g1 HNOT HITE2;go_wp2_with fail;refine HI.out.mono ?_;rintro x w2 ⟨rfl, g2⟩;have HD1 := Lib.hid (HDN.out w2 _ _ g2 rfl);clear g2 HI HDN;go_wp2_with fail;refine HD1.out.mono ?_;rintro x w3 ⟨rfl, g3⟩;have HD := Lib.hid (HDAB.out w3 (nx + 1) _ _ (by omega) g3 rfl);clear g3 HD1;go_wp2_with fail;refine HD.out.mono ?_;rintro x w4 ⟨rfl, g4⟩;have HG := Lib.hid g4;clear g4 HD;go_wp2_with fail
  go_ret2
  exact ⟨nx + 1, rfl, by omega, HG.out⟩
 ·
  have HI := Lib.hid (HITE.out a b 1 _ _ _ ma mb' m1);clear HITE HITE2 HNOT HDN
  go_enter Tryz.func118, Tryz.ntmps118
  go_wp2_with fail;refine HI.out.mono ?_;rintro x w1 ⟨rfl, g1⟩;have HD := Lib.hid (HDAB.out w1 nx _ _ (by omega) g1 rfl);clear g1 HI;go_wp2_with fail;refine HD.out.mono ?_;rintro x w2 ⟨rfl, g2⟩;have HG := Lib.hid g2;clear g2 HD;go_wp2_with fail
  go_ret2
  exact ⟨nx, rfl, by omega, HG.out⟩
 ·
  clear HITE
  go_enter Tryz.func118, Tryz.ntmps118
  go_wp2_with fail;refine HNOT.out.mono ?_;rintro x w1 ⟨rfl, g1⟩;have HI := Lib.hid (HITE2.out w1 g1 a b nx _ _ _ pa pb pn);clear g1 HNOT HITE2;go_wp2_with fail;refine HI.out.mono ?_;rintro x w2 ⟨rfl, g2⟩;have HD1 := Lib.hid (HDN.out w2 _ _ g2 rfl);clear g2 HI HDN;go_wp2_with fail;refine HD1.out.mono ?_;rintro x w3 ⟨rfl, g3⟩;have HD := Lib.hid (HDAB.out w3 (nx + 1) _ _ (by omega) g3 rfl);clear g3 HD1;go_wp2_with fail;refine HD.out.mono ?_;rintro x w4 ⟨rfl, g4⟩;have HG := Lib.hid g4;clear g4 HD;go_wp2_with fail
  go_ret2
  exact ⟨nx + 1, rfl, by omega, HG.out⟩
end
open Go.RowKit
theorem kids_ok {op : Int} (h : 0 <= (kidsR op).1) : 1 <= op /\ op <= 10 /\ (kidsR op).2 <= 64 := by
 unfold kidsR at h ⊢;split
 ·
  rename_i h1; exact ⟨by omega, by omega, by simp⟩
 ·
  split
  ·
   rename_i h1; exact ⟨by omega, by omega, by simp⟩
  ·
   split
   ·
    rename_i h1; exact ⟨by omega, by omega, by simp⟩
   ·
    split
    ·
     rename_i h1; exact ⟨by omega, by omega, by simp⟩
    ·
     split
     ·
      rename_i h1; exact ⟨by omega, by omega, by simp⟩
     ·
      exfalso; revert h; simp_all
theorem range_snoc (f : Nat -> Bool) (i : Nat) : (List.range (i + 1)).map f = (List.range i).map f ++ [f i] := by simp [List.range_succ]
theorem boolsV_snoc (l : List Bool) (b : Bool) : boolsV (l ++ [b]) = boolsV l ++ [.bool b] := by simp [boolsV]
theorem tmod2 (c : Nat) : ((c : Int).tmod 2 == 1) = decide (c % 2 = 1) := by
 have e1 : Int.tmod (c : Int) 2 = ((c % 2 : Nat) : Int) := by rw [Int.tmod_eq_emod_of_nonneg (by omega)]; rfl
 rw [e1]
 by_cases h : c % 2 = 1
 ·
  rw [h]; rfl
 ·
  have : ((c % 2 : Nat) : Int) ≠ 1 := by omega
  rw [beq_eq_false_iff_ne.2 this, decide_eq_false h]
theorem nat_beq (a b : Nat) : (((a : Nat) : Int) == (b : Int)) = decide (a = b) := by
 by_cases h : a = b
 ·
  subst h; simp
 ·
  have : (a : Int) ≠ b := by omega
  rw [beq_eq_false_iff_ne.2 this, decide_eq_false h]
theorem value06_any (ls : List Bool) (al : Option Addr) (cl : Nat) : ∀ (e : ExT) (x : Value) (w : World), validT e -> ExprAt w e x -> BoolsAt w al ls ->
 Calls Tryz.prog 119 #[x, .slice al ls.length cl] w fun y w' => y = .returned (.bool (fnT e (envOf ls))) /\ Below w.heap.size w w'
 | .nil, x, w, hv, h, _ => by unfold ExprAt at h; exact h.elim
 | .mk op v n kid, x, w, hval, h, hls => by
   unfold ExprAt at h;obtain ⟨a, c, rfl, h2, h3, h4, h5⟩ := h;obtain ⟨v1, v2, v3, v4, v5, v6⟩ := hval;obtain ⟨k1, k2, k3⟩ := kids_ok v1;have hn64 : n <= 64 := by omega
   have H5 := Lib.hid h5;have H6 := Lib.hid v6;have HLS := Lib.hid hls;have hll := hls.len;have HE : Hid (fnT (ExT.mk op v n kid) (envOf ls) = if op = 3 then envOf ls v.toNat else opB op n fun i => fnT (kid i) (envOf ls)) := Lib.hid rfl;have IH : Hid (∀ (i : Nat) (x : Value) (W : World), i < n -> ExprAt W (kid i) x -> BoolsAt W al ls -> Calls Tryz.prog 119 #[x, .slice al ls.length cl] W fun y w' => y = .returned (.bool (fnT (kid i) (envOf ls))) /\ Below W.heap.size W w') :=
    Lib.hid fun i x W hi h1 h2 => value06_any ls al cl (kid i) x W (H6.out i hi) h1 h2
   obtain ⟨B, hB⟩ : ∃ B, B = fnT (ExT.mk op v n kid) (envOf ls) := ⟨_, rfl⟩;obtain ⟨f, hf⟩ : ∃ f : Nat -> Bool, f = fun i => fnT (kid i) (envOf ls) := ⟨_, rfl⟩
   have HFI : Hid (∀ i, fnT (kid i) (envOf ls) = f i) := Lib.hid fun i => by rw [hf]
   rw [<- hB] at HE ⊢;rw [<- hf] at HE;have hl2 : op = 8 \/ op = 9 -> n = 2 := by rintro (rfl | rfl) <;> (simp [kidsR] at v4 v5; omega)
   have hl3 : op = 10 -> n = 3 := by rintro rfl; simp [kidsR] at v4 v5; omega
   have hl4 : op = 4 -> n = 1 := by rintro rfl; simp [kidsR] at v4 v5; omega
   obtain ⟨w1, hw1⟩ : ∃ w1, w1 = w.alloc (.cells #[.int .i64 op, .int .i64 v, .slice a n c] 39) := ⟨_, rfl⟩;have HW1 : Hid (_ = w1) := Lib.hid hw1.symm;have HB1 : Hid (Below w.heap.size w w1) := by rw [hw1]; exact Lib.hid (below_new1 _ _)
   have hblk : w1.heap[w.heap.size]? = some (.cells #[.int .i64 op, .int .i64 v, .slice a n c] 39 (0, 0)) := by rw [hw1]; exact heap_alloc_new _ _
   have d0 : w1.cell? ⟨w.heap.size, 0, none⟩ = some (.int .i64 op) := by rw [cell_of_row _ _ 0 _ _ _ hblk]; rfl
   have d1 : w1.cell? ⟨w.heap.size, 1, none⟩ = some (.int .i64 v) := by rw [cell_of_row _ _ 1 _ _ _ hblk]; rfl
   have d2 : w1.cell? ⟨w.heap.size, 2, none⟩ = some (.slice a n c) := by rw [cell_of_row _ _ 2 _ _ _ hblk]; rfl
   unfold okI at h2 h3;obtain ⟨w2, hw2⟩ : ∃ w2, w2 = w1.alloc (.cells #[] 4) := ⟨_, rfl⟩;have HW2 : Hid (_ = w2) := Lib.hid hw2.symm;have HB2 : Hid (Below w1.heap.size w1 w2) := by rw [hw2]; exact Lib.hid (below_new1 _ _)
   have HOWN : Hid (OwnB w2 w1.heap.size (.slice (some ⟨w1.heap.size, 0, none⟩) 0 0) []) := by rw [hw2]; exact Lib.hid (ownC_new _ _ _ (Nat.le_refl _))
   have hs1 : w1.heap.size = w.heap.size + 1 := by rw [hw1]; simp
   rw [hs1] at HOWN;clear h5 hw1 hw2 hblk hf hB v1 v4 v5 v6 hls
   go_enter Tryz.func119, Tryz.ntmps119
   go_upto_region 1 with fail;rw [HW1.out];go_upto_region 3 with fail;rw [HW2.out];have hs2 : w1.heap.size <= w2.heap.size := HB2.out.size;have d0' := (HB2.out.cell (p := ⟨w.heap.size, 0, none⟩) (lt_of_cell d0)).trans d0;have d1' := (HB2.out.cell (p := ⟨w.heap.size, 1, none⟩) (lt_of_cell d1)).trans d1;have d2' := (HB2.out.cell (p := ⟨w.heap.size, 2, none⟩) (lt_of_cell d2)).trans d2;go_wp2_with fail
   go_loopw [5, 6, 7, 8] (fun s5 s6 s7 s8 wr => ∃ i k : Nat, i <= n /\ k <= i /\ s5 = .int .i64 k /\ s7 = .int .i64 i /\ Hid (k = cntT i f) /\ Below w1.heap.size w1 wr /\ OwnB wr w1.heap.size s6 ((List.range i).map f) /\ w1.heap.size <= wr.heap.size) (fun _ _ s7 _ _ => n - (intOf s7).toNat)
   case atStart => exact ⟨0, 0, Nat.zero_le _, Nat.le_refl _, rfl, rfl, Lib.hid rfl, HB2.out, by rw [hs1]; exact HOWN.out, hs2⟩
   case round =>
    obtain ⟨i, k, hi, hki, rfl, rfl, HK, hbel, hown, hsz⟩ := hrel;have e0 := (hbel.cell (p := ⟨w.heap.size, 0, none⟩) (lt_of_cell d0)).trans d0;have e1 := (hbel.cell (p := ⟨w.heap.size, 1, none⟩) (lt_of_cell d1)).trans d1;have e2 := (hbel.cell (p := ⟨w.heap.size, 2, none⟩) (lt_of_cell d2)).trans d2;have HBEL := Lib.hid hbel;have HOW := Lib.hid hown;clear hbel d0' d1' d2'
    by_cases hlt : i < n
    ·
     clear hown;obtain ⟨b, off, x0, x1, x2, rfl, c0, c1, c2, hx⟩ := H5.out i hlt;have hb0 := HB1.out.trans (HBEL.out.mono HB1.out.size);have q0 := (hb0.cell (p := ⟨b, off + i * 3, none⟩) (lt_of_cell c0)).trans c0;have q1 := (hb0.cell (p := ⟨b, off + i * 3 + 1, none⟩) (lt_of_cell c1)).trans c1;have q2 := (hb0.cell (p := ⟨b, off + i * 3 + 2, none⟩) (lt_of_cell c2)).trans c2;have HX := Lib.hid (hx.below hb0);have HL2 := Lib.hid (HLS.out.below hb0);have hiz : (i : Int) < n := by omega
     have HK1 : Hid (∀ y, f i = y -> k + (if y then 1 else 0) = cntT (i + 1) f) := Lib.hid fun y hy => by rw [<- hy, HK.out]; rfl
     clear c0 c1 c2 hx hb0;go_wp2_with fail;refine (IH.out i _ _ (by omega) HX.out HL2.out).mono ?_;rintro y w3 ⟨rfl, hb3⟩;have HB3 := Lib.hid hb3;clear hb3;go_upto_region 7 with fail;rw [HFI.out];obtain ⟨y, hy⟩ : ∃ y, f i = y := ⟨_, rfl⟩;rw [hy];have HKY := Lib.hid (HK1.out y hy);have HOW3 := Lib.hid (HOW.out.below HB3.out);have hsz3 : w1.heap.size <= w3.heap.size := Nat.le_trans hsz HB3.out.size;have HBEL3 := Lib.hid (HBEL.out.trans (HB3.out.mono HBEL.out.size));have HYY : Hid (boolsV ((List.range (i + 1)).map f) = boolsV ((List.range i).map f) ++ [.bool y]) := Lib.hid (by rw [range_snoc, boolsV_snoc, hy]);clear HK1 hy q0 q1 q2 e0 e1 e2;go_upto_region 8 with (at_builtin; refine wpList_appC elemBool _ rfl _ _ rfl w1.heap.size _ (boolsV ((List.range i).map f)) _ rfl rfl rfl rfl rfl (by exact HOW3.out) (by simp [boolsV]; omega) hsz3 ?_; intro v4 w4 hown4 q1 q2 q3 q4 hk4)
     have HB4 := Lib.hid (below_app HBEL3.out HOW3.out q1 q2 q3 q4 hk4 hsz3);have HOW4 := Lib.hid hown4;have hsz4 : w1.heap.size <= w4.heap.size := by omega
     clear hown4 q1 q2 q3 q4 hk4;cases y with
     | true =>
       go_wp2_with fail;go_roundw
       case rel => exact ⟨i + 1, k + 1, by omega, by omega, by go_num, by go_num, Lib.hid HKY.out, HB4.out, by unfold OwnB; rw [HYY.out]; exact HOW4.out, hsz4⟩
       case measure => simp [intOf]; omega
     | false =>
       go_wp2_with fail;go_roundw
       case rel => exact ⟨i + 1, k, by omega, by omega, by go_num, by go_num, Lib.hid HKY.out, HB4.out, by unfold OwnB; rw [HYY.out]; exact HOW4.out, hsz4⟩
       case measure => simp [intOf]; omega
    ·
     have he : i = n := by omega
     subst he;have hiz : ¬ (i : Int) < i := by omega
     have HF : Hid (∀ b : Bool, b = B -> Ending.returned (.bool b) = .returned (.bool B) /\ Below w.heap.size w wr) := Lib.hid fun b hb => ⟨by rw [hb], HB1.out.trans (HBEL.out.mono HB1.out.size)⟩
     have hkids : 0 < i -> ∃ g cap, u6 = .slice (some ⟨g, 0, none⟩) i cap /\ ∀ j, j < i -> wr.cell? ⟨g, j, none⟩ = some (.bool (f j)) := by
      intro hp;obtain ⟨g, cap, e, _⟩ := hown.shape (by simp [boolsV]; omega);have e' : u6 = .slice (some ⟨g, 0, none⟩) i cap := by rw [e]; simp [boolsV]
      refine ⟨g, cap, e', fun j hj => ?_⟩;rw [e'] at hown;have := hown.cellB j (by simp; omega);rw [this];simp [List.getD, hj]
     clear hown;rcases (show op = 1 \/ op = 2 \/ op = 3 \/ op = 4 \/ op = 5 \/ op = 6 \/ op = 7 \/ op = 8 \/ op = 9 \/ op = 10 by omega) with rfl | rfl | rfl | rfl | rfl | rfl | rfl | rfl | rfl | rfl
     ·
      go_wp2_with fail;go_ret;exact HF.out _ (by rw [HE.out]; rfl)
     ·
      go_wp2_with fail;go_ret;exact HF.out _ (by rw [HE.out]; rfl)
     ·
      obtain ⟨v5, v6⟩ := v2 rfl;obtain ⟨u, rfl⟩ : ∃ u : Nat, v = (u : Int) := ⟨v.toNat, by omega⟩;have HEV : Hid (B = envOf ls u) := Lib.hid (by rw [HE.out]; rfl)
      by_cases hu : u < ls.length
      ·
       obtain ⟨bl, ol, rfl, cl0⟩ := (HLS.out.below (HB1.out.trans (HBEL.out.mono HB1.out.size))).cells u hu;have huz : (u : Int) < ls.length := by omega
       have HEV2 : Hid (B = ls.getD u false) := HEV;obtain ⟨yy, hyy⟩ : ∃ yy, yy = ls.getD u false := ⟨_, rfl⟩;rw [<- hyy] at cl0 HEV2;clear hyy;go_wp2_with fail;go_ret;exact HF.out _ HEV2.out.symm
      ·
       have huz : ¬ (u : Int) < ls.length := by omega
       have HEV2 : Hid (B = false) := Lib.hid (by rw [HEV.out]; unfold envOf; simp [List.getD, List.getElem?_eq_none (show ls.length <= u by omega)]);go_wp2_with fail;go_ret;exact HF.out _ HEV2.out.symm
     ·
      have HV : Hid (((k : Int) == 0) = B) := Lib.hid (by rw [HE.out, HK.out]; exact nat_beq _ 0);go_wp2_with fail;go_ret;exact HF.out _ HV.out
     ·
      have HV : Hid (((k : Int) == (i : Int)) = B) := Lib.hid (by rw [HE.out, HK.out]; exact nat_beq _ i);go_wp2_with fail;go_ret;exact HF.out _ HV.out
     ·
      have HV : Hid (decide (0 < k) = B) := Lib.hid (by
       rw [HE.out, HK.out];rfl)
      go_wp2_with fail;go_ret;exact HF.out _ HV.out
     ·
      have HV : Hid (((k : Int).tmod 2 == 1) = B) := Lib.hid (by rw [HE.out, HK.out]; exact tmod2 _);go_wp2_with fail;go_ret;exact HF.out _ HV.out
     ·
      have := hl2 (.inl rfl);subst this;obtain ⟨g, cap, rfl, hc⟩ := hkids (by omega);have c0 := hc 0 (by omega);have c1 := hc 1 (by omega);have HV : Hid ((!(f 0) || f 1) = B) := Lib.hid (by rw [HE.out]; rfl);obtain ⟨y0, hy0⟩ : ∃ y, y = f 0 := ⟨_, rfl⟩;obtain ⟨y1, hy1⟩ : ∃ y, y = f 1 := ⟨_, rfl⟩;rw [<- hy0] at c0 HV;rw [<- hy1] at c1 HV;clear hy0 hy1 hc hkids;cases y0 with
      | true =>
        go_wp2_with fail;go_ret;exact HF.out _ HV.out
      | false =>
        go_wp2_with fail;go_ret;exact HF.out _ HV.out
     ·
      have HV : Hid (((k : Int) != 1) = B) := Lib.hid (by
       rw [HE.out, HK.out]
       show (!((cntT i f : Int) == ((1 : Nat) : Int))) = decide (cntT i f ≠ 1)
       rw [nat_beq]
       by_cases h : cntT i f = 1 <;> simp [h])
      go_wp2_with fail;go_ret;exact HF.out _ HV.out
     ·
      have := hl3 rfl;subst this;obtain ⟨g, cap, rfl, hc⟩ := hkids (by omega);have c0 := hc 0 (by omega);have c1 := hc 1 (by omega);have c2 := hc 2 (by omega);have HV : Hid (iteB (f 0) (f 1) (f 2) = B) := Lib.hid (by rw [HE.out]; rfl);obtain ⟨y0, hy0⟩ : ∃ y, y = f 0 := ⟨_, rfl⟩;obtain ⟨y1, hy1⟩ : ∃ y, y = f 1 := ⟨_, rfl⟩;obtain ⟨y2, hy2⟩ : ∃ y, y = f 2 := ⟨_, rfl⟩;rw [<- hy0] at c0 HV;rw [<- hy1] at c1 HV;rw [<- hy2] at c2 HV;clear hy0 hy1 hy2 hc hkids;cases y0 with
      | true =>
        go_wp2_with fail;go_ret;exact HF.out _ HV.out
      | false =>
        go_wp2_with fail;go_ret;exact HF.out _ HV.out
open Go.RowKit
section
variable {P : Program} {ops : Array Oper} {S : World -> Prop} {Q : Exit -> Act -> World -> Prop} {last : Bool}
theorem mix_valueG {o : Oper} {r : List (Option Oper × Bool)} {a : Act} {w w' : World} {v : Value} (hw : Region.wanted o (yielded ops a.tmps) = true)
 (he : (execOp a.eval o).run P w = .ok (.value v) w') (hS : S w') (h : wpMix P ops Q S last r (a.put o.dst v) w') : wpMix P ops Q S last ((some o, true) :: r) a w := by
 unfold wpMix;simp only [hw, if_true, Oper.wp, he, Oper.upon];exact ⟨.inr hS, h⟩
theorem mix_callGR {o : Oper} {r : List (Option Oper × Bool)} {a : Act} {w : World} {f : FuncId} {args : Array Value} {R : Value -> World -> Prop} (hw : Region.wanted o (yielded ops a.tmps) = true)
 (he : (execOp a.eval o).run P w = .ok (.enter f args) w) (hc : Calls P f args w fun e w' => ∃ v, e = .returned v /\ S w' /\ R v w')
 (h : ∀ v w', S w' -> R v w' -> wpMix P ops Q S last r (a.put o.dst v) w') : wpMix P ops Q S last ((some o, true) :: r) a w := by
 unfold wpMix;simp only [hw, if_true, Oper.wp, he, Oper.upon];exact hc.mono fun e w' ⟨v, h1, h2, h3⟩ => by subst h1; exact ⟨.inr h2, h v w' h2 h3⟩
end
theorem manConst_any (mb : Nat) (b : Bool) (w : World) : Calls Tryz.prog 54 #[.pointer (some ⟨mb, 0, none⟩), .bool b] w fun x w' => x = .returned (.int .i64 (if b then 1 else 0)) /\ w = w' := by
 cases b with
 | true =>
   go_enter Tryz.func54, Tryz.ntmps54
   go_wp2_with fail;go_ret;exact ⟨rfl, rfl⟩
 | false =>
   go_enter Tryz.func54, Tryz.ntmps54
   go_wp2_with fail;go_ret;exact ⟨rfl, rfl⟩
theorem len_two {α : Type} {l : List α} (h : l.length = 2) : ∃ a b, l = [a, b] := by
 match l, h with
 | [a, b], _ => exact ⟨a, b, rfl⟩
theorem len_three {α : Type} {l : List α} (h : l.length = 3) : ∃ a b c, l = [a, b, c] := by
 match l, h with
 | [a, b, c], _ => exact ⟨a, b, c, rfl⟩
theorem sumN_pos {f : Nat -> Nat} (h : ∀ i, 1 <= f i) : ∀ k, k <= sumN k f
 | 0 => Nat.zero_le _
 | k + 1 => by
   have := sumN_pos h k;have := h k
   show k + 1 <= sumN k f + f k
   omega
section
variable {K : Law} {n : Nat} {Od : List Nat -> Prop} {room : Nat} {w0 w w' w'' : World} {mb : Nat} {fs fs' : List (Int × BF)} {nx nx' : Int} {o o' : Own} {m m' : ManD} {V V' : Nat -> BF}
theorem Goes.refl {M : Nat} (h : SatE K n Od room w0 mb fs nx w o m V) (hw : m.waits = [] /\ m.d.pool.many <= M) : Goes K n Od room w0 mb fs nx (NoW M) o w w := ⟨o, m, V, ChgX.of_below (Below.refl _ _) o NoB, hw, h⟩
theorem Goes.after {Wt : List Ev -> Int -> Nat -> Prop} (hc : ChgX NoB o o' w w') (g : Goes K n Od room w0 mb fs nx Wt o' w' w'') : Goes K n Od room w0 mb fs nx Wt o w w'' := by
 obtain ⟨o2, m2, V2, h1, h2, h3⟩ := g;exact ⟨o2, m2, V2, hc.trans h1 (fun _ _ e => e), h2, h3⟩
theorem Goes.cell {Wt : List Ev -> Int -> Nat -> Prop} (g : Goes K n Od room w0 mb fs nx Wt o w w') {p : Addr} {v : Value} (hc : w.cell? p = some v) (hb : o p.block = none) : w'.cell? p = some v := by
 obtain ⟨o2, m2, V2, h1, h2, h3⟩ := g;exact h1.cell hc hb (fun e => e)
theorem Goes.below0 {Wt : List Ev -> Int -> Nat -> Prop} (g : Goes K n Od room w0 mb fs nx Wt o w w') : Below w0.heap.size w0 w' := by
 obtain ⟨o2, m2, V2, h1, h2, h3⟩ := g;exact h3.chg.below0
structure BuiT (K : Law) (n : Nat) (Od : List Nat -> Prop) (room : Nat) (w0 : World) (mb : Nat) (fs : List (Int × BF)) (nx : Int) (M : Nat) (o : Own) (w : World) (vl : Value) (ks : List Int) (W : World) (o' : Own) (m' : ManD) (V' : Nat -> BF) : Prop where
 sat : SatE K n Od room w0 mb fs nx W o' m' V'
 waits : m'.waits = [] /\ m'.d.pool.many <= M
 chg : ChgX NoB o o' w W
 l : LawL W o' w.heap.size vl ks
def BuiS (K : Law) (n : Nat) (Od : List Nat -> Prop) (room : Nat) (w0 : World) (mb : Nat) (fs : List (Int × BF)) (nx : Int) (M : Nat) (o : Own) (w : World) (vl : Value) (ks : List Int) (W : World) : Prop := ∃ o' m' V', BuiT K n Od room w0 mb fs nx M o w vl ks W o' m' V'
section
variable {M : Nat} {vl vl' : Value} {ks : List Int} {W W' : World}
theorem BuiT.go (h : BuiT K n Od room w0 mb fs nx M o w vl ks W o' m' V') {M' : Nat} (g : Goes K n Od room w0 mb fs' nx' (NoW M') o' W W') : BuiS K n Od room w0 mb fs' nx' M' o w vl ks W' := by
 obtain ⟨o2, m2, V2, h1, h2, h3⟩ := g;exact ⟨o2, m2, V2, h3, h2, h.chg.trans h1 (fun _ _ e => e), h.l.chg h1⟩
theorem BuiT.refl (h : BuiT K n Od room w0 mb fs nx M o w vl ks W o' m' V') : Goes K n Od room w0 mb fs nx (NoW M) o' W W := Goes.refl h.sat h.waits
theorem BuiS.below (h : BuiS K n Od room w0 mb fs nx M o w vl ks W) (hb : Below W.heap.size W W') : BuiS K n Od room w0 mb fs nx M o w vl ks W' := by
 obtain ⟨o', m', V', h⟩ := h;exact h.go (h.refl.below hb)
theorem BuiS.goes (h : BuiS K n Od room w0 mb fs nx M o w vl ks W) : Goes K n Od room w0 mb fs nx (NoW M) o w W := by
 obtain ⟨o', m', V', h⟩ := h;exact ⟨o', m', V', h.chg, h.waits, h.sat⟩
theorem BuiS.app {k : Int} (h : BuiT K n Od room w0 mb fs nx M o w vl ks W o' m' V') (hown : OwnC 3 W' w.heap.size vl' (intsV ks ++ [.int .i64 k])) (e1 : W'.os = W.os) (e2 : W'.tape = W.tape) (e3 : W'.output = W.output) (e4 : W.heap.size <= W'.heap.size) (hk : KeepApp vl vl' W W') (hw0 : w0.heap.size <= w.heap.size) :
 BuiS K n Od room w0 mb fs nx M o w vl' (ks ++ [k]) W' := by
 have hw := wr_app e1 e2 e3 e4 hk;exact ⟨o', m', V', h.sat.other hw (fun k _ hk => ⟨by have := (h.l.own.lt k hk).1; omega, h.l.no k hk⟩), h.waits, h.chg.trans (ChgX.of_wr (C := fun k => w.heap.size <= k) hw o' (fun k _ hk => (h.l.own.lt k hk).1)) (fun k hk e => by omega), h.l.app h.sat.lt hown hk⟩
theorem BuiS.cells (h : BuiS K n Od room w0 mb fs nx M o w vl ks W) (hp : 0 < ks.length) : ∃ g c, vl = .slice (some ⟨g, 0, none⟩) ks.length c /\ ∀ j, j < ks.length -> W.cell? ⟨g, j, none⟩ = some (.int .i64 (at0 ks j)) := by
 obtain ⟨o', m', V', h⟩ := h;obtain ⟨g, c, e, _⟩ := h.l.own.shape (by simpa [intsV] using hp);have e' : vl = .slice (some ⟨g, 0, none⟩) ks.length c := by rw [e]; simp [intsV]
 refine ⟨g, c, e', fun j hj => ?_⟩;have ho := h.l.own;rw [e'] at ho;rw [ho.cell j (by simpa [intsV] using hj)];simp [intsV, at0_eq hj, hj]
theorem BuiS.cellsN (h : BuiS K n Od room w0 mb fs nx M o w vl ks W) {i : Nat} (hl : ks.length = i) (hp : 0 < i) : ∃ g c, vl = .slice (some ⟨g, 0, none⟩) i c /\ ∀ j, j < i -> W.cell? ⟨g, j, none⟩ = some (.int .i64 (at0 ks j)) := by
 subst hl;exact h.cells hp
end
def costT (n s : Nat) : Nat := s * 2 ^ n - (2 ^ n - 1)
theorem costT_add (n : Nat) {s : Nat} (h : 1 <= s) : costT n s + (2 ^ n - 1) = s * 2 ^ n := by
 have := Nat.mul_le_mul_right (2 ^ n) h;unfold costT;omega
def costK (n : Nat) (kid : Nat -> ExT) (i : Nat) : Nat := sumN i fun j => costT n (kid j).size
theorem costK_add (n : Nat) (kid : Nat -> ExT) : ∀ i, costK n kid i + i * (2 ^ n - 1) = (sumN i fun i => (kid i).size) * 2 ^ n
 | 0 => by simp [costK, sumN]
 | i + 1 => by
   have h1 := costK_add n kid i;have h2 := costT_add n (kid i).size_pos
   show costK n kid i + costT n (kid i).size + (i + 1) * (2 ^ n - 1) = ((sumN i fun i => (kid i).size) + (kid i).size) * 2 ^ n
   rw [Nat.add_mul, Nat.add_mul];omega
structure BCtx (K : Law) (n : Nat) (Od : List Nat -> Prop) (room : Nat) (w0 : World) (mb : Nat) (fs : List (Int × BF)) (nx : Int) (M : Nat) (w w1 : World) (o : Own) (m : ManD) (V : Nat -> BF) (op v : Int) (nk : Nat) (kid : Nat -> ExT) (a : Option Addr) (c : Nat) (E : ExT) (Q : Ending -> World -> Prop) : Prop where
 HKK : Hid (LawOK K)
 H5 : Hid (∀ k, k < nk -> ∃ b off x0 x1 x2, a = some ⟨b, off, none⟩ /\ w0.cell? ⟨b, off + k * 3, none⟩ = some x0 /\ w0.cell? ⟨b, off + k * 3 + 1, none⟩ = some x1 /\ w0.cell? ⟨b, off + k * 3 + 2, none⟩ = some x2 /\ ExprAt w0 (kid k) (.agg #[x0, x1, x2]))
 HKS : Hid (∀ i, i < nk -> (sumN i fun i => (kid i).size) + (kid i).size + 1 <= E.size)
 HSZ : Hid (E.size = 1 + sumN nk fun i => (kid i).size)
 HPOS : Hid (∀ k, k <= sumN k fun i => (kid i).size)
 IH : Hid (∀ (i : Nat) (x : Value) (fs' : List (Int × BF)) (nx' : Int) (W : World) (o' : Own) (m' : ManD) (V' : Nat -> BF) (M' : Nat), i < nk -> SatE K n Od room w0 mb fs' nx' W o' m' V' -> m'.waits = [] /\ m'.d.pool.many <= M' -> B2 fs' -> ExprAt w0 (kid i) x -> nx' + 3 * (kid i).size < 549755813000 -> M' + (kid i).size * 2 ^ n <= room ->
  Calls Tryz.prog 83 #[.pointer (some ⟨mb, 0, none⟩), x] W fun y w' => ∃ k : Int, y = .returned (.tuple #[.int .i64 k, .bool true]) /\ k + 3 <= nx' + 3 * (kid i).size /\ Goes K n Od room w0 mb (fs' ++ [(k, fnT (kid i))]) (k + 1) (NoW (M' + costT n (kid i).size)) o' W w')
 HW1 : Hid (w.alloc (.cells #[.int .i64 op, .int .i64 v, .slice a nk c] 39) = w1)
 HG1 : Hid (Goes K n Od room w0 mb fs nx (NoW M) o w1 w1)
 HSAT1 : Hid (SatE K n Od room w0 mb fs nx w1 o m V)
 HWT : Hid (m.waits = [] /\ m.d.pool.many <= M)
 HB2 : Hid (B2 fs)
 HQ : Hid (∀ (k : Int) F W M', F = fnT E -> k + 3 <= nx + 3 * E.size -> M' <= M + costT n E.size -> Goes K n Od room w0 mb (fs ++ [(k, F)]) (k + 1) (NoW M') o w1 W -> Q (.returned (.tuple #[.int .i64 k, .bool true])) W)
 HMR : Hid (∀ i, i < nk -> M + (sumN i fun i => (kid i).size) * 2 ^ n + (kid i).size * 2 ^ n + 2 ^ n <= room)
 HCK : Hid (∀ i, costK n kid i + i * (2 ^ n - 1) = (sumN i fun i => (kid i).size) * 2 ^ n)
 HCI : Hid (∀ i, costT n (kid i).size + (2 ^ n - 1) = (kid i).size * 2 ^ n)
 HEP : Hid (E.size * 2 ^ n = 2 ^ n + (sumN nk fun i => (kid i).size) * 2 ^ n /\ costT n E.size + (2 ^ n - 1) = E.size * 2 ^ n)
 HME : Hid (M + E.size * 2 ^ n <= room)
 hn64 : nk <= 64
 hnx : nx + 3 * E.size < 549755813000
 hE1 : 1 <= E.size
 hs1 : w1.heap.size = w.heap.size + 1
 d0 : w1.cell? ⟨w.heap.size, 0, none⟩ = some (.int .i64 op)
 d1 : w1.cell? ⟨w.heap.size, 1, none⟩ = some (.int .i64 v)
 d2 : w1.cell? ⟨w.heap.size, 2, none⟩ = some (.slice a nk c)
 on : o w.heap.size = none
 hw0 : w0.heap.size <= w1.heap.size
 hp2 : 0 < 2 ^ n
 h2 : -9223372036854775808 <= op /\ op <= 9223372036854775807
 h3 : -9223372036854775808 <= v /\ v <= 9223372036854775807
theorem build_true {w1 : World} {op v : Int} {nk : Nat} {kid : Nat -> ExT} {a : Option Addr} {c : Nat} {E : ExT} {Q : Ending -> World -> Prop} {M : Nat} (hctx : BCtx K n Od room w0 mb fs nx M w w1 o m V op v nk kid a c E Q) (h1 : op = 1) (hF : fnT E = fun _ => true) :
 Calls Tryz.prog 83 #[.pointer (some ⟨mb, 0, none⟩), .agg #[.int .i64 op, .int .i64 v, .slice a nk c]] w Q := by
 obtain ⟨HKK, H5, HKS, HSZ, HPOS, IH, HW1, HG1, HSAT1, HWT, HB2, HQ, HMR, HCK, HCI, HEP, HME, hn64, hnx, hE1, hs1, d0, d1, d2, on, hw0, hp2, h2, h3⟩ := hctx;subst h1;have HCN := Lib.hid (manConst_any mb true w1);have HCP := Lib.hid (copy_ok HKK.out HG1.out (by omega) (k := 1) (F := fun _ => true) HB2.out.one);have HFF : Hid ((fun _ => true) = fnT E) := Lib.hid hF.symm;have HCE : Hid (M <= M + costT n E.size) := Lib.hid (Nat.le_add_right _ _);clear IH
 go_enter Tryz.func83, Tryz.ntmps83
 go_upto_region 1 with fail;rw [HW1.out];go_wp2_with fail;refine HCN.out.mono ?_;rintro y w' ⟨rfl, rfl⟩;go_wp2_with fail;refine HCP.out.mono ?_;rintro y w2 ⟨rfl, g⟩;have HF := Lib.hid (HQ.out nx _ w2 _ HFF.out (by omega) HCE.out g);clear g;go_wp2_with fail;exact HF.out
theorem build_false {w1 : World} {op v : Int} {nk : Nat} {kid : Nat -> ExT} {a : Option Addr} {c : Nat} {E : ExT} {Q : Ending -> World -> Prop} {M : Nat} (hctx : BCtx K n Od room w0 mb fs nx M w w1 o m V op v nk kid a c E Q) (h1 : op = 2) (hF : fnT E = fun _ => false) :
 Calls Tryz.prog 83 #[.pointer (some ⟨mb, 0, none⟩), .agg #[.int .i64 op, .int .i64 v, .slice a nk c]] w Q := by
 obtain ⟨HKK, H5, HKS, HSZ, HPOS, IH, HW1, HG1, HSAT1, HWT, HB2, HQ, HMR, HCK, HCI, HEP, HME, hn64, hnx, hE1, hs1, d0, d1, d2, on, hw0, hp2, h2, h3⟩ := hctx;subst h1;have HCN := Lib.hid (manConst_any mb false w1);have HCP := Lib.hid (copy_ok HKK.out HG1.out (by omega) (k := 0) (F := fun _ => false) HB2.out.zero);have HFF : Hid ((fun _ => false) = fnT E) := Lib.hid hF.symm;have HCE : Hid (M <= M + costT n E.size) := Lib.hid (Nat.le_add_right _ _);clear IH
 go_enter Tryz.func83, Tryz.ntmps83
 go_upto_region 1 with fail;rw [HW1.out];go_wp2_with fail;refine HCN.out.mono ?_;rintro y w' ⟨rfl, rfl⟩;go_wp2_with fail;refine HCP.out.mono ?_;rintro y w2 ⟨rfl, g⟩;have HF := Lib.hid (HQ.out nx _ w2 _ HFF.out (by omega) HCE.out g);clear g;go_wp2_with fail;exact HF.out
theorem build_var {w1 : World} {op v : Int} {nk : Nat} {kid : Nat -> ExT} {a : Option Addr} {c : Nat} {E : ExT} {Q : Ending -> World -> Prop} {M : Nat} (hctx : BCtx K n Od room w0 mb fs nx M w w1 o m V op v nk kid a c E Q) {u : Nat} (hu : u < n) (h1 : op = 3) (hvu : v = u) (hF : fnT E = varF u) :
 Calls Tryz.prog 83 #[.pointer (some ⟨mb, 0, none⟩), .agg #[.int .i64 op, .int .i64 v, .slice a nk c]] w Q := by
 obtain ⟨HKK, H5, HKS, HSZ, HPOS, IH, HW1, HG1, HSAT1, HWT, HB2, HQ, HMR, HCK, HCI, HEP, HME, hn64, hnx, hE1, hs1, d0, d1, d2, on, hw0, hp2, h2, h3⟩ := hctx;subst hvu;subst h1;have HCP := Lib.hid (var_ok HKK.out HG1.out (by omega) (by have := HEP.out; have := HME.out; omega) hu);have HFF : Hid (varF u = fnT E) := Lib.hid hF.symm;have HCE : Hid (M + 1 <= M + costT n E.size) := Lib.hid (by have := HEP.out; omega);clear IH
 go_enter Tryz.func83, Tryz.ntmps83
 go_upto_region 1 with fail;rw [HW1.out];go_wp2_with fail;refine HCP.out.mono ?_;rintro y w2 ⟨rfl, g⟩;have HF := Lib.hid (HQ.out nx _ w2 _ HFF.out (by omega) HCE.out g);clear g;go_wp2_with fail;exact HF.out
end
open Go.RowKit
section
variable {K : Law} {n : Nat} {Od : List Nat -> Prop} {room : Nat} {w0 w w' w'' : World} {mb : Nat} {fs fs' : List (Int × BF)} {nx nx' : Int} {o o' : Own} {m m' : ManD} {V V' : Nat -> BF}
theorem build_acc {w1 : World} {op v : Int} {nk : Nat} {kid : Nat -> ExT} {a : Option Addr} {c : Nat} {E : ExT} {Q : Ending -> World -> Prop} {M : Nat} (hctx : BCtx K n Od room w0 mb fs nx M w w1 o m V op v nk kid a c E Q) (h1 : op = 5 \/ op = 6 \/ op = 7) (hF : fnT E = accT op kid nk) :
 Calls Tryz.prog 83 #[.pointer (some ⟨mb, 0, none⟩), .agg #[.int .i64 op, .int .i64 v, .slice a nk c]] w Q := by
 obtain ⟨HKK, H5, HKS, HSZ, HPOS, IH, HW1, HG1, HSAT1, HWT, HB2, HQ, HMR, HCK, HCI, HEP, HME, hn64, hnx, hE1, hs1, d0, d1, d2, on, hw0, hp2, h2, h3⟩ := hctx;have h59 : 5 <= op /\ op <= 9 := by omega
 have HFF : Hid (accT op kid nk = fnT E) := Lib.hid hF.symm;have HCN := Lib.hid (fun b => manConst_any mb b w1)
 have HCP : Hid (∀ z : Int, z = (if op = 5 then 1 else 0) -> Calls Tryz.prog 48 #[.pointer (some ⟨mb, 0, none⟩), .int .i64 z] w1 fun x w'' => x = .returned (.tuple #[.int .i64 nx, .int .i64 0]) /\ Goes K n Od room w0 mb (fs ++ [(nx, accT op kid 0)]) (nx + 1) (NoW M) o w1 w'') := Lib.hid (by
  rintro z rfl
  by_cases e : op = 5
  ·
   rw [if_pos e, show accT op kid 0 = fun _ => true by unfold accT; simp [e]];exact copy_ok HKK.out HG1.out (by omega) HB2.out.one
  ·
   rw [if_neg e, show accT op kid 0 = fun _ => false by unfold accT; simp [e]];exact copy_ok HKK.out HG1.out (by omega) HB2.out.zero)
 obtain ⟨A, hA⟩ : ∃ A : Nat -> BF, A = accT op kid := ⟨_, rfl⟩;have HAJ : Hid (∀ i, joinF op (A i) (fnT (kid i)) = A (i + 1)) := Lib.hid fun i => by rw [hA]; rfl
 rw [<- hA] at HCP HFF;clear hA;rcases h1 with h1 | h1 | h1
 all_goals
  subst h1
  go_enter Tryz.func83, Tryz.ntmps83
  go_upto_region 1 with fail;rw [HW1.out];go_wp2_with fail;refine (HCN.out _).mono ?_;rintro y w' ⟨rfl, rfl⟩;go_wp2_with fail;refine (HCP.out _ (by rfl)).mono ?_;rintro y w2 ⟨rfl, g⟩;have HG0 := Lib.hid g;clear g HCN HCP;go_wp2_with fail
  go_loopw [10, 12, 13, 14] (fun s10 s12 s13 s14 wr => ∃ (i : Nat) (k : Int), i <= nk /\ s10 = .int .i64 k /\ s12 = .bool true /\ s13 = .int .i64 i /\ Hid (k + 3 <= nx + 3 * ((1 + sumN i fun i => (kid i).size : Nat) : Int)) /\ Hid (Goes K n Od room w0 mb (fs ++ [(k, A i)]) (k + 1) (NoW (M + (sumN i fun i => (kid i).size) * 2 ^ n)) o w1 wr)) (fun _ _ s13 _ _ => nk - (intOf s13).toNat)
  case atStart => exact ⟨0, nx, Nat.zero_le _, rfl, rfl, rfl, Lib.hid (by show nx + 3 <= nx + 3 * ((1 + 0 : Nat) : Int); omega), Lib.hid (HG0.out.more (Nat.le_add_right _ _))⟩
  case round =>
   obtain ⟨i, k, hi, rfl, rfl, rfl, HN, HG⟩ := hrel;have e0 := HG.out.cell (p := ⟨w.heap.size, 0, none⟩) d0 on;have e2 := HG.out.cell (p := ⟨w.heap.size, 2, none⟩) d2 on
   by_cases hlt : i < nk
   ·
    obtain ⟨b, off, x0, x1, x2, rfl, c0, c1, c2, hx⟩ := H5.out i hlt;have hb0 := HG.out.below0;have q0 := (hb0.cell (p := ⟨b, off + i * 3, none⟩) (lt_of_cell c0)).trans c0;have q1 := (hb0.cell (p := ⟨b, off + i * 3 + 1, none⟩) (lt_of_cell c1)).trans c1;have q2 := (hb0.cell (p := ⟨b, off + i * 3 + 2, none⟩) (lt_of_cell c2)).trans c2;have hiz : (i : Int) < nk := by omega
    have hks := HKS.out i hlt;obtain ⟨o1, m1, V1, hc1, hw1', hs1'⟩ := HG.out;have hsum := HN.out;have HCALL := Lib.hid (IH.out i _ (fs ++ [(k, A i)]) (k + 1) _ o1 m1 V1 _ hlt hs1' hw1' (HB2.out.app _) hx (by omega) (by have := HMR.out i hlt; omega));have HCH := Lib.hid hc1;clear hb0 c0 c1 c2 hx hs1' hw1' hc1;go_wp2_with fail;refine HCALL.out.mono ?_;rintro y w3 ⟨k2, rfl, hk2, g3⟩
    have HG3 : Hid (Goes K n Od room w0 mb (fs ++ [(k, A i), (k2, fnT (kid i))]) (k2 + 1) (NoW (M + (sumN i fun i => (kid i).size) * 2 ^ n + costT n (kid i).size)) o w1 w3) := Lib.hid (by
     have := g3.after HCH.out;rw [List.append_assoc] at this;exact this)
    have f0 := HG3.out.cell (p := ⟨w.heap.size, 0, none⟩) d0 on;have HJ := Lib.hid (join_any HKK.out HG3.out HB2.out (by omega) (by have := HMR.out i hlt; have := HCI.out i; omega) h59.1 h59.2);clear g3 HCALL HCH q0 q1 q2 e0 e2;go_wp2_with fail;refine HJ.out.mono ?_;rintro y w4 ⟨k4, rfl, hk4, g4⟩
    have HG4 : Hid (Goes K n Od room w0 mb (fs ++ [(k4, A (i + 1))]) (k4 + 1) (NoW (M + (sumN (i + 1) fun i => (kid i).size) * 2 ^ n)) o w1 w4) := Lib.hid (by
     rw [<- HAJ.out i];refine g4.more ?_
     show _ <= M + ((sumN i fun i => (kid i).size) + (kid i).size) * 2 ^ n
     rw [Nat.add_mul];have := HCI.out i;omega)
    have HN4 : Hid (k4 + 3 <= nx + 3 * ((1 + sumN (i + 1) fun i => (kid i).size : Nat) : Int)) := Lib.hid (by
     show k4 + 3 <= nx + 3 * ((1 + ((sumN i fun i => (kid i).size) + (kid i).size) : Nat) : Int)
     omega)
    clear g4 HJ f0 HG3;go_wp2_with fail;go_roundw
    case rel => exact ⟨i + 1, k4, by omega, rfl, rfl, by go_num, HN4, HG4⟩
    case measure => simp [intOf]; omega
   ·
    obtain rfl : i = nk := by omega
    have hiz : ¬ (i : Int) < i := by omega
    have HF := Lib.hid (HQ.out k _ _ _ HFF.out (by have := HN.out; have := HSZ.out; omega) (by have := HEP.out; omega) HG.out);go_wp2_with fail;exact HF.out
end
open Go.RowKit
section
variable {K : Law} {n : Nat} {Od : List Nat -> Prop} {room : Nat} {w0 w w' w'' : World} {mb : Nat} {fs fs' : List (Int × BF)} {nx nx' : Int} {o o' : Own} {m m' : ManD} {V V' : Nat -> BF}
theorem build_not {w1 : World} {op v : Int} {nk : Nat} {kid : Nat -> ExT} {a : Option Addr} {c : Nat} {E : ExT} {Q : Ending -> World -> Prop} {M : Nat} (hctx : BCtx K n Od room w0 mb fs nx M w w1 o m V op v nk kid a c E Q) (h1 : op = 4) (hnk : nk = 1) (hF : fnT E = notF (fnT (kid 0))) :
 Calls Tryz.prog 83 #[.pointer (some ⟨mb, 0, none⟩), .agg #[.int .i64 op, .int .i64 v, .slice a nk c]] w Q := by
 obtain ⟨HKK, H5, HKS, HSZ, HPOS, IH, HW1, HG1, HSAT1, HWT, HB2, HQ, HMR, HCK, HCI, HEP, HME, hn64, hnx, hE1, hs1, d0, d1, d2, on, hw0, hp2, h2, h3⟩ := hctx;have g1 : (op == 1) = false := by simp; omega
 have g2 : (op == 2) = false := by simp; omega
 have g3 : (op == 3) = false := by simp; omega
 have g5 : (op == 5) = false := by simp; omega
 have g6 : (op == 6) = false := by simp; omega
 have g7 : (op == 7) = false := by simp; omega
 have g4 : (op == 4) = true := by simp; omega
 have HNK := Lib.hid hnk;clear h1 hnk;obtain ⟨w2, hw2⟩ : ∃ w2, w2 = w1.alloc (.cells #[] 3) := ⟨_, rfl⟩;have HW2 : Hid (_ = w2) := Lib.hid hw2.symm;have hb2' : Below w1.heap.size w1 w2 := by rw [hw2]; exact below_new1 _ _
 have HBS0 : Hid (BuiS K n Od room w0 mb (fs ++ []) nx (M + costK n kid 0) o w1 (.slice (some ⟨w.heap.size + 1, 0, none⟩) 0 0) (([] : List (Int × BF)).map Prod.fst) w2) := Lib.hid ⟨o, m, V, by rw [List.append_nil]; exact HSAT1.out.below hb2', HWT.out, chg_below hb2' o, by rw [hw2, <- hs1]; exact ownC_new _ _ _ (Nat.le_refl _), fun k hk => by cases hk; rw [<- hs1]; exact HSAT1.out.lt.none (Nat.le_refl _)⟩;have HB12 := Lib.hid hb2';clear hw2 hb2'
 go_enter Tryz.func83, Tryz.ntmps83
 go_upto_region 1 with fail;rw [HW1.out];go_upto_region 23 with fail;rw [HW2.out];have e2 := (HB12.out.cell (p := ⟨w.heap.size, 2, none⟩) (lt_of_cell d2)).trans d2;go_wp2_with fail
 go_loopw [15, 106] (fun s15 s106 wr => ∃ (i : Nat) (hs : List (Int × BF)) (nxi : Int), i <= nk /\ s106 = .int .i64 i /\ hs.length = i /\ nxi + 2 * i <= nx + 3 * ((sumN i fun i => (kid i).size : Nat) : Int) /\ Hid (∀ j (hj : j < hs.length), hs[j].2 = fnT (kid j)) /\ Hid (BuiS K n Od room w0 mb (fs ++ hs) nxi (M + costK n kid i) o w1 s15 (hs.map Prod.fst) wr)) (fun _ s106 _ => nk - (intOf s106).toNat)
 case atStart => exact ⟨0, [], nx, Nat.zero_le _, rfl, rfl, by show nx + 2 * ((0 : Nat) : Int) <= nx + 3 * ((0 : Nat) : Int); omega, Lib.hid (fun j hj => by simp at hj), HBS0⟩
 case round =>
  clear HBS0 HB12 e2
  rename World => wy
  obtain ⟨i, hs, nxi, hi, rfl, hhl, hnxi, HFS, HBS⟩ := hrel
  by_cases hlt : i < nk
  ·
   obtain ⟨b, off, x0, x1, x2, rfl, c0, c1, c2, hx⟩ := H5.out i hlt;have hb0 := HBS.out.goes.below0;have q0 := (hb0.cell (p := ⟨b, off + i * 3, none⟩) (lt_of_cell c0)).trans c0;have q1 := (hb0.cell (p := ⟨b, off + i * 3 + 1, none⟩) (lt_of_cell c1)).trans c1;have q2 := (hb0.cell (p := ⟨b, off + i * 3 + 2, none⟩) (lt_of_cell c2)).trans c2;obtain ⟨zo, zv, za, zn, zc, rfl, rfl, rfl⟩ := hx.parts;have hiz : (i : Int) < nk := by omega
   have hks := HKS.out i hlt;obtain ⟨wz, hwz⟩ : ∃ wz, wz = wy.alloc (.cells #[.int .i64 zo, .int .i64 zv, .slice za zn zc] 39) := ⟨_, rfl⟩;have HWZ : Hid (_ = wz) := Lib.hid hwz.symm;have hbz : Below wy.heap.size wy wz := by rw [hwz]; exact below_new1 _ _
   have hblk : wz.heap[wy.heap.size]? = some (.cells #[.int .i64 zo, .int .i64 zv, .slice za zn zc] 39 (0, 0)) := by rw [hwz]; exact heap_alloc_new _ _
   have p0 : wz.cell? ⟨wy.heap.size, 0, none⟩ = some (.int .i64 zo) := by rw [cell_of_row _ _ 0 _ _ _ hblk]; rfl
   have p1 : wz.cell? ⟨wy.heap.size, 1, none⟩ = some (.int .i64 zv) := by rw [cell_of_row _ _ 1 _ _ _ hblk]; rfl
   have p2 : wz.cell? ⟨wy.heap.size, 2, none⟩ = some (.slice za zn zc) := by rw [cell_of_row _ _ 2 _ _ _ hblk]; rfl
   obtain ⟨o1, m1, V1, bt⟩ := HBS.out.below hbz;have hpos := HPOS.out i;have HCALL := Lib.hid (IH.out i _ (fs ++ hs) nxi wz o1 m1 V1 _ hlt bt.sat bt.waits (HB2.out.app _) hx (by omega) (by have := HMR.out i hlt; have := HCK.out i; omega));have HBT := Lib.hid bt;clear hb0 c0 c1 c2 hx bt hwz hbz hblk HBS;go_upto_region 26 with fail;rw [HWZ.out];clear q0 q1 q2;go_wp2_with fail;refine HCALL.out.mono ?_;rintro y w3 ⟨k2, rfl, hk2, gg⟩;have HBS3 := Lib.hid (HBT.out.go (M' := M + costK n kid (i + 1)) (gg.more (Nat.le_of_eq (Nat.add_assoc _ _ _))));have HF3 : Hid (∀ j (hj : j < (hs ++ [(k2, fnT (kid i))]).length), (hs ++ [(k2, fnT (kid i))])[j].2 = fnT (kid j)) := Lib.hid fun j hj => by
    rcases Nat.lt_or_ge j hs.length with h | h
    ·
     rw [List.getElem_append_left h]; exact HFS.out j h
    ·
     have hj' : j = i := by simp at hj; omega
     subst hj';rw [List.getElem_append_right (by omega)];simp
   clear gg HCALL HBT p0 p1 p2;obtain ⟨o3, m3, V3, bt3⟩ := HBS3.out;have hsz3 : w1.heap.size <= w3.heap.size := bt3.chg.size;have HBT3 := Lib.hid bt3;clear bt3;go_upto_region 30 with (at_builtin; refine wpList_appC elemInt _ rfl _ _ rfl w1.heap.size _ (intsV (hs.map Prod.fst)) _ rfl rfl rfl rfl rfl (by exact HBT3.out.l.own) (by simp [intsV]; omega) hsz3 ?_; intro v5 w5 hown5 r1 r2 r3 r4 hk5)
   have HBS5 : Hid (BuiS K n Od room w0 mb (fs ++ (hs ++ [(k2, fnT (kid i))])) (k2 + 1) (M + costK n kid (i + 1)) o w1 v5 ((hs ++ [(k2, fnT (kid i))]).map Prod.fst) w5) := Lib.hid (by
    have := BuiS.app HBT3.out hown5 r1 r2 r3 r4 hk5 hw0;rw [List.append_assoc] at this;rw [List.map_append];exact this)
   clear hown5 r1 r2 r3 r4 hk5 HBT3 HBS3;go_wp2_with fail;go_roundw
   case rel => exact ⟨i + 1, hs ++ [(k2, fnT (kid i))], k2 + 1, by omega, by go_num, by simp; omega, by
    show k2 + 1 + 2 * ((i + 1 : Nat) : Int) <= nx + 3 * (((sumN i fun i => (kid i).size) + (kid i).size : Nat) : Int)
    omega, HF3, HBS5⟩
   case measure => simp [intOf]; omega
  ·
   obtain rfl : i = nk := by omega
   have hiz : ¬ (i : Int) < i := by omega
   have f0 := HBS.out.goes.cell (p := ⟨w.heap.size, 0, none⟩) d0 on;have hszn := HSZ.out;have hsum : nxi + 2 * i + 3 <= nx + 3 * E.size := by omega
   have hnk := HNK.out;have hnk1 : 1 <= i := by omega
   clear hszn H5 IH HSZ HKS HPOS;obtain ⟨o1, m1, V1, bt⟩ := HBS.out;have HBT := Lib.hid bt;clear bt;subst hnk;obtain ⟨⟨k0, F0⟩, rfl⟩ := List.length_eq_one_iff.1 hhl;obtain ⟨g, cp, rfl, hcells⟩ := HBS.out.cellsN (i := 1) rfl (by omega);have c0 : wy.cell? ⟨g, 0, none⟩ = some (.int .i64 k0) := hcells 0 (by omega);have HF : Hid (notF F0 = fnT E) := Lib.hid (by rw [hF, <- HFS.out 0 (by simp)]; rfl);have HN := Lib.hid (not_ok HKK.out HBT.out.refl (by omega) (k := k0) (F := F0) (by simp));clear hcells;go_wp2_with fail;refine HN.out.mono ?_;rintro y w3 ⟨rfl, g3⟩;have HB3 := Lib.hid (HBT.out.go g3);obtain ⟨g', cp', ev, hc3⟩ := HB3.out.cellsN (i := 1) rfl (by omega);cases ev;have c3 : w3.cell? ⟨g, 0, none⟩ = some (.int .i64 k0) := hc3 0 (by omega);have HD := Lib.hid (drop_ok HKK.out (hs := [(k0, F0)]) (r := [(nxi, notF F0)]) (by have := HB3.out.goes; rw [List.append_assoc] at this; exact this) HB2.out (by omega) (by simp) (T := w3.alloc (.cells #[.int .i64 k0] 3)) rfl);clear g3 hc3 HN;go_wp2_with fail;refine HD.out.mono ?_;rintro y w4 ⟨rfl, g4⟩;have HFN := Lib.hid (HQ.out nxi _ w4 _ HF.out (by omega) (by have := HEP.out; have := HCK.out 1; omega) g4);clear g4 HD;go_wp2_with fail;exact HFN.out
end
open Go.RowKit
section
variable {K : Law} {n : Nat} {Od : List Nat -> Prop} {room : Nat} {w0 w w' w'' : World} {mb : Nat} {fs fs' : List (Int × BF)} {nx nx' : Int} {o o' : Own} {m m' : ManD} {V V' : Nat -> BF}
theorem build_two {w1 : World} {op v : Int} {nk : Nat} {kid : Nat -> ExT} {a : Option Addr} {c : Nat} {E : ExT} {Q : Ending -> World -> Prop} {M : Nat} (hctx : BCtx K n Od room w0 mb fs nx M w w1 o m V op v nk kid a c E Q) (h1 : op = 8 \/ op = 9) (hnk : nk = 2) (hF : fnT E = joinF op (fnT (kid 0)) (fnT (kid 1))) :
 Calls Tryz.prog 83 #[.pointer (some ⟨mb, 0, none⟩), .agg #[.int .i64 op, .int .i64 v, .slice a nk c]] w Q := by
 obtain ⟨HKK, H5, HKS, HSZ, HPOS, IH, HW1, HG1, HSAT1, HWT, HB2, HQ, HMR, HCK, HCI, HEP, HME, hn64, hnx, hE1, hs1, d0, d1, d2, on, hw0, hp2, h2, h3⟩ := hctx;have g1 : (op == 1) = false := by simp; omega
 have g2 : (op == 2) = false := by simp; omega
 have g3 : (op == 3) = false := by simp; omega
 have g5 : (op == 5) = false := by simp; omega
 have g6 : (op == 6) = false := by simp; omega
 have g7 : (op == 7) = false := by simp; omega
 have g4 : (op == 4) = false := by simp; omega
 have g10 : (op == 10) = false := by simp; omega
 have HNK := Lib.hid hnk;have H1 := Lib.hid h1;clear h1 hnk;obtain ⟨w2, hw2⟩ : ∃ w2, w2 = w1.alloc (.cells #[] 3) := ⟨_, rfl⟩;have HW2 : Hid (_ = w2) := Lib.hid hw2.symm;have hb2' : Below w1.heap.size w1 w2 := by rw [hw2]; exact below_new1 _ _
 have HBS0 : Hid (BuiS K n Od room w0 mb (fs ++ []) nx (M + costK n kid 0) o w1 (.slice (some ⟨w.heap.size + 1, 0, none⟩) 0 0) (([] : List (Int × BF)).map Prod.fst) w2) := Lib.hid ⟨o, m, V, by rw [List.append_nil]; exact HSAT1.out.below hb2', HWT.out, chg_below hb2' o, by rw [hw2, <- hs1]; exact ownC_new _ _ _ (Nat.le_refl _), fun k hk => by cases hk; rw [<- hs1]; exact HSAT1.out.lt.none (Nat.le_refl _)⟩;have HB12 := Lib.hid hb2';clear hw2 hb2'
 go_enter Tryz.func83, Tryz.ntmps83
 go_upto_region 1 with fail;rw [HW1.out];go_upto_region 23 with fail;rw [HW2.out];have e2 := (HB12.out.cell (p := ⟨w.heap.size, 2, none⟩) (lt_of_cell d2)).trans d2;go_wp2_with fail
 go_loopw [15, 106] (fun s15 s106 wr => ∃ (i : Nat) (hs : List (Int × BF)) (nxi : Int), i <= nk /\ s106 = .int .i64 i /\ hs.length = i /\ nxi + 2 * i <= nx + 3 * ((sumN i fun i => (kid i).size : Nat) : Int) /\ Hid (∀ j (hj : j < hs.length), hs[j].2 = fnT (kid j)) /\ Hid (BuiS K n Od room w0 mb (fs ++ hs) nxi (M + costK n kid i) o w1 s15 (hs.map Prod.fst) wr)) (fun _ s106 _ => nk - (intOf s106).toNat)
 case atStart => exact ⟨0, [], nx, Nat.zero_le _, rfl, rfl, by show nx + 2 * ((0 : Nat) : Int) <= nx + 3 * ((0 : Nat) : Int); omega, Lib.hid (fun j hj => by simp at hj), HBS0⟩
 case round =>
  clear HBS0 HB12 e2
  rename World => wy
  obtain ⟨i, hs, nxi, hi, rfl, hhl, hnxi, HFS, HBS⟩ := hrel
  by_cases hlt : i < nk
  ·
   obtain ⟨b, off, x0, x1, x2, rfl, c0, c1, c2, hx⟩ := H5.out i hlt;have hb0 := HBS.out.goes.below0;have q0 := (hb0.cell (p := ⟨b, off + i * 3, none⟩) (lt_of_cell c0)).trans c0;have q1 := (hb0.cell (p := ⟨b, off + i * 3 + 1, none⟩) (lt_of_cell c1)).trans c1;have q2 := (hb0.cell (p := ⟨b, off + i * 3 + 2, none⟩) (lt_of_cell c2)).trans c2;obtain ⟨zo, zv, za, zn, zc, rfl, rfl, rfl⟩ := hx.parts;have hiz : (i : Int) < nk := by omega
   have hks := HKS.out i hlt;obtain ⟨wz, hwz⟩ : ∃ wz, wz = wy.alloc (.cells #[.int .i64 zo, .int .i64 zv, .slice za zn zc] 39) := ⟨_, rfl⟩;have HWZ : Hid (_ = wz) := Lib.hid hwz.symm;have hbz : Below wy.heap.size wy wz := by rw [hwz]; exact below_new1 _ _
   have hblk : wz.heap[wy.heap.size]? = some (.cells #[.int .i64 zo, .int .i64 zv, .slice za zn zc] 39 (0, 0)) := by rw [hwz]; exact heap_alloc_new _ _
   have p0 : wz.cell? ⟨wy.heap.size, 0, none⟩ = some (.int .i64 zo) := by rw [cell_of_row _ _ 0 _ _ _ hblk]; rfl
   have p1 : wz.cell? ⟨wy.heap.size, 1, none⟩ = some (.int .i64 zv) := by rw [cell_of_row _ _ 1 _ _ _ hblk]; rfl
   have p2 : wz.cell? ⟨wy.heap.size, 2, none⟩ = some (.slice za zn zc) := by rw [cell_of_row _ _ 2 _ _ _ hblk]; rfl
   obtain ⟨o1, m1, V1, bt⟩ := HBS.out.below hbz;have hpos := HPOS.out i;have HCALL := Lib.hid (IH.out i _ (fs ++ hs) nxi wz o1 m1 V1 _ hlt bt.sat bt.waits (HB2.out.app _) hx (by omega) (by have := HMR.out i hlt; have := HCK.out i; omega));have HBT := Lib.hid bt;clear hb0 c0 c1 c2 hx bt hwz hbz hblk HBS;go_upto_region 26 with fail;rw [HWZ.out];clear q0 q1 q2;go_wp2_with fail;refine HCALL.out.mono ?_;rintro y w3 ⟨k2, rfl, hk2, gg⟩;have HBS3 := Lib.hid (HBT.out.go (M' := M + costK n kid (i + 1)) (gg.more (Nat.le_of_eq (Nat.add_assoc _ _ _))));have HF3 : Hid (∀ j (hj : j < (hs ++ [(k2, fnT (kid i))]).length), (hs ++ [(k2, fnT (kid i))])[j].2 = fnT (kid j)) := Lib.hid fun j hj => by
    rcases Nat.lt_or_ge j hs.length with h | h
    ·
     rw [List.getElem_append_left h]; exact HFS.out j h
    ·
     have hj' : j = i := by simp at hj; omega
     subst hj';rw [List.getElem_append_right (by omega)];simp
   clear gg HCALL HBT p0 p1 p2;obtain ⟨o3, m3, V3, bt3⟩ := HBS3.out;have hsz3 : w1.heap.size <= w3.heap.size := bt3.chg.size;have HBT3 := Lib.hid bt3;clear bt3;go_upto_region 30 with (at_builtin; refine wpList_appC elemInt _ rfl _ _ rfl w1.heap.size _ (intsV (hs.map Prod.fst)) _ rfl rfl rfl rfl rfl (by exact HBT3.out.l.own) (by simp [intsV]; omega) hsz3 ?_; intro v5 w5 hown5 r1 r2 r3 r4 hk5)
   have HBS5 : Hid (BuiS K n Od room w0 mb (fs ++ (hs ++ [(k2, fnT (kid i))])) (k2 + 1) (M + costK n kid (i + 1)) o w1 v5 ((hs ++ [(k2, fnT (kid i))]).map Prod.fst) w5) := Lib.hid (by
    have := BuiS.app HBT3.out hown5 r1 r2 r3 r4 hk5 hw0;rw [List.append_assoc] at this;rw [List.map_append];exact this)
   clear hown5 r1 r2 r3 r4 hk5 HBT3 HBS3;go_wp2_with fail;go_roundw
   case rel => exact ⟨i + 1, hs ++ [(k2, fnT (kid i))], k2 + 1, by omega, by go_num, by simp; omega, by
    show k2 + 1 + 2 * ((i + 1 : Nat) : Int) <= nx + 3 * (((sumN i fun i => (kid i).size) + (kid i).size : Nat) : Int)
    omega, HF3, HBS5⟩
   case measure => simp [intOf]; omega
  ·
   obtain rfl : i = nk := by omega
   have hiz : ¬ (i : Int) < i := by omega
   have f0 := HBS.out.goes.cell (p := ⟨w.heap.size, 0, none⟩) d0 on;have hszn := HSZ.out;have hsum : nxi + 2 * i + 3 <= nx + 3 * E.size := by omega
   have hnk := HNK.out;have hnk1 : 1 <= i := by omega
   clear hszn H5 IH HSZ HKS HPOS;obtain ⟨o1, m1, V1, bt⟩ := HBS.out;have HBT := Lib.hid bt;clear bt;subst hnk;obtain ⟨⟨k0, F0⟩, ⟨k1', F1⟩, rfl⟩ := len_two hhl;obtain ⟨g, cp, rfl, hcells⟩ := HBS.out.cellsN (i := 2) rfl (by omega);have c0 : wy.cell? ⟨g, 0, none⟩ = some (.int .i64 k0) := hcells 0 (by omega);have c1 : wy.cell? ⟨g, 1, none⟩ = some (.int .i64 k1') := hcells 1 (by omega);have HF : Hid (joinF op F0 F1 = fnT E) := Lib.hid (by rw [hF, <- HFS.out 0 (by simp), <- HFS.out 1 (by simp)]; rfl);have HJ : Hid (∀ W, W = wy.drew -> Calls Tryz.prog 118 #[.pointer (some ⟨mb, 0, none⟩), .int .i64 op, .int .i64 k0, .int .i64 k1'] W fun x w'' => ∃ k : Int, x = .returned (.tuple #[.int .i64 k, .bool true]) /\ k <= nxi + 1 /\ Goes K n Od room w0 mb (fs ++ [(k, joinF op F0 F1)]) (k + 1) (NoW (M + costK n kid 2 + (2 ^ n - 1))) o1 wy w'') :=
    Lib.hid fun W hW => by subst hW; exact join_any HKK.out (HBT.out.refl.below (below_draw wy 1)) HB2.out (by omega) (by have := HEP.out; have := HCK.out 2; have := HME.out; omega) (by have := H1.out; omega) (by have := H1.out; omega)
   clear hcells;go_upto_region 39 with fail;refine wp_region_mix (fun W : World => W.cell? ⟨w.heap.size, 0, none⟩ = some (.int .i64 op) /\ W.cell? ⟨g, 0, none⟩ = some (.int .i64 k0) /\ W.cell? ⟨g, 1, none⟩ = some (.int .i64 k1')) false 14
    [(0, false), (1, false), (2, false), (3, false), (4, false), (5, false), (6, false), (7, false), (8, false), (9, true), (10, false), (11, false), (12, false), (13, false)] (by kernel_rfl) (by kernel_rfl) ⟨f0, c0, c1⟩ ?_
   simp only [planned, plnLz]
   iterate 9
    refine mix_readE rfl ?_;apply Exists.intro;refine ⟨fun w' hw => ?_, ?_⟩
    ·
     obtain ⟨h1, h2, h3⟩ := hw;go_simp;rfl
    simp only [putLz]
   refine mix_callR (R := fun v w' => ∃ k : Int, v = .tuple #[.int .i64 k, .bool true] /\ k <= nxi + 1 /\ Goes K n Od room w0 mb (fs ++ [(k, joinF op F0 F1)]) (k + 1) (NoW (M + costK n kid 2 + (2 ^ n - 1))) o1 wy w') rfl (by go_simp) ((HJ.out _ rfl).mono (fun e w' he => ?_)) ?_
   ·
    obtain ⟨k, rfl, q1, q2⟩ := he;have hb := HBT.out.go q2;obtain ⟨g', cp', ev, hc3⟩ := hb.cellsN (i := 2) rfl (by omega);cases ev;exact ⟨_, rfl, ⟨hb.goes.cell (p := ⟨w.heap.size, 0, none⟩) d0 on, hc3 0 (by omega), hc3 1 (by omega)⟩, k, rfl, q1, q2⟩
   rintro v w3 - ⟨k, rfl, q1, q2⟩;have HFN := Lib.hid (HQ.out k _ w3 _ HF.out (by omega) (by have := HEP.out; have := HCK.out 2; omega) (HBT.out.go q2).goes);clear q2 HJ;simp only [putLz]
   iterate 4
    refine mix_readE rfl ?_;apply Exists.intro;refine ⟨fun w' hw => ?_, ?_⟩
    ·
     obtain ⟨h1, h2, h3⟩ := hw;go_simp;rfl
    simp only [putLz]
   refine mix_end ?_;go_wp2_with fail;exact HFN.out
end
open Go.RowKit
section
variable {K : Law} {n : Nat} {Od : List Nat -> Prop} {room : Nat} {w0 w w' w'' : World} {mb : Nat} {fs fs' : List (Int × BF)} {nx nx' : Int} {o o' : Own} {m m' : ManD} {V V' : Nat -> BF}
theorem build_ite {w1 : World} {op v : Int} {nk : Nat} {kid : Nat -> ExT} {a : Option Addr} {c : Nat} {E : ExT} {Q : Ending -> World -> Prop} {M : Nat} (hctx : BCtx K n Od room w0 mb fs nx M w w1 o m V op v nk kid a c E Q) (h1 : op = 10) (hnk : nk = 3) (hF : fnT E = iteFn (fnT (kid 0)) (fnT (kid 1)) (fnT (kid 2))) :
 Calls Tryz.prog 83 #[.pointer (some ⟨mb, 0, none⟩), .agg #[.int .i64 op, .int .i64 v, .slice a nk c]] w Q := by
 obtain ⟨HKK, H5, HKS, HSZ, HPOS, IH, HW1, HG1, HSAT1, HWT, HB2, HQ, HMR, HCK, HCI, HEP, HME, hn64, hnx, hE1, hs1, d0, d1, d2, on, hw0, hp2, h2, h3⟩ := hctx;have g1 : (op == 1) = false := by simp; omega
 have g2 : (op == 2) = false := by simp; omega
 have g3 : (op == 3) = false := by simp; omega
 have g5 : (op == 5) = false := by simp; omega
 have g6 : (op == 6) = false := by simp; omega
 have g7 : (op == 7) = false := by simp; omega
 have g4 : (op == 4) = false := by simp; omega
 have g10 : (op == 10) = true := by simp; omega
 have HNK := Lib.hid hnk;clear h1 hnk;obtain ⟨w2, hw2⟩ : ∃ w2, w2 = w1.alloc (.cells #[] 3) := ⟨_, rfl⟩;have HW2 : Hid (_ = w2) := Lib.hid hw2.symm;have hb2' : Below w1.heap.size w1 w2 := by rw [hw2]; exact below_new1 _ _
 have HBS0 : Hid (BuiS K n Od room w0 mb (fs ++ []) nx (M + costK n kid 0) o w1 (.slice (some ⟨w.heap.size + 1, 0, none⟩) 0 0) (([] : List (Int × BF)).map Prod.fst) w2) := Lib.hid ⟨o, m, V, by rw [List.append_nil]; exact HSAT1.out.below hb2', HWT.out, chg_below hb2' o, by rw [hw2, <- hs1]; exact ownC_new _ _ _ (Nat.le_refl _), fun k hk => by cases hk; rw [<- hs1]; exact HSAT1.out.lt.none (Nat.le_refl _)⟩;have HB12 := Lib.hid hb2';clear hw2 hb2'
 go_enter Tryz.func83, Tryz.ntmps83
 go_upto_region 1 with fail;rw [HW1.out];go_upto_region 23 with fail;rw [HW2.out];have e2 := (HB12.out.cell (p := ⟨w.heap.size, 2, none⟩) (lt_of_cell d2)).trans d2;go_wp2_with fail
 go_loopw [15, 106] (fun s15 s106 wr => ∃ (i : Nat) (hs : List (Int × BF)) (nxi : Int), i <= nk /\ s106 = .int .i64 i /\ hs.length = i /\ nxi + 2 * i <= nx + 3 * ((sumN i fun i => (kid i).size : Nat) : Int) /\ Hid (∀ j (hj : j < hs.length), hs[j].2 = fnT (kid j)) /\ Hid (BuiS K n Od room w0 mb (fs ++ hs) nxi (M + costK n kid i) o w1 s15 (hs.map Prod.fst) wr)) (fun _ s106 _ => nk - (intOf s106).toNat)
 case atStart => exact ⟨0, [], nx, Nat.zero_le _, rfl, rfl, by show nx + 2 * ((0 : Nat) : Int) <= nx + 3 * ((0 : Nat) : Int); omega, Lib.hid (fun j hj => by simp at hj), HBS0⟩
 case round =>
  clear HBS0 HB12 e2
  rename World => wy
  obtain ⟨i, hs, nxi, hi, rfl, hhl, hnxi, HFS, HBS⟩ := hrel
  by_cases hlt : i < nk
  ·
   obtain ⟨b, off, x0, x1, x2, rfl, c0, c1, c2, hx⟩ := H5.out i hlt;have hb0 := HBS.out.goes.below0;have q0 := (hb0.cell (p := ⟨b, off + i * 3, none⟩) (lt_of_cell c0)).trans c0;have q1 := (hb0.cell (p := ⟨b, off + i * 3 + 1, none⟩) (lt_of_cell c1)).trans c1;have q2 := (hb0.cell (p := ⟨b, off + i * 3 + 2, none⟩) (lt_of_cell c2)).trans c2;obtain ⟨zo, zv, za, zn, zc, rfl, rfl, rfl⟩ := hx.parts;have hiz : (i : Int) < nk := by omega
   have hks := HKS.out i hlt;obtain ⟨wz, hwz⟩ : ∃ wz, wz = wy.alloc (.cells #[.int .i64 zo, .int .i64 zv, .slice za zn zc] 39) := ⟨_, rfl⟩;have HWZ : Hid (_ = wz) := Lib.hid hwz.symm;have hbz : Below wy.heap.size wy wz := by rw [hwz]; exact below_new1 _ _
   have hblk : wz.heap[wy.heap.size]? = some (.cells #[.int .i64 zo, .int .i64 zv, .slice za zn zc] 39 (0, 0)) := by rw [hwz]; exact heap_alloc_new _ _
   have p0 : wz.cell? ⟨wy.heap.size, 0, none⟩ = some (.int .i64 zo) := by rw [cell_of_row _ _ 0 _ _ _ hblk]; rfl
   have p1 : wz.cell? ⟨wy.heap.size, 1, none⟩ = some (.int .i64 zv) := by rw [cell_of_row _ _ 1 _ _ _ hblk]; rfl
   have p2 : wz.cell? ⟨wy.heap.size, 2, none⟩ = some (.slice za zn zc) := by rw [cell_of_row _ _ 2 _ _ _ hblk]; rfl
   obtain ⟨o1, m1, V1, bt⟩ := HBS.out.below hbz;have hpos := HPOS.out i;have HCALL := Lib.hid (IH.out i _ (fs ++ hs) nxi wz o1 m1 V1 _ hlt bt.sat bt.waits (HB2.out.app _) hx (by omega) (by have := HMR.out i hlt; have := HCK.out i; omega));have HBT := Lib.hid bt;clear hb0 c0 c1 c2 hx bt hwz hbz hblk HBS;go_upto_region 26 with fail;rw [HWZ.out];clear q0 q1 q2;go_wp2_with fail;refine HCALL.out.mono ?_;rintro y w3 ⟨k2, rfl, hk2, gg⟩;have HBS3 := Lib.hid (HBT.out.go (M' := M + costK n kid (i + 1)) (gg.more (Nat.le_of_eq (Nat.add_assoc _ _ _))));have HF3 : Hid (∀ j (hj : j < (hs ++ [(k2, fnT (kid i))]).length), (hs ++ [(k2, fnT (kid i))])[j].2 = fnT (kid j)) := Lib.hid fun j hj => by
    rcases Nat.lt_or_ge j hs.length with h | h
    ·
     rw [List.getElem_append_left h]; exact HFS.out j h
    ·
     have hj' : j = i := by simp at hj; omega
     subst hj';rw [List.getElem_append_right (by omega)];simp
   clear gg HCALL HBT p0 p1 p2;obtain ⟨o3, m3, V3, bt3⟩ := HBS3.out;have hsz3 : w1.heap.size <= w3.heap.size := bt3.chg.size;have HBT3 := Lib.hid bt3;clear bt3;go_upto_region 30 with (at_builtin; refine wpList_appC elemInt _ rfl _ _ rfl w1.heap.size _ (intsV (hs.map Prod.fst)) _ rfl rfl rfl rfl rfl (by exact HBT3.out.l.own) (by simp [intsV]; omega) hsz3 ?_; intro v5 w5 hown5 r1 r2 r3 r4 hk5)
   have HBS5 : Hid (BuiS K n Od room w0 mb (fs ++ (hs ++ [(k2, fnT (kid i))])) (k2 + 1) (M + costK n kid (i + 1)) o w1 v5 ((hs ++ [(k2, fnT (kid i))]).map Prod.fst) w5) := Lib.hid (by
    have := BuiS.app HBT3.out hown5 r1 r2 r3 r4 hk5 hw0;rw [List.append_assoc] at this;rw [List.map_append];exact this)
   clear hown5 r1 r2 r3 r4 hk5 HBT3 HBS3;go_wp2_with fail;go_roundw
   case rel => exact ⟨i + 1, hs ++ [(k2, fnT (kid i))], k2 + 1, by omega, by go_num, by simp; omega, by
    show k2 + 1 + 2 * ((i + 1 : Nat) : Int) <= nx + 3 * (((sumN i fun i => (kid i).size) + (kid i).size : Nat) : Int)
    omega, HF3, HBS5⟩
   case measure => simp [intOf]; omega
  ·
   obtain rfl : i = nk := by omega
   have hiz : ¬ (i : Int) < i := by omega
   have f0 := HBS.out.goes.cell (p := ⟨w.heap.size, 0, none⟩) d0 on;have hszn := HSZ.out;have hsum : nxi + 2 * i + 3 <= nx + 3 * E.size := by omega
   have hnk := HNK.out;have hnk1 : 1 <= i := by omega
   clear hszn H5 IH HSZ HKS HPOS;obtain ⟨o1, m1, V1, bt⟩ := HBS.out;have HBT := Lib.hid bt;clear bt;subst hnk;obtain ⟨⟨k0, F0⟩, ⟨k1', F1⟩, ⟨k2', F2⟩, rfl⟩ := len_three hhl;obtain ⟨g, cp, rfl, hcells⟩ := HBS.out.cellsN (i := 3) rfl (by omega);have c0 : wy.cell? ⟨g, 0, none⟩ = some (.int .i64 k0) := hcells 0 (by omega);have c1 : wy.cell? ⟨g, 1, none⟩ = some (.int .i64 k1') := hcells 1 (by omega);have c2 : wy.cell? ⟨g, 2, none⟩ = some (.int .i64 k2') := hcells 2 (by omega);have HF : Hid (iteFn F0 F1 F2 = fnT E) := Lib.hid (by rw [hF, <- HFS.out 0 (by simp), <- HFS.out 1 (by simp), <- HFS.out 2 (by simp)]; rfl);have HI : Hid (∀ W, W = wy.drew -> Calls Tryz.prog 18 #[.pointer (some ⟨mb, 0, none⟩), .int .i64 k0, .int .i64 k1', .int .i64 k2'] W fun x w'' => x = .returned (.tuple #[.int .i64 nxi, .int .i64 0]) /\ Goes K n Od room w0 mb (fs ++ [(k0, F0), (k1', F1), (k2', F2)] ++ [(nxi, iteFn F0 F1 F2)]) (nxi + 1) (NoW (M + costK n kid 3 + (2 ^ n - 1))) o1 wy w'') :=
    Lib.hid fun W hW => by subst hW; exact ite_ok HKK.out (HBT.out.refl.below (below_draw wy 1)) (by omega) (by have := HEP.out; have := HCK.out 3; have := HME.out; omega) (by simp) (by simp) (by simp)
   clear hcells;go_upto_region 36 with fail;refine wp_region_mix (fun W : World => W.cell? ⟨g, 0, none⟩ = some (.int .i64 k0) /\ W.cell? ⟨g, 1, none⟩ = some (.int .i64 k1') /\ W.cell? ⟨g, 2, none⟩ = some (.int .i64 k2')) false 16
    [(0, false), (1, false), (2, false), (3, false), (4, false), (5, false), (6, false), (7, false), (8, false), (9, false), (10, true), (11, false), (12, false), (13, false), (14, false), (15, false)] (by kernel_rfl) (by kernel_rfl) ⟨c0, c1, c2⟩ ?_
   simp only [planned, plnLz]
   iterate 10
    refine mix_readE rfl ?_;apply Exists.intro;refine ⟨fun w' hw => ?_, ?_⟩
    ·
     obtain ⟨h1, h2, h3⟩ := hw;go_simp;rfl
    simp only [putLz]
   refine mix_callR (R := fun v w' => v = .tuple #[.int .i64 nxi, .int .i64 0] /\ Goes K n Od room w0 mb (fs ++ [(k0, F0), (k1', F1), (k2', F2)] ++ [(nxi, iteFn F0 F1 F2)]) (nxi + 1) (NoW (M + costK n kid 3 + (2 ^ n - 1))) o1 wy w') rfl (by go_simp) ((HI.out _ rfl).mono (fun e w' he => ?_)) ?_
   ·
    obtain ⟨rfl, q2⟩ := he;have hb := HBT.out.go q2;obtain ⟨g', cp', ev, hc3⟩ := hb.cellsN (i := 3) rfl (by omega);cases ev;exact ⟨_, rfl, ⟨hc3 0 (by omega), hc3 1 (by omega), hc3 2 (by omega)⟩, rfl, q2⟩
   rintro v w3 ⟨d0', d1', d2'⟩ ⟨rfl, q2⟩;obtain ⟨o3, m3, V3, bt3⟩ := HBT.out.go q2;have HBT3 := Lib.hid bt3;clear q2 HI bt3 c0 c1 c2 HBS;simp only [putLz]
   iterate 5
    refine mix_readE rfl ?_;apply Exists.intro;refine ⟨fun w' hw => ?_, ?_⟩
    ·
     obtain ⟨h1, h2, h3⟩ := hw;go_simp;rfl
    simp only [putLz]
   refine mix_end ?_;have HD : Hid (∀ W T, Below w3.heap.size w3 W -> T = W.alloc (.cells #[.int .i64 k0, .int .i64 k1', .int .i64 k2'] 3) -> Calls Tryz.prog 49 #[.pointer (some ⟨mb, 0, none⟩), .slice (some ⟨W.heap.size, 0, none⟩) 3 3] T fun x w'' => x = .returned (.int .i64 0) /\ Goes K n Od room w0 mb (fs ++ [(nxi, iteFn F0 F1 F2)]) (nxi + 1) (NoW (M + costK n kid 3 + (2 ^ n - 1))) o3 w3 w'') :=
    Lib.hid fun W T hW hT => drop_ok HKK.out (hs := [(k0, F0), (k1', F1), (k2', F2)]) (r := [(nxi, iteFn F0 F1 F2)]) (by have := HBT3.out.refl; rw [List.append_assoc] at this; exact this.below hW) HB2.out (by omega) (by simp) hT
   go_upto_region 37 with fail;refine wp_region_mix (fun W : World => W.cell? ⟨g, 0, none⟩ = some (.int .i64 k0) /\ W.cell? ⟨g, 1, none⟩ = some (.int .i64 k1') /\ W.cell? ⟨g, 2, none⟩ = some (.int .i64 k2')) false 20
    [(0, false), (1, false), (2, false), (3, false), (4, false), (5, false), (6, false), (7, false), (8, false), (9, false), (10, false), (11, false), (12, false), (13, false), (14, true), (15, true), (16, false), (17, false), (18, false), (19, false)] (by kernel_rfl) (by kernel_rfl) ⟨d0', d1', d2'⟩ ?_
   simp only [planned, plnLz]
   iterate 4
    refine mix_readE rfl ?_;apply Exists.intro;refine ⟨fun w' hw => ?_, ?_⟩
    ·
     obtain ⟨h1, h2, h3⟩ := hw;go_simp;rfl
    simp only [putLz]
   iterate 10
    refine mix_readGE true (by go_simp) ?_;apply Exists.intro;refine ⟨fun hgd w' hw => ?_, ?_⟩
    ·
     obtain ⟨h1, h2, h3⟩ := hw;go_simp;rfl
    simp only [putLz]
   have hbn := below_new1 w3.drew (.cells #[.int .i64 k0, .int .i64 k1', .int .i64 k2'] 3);refine mix_valueG (v := .slice (some ⟨w3.heap.size, 0, none⟩) 3 3) (w' := w3.drew.alloc (.cells #[.int .i64 k0, .int .i64 k1', .int .i64 k2'] 3)) (by go_simp) (by go_simp) ⟨(hbn.cell (p := ⟨g, 0, none⟩) (lt_of_cell (w := w3.drew) d0')).trans d0', (hbn.cell (p := ⟨g, 1, none⟩) (lt_of_cell (w := w3.drew) d1')).trans d1', (hbn.cell (p := ⟨g, 2, none⟩) (lt_of_cell (w := w3.drew) d2')).trans d2'⟩ ?_;simp only [putLz];refine mix_callGR (R := fun v w' => v = .int .i64 0 /\ Goes K n Od room w0 mb (fs ++ [(nxi, iteFn F0 F1 F2)]) (nxi + 1) (NoW (M + costK n kid 3 + (2 ^ n - 1))) o3 w3 w') (by go_simp) (by go_simp) ((HD.out w3.drew _ (below_draw w3 1) rfl).mono (fun e w' he => ?_)) ?_
   ·
    obtain ⟨rfl, q2⟩ := he;have hb := HBT3.out.go q2;obtain ⟨g', cp', ev, hc3⟩ := hb.cellsN (i := 3) rfl (by omega);cases ev;exact ⟨_, rfl, ⟨hc3 0 (by omega), hc3 1 (by omega), hc3 2 (by omega)⟩, rfl, q2⟩
   rintro v w4 - ⟨rfl, q2⟩;have HFN := Lib.hid (HQ.out nxi _ w4 _ HF.out (by omega) (by have := HEP.out; have := HCK.out 3; omega) (HBT3.out.go q2).goes);clear q2 HD;simp only [putLz]
   iterate 1
    refine mix_readGE true (by go_simp) ?_;apply Exists.intro;refine ⟨fun hgd w' hw => ?_, ?_⟩
    ·
     obtain ⟨h1, h2, h3⟩ := hw;go_simp;rfl
    simp only [putLz]
   iterate 3
    refine mix_readE rfl ?_;apply Exists.intro;refine ⟨fun w' hw => ?_, ?_⟩
    ·
     obtain ⟨h1, h2, h3⟩ := hw;go_simp;rfl
    simp only [putLz]
   refine mix_end ?_;go_wp2_with fail;exact HFN.out
end
open Go.RowKit
section
variable {K : Law} {n : Nat} {Od : List Nat -> Prop} {room : Nat} {w0 : World} {mb : Nat}
theorem build_any (hK : LawOK K) : ∀ (e : ExT) (x : Value) (fs : List (Int × BF)) (nx : Int) (w : World) (o : Own) (m : ManD) (V : Nat -> BF) (M : Nat), SatE K n Od room w0 mb fs nx w o m V -> m.waits = [] /\ m.d.pool.many <= M -> B2 fs -> validT e -> (∀ v ∈ varsT e, v < (n : Int)) -> ExprAt w0 e x -> nx + 3 * e.size < 549755813000 -> M + e.size * 2 ^ n <= room ->
 Calls Tryz.prog 83 #[.pointer (some ⟨mb, 0, none⟩), x] w fun y w' => ∃ k : Int, y = .returned (.tuple #[.int .i64 k, .bool true]) /\ k + 3 <= nx + 3 * e.size /\ Goes K n Od room w0 mb (fs ++ [(k, fnT e)]) (k + 1) (NoW (M + costT n e.size)) o w w'
 | .nil, x, fs, nx, w, o, m, V, M, _, _, _, hv, _, _, _, _ => hv.elim
 | .mk op v nk kid, x, fs, nx, w, o, m, V, M, hsat, hwt, hb2, hval, hvars, h, hnx, hroom => by
   unfold ExprAt at h;obtain ⟨a, c, rfl, h2, h3, h4, h5⟩ := h;obtain ⟨v1, v2, v3, v4, v5, v6⟩ := hval;obtain ⟨k1, k2, k3⟩ := kids_ok v1;have hblk : (w.alloc (.cells #[.int .i64 op, .int .i64 v, .slice a nk c] 39)).heap[w.heap.size]? = some (.cells #[.int .i64 op, .int .i64 v, .slice a nk c] 39 (0, 0)) := heap_alloc_new _ _;have hb1 := below_new1 w (.cells #[.int .i64 op, .int .i64 v, .slice a nk c] 39);have hep : (ExT.mk op v nk kid).size * 2 ^ n = 2 ^ n + (sumN nk fun i => (kid i).size) * 2 ^ n := by
    show (1 + sumN nk fun i => (kid i).size) * 2 ^ n = _
    rw [Nat.add_mul, Nat.one_mul]
   have hctx : BCtx K n Od room w0 mb fs nx M w (w.alloc (.cells #[.int .i64 op, .int .i64 v, .slice a nk c] 39)) o m V op v nk kid a c (ExT.mk op v nk kid) (fun y w' => ∃ k : Int, y = .returned (.tuple #[.int .i64 k, .bool true]) /\ k + 3 <= nx + 3 * (ExT.mk op v nk kid).size /\ Goes K n Od room w0 mb (fs ++ [(k, fnT (ExT.mk op v nk kid))]) (k + 1) (NoW (M + costT n (ExT.mk op v nk kid).size)) o w w') := by
    refine ⟨Lib.hid hK, Lib.hid h5, Lib.hid fun i hi => ?_, Lib.hid rfl, Lib.hid (sumN_pos fun i => (kid i).size_pos), Lib.hid fun i x fs' nx' W o' m' V' M' hi q1 q2 q3 q4 q5 q6 => build_any hK (kid i) x fs' nx' W o' m' V' M' q1 q2 q3 (v6 i hi) (fun u hu => hvars u (by unfold varsT; exact List.mem_append_right _ (mem_flatN hi hu))) q4 q5 q6, Lib.hid rfl, Lib.hid (Goes.refl (hsat.below hb1) hwt), Lib.hid (hsat.below hb1), Lib.hid hwt, Lib.hid hb2, Lib.hid ?_, Lib.hid fun i hi => ?_, Lib.hid (costK_add n kid), Lib.hid fun i => costT_add n (kid i).size_pos, Lib.hid ⟨hep, costT_add n (ExT.size_pos _)⟩, Lib.hid hroom, by omega, hnx, ExT.size_pos _, by simp, by rw [cell_of_row _ _ 0 _ _ _ hblk]; rfl, by rw [cell_of_row _ _ 1 _ _ _ hblk]; rfl, by rw [cell_of_row _ _ 2 _ _ _ hblk]; rfl, hsat.lt.none (Nat.le_refl _), ?_, Nat.pow_pos (by omega), h2, h3⟩
    ·
     have := sumN_two (f := fun i => (kid i).size) hi
     show _ <= 1 + sumN nk fun i => (kid i).size
     omega
    ·
     rintro k F W M' rfl hk hm g;exact ⟨k, rfl, hk, (g.more hm).after (chg_below hb1 o)⟩
    ·
     have h1 := sumN_two (f := fun i => (kid i).size) hi;have h2 := Nat.mul_le_mul_right (2 ^ n) h1;rw [Nat.add_mul] at h2;omega
    ·
     have := hsat.chg.size;simp; omega
   rcases (show op = 1 \/ op = 2 \/ op = 3 \/ (op = 5 \/ op = 6 \/ op = 7) \/ op = 4 \/ (op = 8 \/ op = 9) \/ op = 10 by omega) with h1 | h1 | h1 | h1 | h1 | h1 | h1
   ·
    exact build_true hctx h1 (by subst h1; exact fnT_const (.inl rfl) v nk kid)
   ·
    exact build_false hctx h1 (by subst h1; exact fnT_const (.inr rfl) v nk kid)
   ·
    have e1 := v2 h1;have e2 := hvars v (by unfold varsT; rw [if_pos h1]; simp);obtain ⟨u, rfl⟩ : ∃ u : Nat, v = u := ⟨v.toNat, by omega⟩;exact build_var hctx (u := u) (by omega) h1 rfl (by subst h1; exact fnT_var u nk kid)
   ·
    exact build_acc hctx h1 (fnT_acc h1 v nk kid)
   ·
    have e : nk = 1 := by subst h1; simp [kidsR] at v4 v5; omega
    exact build_not hctx h1 e (by subst h1; subst e; exact fnT_not v kid)
   ·
    have e : nk = 2 := by rcases h1 with rfl | rfl <;> (simp [kidsR] at v4 v5; omega)
    exact build_two hctx h1 e (by subst e; exact fnT_join h1 v kid)
   ·
    have e : nk = 3 := by subst h1; simp [kidsR] at v4 v5; omega
    exact build_ite hctx h1 e (by subst h1; subst e; exact fnT_ite v kid)
end
open Go.RowKit
theorem IntsAt.chgX {C : Nat -> Prop} {o o' : Own} {w w' : World} {a : Option Addr} {zs : List Int} (h : IntsAt w a zs) (hc : ChgX C o o' w w') (hn : 0 < zs.length -> ∀ x, a = some x -> o x.block = none /\ ¬ C x.block) : IntsAt w' a zs :=
 ⟨h.len, fun k hk => by
  obtain ⟨b, off, rfl, c⟩ := h.cells k hk;have := hn (by omega) _ rfl;exact ⟨b, off, rfl, hc.cell c this.1 this.2⟩⟩
def ArrI (K : Law) (n room : Nat) (w0 : World) (mb : Nat) (fs : List (Int × BF)) (nx : Int) (o : Own) (w : World) (m : ManD) (P : List Nat -> Prop) (W : World) : Prop :=
 ∃ o' m' V', SatE K n P room w0 mb fs nx W o' m' V' /\ m'.waits = m.waits /\ m'.calls = m.calls /\ ChgX NoB o o' w W /\ (m'.d.pool.many <= m.d.pool.many \/ m'.d.pool.many <= fs.length * 2 ^ n)
section
variable {K : Law} {n : Nat} {Od : List Nat -> Prop} {room : Nat} {w0 w w' : World} {mb : Nat} {fs : List (Int × BF)} {nx : Int} {o o' : Own} {m m' : ManD} {V V' : Nat -> BF} {P : List Nat -> Prop} {W W' : World}
theorem ArrI.below (h : ArrI K n room w0 mb fs nx o w m P W) (hb : Below W.heap.size W W') : ArrI K n room w0 mb fs nx o w m P W' := by
 obtain ⟨o', m', V', h1, h2, h3, h4, h5⟩ := h;exact ⟨o', m', V', h1.below hb, h2, h3, h4.trans (chg_below hb o') (fun _ _ e => e), h5⟩
theorem ArrI.imp (h : ArrI K n room w0 mb fs nx o w m P W) {P' : List Nat -> Prop} (hP : ∀ l, l.length = n -> P l -> P' l) : ArrI K n room w0 mb fs nx o w m P' W := by
 obtain ⟨o', m', V', h1, h2, h3, h4, h5⟩ := h;exact ⟨o', m', V', h1.withOd (hP _ h1.vars h1.od), h2, h3, h4, h5⟩
theorem ArrI.swap (h : ArrI K n room w0 mb fs nx o w m P W) {k : Nat} (hk1 : k + 1 < n) (hn : nx <= 549755813888) (hr : 3 * (fs.length * 2 ^ n) <= room) {P' : List Nat -> Prop} (hP : ∀ l, l.length = n -> P l -> P' (exL l k)) :
 Calls Tryz.prog 45 #[.pointer (some ⟨mb, 0, none⟩), .int .i64 k] W fun e w' => e = .returned (.int .i64 0) /\ ArrI K n room w0 mb fs nx o w m P' w' := by
 obtain ⟨o', m', V', h1, h2, h3, h4, h5⟩ := h;refine (manSwap_ok h1 hk1 hn hr).mono ?_;rintro e w' ⟨rfl, o2, m2, V2, s⟩;refine ⟨rfl, o2, m2, V2, s.sat.withOd ?_, s.waits.trans h2, s.calls.trans h3, h4.trans (ChgX.of_chg s.chg NoB) (fun _ _ e => e), .inr (s.sat.few s.dead)⟩;rw [s.sat.od, swapD_exL];exact hP _ h1.vars h1.od
theorem arrange_any (h : SatE K n Od room w0 mb fs nx w o m V) (hn : nx <= 549755813888) (hr : 3 * (fs.length * 2 ^ n) <= room) {a : Option Addr} {c : Nat} {zs : List Int} (hz : IntsAt w a zs) (hno : 0 < zs.length -> ∀ x, a = some x -> o x.block = none) (hp : zs.length = 0 \/ PermP zs n) :
 Calls Tryz.prog 82 #[.pointer (some ⟨mb, 0, none⟩), .slice a zs.length c] w fun x w' => x = .returned (.bool true) /\ ArrI K n room w0 mb fs nx o w m (fun l => ∀ j, j < zs.length -> ((l.getD j 0 : Nat) : Int) = at0 zs j) w' := by
 have hlen := hz.len;have hn64 : n <= 64 := by have := h.ok.store.small; rw [h.vars] at this; exact this
 have HZ : Hid (∀ W P, ArrI K n room w0 mb fs nx o w m P W -> IntsAt W a zs) := Lib.hid fun W P ⟨o', m', V', _, _, _, h4, _⟩ => hz.chgX h4 fun h0 x hx => ⟨hno h0 x hx, fun e => e⟩
 have HORD : Hid (∀ W P, ArrI K n room w0 mb fs nx o w m P W -> Calls Tryz.prog 42 #[.pointer (some ⟨mb, 0, none⟩)] W fun x w' => ∃ (a : Option Addr) (c : Nat) (l : List Nat), x = .returned (.slice a n c) /\ l.length = n /\ IntsAt w' a (l.map Int.ofNat) /\ P l /\ (∀ v, v < n -> ∃ i, i < n /\ l.getD i 0 = v) /\ (∀ i j, i < n -> j < n -> l.getD i 0 = l.getD j 0 -> i = j) /\ Below W.heap.size W w' /\ ArrI K n room w0 mb fs nx o w m (fun l' => l' = l) w') := by
  refine Lib.hid fun W P hA => ?_
  obtain ⟨o', m', V', h1, h2, h3, h4, h5⟩ := hA;refine (manOrder_any h1.is h1.lt (by rw [h1.vars]; exact hn64)).mono ?_;rintro x w' ⟨v, rfl, hv, hb⟩;obtain ⟨av, cv, rfl, hva, _⟩ := hv.sliceIs (by simp [h1.vars]; omega);refine ⟨av, cv, m'.d.vars, by rw [List.length_map, h1.vars], h1.vars, hva, h1.od, fun v hv => ?_, fun i j hi hj e => ?_, hb, o', m', V', (h1.below hb).withOd rfl, h2, h3, h4.trans (chg_below hb o') (fun _ _ e => e), h5⟩
  ·
   have := h1.ok.store.mem (v := v) (by rw [h1.vars]; exact hv);rw [h1.vars] at this; exact this
  ·
   exact h1.ok.store.inj (by rw [h1.vars]; exact hi) (by rw [h1.vars]; exact hj) e
 have HSW : Hid (∀ W P, ArrI K n room w0 mb fs nx o w m P W -> ∀ (k : Nat), k + 1 < n -> ∀ P' : List Nat -> Prop, (∀ l, l.length = n -> P l -> P' (exL l k)) -> Calls Tryz.prog 45 #[.pointer (some ⟨mb, 0, none⟩), .int .i64 k] W fun e w' => e = .returned (.int .i64 0) /\ ArrI K n room w0 mb fs nx o w m P' w') :=
  Lib.hid fun W P hA k hk P' hP => hA.swap hk hn hr hP
 have HP := Lib.hid hp;obtain ⟨R, hR⟩ : ∃ R : (List Nat -> Prop) -> World -> Prop, R = ArrI K n room w0 mb fs nx o w m := ⟨_, rfl⟩;have HR0 : Hid (R (fun l => ∀ j, j < 0 -> ((l.getD j 0 : Nat) : Int) = at0 zs j) w) := Lib.hid (by rw [hR]; exact ⟨o, m, V, h.withOd (fun j hj => by omega), rfl, rfl, ChgX.of_below (Below.refl _ _) o NoB, .inl (Nat.le_refl _)⟩);have HRB : Hid (∀ P W W', R P W -> Below W.heap.size W W' -> R P W') := Lib.hid (by rw [hR]; intro P W W' h1 h2; exact h1.below h2);have HRM : Hid (∀ P P' W, R P W -> (∀ l, l.length = n -> P l -> P' l) -> R P' W) := Lib.hid (by rw [hR]; intro P P' W h1 h2; exact h1.imp h2);rw [<- hR] at HZ HORD HSW ⊢;clear h hz hno hp hr hn hR
 go_enter Tryz.func82, Tryz.ntmps82
 go_wp2_with fail
 go_loopw [5, 6, 7] (fun s5 s6 s7 wr => ∃ i : Nat, i <= zs.length /\ s5 = .int .i64 i /\ Hid (R (fun l => ∀ j, j < i -> ((l.getD j 0 : Nat) : Int) = at0 zs j) wr)) (fun s5 _ _ _ => zs.length - (intOf s5).toNat)
 case atStart => exact ⟨0, Nat.zero_le _, rfl, HR0⟩
 case round =>
  obtain ⟨i, hi, rfl, HR⟩ := hrel
  by_cases hlt : i < zs.length
  ·
   have hiz : (i : Int) < zs.length := by omega
   have hperm : PermP zs n := by rcases HP.out with e | e
                                 ·
                                  omega
                                 ·
                                  exact e
   have hzn : zs.length = n := hperm.len;obtain ⟨zi, hzi, ezi⟩ := hperm.lt i (by omega);have HOR := Lib.hid (HORD.out wr _ HR.out);have HINJ := Lib.hid hperm.inj;clear hperm;go_wp2_with fail;refine HOR.out.mono ?_;rintro x w3 ⟨av, cv, l, rfl, hll, hla, hod, hmem, hinj, hb3, hr3⟩;obtain ⟨p, hpn, hpe⟩ := hmem zi hzi;have hip : i <= p := by
    rcases Nat.lt_or_ge p i with h | h
    ·
     exfalso;have e1 := hod p h;rw [hpe, <- ezi] at e1;have := HINJ.out i p (by omega) hpn e1;omega
    ·
     exact h
   have HLA := Lib.hid hla;have HOD := Lib.hid hod;have HPE := Lib.hid hpe;have HIJ := Lib.hid hinj;have HR3 := Lib.hid hr3;have hnn : ((n : Int) != (zs.length : Int)) = false := by rw [hzn]; simp
   obtain ⟨bz, oz, ea, cz⟩ := (HZ.out w3 _ hr3).cells i hlt;subst ea;rw [ezi] at cz;have EZI := Lib.hid ezi;clear hla hod hpe hinj hr3 hmem HOR hb3 ezi;go_wp2_with fail
   go_loopw [7] (fun s7 wr => ∃ q : Nat, i <= q /\ q <= p /\ s7 = .int .i64 q /\ Hid (Below w3.heap.size w3 wr)) (fun s7 _ => p - (intOf s7).toNat)
   case atStart => exact ⟨i, Nat.le_refl _, hip, rfl, Lib.hid (Below.refl _ _)⟩
   case round =>
    rename World => wq
    obtain ⟨q, hq1, hq2, rfl, HBQ⟩ := hrel;have hqn : (q : Int) < (n : Int) := by omega
    have hqn' : q < n := by omega
    obtain ⟨bv, ov, rfl, cq⟩ := (HLA.out.below HBQ.out).cells q (by rw [List.length_map, hll]; exact hqn');have cz' := (HBQ.out.cell (p := ⟨bz, oz + i, none⟩) (lt_of_cell cz)).trans cz;rw [at0_nat (by rw [hll]; exact hqn')] at cq;obtain ⟨y, hy⟩ : ∃ y, y = l.getD q 0 := ⟨_, rfl⟩;rw [<- hy] at cq;have HY := Lib.hid hy;clear hy;go_upto_region 8 with fail;refine wp_region_mix (fun W : World => W.cell? ⟨bv, ov + q, none⟩ = some (.int .i64 (y : Nat)) /\ W.cell? ⟨bz, oz + i, none⟩ = some (.int .i64 (zi : Nat)) /\ Hid (Below w3.heap.size w3 W)) false 15
     [(0, false), (1, false), (2, false), (3, false), (4, false), (5, false), (6, false), (7, false), (8, false), (9, false), (10, false), (11, false), (12, false), (13, false), (14, false)] (by kernel_rfl) (by kernel_rfl) ⟨cq, cz', Lib.hid (HBQ.out.trans ((below_draw wq 1).mono HBQ.out.size))⟩ ?_
    simp only [planned, plnLz]
    iterate 5
     refine mix_readE rfl ?_;apply Exists.intro;refine ⟨fun w' hw => ?_, ?_⟩
     ·
      obtain ⟨h1, h2, _⟩ := hw;go_simp;rfl
     simp only [putLz]
    iterate 9
     refine mix_readGE true (by go_simp) ?_;apply Exists.intro;refine ⟨fun hgd w' hw => ?_, ?_⟩
     ·
      obtain ⟨h1, h2, _⟩ := hw;go_simp;rfl
     simp only [putLz]
    iterate 1
     refine mix_readE rfl ?_;apply Exists.intro;refine ⟨fun w' hw => ?_, ?_⟩
     ·
      obtain ⟨h1, h2, _⟩ := hw;go_simp;rfl
     simp only [putLz]
    refine mix_end ?_
    by_cases hqp : q < p
    ·
     have hne : ((y : Int) != (zi : Int)) = true := by
      simp only [bne_iff_ne, ne_eq];intro e;have e2 : l.getD q 0 = l.getD p 0 := by rw [HPE.out, <- HY.out]; omega
      have := HIJ.out q p hqn' hpn e2;omega
     go_wp2_with fail;go_roundw
     case rel => exact ⟨q + 1, by omega, by omega, by go_num, Lib.hid (HBQ.out.trans ((below_draw wq 1).mono HBQ.out.size))⟩
     case measure => simp [intOf]; omega
    ·
     obtain rfl : q = p := by omega
     have hne : ((y : Int) != (zi : Int)) = false := by
      have : y = zi := by rw [HY.out, HPE.out]
      rw [this]; simp
     have hqe : ((q : Int) == (n : Int)) = false := by simp; omega
     have HR4 : Hid (R (fun l' => (∀ j, j < i -> ((l'.getD j 0 : Nat) : Int) = at0 zs j) /\ l'.getD q 0 = zi) wq.drew) := Lib.hid (by
      have h1 := HRB.out _ _ _ HR3.out (HBQ.out.trans ((below_draw wq 1).mono HBQ.out.size));exact HRM.out _ _ _ h1 fun l' _ e => by subst e; exact ⟨HOD.out, HPE.out⟩)
     rw [hne];clear HR3 HBQ HLA cq cz cz' hne;go_wp2_with fail
     go_loopw [4, 7] (fun s4 s7 wr => ∃ q : Nat, i <= q /\ q < n /\ s7 = .int .i64 q /\ Hid (R (fun l' => (∀ j, j < i -> ((l'.getD j 0 : Nat) : Int) = at0 zs j) /\ l'.getD q 0 = zi) wr)) (fun _ s7 _ => (intOf s7).toNat)
     case atStart => exact ⟨q, hq1, hqn', rfl, HR4⟩
     case round =>
      clear HR4 HY HPE
      rename World => wt
      obtain ⟨t, ht1, ht2, rfl, HRT⟩ := hrel
      by_cases hti : i < t
      ·
       obtain ⟨t', rfl⟩ : ∃ t', t = t' + 1 := ⟨t - 1, by omega⟩;have htz : ((t' + 1 : Nat) : Int) > i := by omega
       have HS := Lib.hid (HSW.out wt _ HRT.out t' ht2 (fun l' => (∀ j, j < i -> ((l'.getD j 0 : Nat) : Int) = at0 zs j) /\ l'.getD t' 0 = zi) (fun l' hl ⟨g1, g2⟩ => ⟨fun j hj => by rw [exL_ne (by omega) (by omega)]; exact g1 j hj, by rw [exL_here (by omega)]; exact g2⟩));have hsub : ((t' + 1 : Nat) : Int) - 1 = (t' : Nat) := by omega
       go_upto_region 14 with fail;go_wp2_with fail;refine HS.out.mono ?_;rintro x w5 ⟨rfl, hr5⟩;have HR5 := Lib.hid hr5;clear hr5 HS HRT;go_wp2_with fail;go_roundw
       case rel => exact ⟨t', by omega, by omega, by go_num, HR5⟩
       case measure => simp [intOf]
      ·
       obtain rfl : t = i := by omega
       have HR6 : Hid (R (fun l => ∀ j, j < t + 1 -> ((l.getD j 0 : Nat) : Int) = at0 zs j) wt) := Lib.hid (by
        refine HRM.out _ _ _ HRT.out fun l' _ ⟨g1, g2⟩ j hj => ?_
        rcases Nat.lt_or_ge j t with h | h
        ·
         exact g1 j h
        ·
         obtain rfl : j = t := by omega
         rw [g2, EZI.out])
       have htz : ¬ (t : Int) > t := by omega
       go_wp2_with fail;go_roundw
       case rel => exact ⟨t + 1, by omega, by go_num, HR6⟩
       case measure => simp [intOf]; omega
  ·
   have he : i = zs.length := by omega
   have hiz : ¬ (i : Int) < zs.length := by omega
   go_wp2_with fail;go_ret;exact ⟨rfl, by rw [<- he]; exact HR.out⟩
end
open Go.RowKit
theorem list06_any (i n : Nat) (hi : i <= 1048576) (hn : n <= 16) (w : World) : Calls Tryz.prog 120 #[.int .i64 i, .int .i64 n] w fun x w' => ∃ v, x = .returned v /\ OwnB w' w.heap.size v (bitsL i n) /\ Below w.heap.size w w' := by
 go_enter Tryz.func120, Tryz.ntmps120
 go_wp2_with fail
 go_loopw [0, 5, 6] (fun s0 s5 s6 wr => ∃ j q : Nat, j <= n /\ q <= 1048576 /\ s6 = .int .i64 j /\ s0 = .int .i64 q /\ Hid (i / 2 ^ j = q) /\ OwnB wr w.heap.size s5 (bitsL i j) /\ w.heap.size <= wr.heap.size /\ Below w.heap.size w wr) (fun _ _ s6 _ => n - (intOf s6).toNat)
 case atStart => exact ⟨0, i, Nat.zero_le _, hi, rfl, rfl, Lib.hid (by simp), ownC_new _ w _ (Nat.le_refl _), by simp, below_new1 w _⟩
 case round =>
  obtain ⟨j, q, hj, hq, rfl, rfl, HQ, hown, hsz, hbel⟩ := hrel
  by_cases hlt : j < n
  ·
   have HB : Hid (((q : Int).tmod 2 == 1) = bitB i j) := by
    refine Lib.hid ?_;rw [tmod2];unfold bitB;rw [HQ.out]
   have HOWN := Lib.hid hown;have HBEL := Lib.hid hbel;clear hown hbel;go_wp2_with (at_builtin; refine wpList_appC elemBool _ rfl _ _ rfl w.heap.size _ (boolsV (bitsL i j)) _ rfl rfl rfl rfl rfl (by exact HOWN.out) (by simp [boolsV, bitsL_length]; omega) hsz ?_; intro v1 w1 hown1 e1 e2 e3 e4 hk1);go_roundw
   case rel =>
    refine ⟨j + 1, q / 2, by omega, by omega, by go_num, by go_num, Lib.hid ?_, ?_, by omega, below_app HBEL.out HOWN.out e1 e2 e3 e4 hk1 hsz⟩
    ·
     rw [Nat.pow_succ, <- Nat.div_div_eq_div_mul, HQ.out]
    ·
     rw [bitsL_succ];unfold OwnB;rw [boolsV_snoc, <- HB.out];exact hown1
   case measure => simp [intOf]; omega
  ·
   have he : j = n := by omega
   subst he;have HOWN := Lib.hid hown;have HBEL := Lib.hid hbel;clear hown hbel;go_wp2_with fail;go_ret;exact ⟨_, rfl, HOWN.out, HBEL.out⟩
theorem run_appC {T ST : TypeId} {z : Value} {b : Nat} (E : ElemT T ST z b) (ty : TypeId) (wr : World) (base : Nat) (v : Value) (xs : List Value) (y : Value) (hy : y.oneCell' = true) (hown : OwnC T wr base v xs) (hlen : xs.length < 1099511627776) (hbase : base <= wr.heap.size) :
 ∃ v' w', (Builtin.append_ #[ST, ST] ty #[v, .slice (some ⟨wr.heap.size, 0, none⟩) 1 1]).run Tryz.prog (wr.alloc (.cells #[y] T)) = .ok v' w' /\
  OwnC T w' base v' (xs ++ [y]) /\ w'.os = wr.os /\ w'.tape = wr.tape /\ w'.output = wr.output /\ wr.heap.size <= w'.heap.size /\ KeepApp v v' wr w' := by
 obtain ⟨i, hi, hz, hsz, hby⟩ := info_parts E.info;have hsm := E.small;obtain ⟨v', w', hr, h1, h2, _, hloc⟩ := run_append_own_at (P := Tryz.prog) (wr.alloc (.cells #[y] T)) base ST ty T i z 1 b E.under hi hz hsz hby (by rw [E.one]; rfl) (by decide)
  v xs.length xs (hown.alloc _) ⟨wr.heap.size, 0, none⟩ 1 1 [y] rfl (cell_one_new _ _ _) (by intro u hu; simp at hu; subst hu; exact hy) (by unfold maxLen; omega) (by
   have h1 : (xs.length + 1) * b <= 1099511627776 * 100 := Nat.mul_le_mul (by omega) hsm;omega) (by simp; omega)
 refine ⟨v', w', hr, ?_, h2.os, h2.tape, h2.output, ?_, ⟨keepBut_of_grown h2, hloc.imp id fun e => ⟨_, e, by simp⟩⟩⟩
 ·
  unfold OwnC;rw [List.length_append]; exact h1
 ·
  have := h2.size; simp at this; omega
theorem OwnC.lower {T : TypeId} {w : World} {base b : Nat} {v : Value} {xs : List Value} (h : OwnC T w base v xs) (hb : b <= base) : OwnC T w b v xs := by
 refine ⟨h.1, ?_⟩;rcases h.2 with hn | ⟨g, cap, cur, rfl, hb', rest⟩
 ·
  exact .inl hn
 ·
  exact .inr ⟨g, cap, cur, rfl, by omega, rest⟩
theorem ref06Table_any (e : ExT) (x : Value) (n : Nat) (hn : n <= 12) (w : World) (hs : e.size <= 4096) (hok : okT e 1) (h : ExprAt w e x) :
 Calls Tryz.prog 84 #[x, .int .i64 n] w fun y w' => ∃ v, y = .returned v /\ OwnB w' w.heap.size v (tabB n (fnT e)) /\ Below w.heap.size w w' := by
 have HCH : Hid (∀ W, Below w.heap.size w W -> ∀ u, u = x -> Calls Tryz.prog 73 #[u] W fun y w' => y = .returned (.int .i64 0) /\ Below W.heap.size W w') := Lib.hid fun W hb u hu => by
  subst hu
  exact (check06_any e _ W hs (h.below hb)).mono (by
   rintro y w' ⟨err, rfl, h1, h2⟩;rw [h1.2 hok];exact ⟨rfl, h2⟩)
 have HVAL : Hid (∀ W, Below w.heap.size w W -> ∀ u, u = x -> ∀ (ls : List Bool) al cl, BoolsAt W al ls -> Calls Tryz.prog 119 #[u, .slice al ls.length cl] W fun y w' => y = .returned (.bool (fnT e (envOf ls))) /\ Below W.heap.size W w') := Lib.hid fun W hb u hu ls al cl hl => by
  subst hu;exact value06_any ls al cl e _ W hok.valid (h.below hb) hl
 have HLIST : Hid (∀ j, j <= 1048576 -> ∀ W, Calls Tryz.prog 120 #[.int .i64 (j : Nat), .int .i64 n] W fun x w' => ∃ v, x = .returned v /\ OwnB w' W.heap.size v (bitsL j n) /\ Below W.heap.size W w') := Lib.hid fun j hj W => list06_any j n hj (by omega) W
 have HS : Hid (∀ k, k <= n -> 2 ^ k <= 4096) := Lib.hid fun k hk => Nat.le_trans (Nat.pow_le_pow_right (by omega) (show k <= 12 by omega)) (by decide)
 obtain ⟨x0, x1, x2, hx, o0, o1, o2⟩ := h.agg;subst hx;obtain ⟨w1, hw1⟩ : ∃ w1, w1 = w.alloc (.cells #[x0, x1, x2] 39) := ⟨_, rfl⟩;have HW1 : Hid (_ = w1) := Lib.hid hw1.symm;have HB1 : Hid (Below w.heap.size w w1) := by rw [hw1]; exact Lib.hid (below_new1 _ _)
 have hblk : w1.heap[w.heap.size]? = some (.cells #[x0, x1, x2] 39 (0, 0)) := by rw [hw1]; exact heap_alloc_new _ _
 have hs1 : w1.heap.size = w.heap.size + 1 := by rw [hw1]; simp
 have d0 : w1.cell? ⟨w.heap.size, 0, none⟩ = some x0 := by rw [cell_of_row _ _ 0 _ _ _ hblk]; rfl
 have d1 : w1.cell? ⟨w.heap.size, 1, none⟩ = some x1 := by rw [cell_of_row _ _ 1 _ _ _ hblk]; rfl
 have d2 : w1.cell? ⟨w.heap.size, 2, none⟩ = some x2 := by rw [cell_of_row _ _ 2 _ _ _ hblk]; rfl
 obtain ⟨L, hL⟩ : ∃ L, L = 2 ^ n := ⟨_, rfl⟩;have HLL := Lib.hid hL;obtain ⟨G, hG⟩ : ∃ G : Nat -> Bool, G = fun i => fnT e (envOf (bitsL i n)) := ⟨_, rfl⟩
 have HG : Hid (∀ i, fnT e (envOf (bitsL i n)) = G i) := Lib.hid fun i => by rw [hG]
 have HT : Hid (tabB n (fnT e) = (List.range L).map G) := Lib.hid (by rw [hL, hG]; rfl);have hL4 : L <= 4096 := by rw [hL]; exact HS.out n (Nat.le_refl _)
 rw [HT.out];clear h hw1 hblk hG hL
 go_enter Tryz.func84, Tryz.ntmps84
 go_upto_region 1 with fail;rw [HW1.out];have hn0 : ¬ (n : Int) < 0 := by omega
 have hn12 : ¬ (n : Int) > 12 := by omega
 go_wp2_with fail;refine (HCH.out _ HB1.out _ rfl).mono ?_;rintro y w2 ⟨rfl, hb2⟩;have HB2 := Lib.hid hb2;clear hb2 HCH;go_wp2_with fail
 go_loopw [5, 6] (fun s5 s6 wr => ∃ k p : Nat, k <= n /\ s5 = .int .i64 p /\ s6 = .int .i64 k /\ Hid (wr = w2) /\ Hid (2 ^ k = p)) (fun _ s6 _ => n - (intOf s6).toNat)
 case atStart => exact ⟨0, 1, Nat.zero_le _, rfl, rfl, Lib.hid rfl, Lib.hid rfl⟩
 case round =>
  obtain ⟨k, p, hk, rfl, rfl, HWR, HP⟩ := hrel;have hpb : p <= 4096 := by rw [<- HP.out]; exact HS.out k hk
  by_cases hlt : k < n
  ·
   go_wp2_with fail;go_roundw
   case rel => exact ⟨k + 1, 2 * p, by omega, by go_num, by go_num, HWR, Lib.hid (by rw [Nat.pow_succ, HP.out]; omega)⟩
   case measure => simp [intOf]; omega
  ·
   obtain rfl : k = n := by omega
   obtain rfl : p = L := by rw [<- HP.out, HLL.out]
   have hw2 := HWR.out;subst hw2;obtain ⟨w3, hw3⟩ : ∃ w3, w3 = wr.alloc (.cells #[] 4) := ⟨_, rfl⟩;have HW3 : Hid (_ = w3) := Lib.hid hw3.symm;have hb3 : Below w1.heap.size w1 w3 := by rw [hw3]; exact HB2.out.trans ((below_new1 _ _).mono HB2.out.size)
   have HOWN : Hid (OwnB w3 w1.heap.size (.slice (some ⟨wr.heap.size, 0, none⟩) 0 0) []) := by rw [hw3]; exact Lib.hid (ownC_new _ _ _ HB2.out.size)
   have HB3 := Lib.hid hb3;have hs3 : w1.heap.size <= w3.heap.size := hb3.size;clear hw3 hb3 hlt;go_upto_region 9 with fail;rw [HW3.out];go_wp2_with fail
   go_loopw [7, 8] (fun s7 s8 wr => ∃ j : Nat, j <= p /\ s8 = .int .i64 j /\ Hid (OwnB wr w1.heap.size s7 ((List.range j).map G)) /\ Hid (Below w1.heap.size w1 wr) /\ w1.heap.size <= wr.heap.size) (fun _ s8 _ => p - (intOf s8).toNat)
   case atStart => exact ⟨0, Nat.zero_le _, rfl, HOWN, HB3, hs3⟩
   case round =>
    clear HOWN HB3 hs3 HW3 HWR HB2
    rename World => wq
    obtain ⟨j, hj, rfl, HOW, HBEL, hsz⟩ := hrel
    by_cases hlt : j < p
    ·
     have e0 := (HBEL.out.cell (p := ⟨w.heap.size, 0, none⟩) (lt_of_cell d0)).trans d0;have e1 := (HBEL.out.cell (p := ⟨w.heap.size, 1, none⟩) (lt_of_cell d1)).trans d1;have e2 := (HBEL.out.cell (p := ⟨w.heap.size, 2, none⟩) (lt_of_cell d2)).trans d2;have HL := Lib.hid (HLIST.out j (by omega) wq.drew);go_upto_region 12 with fail;refine wp_region_mix (fun W : World => W.cell? ⟨w.heap.size, 0, none⟩ = some x0 /\ W.cell? ⟨w.heap.size, 1, none⟩ = some x1 /\ W.cell? ⟨w.heap.size, 2, none⟩ = some x2) false 9
      [(0, false), (1, false), (2, false), (3, false), (4, true), (5, true), (6, true), (7, true), (8, false)] (by kernel_rfl) (by kernel_rfl) ⟨e0, e1, e2⟩ ?_
     simp only [planned, plnLz]
     iterate 4
      refine mix_readE rfl ?_;apply Exists.intro;refine ⟨fun w' hw => ?_, ?_⟩
      ·
       obtain ⟨h1, h2, h3⟩ := hw;go_simp;rfl
      simp only [putLz]
     refine mix_callR (R := fun v w' => BoolsIs w' v (bitsL j k) /\ Below wq.heap.size wq w') rfl (by go_simp) (HL.out.mono (fun e w' he => ?_)) ?_
     ·
      obtain ⟨v, rfl, q1, q2⟩ := he;have q3 : Below wq.heap.size wq w' := (below_draw wq 1).trans (q2.mono (below_draw wq 1).size);exact ⟨v, rfl, ⟨(q3.cell (p := ⟨w.heap.size, 0, none⟩) (lt_of_cell e0)).trans e0, (q3.cell (p := ⟨w.heap.size, 1, none⟩) (lt_of_cell e1)).trans e1, (q3.cell (p := ⟨w.heap.size, 2, none⟩) (lt_of_cell e2)).trans e2⟩, q1.boolsIs (by rw [bitsL_length]; omega), q3⟩
     rintro v w4 ⟨f0, f1, f2⟩ ⟨⟨av, cv, rfl, hbs, -⟩, hb4⟩;have HBS := Lib.hid hbs;have HB4 := Lib.hid hb4;clear hbs hb4 e0 e1 e2 HL;simp only [putLz];refine mix_callR (R := fun v w' => v = .bool (G j) /\ Below w4.heap.size w4 w') rfl (by go_simp) ((HVAL.out w4 (HB1.out.trans ((HBEL.out.trans (HB4.out.mono HBEL.out.size)).mono HB1.out.size)) _ rfl (bitsL j k) av cv HBS.out).mono (fun e w' he => ?_)) ?_
     ·
      obtain ⟨rfl, q3⟩ := he;exact ⟨_, rfl, ⟨(q3.cell (p := ⟨w.heap.size, 0, none⟩) (lt_of_cell f0)).trans f0, (q3.cell (p := ⟨w.heap.size, 1, none⟩) (lt_of_cell f1)).trans f1, (q3.cell (p := ⟨w.heap.size, 2, none⟩) (lt_of_cell f2)).trans f2⟩, by rw [HG.out], q3⟩
     rintro v w5 ⟨g0, g1, g2⟩ ⟨rfl, hb5⟩;obtain ⟨y, hy⟩ : ∃ y, y = G j := ⟨_, rfl⟩;rw [<- hy];have HYY : Hid (boolsV ((List.range (j + 1)).map G) = boolsV ((List.range j).map G) ++ [.bool y]) := Lib.hid (by rw [range_snoc, boolsV_snoc, hy]);have hbq := HB4.out.trans (hb5.mono HB4.out.size);have HB5 := Lib.hid (HBEL.out.trans (hbq.mono HBEL.out.size));have HOW5 := Lib.hid (HOW.out.below hbq);have hsz5 : w1.heap.size <= w5.heap.size := Nat.le_trans hsz hbq.size;clear hb5 hbq f0 f1 f2 hy HBS HB4;simp only [putLz];have hbn := below_new1 w5 (.cells #[.bool y] 4);refine mix_value (v := .slice (some ⟨w5.heap.size, 0, none⟩) 1 1) (w' := w5.alloc (.cells #[.bool y] 4)) rfl (by go_simp) ⟨(hbn.cell (p := ⟨w.heap.size, 0, none⟩) (lt_of_cell g0)).trans g0, (hbn.cell (p := ⟨w.heap.size, 1, none⟩) (lt_of_cell g1)).trans g1, (hbn.cell (p := ⟨w.heap.size, 2, none⟩) (lt_of_cell g2)).trans g2⟩ ?_;simp only [putLz];obtain ⟨v6, w6, hr6, hown6, q1, q2, q3, q4, hk6⟩ := run_appC elemBool 36 w5 w1.heap.size _ (boolsV ((List.range j).map G)) (.bool y) rfl HOW5.out (by simp [boolsV]; omega) hsz5;have hb6 := below_app HB5.out HOW5.out q1 q2 q3 q4 hk6 hsz5;refine mix_value (v := v6) (w' := w6) rfl (exec_append rfl rfl rfl hr6) ⟨(hb6.cell (p := ⟨w.heap.size, 0, none⟩) (lt_of_cell d0)).trans d0, (hb6.cell (p := ⟨w.heap.size, 1, none⟩) (lt_of_cell d1)).trans d1, (hb6.cell (p := ⟨w.heap.size, 2, none⟩) (lt_of_cell d2)).trans d2⟩ ?_;simp only [putLz]
     iterate 1
      refine mix_readE rfl ?_;apply Exists.intro;refine ⟨fun w' hw => ?_, ?_⟩
      ·
       obtain ⟨h1, h2, h3⟩ := hw;go_simp;rfl
      simp only [putLz]
     refine mix_end ?_;have HB6 := Lib.hid hb6;have HOW6 := Lib.hid hown6;have hsz6 : w1.heap.size <= w6.heap.size := by omega
     clear hb6 hown6 q1 q2 q3 q4 hk6 hr6 g0 g1 g2 hbn;go_wp2_with fail;go_roundw
     case rel => exact ⟨j + 1, by omega, by go_num, Lib.hid (by unfold OwnB; rw [HYY.out]; exact HOW6.out), HB6, hsz6⟩
     case measure => simp [intOf]; omega
    ·
     obtain rfl : j = p := by omega
     have HF : Hid (∃ v, Ending.returned u7 = .returned v /\ OwnB wq w.heap.size v ((List.range j).map G) /\ Below w.heap.size w wq) := Lib.hid ⟨u7, rfl, HOW.out.lower (by omega), HB1.out.trans (HBEL.out.mono HB1.out.size)⟩;go_wp2_with fail;go_ret;exact HF.out
open Go.RowKit
section
variable {P : Program} (w : World)
theorem run_append_roomO (t ty e : TypeId) (i : TypeInfo) (ht : P.underlying t = some (.slice e)) (hi : P.info? e = some i)
 (g off sLen sCap : Nat) (cur : Array Value) (hg : w.heap[g]? = some (.cells cur e (0, 0)))
 (a : Addr) (m c : Nat) (news : List Value) (hl : news.length = m * i.size) (hnews : ∀ j u, news[j]? = some u -> w.cell? (a.add j) = some u) (h1 : ∀ u ∈ news, u.oneCell' = true)
 (hroom : sLen + m <= sCap) (hfit : off + sLen * i.size + news.length <= cur.size) :
 (Builtin.append_ #[t, t] ty #[.slice (some ⟨g, off, none⟩) sLen sCap, .slice (some a) m c]).run P w =
  .ok (.slice (some ⟨g, off, none⟩) (sLen + m) sCap) (w.setRow g (cur.toList.take (off + sLen * i.size) ++ news ++ cur.toList.drop (off + sLen * i.size + news.length)).toArray) := by
 have hf := run_firstCells_some (P := P) w i.size m a m c news hl hnews;have hst := run_storeCells_at P g (off + sLen * i.size) e news 0 cur w hg (by simpa using hfit) h1;simp only [Nat.add_zero] at hst;have hadd : (⟨g, off, none⟩ : Addr).add (sLen * i.size) = ⟨g, off + sLen * i.size, none⟩ := by unfold Addr.add; split <;> simp_all
 simp [Builtin.append_, run_underlying ht, sizeOf, typeInfo, hi, Builtin.lenOf, hroom, hf, hadd, hst]
end
theorem infoEv : (Tryz.prog.info? 94).map (fun i => (i.zero, i.size, i.bytes)) = some (some (.agg #[.int .i64 0, .int .i64 0, .int .i64 0]), 3, 24) := by kernel_rfl
theorem evs_get (l : List Ev) : ∀ (j : Nat) (u : Value), (l.flatMap evL)[j]? = some u -> ∃ hk : j / 3 < l.length, (evL (l[j / 3]))[j % 3]? = some u := by
 induction l with
 | nil => intro j u h; simp at h
 | cons e l ih =>
   intro j u h;rw [List.flatMap_cons] at h
   by_cases hj : j < 3
   ·
    rw [List.getElem?_append_left (by show j < 3; exact hj)] at h;have e0 : j / 3 = 0 := by omega
    refine ⟨by rw [e0]; simp, ?_⟩;have e1 : j % 3 = j := by omega
    simp only [e0, e1, List.getElem_cons_zero];exact h
   ·
    rw [List.getElem?_append_right (by show 3 <= j; omega)] at h;obtain ⟨hk, h2⟩ := ih (j - 3) u h;have e0 : j / 3 = (j - 3) / 3 + 1 := by omega
    have e1 : j % 3 = (j - 3) % 3 := by omega
    refine ⟨by rw [e0, List.length_cons]; omega, ?_⟩;simp only [e0, e1, List.getElem_cons_succ];exact h2
theorem EvsAt.news {w : World} {b off : Nat} {l : List Ev} (h : EvsAt w (some ⟨b, off, none⟩) l) : ∀ j u, (l.flatMap evL)[j]? = some u -> w.cell? ((⟨b, off, none⟩ : Addr).add j) = some u := by
 intro j u hu;have hadd : (⟨b, off, none⟩ : Addr).add j = ⟨b, off + j, none⟩ := by unfold Addr.add; split <;> simp_all
 obtain ⟨hk, h2⟩ := evs_get l j u hu;obtain ⟨b', off', e, c0, c1, c2⟩ := h.cells (j / 3) hk;cases e;rw [hadd];have hm : j % 3 < 3 := Nat.mod_lt _ (by decide);rcases (by omega : j % 3 = 0 \/ j % 3 = 1 \/ j % 3 = 2) with e | e | e <;> rw [e] at h2
 ·
  have e2 : j = j / 3 * 3 := by omega
  rw [e2, c0]; exact h2
 ·
  have e2 : j = j / 3 * 3 + 1 := by omega
  rw [e2, <- Nat.add_assoc, c1]; exact h2
 ·
  have e2 : j = j / 3 * 3 + 2 := by omega
  rw [e2, <- Nat.add_assoc, c2]; exact h2
theorem evs_one (l : List Ev) : ∀ u ∈ l.flatMap evL, u.oneCell' = true := by
 intro u hu;obtain ⟨e, _, h⟩ := List.mem_flatMap.1 hu;simp only [evL, List.mem_cons, List.not_mem_nil, or_false] at h;rcases h with rfl | rfl | rfl <;> rfl
theorem waits_append {o : Own} {w : World} {v : Value} {ws l : List Ev} {a : Option Addr} {c : Nat} (h : WaitsAt o w v ws) (hlt : OwnLt o w) (hev : EvsAt w a l) (hsm : ws.length + l.length <= 1000) (ty : TypeId) :
 ∃ v' w' o', (Builtin.append_ #[24, 24] ty #[v, .slice a l.length c]).run Tryz.prog w = .ok v' w' /\ WaitsAt o' w' v' (ws ++ l) /\ Chg (· = .waits) o o' w w' /\ OwnLt o' w' := by
 obtain ⟨i, hi, hz, hsz, hby⟩ := info_parts infoEv;have ht := Tryz.underlying24
 by_cases h0 : l = []
 ·
  subst h0;refine ⟨v, w, o, ?_, by rw [List.append_nil]; exact h, Chg.refl _ _ _, hlt⟩;rcases h.ex with ⟨rfl, rfl⟩ | ⟨g, off, cap, cur, rfl, _, _, hn, _⟩
  ·
   cases a <;> simp [Builtin.append_, run_underlying ht, sizeOf, typeInfo, hi, Builtin.lenOf, Builtin.firstCells, loadCells, loadCellsFrom]
  ·
   cases a <;> simp [Builtin.append_, run_underlying ht, sizeOf, typeInfo, hi, Builtin.lenOf, hn, Builtin.firstCells, storeCells, loadCells, loadCellsFrom]
 ·
  have hl0 : 0 < l.length := List.length_pos_iff.2 h0;obtain ⟨b, off, rfl, _⟩ := hev.cells 0 hl0;have hnews := hev.news;have hone := evs_one l;have hln : (l.flatMap evL).length = l.length * i.size := by rw [hsz]; exact evFlat_length l
  have hlf : (ws.flatMap evL ++ l.flatMap evL).length = (ws ++ l).length * 3 := by rw [List.length_append, evFlat_length, evFlat_length, List.length_append]; omega
  have mk : ∀ (old : Nat), WaitsAt (ownAt o w.heap.size .waits) (w.drew.alloc (.cells ((ws.flatMap evL).toArray ++ (l.flatMap evL).toArray ++ Builtin.zeroCells (Value.agg #[.int .i64 0, .int .i64 0, .int .i64 0]).cells (grownCap w (ws.length + l.length) old 94 - (ws.length + l.length))) 94)) (.slice (some ⟨w.heap.size, 0, none⟩) (ws.length + l.length) (grownCap w (ws.length + l.length) old 94)) (ws ++ l) /\
   Chg (· = .waits) o (ownAt o w.heap.size .waits) w (w.drew.alloc (.cells ((ws.flatMap evL).toArray ++ (l.flatMap evL).toArray ++ Builtin.zeroCells (Value.agg #[.int .i64 0, .int .i64 0, .int .i64 0]).cells (grownCap w (ws.length + l.length) old 94 - (ws.length + l.length))) 94)) /\
   OwnLt (ownAt o w.heap.size .waits) (w.drew.alloc (.cells ((ws.flatMap evL).toArray ++ (l.flatMap evL).toArray ++ Builtin.zeroCells (Value.agg #[.int .i64 0, .int .i64 0, .int .i64 0]).cells (grownCap w (ws.length + l.length) old 94 - (ws.length + l.length))) 94)) := by
   intro old;have hge := grownCap_ge w (ws.length + l.length) old 94;have hcm : grownCap w (ws.length + l.length) old 94 <= maxLen := grownCap_le_maxLen w _ old _ (by unfold maxLen; omega);refine ⟨⟨.inr ⟨w.heap.size, 0, _, _, by rw [List.length_append], ownAt_same _ _ _, heap_alloc_new w.drew _, by rw [List.length_append]; exact hge, hcm, ?_, ?_⟩⟩, ((Chg.refl (· = .waits) o w).drewN 1).allocR (w' := w.drewN 1) hlt _ rfl, OwnLt.allocR (w := w.drewN 1) hlt _ .waits⟩
   ·
    have e3 : (Value.agg #[.int .i64 0, .int .i64 0, .int .i64 0]).cells.size = 3 := rfl;simp only [Array.size_append, List.size_toArray, size_zeroCells, e3, evFlat_length, Nat.zero_add];omega
   ·
    simp only [Array.toList_append, List.drop_zero, List.flatMap_append];rw [List.take_left' hlf]
  rcases h.ex with ⟨rfl, rfl⟩ | ⟨g, off2, cap, cur, rfl, hog, hg, hnc, hcm, hcs, htake⟩
  ·
   have hr := run_append_nil (P := Tryz.prog) w 24 ty 94 i _ ht hi hz ⟨b, off, none⟩ l.length c (l.flatMap evL) hln hnews hl0 (by simp at hsm; omega) (by rw [hby]; simp at hsm; omega);have hm := mk 0;simp only [List.length_nil, Nat.zero_add, List.flatMap_nil, List.nil_append, Array.empty_append] at hm ⊢;exact ⟨_, _, _, hr, hm⟩
  ·
   by_cases hroom : ws.length + l.length <= cap
   ·
    have hfit : off2 + ws.length * i.size + (l.flatMap evL).length <= cur.size := by rw [hln, hsz]; omega
    have hr := run_append_roomO (P := Tryz.prog) w 24 ty 94 i ht hi g off2 ws.length cap cur hg ⟨b, off, none⟩ l.length c (l.flatMap evL) hln hnews hone hroom hfit;refine ⟨_, _, o, hr, ⟨.inr ⟨g, off2, cap, _, by rw [List.length_append], hog, setRow_heap w g cur _ _ _ hg, by rw [List.length_append]; exact hroom, hcm, ?_, ?_⟩⟩, ⟨rfl, rfl, rfl, by simp, fun k _ hk => setRow_other w g k _ (by rintro rfl; exact hk _ hog rfl), fun _ _ h => h, fun _ h => (h rfl).elim⟩, fun k q hq => by have := hlt k q hq; simpa using this⟩
    ·
     simp only [List.size_toArray, List.length_append, List.length_take, List.length_drop, Array.length_toList];omega
    ·
     rw [hsz] at hfit ⊢;have e1 : (cur.toList.take (off2 + ws.length * 3)).drop off2 = ws.flatMap evL := by
      rw [<- htake, List.drop_take, Nat.add_sub_cancel_left]
     have e2 : off2 <= (cur.toList.take (off2 + ws.length * 3)).length := by
      have hq : ws.length * 3 <= cap * 3 := Nat.mul_le_mul_right _ hnc;have hq2 : off2 + ws.length * 3 <= cur.size := by clear hfit; omega
      have hq3 : cur.toList.length = cur.size := Array.length_toList;rw [List.length_take, hq3, Nat.min_eq_left hq2]; exact Nat.le_add_right _ _
     simp only [List.append_assoc];rw [List.drop_append_of_le_length e2, e1, <- List.append_assoc, List.flatMap_append, List.take_left' hlf]
   ·
    have holds : ∀ j u, (ws.flatMap evL)[j]? = some u -> w.cell? ((⟨g, off2, none⟩ : Addr).add j) = some u := by
     intro j u hu;have hadd : (⟨g, off2, none⟩ : Addr).add j = ⟨g, off2 + j, none⟩ := by unfold Addr.add; split <;> simp_all
     rw [hadd, cell_of_row w g (off2 + j) cur _ _ hg];rw [<- htake, List.getElem?_take] at hu;split at hu
     ·
      rw [List.getElem?_drop] at hu;simpa using hu
     ·
      cases hu
    have hr := run_append_grow (P := Tryz.prog) w 24 ty 94 i _ ht hi hz ⟨g, off2, none⟩ ws.length cap (ws.flatMap evL) (by rw [hsz]; exact evFlat_length ws) holds ⟨b, off, none⟩ l.length c (l.flatMap evL) hln hnews (by omega) (by omega) (growslice_fits (by omega) (by rw [hby]; omega));exact ⟨_, _, _, hr, mk cap⟩
open Go.RowKit
theorem WaitsAt.form {o : Own} {w : World} {v : Value} {ws : List Ev} (h : WaitsAt o w v ws) : ∃ a c, v = .slice a ws.length c := by
 rcases h.ex with ⟨rfl, rfl⟩ | ⟨g, off, cap, cur, rfl, _⟩
 ·
  exact ⟨_, _, rfl⟩
 ·
  exact ⟨_, _, rfl⟩
theorem wpList_appE {P : Program} {ops : Array Oper} {rest : List Oper} {op : Oper} {a : Act} {Q : Exit -> Act -> World -> Prop} {w w' : World} {vs vx v' : Value} (hgd : op.guard = none) (s x : Operand) (t : TypeId)
 (hop : op.op = .call { callee := .builtin .append, args := #[s, x], argTypes := #[t, t] }) (hs : a.eval s = vs) (hx : a.eval x = vx) (hr : (Builtin.append_ #[t, t] op.type #[vs, vx]).run P w = .ok v' w')
 (hK : wpList P ops Q rest (a.put op.dst v') w') : wpList P ops Q (op :: rest) a w := by
 refine wpList_plain hgd fun K hKK => ?_
 unfold Oper.wp execOp;simp only [hop, resolve, invoke, builtin, Sem.run_bind, Sem.run_pure, Result.andThen_ok, List.map_toArray, List.map_cons, List.map_nil, hs, hx, hr];exact hKK _ _ hK
theorem ManIn.setWaits {F : Phi} {o o' : Own} {w w' : World} {mb : Nat} {m : ManD} {s : ManW} (h : ManIn F o w mb m s) (hlt : OwnLt o w) {v' : Value} {l' : List Ev} (hw : WaitsAt o' w' v' l') (hc : Chg (· = .waits) o o' w w') : ManIn F o' (w'.setCell ⟨mb, 4, none⟩ v') mb { m with waits := l' } { s with vw := v' } := by
 have key : ∀ {g r}, o g = some r -> r ≠ .man -> r ≠ .waits -> (w'.setCell ⟨mb, 4, none⟩ v').heap[g]? = w.heap[g]? := by
  intro g r hg h1 h2;refine (heap_setCell_ne (p := ⟨mb, 4, none⟩) (fun e => ?_) _).trans (hc.same hlt hg h2);have e' : g = mb := e;subst e';have := h.own; rw [hg] at this; cases this; exact h1 rfl
 refine ⟨hc.ext _ _ h.own, ?_, h.store.keepR (fun g r hg hr => key hg (by rintro rfl; simp [RStore, RPool] at hr) (by rintro rfl; simp [RStore, RPool] at hr)) hc.ext, h.memo.keep (fun g r hg hr => key hg (by rintro rfl; rcases hr with e | e <;> cases e) (by rintro rfl; rcases hr with e | e <;> cases e)) hc.ext, hc.ext _ _ h.ownh, h.map.keepB (key h.ownh (by simp) (by simp)), hw.keep (fun g hg => heap_setCell_ne (p := ⟨mb, 4, none⟩) (fun e => ?_) _) (fun _ h => h)⟩
 ·
  exact heap_setCell_same ((hc.same hlt h.own (by simp)).trans h.blk) _
 ·
  have e' : g = mb := e;subst e';have := hc.ext _ _ h.own; rw [hg] at this; cases this
section
variable {K : Law} {n : Nat} {Od : List Nat -> Prop} {room : Nat} {w0 w w' : World} {mb : Nat} {fs : List (Int × BF)} {nx : Int} {o o' : Own} {m m' : ManD} {V V' : Nat -> BF}
structure Planned (K : Law) (n : Nat) (Od : List Nat -> Prop) (room : Nat) (w0 : World) (mb : Nat) (fs : List (Int × BF)) (nx : Int) (o : Own) (w : World) (m : ManD) (V : Nat -> BF) (l : List Ev) (z : Int) (o' : Own) (w' : World) (m' : ManD) : Prop where
 sat : SatE K n Od room w0 mb fs nx w' o' m' V
 d : m'.d = m.d
 chg : Chg (fun _ => True) o o' w w'
 no : z ≠ 0 -> m'.waits = m.waits /\ m'.calls = m.calls
 yes : z = 0 -> m'.waits = m.waits ++ l /\ m'.calls = if m.waits = [] then 0 else m.calls
theorem manPlan_any (h : SatE K n Od room w0 mb fs nx w o m V) {a : Option Addr} {c : Nat} {l : List Ev} (hev : EvsAt w a l) (hno : 0 < l.length -> ∀ x, a = some x -> o x.block = none) (hwl : m.waits.length <= 256) :
 Calls Tryz.prog 37 #[.pointer (some ⟨mb, 0, none⟩), .slice a l.length c] w fun e w' => e = .returned (.int .i64 (planR n m.waits.length l)) /\ ∃ o' m', Planned K n Od room w0 mb fs nx o w m V l (planR n m.waits.length l) o' w' m' := by
 obtain ⟨Q, hQ⟩ : ∃ Q : Ending -> World -> Prop, Q = fun e w' => e = .returned (.int .i64 (planR n m.waits.length l)) /\ ∃ o' m', Planned K n Od room w0 mb fs nx o w m V l (planR n m.waits.length l) o' w' m' := ⟨_, rfl⟩
 rw [<- hQ];have HQ := Lib.hid hQ;clear hQ;have hll := hev.len;have hn64 : n <= 64 := by rw [<- h.vars]; exact h.ok.store.small
 obtain ⟨s, hs⟩ := h.is;obtain ⟨c0, c1, c2, c3, c4, c5, f0⟩ := cells6 hs.blk;obtain ⟨av, cv, hvw⟩ := hs.waits.form
 have HBAD : Hid (∀ (z : Int) W, Below w.heap.size w W -> planR n m.waits.length l = z -> z ≠ 0 -> Q (.returned (.int .i64 z)) W) := Lib.hid (by
  intro z W hb hz h0;rw [HQ.out, hz];exact ⟨rfl, o, m, h.below hb, rfl, Chg.of_below hb _ _, fun _ => ⟨rfl, rfl⟩, fun e => (h0 e).elim⟩)
 have HV : Hid (∀ W, Below w.heap.size w W -> Calls Tryz.prog 51 #[.pointer (some ⟨mb, 0, none⟩)] W fun e w' => e = .returned (.int .i64 n) /\ w' = W) := Lib.hid (fun W hb => (manVars_any (h.below hb).is).mono fun e w' q => ⟨by rw [q.1, h.vars], q.2.symm⟩);have HI := Lib.hid hev;have HS := Lib.hid hs;have HH := Lib.hid h;have HNO := Lib.hid hno;rw [hvw] at c4;have HVW := Lib.hid hvw;have HWL := Lib.hid hwl;clear h hs hev hno hvw
 by_cases hmany : (l.length : Int) > 256 - m.waits.length
 ·
  have HF := Lib.hid (HBAD.out 18 w (Below.refl _ _) (by unfold planR; rw [if_pos hmany]) (by decide))
  go_enter Tryz.func37, Tryz.ntmps37
  go_wp2_with fail;exact HF.out
 have HR : Hid (planR n m.waits.length l = planL n (l.drop 0)) := Lib.hid (by unfold planR; rw [if_neg hmany]; rfl);obtain ⟨P, hP⟩ : ∃ P, P = planR n m.waits.length l := ⟨_, rfl⟩;rw [<- hP] at HR HBAD;have HPE := Lib.hid hP;clear hP;have HM := Lib.hid hmany
 go_enter Tryz.func37, Tryz.ntmps37
 go_wp2_with fail
 go_loopw [20] (fun s20 wr => ∃ i : Nat, i <= l.length /\ s20 = .int .i64 i /\ Hid (Below w.heap.size w wr) /\ Hid (P = planL n (l.drop i))) (fun s20 _ => l.length - (intOf s20).toNat)
 case atStart => exact ⟨0, Nat.zero_le _, rfl, Lib.hid (Below.refl _ _), HR⟩
 case round =>
  clear HR;obtain ⟨i, hi, rfl, HB, HP⟩ := hrel
  by_cases hlt : i < l.length
  ·
   obtain ⟨b, off, rfl, e0, e1, e2⟩ := (HI.out.below HB.out).cells i hlt;have hiz : (i : Int) < l.length := by omega
   have HC : Hid (∀ z : Int, evCode n l[i] = z -> z ≠ 0 -> P = z) := Lib.hid fun z hz h0 => by rw [HP.out, planL_drop hlt, hz, if_neg h0]
   have HN : Hid (evCode n l[i] = 0 -> P = planL n (l.drop (i + 1))) := Lib.hid fun hz => by rw [HP.out, planL_drop hlt, hz, if_pos rfl]
   have HE : Hid (evCode n l[i] = if l[i].kind < 1 \/ l[i].kind > 3 then 11 else if l[i].after < 1 \/ (l[i].kind = 2 /\ (l[i].level < 0 \/ l[i].level > (n : Int) - 2)) then 2 else 0) := Lib.hid rfl;obtain ⟨ev, hev⟩ : ∃ ev, ev = l[i] := ⟨_, rfl⟩;rw [<- hev] at e0 e1 e2 HC HN HE;obtain ⟨af, ki, le⟩ := ev;dsimp only at e0 e1 e2 HE;clear hev HP c0 c1 c2 c3 c4 c5 f0;obtain ⟨W, hW⟩ : ∃ W, W = wr.alloc (.cells #[.int .i64 af, .int .i64 ki, .int .i64 le] 94) := ⟨_, rfl⟩;have hbW : Below w.heap.size w W := HB.out.trans ((show Below wr.heap.size wr W by rw [hW]; exact below_new1 wr _).mono HB.out.size);obtain ⟨bx, hbx⟩ : ∃ q, q = wr.heap.size := ⟨_, rfl⟩;have hx : W.heap[bx]? = some (.cells #[.int .i64 af, .int .i64 ki, .int .i64 le] 94 (0, 0)) := by rw [hW, hbx]; exact heap_alloc_new wr _
   have b0 : W.cell? ⟨bx, 0, none⟩ = some (.int .i64 af) := by rw [cell_of_row W _ 0 _ _ _ hx]; rfl
   have b1 : W.cell? ⟨bx, 1, none⟩ = some (.int .i64 ki) := by rw [cell_of_row W _ 1 _ _ _ hx]; rfl
   have b2 : W.cell? ⟨bx, 2, none⟩ = some (.int .i64 le) := by rw [cell_of_row W _ 2 _ _ _ hx]; rfl
   have HW := Lib.hid hW;have HBX := Lib.hid hbx;have HBW := Lib.hid hbW;have HVV : Hid (∀ q, Calls Tryz.prog 51 #[.pointer (some ⟨mb, 0, none⟩)] (W.drewN q) fun e w' => e = .returned (.int .i64 n) /\ w' = W.drewN q) := Lib.hid (fun q => HV.out _ (hbW.trans ((below_draw W q).mono hbW.size)));have HJL := Lib.hid hlt;clear hW hbx hbW hx;go_upto_region 8 with fail;rw [<- HW.out, <- HBX.out];have hki : ki < 1 \/ ki > 3 \/ (ki = 2) \/ (ki = 1 \/ ki = 3) := by omega
   rcases hki with hk | hk | hk | hk
   ·
    have HF := Lib.hid (HBAD.out 11 W HBW.out (HC.out 11 (by rw [HE.out, if_pos (.inl hk)]) (by decide)) (by decide));go_wp2_with fail;exact HF.out
   ·
    have HF := Lib.hid (HBAD.out 11 W HBW.out (HC.out 11 (by rw [HE.out, if_pos (.inr hk)]) (by decide)) (by decide));have hk1 : ¬ ki < 1 := by omega
    go_wp2_with fail;exact HF.out
   ·
    by_cases ha : af < 1
    ·
     have HF : Hid (∀ q, Q (.returned (.int .i64 2)) (W.drewN q)) := Lib.hid (fun q => HBAD.out 2 _ (HBW.out.trans ((below_draw W q).mono HBW.out.size)) (HC.out 2 (by rw [HE.out, if_neg (by omega), if_pos (.inl ha)]) (by decide)) (by decide));subst hk;go_upto_region 10 with fail
     go_quiet (with_reducible exact Calls.quiet_of_same (HVV.out _))
     go_wp2_with fail;exact HF.out _
    ·
     by_cases hl0 : le < 0
     ·
      have HF : Hid (∀ q, Q (.returned (.int .i64 2)) (W.drewN q)) := Lib.hid (fun q => HBAD.out 2 _ (HBW.out.trans ((below_draw W q).mono HBW.out.size)) (HC.out 2 (by rw [HE.out, if_neg (by omega), if_pos (.inr ⟨hk, .inl hl0⟩)]) (by decide)) (by decide));subst hk;go_upto_region 10 with fail
      go_quiet (with_reducible exact Calls.quiet_of_same (HVV.out _))
      go_wp2_with fail;exact HF.out _
     ·
      by_cases hl1 : le >= (n : Int) - 1
      ·
       have HF : Hid (∀ q, Q (.returned (.int .i64 2)) (W.drewN q)) := Lib.hid (fun q => HBAD.out 2 _ (HBW.out.trans ((below_draw W q).mono HBW.out.size)) (HC.out 2 (by rw [HE.out, if_neg (by omega), if_pos (.inr ⟨hk, .inr (by omega)⟩)]) (by decide)) (by decide));subst hk;go_upto_region 10 with fail
       go_quiet (with_reducible exact Calls.quiet_of_same (HVV.out _))
       go_wp2_with fail;exact HF.out _
      ·
       have HPP := Lib.hid (HN.out (by rw [HE.out, if_neg (by omega), if_neg (by omega)]));subst hk;go_upto_region 10 with fail
       go_quiet (with_reducible exact Calls.quiet_of_same (HVV.out _))
       have HBQ := Lib.hid (HBW.out.trans ((below_draw W nq).mono HBW.out.size));go_wp2_with fail;go_roundw
       case rel => exact ⟨i + 1, Nat.succ_le_of_lt HJL.out, by go_num, HBQ, HPP⟩
       case measure =>
        have := HJL.out;simp [intOf];omega
   ·
    have hk1 : ¬ ki < 1 := by omega
    have hk2 : ¬ ki > 3 := by omega
    have hk3 : (ki == 2) = false := by simp; omega
    by_cases ha : af < 1
    ·
     have HF : Hid (∀ q, Q (.returned (.int .i64 2)) (W.drewN q)) := Lib.hid (fun q => HBAD.out 2 _ (HBW.out.trans ((below_draw W q).mono HBW.out.size)) (HC.out 2 (by rw [HE.out, if_neg (by omega), if_pos (.inl ha)]) (by decide)) (by decide));clear hk;go_upto_region 10 with fail
     go_quiet (with_reducible exact Calls.quiet_of_same (HVV.out _))
     go_wp2_with fail;exact HF.out _
    ·
     have HPP := Lib.hid (HN.out (by rw [HE.out, if_neg (by omega), if_neg (by omega)]));clear hk;go_upto_region 10 with fail
     go_quiet (with_reducible exact Calls.quiet_of_same (HVV.out _))
     have HBQ := Lib.hid (HBW.out.trans ((below_draw W nq).mono HBW.out.size));go_wp2_with fail;go_roundw
     case rel => exact ⟨i + 1, Nat.succ_le_of_lt HJL.out, by go_num, HBQ, HPP⟩
     case measure =>
      have := HJL.out;simp [intOf];omega
  ·
   have he : i = l.length := by omega
   have hiz : ¬ (i : Int) < l.length := by omega
   have HPP : Hid (P = 0) := Lib.hid (by rw [HP.out, he, List.drop_length]; rfl);clear he;have hs' := HS.out.below HH.out.lt HB.out;have hlt' := HH.out.lt.mono HB.out.size;have hsm : m.waits.length + l.length <= 1000 := by have := HM.out; have := HWL.out; omega
   have HFIN : Hid (∀ (cl : Int) (W : World) (hm : ManIn (K m.d V) o W mb { m with calls := cl } s) (hl : OwnLt o W) (hc : Chg (fun _ => True) o o w W) (v' : Value) (W' : World) (o' : Own), cl = (if m.waits = [] then 0 else m.calls) -> WaitsAt o' W' v' (m.waits ++ l) -> Chg (· = .waits) o o' W W' -> OwnLt o' W' -> Q (.returned (.int .i64 0)) (W'.setCell ⟨mb, 4, none⟩ v')) := Lib.hid (by
    intro cl W hm hl hc v' W' o' hcl hw hc2 hl2;rw [HQ.out, <- HPE.out, HPP.out];have hm2 := hm.setWaits hl hw hc2;have hc3 : Chg (fun _ => True) o o' w (W'.setCell ⟨mb, 4, none⟩ v') := (hc.trans hc2.any).setCell (p := ⟨mb, 4, none⟩) (hc2.ext _ _ hm.own) trivial _;exact ⟨rfl, o', { m with waits := m.waits ++ l, calls := cl }, ⟨⟨_, hm2⟩, hl2.mono (by simp [World.setCell]), ⟨HH.out.ok.store, ⟨HH.out.ok.handles.nodup, HH.out.ok.handles.zero, HH.out.ok.handles.one, HH.out.ok.handles.lt, HH.out.ok.handles.next, HH.out.ok.handles.ok, HH.out.ok.handles.len, HH.out.ok.handles.refs⟩⟩, HH.out.vars, HH.out.od, HH.out.room, HH.out.next, HH.out.hs, HH.out.chg.lower (ChgX.of_chg hc3 NoB) (fun _ e => e.elim)⟩, rfl, hc3, fun e => (e rfl).elim, fun _ => ⟨rfl, hcl⟩⟩)
   have HI2 := HI.out.below HB.out;clear c0 c1 c2 c3 c4 c5 f0;obtain ⟨c0, c1, c2, c3, c4, c5, f0⟩ := cells6 hs'.blk
   by_cases hw0 : m.waits = []
   ·
    have hz : m.waits.length = 0 := by rw [hw0]; rfl
    have HZ := Lib.hid hz;have hm1 : ManIn (K m.d V) o (wr.setCell ⟨mb, 5, none⟩ (.int .i64 0)) mb { m with calls := 0 } s := hs'.field rfl rfl rfl rfl rfl (hs'.waits) rfl;have hb1 : Chg (fun _ => True) o o w (wr.setCell ⟨mb, 5, none⟩ (.int .i64 0)) := (Chg.of_below HB.out _ _).setCell (p := ⟨mb, 5, none⟩) hs'.own trivial _;have hl1 : OwnLt o (wr.setCell ⟨mb, 5, none⟩ (.int .i64 0)) := hlt'.mono (by simp [World.setCell])
    have he1 : EvsAt (wr.setCell ⟨mb, 5, none⟩ (.int .i64 0)) a l := ⟨HI2.len, fun k hk => by
     obtain ⟨b, off, e, q0, q1, q2⟩ := HI2.cells k hk;have hne : mb ≠ b := by
      rintro rfl;have := HNO.out (by omega) _ e;have h2 := hs'.own;rw [h2] at this; cases this
     exact ⟨b, off, e, cell_setCell_ne q0 (.inl hne), cell_setCell_ne q1 (.inl hne), cell_setCell_ne q2 (.inl hne)⟩⟩
    obtain ⟨v', w2, o2, hrun, hwa, hca, hla⟩ := waits_append (c := c) hm1.waits hl1 he1 hsm 24;obtain ⟨av2, cv2, hv2⟩ := hwa.form;subst hv2;have HF := Lib.hid (HFIN.out 0 _ hm1 hl1 hb1 _ w2 o2 (by rw [if_pos hw0]) hwa hca hla);obtain ⟨k0, k1, k2, k3, k4, k5, kf⟩ := cells6 hm1.blk;have hblk := (hca.same hl1 hm1.own (by simp)).trans hm1.blk;obtain ⟨j0, j1, j2, j3, j4, j5, jf⟩ := cells6 hblk;rw [HVW.out, hz] at c4 k4 hrun;clear hs' hlt' hm1 hb1 hl1 he1 hwa hca hla HI2 hw0 hblk k0 k1 k2 k3 k5 kf;have HRUN := Lib.hid hrun;clear hrun;go_upto_region 15 with fail;go_wp2_with (refine wpList_appE rfl _ _ _ rfl rfl rfl HRUN.out ?_);have hq := HF.out;rw [List.length_append, HZ.out, Nat.zero_add] at hq;exact hq
   ·
    have hz : 0 < m.waits.length := List.length_pos_iff.2 hw0;have hz1 : ((m.waits.length : Int) == 0) = false := by rw [beq_eq_false_iff_ne]; omega
    obtain ⟨v', w2, o2, hrun, hwa, hca, hla⟩ := waits_append (c := c) hs'.waits hlt' HI2 hsm 24;obtain ⟨av2, cv2, hv2⟩ := hwa.form;subst hv2;have HF := Lib.hid (HFIN.out m.calls _ hs' hlt' (Chg.of_below HB.out _ _) _ w2 o2 (by rw [if_neg hw0]) hwa hca hla);have hblk := (hca.same hlt' hs'.own (by simp)).trans hs'.blk;obtain ⟨j0, j1, j2, j3, j4, j5, jf⟩ := cells6 hblk;rw [HVW.out] at c4 hrun;clear hs' hlt' hwa hca hla HI2 hw0 hblk hz;have HRUN := Lib.hid hrun;clear hrun;go_upto_region 15 with fail;go_wp2_with (refine wpList_appE rfl _ _ _ rfl rfl rfl HRUN.out ?_);have hq := HF.out;rw [List.length_append] at hq;exact hq
end
open Go.RowKit
section
variable {K : Law} {n : Nat} {room : Nat} {w0 : World} {mb : Nat} {fs hs : List (Int × BF)} {nx : Int} {W w w' : World} {o o' : Own} {m m' : ManD} {V V' : Nat -> BF} {vl vx : Value} {ws0 : List Ev}
theorem tab_small {n : Nat} (h : n <= 16) : 2 ^ n <= 1000000 := Nat.le_trans (Nat.pow_le_pow_right (by omega) h) (by decide)
end
open Go.RowKit
def roomOf (n : Nat) : Nat := 4 * 2 ^ (2 * n) + 192 * 2 ^ n
theorem enough_any (n : Nat) (hn : n <= 8) (w : World) : Calls Tryz.prog 106 #[.int .i64 n, .int .i64 40] w fun x w' => x = .returned (.int .i64 (roomOf n)) /\ w = w' := by
 have HB : Hid (∀ (z : Int) (k : Nat), z = k -> k <= 16 -> Calls Tryz.prog 98 #[.int .i64 z] w fun x w' => x = .returned (.int .i64 (2 ^ k : Nat)) /\ w = w') := Lib.hid fun z k e hk => by subst e; exact bit_any k (by omega) w
 have hA : 2 ^ (2 * n) <= 65536 := Nat.le_trans (Nat.pow_le_pow_right (by omega) (show 2 * n <= 16 by omega)) (by decide);have hB : 2 ^ n <= 65536 := Nat.le_trans (Nat.pow_le_pow_right (by omega) (show n <= 16 by omega)) (by decide);have HB1 := Lib.hid (fun z e => HB.out z (2 * n) e (by omega));have HB2 := Lib.hid (fun z e => HB.out z n e (by omega));unfold roomOf;obtain ⟨a, ha⟩ : ∃ a, a = 2 ^ (2 * n) := ⟨_, rfl⟩;obtain ⟨b, hb⟩ : ∃ b, b = 2 ^ n := ⟨_, rfl⟩;rw [<- ha] at hA HB1 ⊢;rw [<- hb] at hB HB2 ⊢;clear ha hb HB
 go_enter Tryz.func106, Tryz.ntmps106
 go_wp2_with fail;refine (HB1.out _ (by omega)).mono ?_;rintro x w' ⟨rfl, rfl⟩;go_wp2_with fail;refine (HB2.out _ (by omega)).mono ?_;rintro x w' ⟨rfl, rfl⟩;go_wp2_with fail;go_ret;exact ⟨by congr 2, rfl⟩
theorem room13_any (n : Nat) (hn : n <= 8) (w : World) : Calls Tryz.prog 53 #[.int .i64 n, .int .i64 40] w fun x w' => x = .returned (.int .i64 (roomOf n)) /\ w = w' := by
 have HE := Lib.hid (enough_any n hn w)
 go_enter Tryz.func53, Tryz.ntmps53
 go_wp2_with fail;refine HE.out.mono ?_;rintro x w' ⟨rfl, rfl⟩;go_wp2_with fail;go_ret;exact ⟨rfl, rfl⟩
theorem roomOf_le {n : Nat} (hn : n <= 6) : 1 <= roomOf n /\ roomOf n <= 1048576 := by
 have h1 : 2 ^ (2 * n) <= 4096 := Nat.le_trans (Nat.pow_le_pow_right (by omega) (show 2 * n <= 12 by omega)) (by decide);have h2 : 2 ^ n <= 64 := Nat.le_trans (Nat.pow_le_pow_right (by omega) hn) (by decide);have h3 : 0 < 2 ^ n := Nat.pow_pos (by omega);unfold roomOf;omega
theorem roomOf_many {n k : Nat} (hk : k <= 192) : k * 2 ^ n <= roomOf n := by
 have := Nat.mul_le_mul_right (2 ^ n) hk;unfold roomOf;omega
theorem room_step1 {n j s : Nat} (hn : 1 <= n) (hs : s <= 40) (hj : j < 5) : 2 * 2 ^ n + j * (39 * 2 ^ n + 1) + s * 2 ^ n <= roomOf n := by
 have h1 := Nat.mul_le_mul_right (2 ^ n) hs;have h2 := Nat.mul_le_mul_right (39 * 2 ^ n + 1) (Nat.le_of_lt_succ hj);have h3 : 2 ^ 1 <= 2 ^ n := Nat.pow_le_pow_right (by omega) hn;have h4 : 2 ^ (n + 1) <= 2 ^ (2 * n) := Nat.pow_le_pow_right (by omega) (by omega);rw [Nat.pow_succ] at h4;unfold roomOf;omega
theorem room_step2 {n j s k : Nat} (hs : s <= 40) (h1 : 1 <= s) (h : k <= 2 * 2 ^ n + j * (39 * 2 ^ n + 1) + costT n s) : k <= 2 * 2 ^ n + (j + 1) * (39 * 2 ^ n + 1) := by
 have h2 := costT_add n h1;have h3 := Nat.mul_le_mul_right (2 ^ n) hs;rw [Nat.add_mul];have h4 : 0 < 2 ^ n := Nat.pow_pos (by omega);omega
theorem room_end {n j k : Nat} (hj : j <= 5) (h : k <= 2 * 2 ^ n + j * (39 * 2 ^ n + 1)) (hn : 2 <= n) : k + 7 <= roomOf n := by
 have h2 := Nat.mul_le_mul_right (39 * 2 ^ n + 1) hj;have h3 : 2 ^ 2 <= 2 ^ n := Nat.pow_le_pow_right (by omega) hn;have h4 : 2 ^ (n + 2) <= 2 ^ (2 * n) := Nat.pow_le_pow_right (by omega) (by omega);rw [Nat.pow_add] at h4;unfold roomOf;omega
def two : List (Int × BF) := [(0, fun _ => false), (1, fun _ => true)]
theorem two_b2 : B2 two := ⟨by simp [two], by simp [two]⟩
theorem new_sat2 {K : Law} (n room : Nat) (w : World) (hn : n <= 64) (h1 : 1 <= room) (h2 : room <= 1048576) :
 Calls Tryz.prog 14 #[.int .i64 n, .int .i64 room] w fun x w' => ∃ mb, x = .returned (.tuple #[.pointer (some ⟨mb, 0, none⟩), .int .i64 0]) /\ ∃ o m V, SatE K n (fun _ => True) room w mb two 2 w' o m V /\ m.waits = [] /\ m.calls = 0 /\ m.d.pool.many = 0 := by
 refine (new_man (F := K (man0 n room).d (fun _ _ => true)) (fun _ => none) n room w (fun k r h => by cases h) hn h1 h2).mono ?_;rintro x w1 ⟨mb, o1, rfl, hm0, hc0, hl0, _⟩;exact ⟨mb, rfl, o1, man0 n room, fun _ _ => true, ⟨hm0, hl0, man0_ok n room hn, by simp [man0, store0], trivial, by simp [man0, store0, pool0], rfl, by simp [man0, two, ef]; constructor <;> rfl, ChgX.of_chg hc0 NoB⟩, rfl, rfl, rfl⟩
def OrdP (zs : List Int) (l : List Nat) : Prop := ∀ j, j < zs.length -> ((l.getD j 0 : Nat) : Int) = at0 zs j
def SetP (K : Law) (q : AskD) (n : Nat) (w : World) (y : Ending) (w' : World) : Prop :=
 ∃ mb vl vx wb hs nx, y = .returned (.tuple #[.pointer (some ⟨mb, 0, none⟩), vl, vx, .bool true]) /\ Below w.heap.size w wb /\ hs.map Prod.snd = q.es.map fnT /\ nx <= 1000 /\ ∃ o m V, LawT K n (OrdP q.order) (roomOf n) wb mb (two ++ hs) nx (fun ws c => ws = q.plan /\ c = 0) hs hs w' o m V vl vx /\ (2 <= n -> m.d.pool.many + 7 <= roomOf n)
def SetI (K : Law) (q : AskD) (n : Nat) (wb : World) (mb : Nat) (j : Nat) (s8 s9 : Value) (W : World) : Prop :=
 ∃ hs nx, hs.map Prod.snd = (q.es.take j).map fnT /\ nx <= 2 + 120 * (j : Int) /\ ∃ o m V, LawT K n (OrdP q.order) (roomOf n) wb mb (two ++ hs) nx (fun ws c => ws = [] /\ True) hs hs W o m V s8 s9 /\ m.d.pool.many <= 2 * 2 ^ n + j * (39 * 2 ^ n + 1)
theorem setup_any {K : Law} (hK : LawOK K) (q : AskD) (ao ae ap : Option Addr) (co ce cp : Nat) (w : World) (h : AskAt w q ao ae ap) (hsm : SmallP q) (n : Nat) (hqn : q.vars = n) :
 Calls Tryz.prog 23 #[askV q ao ae ap co ce cp] w (SetP K q n w) := by
 have hlo := hsm.lo;have hhi := hsm.hi;have hes := hsm.es;have hpl := hsm.plan;have HSM := Lib.hid hsm;have HASK := Lib.hid h;have hn6 : n <= 6 := by omega
 have hn1 : 1 <= n := by omega
 have hrm := roomOf_le hn6;obtain ⟨Q, hQ⟩ : ∃ Q : Ending -> World -> Prop, Q = SetP K q n w := ⟨_, rfl⟩;rw [<- hQ];have HQ := Lib.hid hQ;obtain ⟨w1, hw1⟩ : ∃ w1, w1 = w.alloc (.cells #[.int .i64 q.vars, .slice ao q.order.length co, .slice ae q.es.length ce, .slice ap q.plan.length cp] 26) := ⟨_, rfl⟩;have HW1 : Hid (_ = w1) := Lib.hid hw1.symm;have HB1 : Hid (Below w.heap.size w w1) := by rw [hw1]; exact Lib.hid (below_new1 _ _)
 have hblk : w1.heap[w.heap.size]? = some (.cells #[.int .i64 q.vars, .slice ao q.order.length co, .slice ae q.es.length ce, .slice ap q.plan.length cp] 26 (0, 0)) := by rw [hw1]; exact heap_alloc_new _ _
 have hs1 : w1.heap.size = w.heap.size + 1 := by rw [hw1]; simp
 have HQN := Lib.hid hqn;rw [hqn] at hblk HW1;have d0 : w1.cell? ⟨w.heap.size, 0, none⟩ = some (.int .i64 (n : Nat)) := by rw [cell_of_row _ _ 0 _ _ _ hblk]; rfl
 have d1 : w1.cell? ⟨w.heap.size, 1, none⟩ = some (.slice ao q.order.length co) := by rw [cell_of_row _ _ 1 _ _ _ hblk]; rfl
 have d2 : w1.cell? ⟨w.heap.size, 2, none⟩ = some (.slice ae q.es.length ce) := by rw [cell_of_row _ _ 2 _ _ _ hblk]; rfl
 have d3 : w1.cell? ⟨w.heap.size, 3, none⟩ = some (.slice ap q.plan.length cp) := by rw [cell_of_row _ _ 3 _ _ _ hblk]; rfl
 have hqz := hqn;unfold askV;rw [hqz];obtain ⟨rm, hrmE⟩ : ∃ rm, rm = roomOf n := ⟨_, rfl⟩;have HRME := Lib.hid hrmE;have HRM := Lib.hid (fun W => room13_any n (by omega) W);rw [<- hrmE] at HRM hrm;clear h hsm hQ hw1 hblk hrmE hqn hqz;have HNEW := Lib.hid (new_sat2 (K := K) n rm w1.drew (by omega) hrm.1 hrm.2)
 go_enter Tryz.func23, Tryz.ntmps23
 go_upto_region 1 with fail;rw [HW1.out];refine wp_region_mix (fun W : World => W.cell? ⟨w.heap.size, 0, none⟩ = some (.int .i64 (n : Nat)) /\ True) false 11 [(0, false), (1, false), (2, false), (3, false), (4, true), (5, true), (6, false), (7, false), (8, false), (9, false), (10, false)] (by kernel_rfl) (by kernel_rfl) ⟨d0, trivial⟩ ?_;simp only [planned, plnLz]
 iterate 4
  refine mix_readE rfl ?_;apply Exists.intro;refine ⟨fun w' hw => ?_, ?_⟩
  ·
   obtain ⟨h1, _⟩ := hw;go_simp;rfl
  simp only [putLz]
 refine mix_callR (R := fun v w' => v = .int .i64 (rm : Nat) /\ w' = w1.drew) rfl (by go_simp) ((HRM.out _).mono (fun e w' he => ?_)) ?_
 ·
  obtain ⟨rfl, rfl⟩ := he;exact ⟨_, rfl, ⟨d0, trivial⟩, rfl, rfl⟩
 rintro v w' - ⟨rfl, rfl⟩;simp only [putLz];refine mix_callR (R := fun v w' => ∃ mb, v = .tuple #[.pointer (some ⟨mb, 0, none⟩), .int .i64 0] /\ ∃ o m V, SatE K n (fun _ => True) rm w1.drew mb two 2 w' o m V /\ m.waits = [] /\ m.calls = 0 /\ m.d.pool.many = 0) rfl (by go_simp) (HNEW.out.mono (fun e w' he => ?_)) ?_
 ·
  obtain ⟨mb, rfl, o, m, V, hst, hrest⟩ := he;exact ⟨_, rfl, ⟨(hst.chg.below0.cell (p := ⟨w.heap.size, 0, none⟩) (lt_of_cell (w := w1.drew) d0)).trans d0, trivial⟩, mb, rfl, o, m, V, hst, hrest⟩
 rintro v w2 - ⟨mb, rfl, o, m, V, hst, hwt, hcl, hmn⟩;simp only [putLz]
 iterate 5
  refine mix_readE rfl ?_;apply Exists.intro;refine ⟨fun w' hw => ?_, ?_⟩
  ·
   obtain ⟨h1, _⟩ := hw;go_simp;rfl
  simp only [putLz]
 refine mix_end ?_;obtain ⟨wb, hwb⟩ : ∃ wb, wb = w1.drew := ⟨_, rfl⟩;rw [<- hwb] at hst;have HBW : Hid (Below w.heap.size w wb) := Lib.hid (by rw [hwb]; exact HB1.out.trans ((below_draw w1 1).mono HB1.out.size));have c0 : wb.cell? ⟨w.heap.size, 0, none⟩ = some (.int .i64 (n : Nat)) := by rw [hwb]; exact d0
 have c1 : wb.cell? ⟨w.heap.size, 1, none⟩ = some (.slice ao q.order.length co) := by rw [hwb]; exact d1
 have c2 : wb.cell? ⟨w.heap.size, 2, none⟩ = some (.slice ae q.es.length ce) := by rw [hwb]; exact d2
 have c3 : wb.cell? ⟨w.heap.size, 3, none⟩ = some (.slice ap q.plan.length cp) := by rw [hwb]; exact d3
 have hbn : w.heap.size < wb.heap.size := lt_of_cell c0;have HAB := Lib.hid (HASK.out.below HBW.out);clear hwb HNEW HRM d0 d1 d2 d3 HW1 hs1
 have HARR := Lib.hid (arrange_any (K := K) hst (by omega) (by rw [HRME.out]; have := roomOf_many (n := n) (k := 6) (by omega); simp [two]; omega) (c := co) (HAB.out.order.below hst.chg.below0) (fun h0 x hx => by
  obtain ⟨b, off, e, hc⟩ := HAB.out.order.cells 0 h0;rw [hx] at e;cases e;exact hst.none0 (lt_of_cell hc)) (by
  rcases Nat.eq_zero_or_pos q.order.length with h0 | h0
  ·
   exact .inl h0
  ·
   have := HSM.out.order h0;rw [HQN.out] at this;exact .inr (permP_of this)))
 have e0 := (hst.chg.below0.cell (p := ⟨w.heap.size, 0, none⟩) (lt_of_cell c0)).trans c0;have e1 := (hst.chg.below0.cell (p := ⟨w.heap.size, 1, none⟩) (lt_of_cell c1)).trans c1;have HWT := Lib.hid hwt;have HMN := Lib.hid hmn;clear hst hwt hcl hmn;go_wp2_with fail;refine HARR.out.mono ?_;rintro y w3 ⟨rfl, o3, m3, V3, hst3, hwt3, hcl3, hc3, hmn3⟩;have HI0 : Hid (SetI K q n wb mb 0 (.slice none 0 0) (.slice none 0 0) w3) := Lib.hid ⟨[], 2, rfl, by omega, o3, m3, V3, ⟨by rw [HRME.out] at hst3; exact hst3, two_b2, ⟨by rw [hwt3, HWT.out], trivial⟩, ⟨ownC_nil _ _ _, fun k hk => by cases hk⟩, ⟨⟨[], rfl, ownC_nil _ _ _, fun i v hv => by simp at hv⟩, fun k hk => by cases hk⟩⟩, by have := HMN.out; simp [two] at hmn3; omega⟩;have f2 := (hst3.chg.below0.cell (p := ⟨w.heap.size, 2, none⟩) (lt_of_cell c2)).trans c2;clear hst3 hwt3 hcl3 hc3 hmn3 HARR e0 e1;go_wp2_with fail
 go_loopw [8, 9, 40] (fun s8 s9 s40 wr => ∃ j : Nat, j <= q.es.length /\ s40 = .int .i64 j /\ Hid (SetI K q n wb mb j s8 s9 wr)) (fun _ _ s40 _ => q.es.length - (intOf s40).toNat)
 case atStart => exact ⟨0, Nat.zero_le _, rfl, HI0⟩
 case round =>
  clear HI0 f2
  rename World => wy
  obtain ⟨j, hj, rfl, HI⟩ := hrel;obtain ⟨hs, nx, hsnd, hnx, hle⟩ := HI.out;obtain ⟨o0, m0, V0, hle0, hmn0⟩ := hle;have HLE : Hid (∃ o m V, LawT K n (OrdP q.order) (roomOf n) wb mb (two ++ hs) nx (fun ws c => ws = [] /\ True) hs hs wy o m V u8 u9 /\ m.d.pool.many <= 2 * 2 ^ n + j * (39 * 2 ^ n + 1)) := Lib.hid ⟨o0, m0, V0, hle0, hmn0⟩;have hle1 := hle0.below0;have HLB0 := Lib.hid hle1;have HSND := Lib.hid hsnd;have hhl : hs.length = j := by have := congrArg List.length hsnd; simpa [Nat.min_eq_left hj] using this
  clear HI hsnd hle0 hmn0 hle1 o0 m0 V0
  by_cases hlt : j < q.es.length
  ·
   have hjz : (j : Int) < q.es.length := by omega
   have hb0 := HLB0.out;obtain ⟨b, off, x0, x1, x2, ea, k0, k1, k2, hx⟩ := HAB.out.es.cells j hlt;subst ea;obtain ⟨zo, zv, za, zn, zc, rfl, rfl, rfl⟩ := hx.parts;have HEX := Lib.hid (HSM.out.expr _ (List.getElem_mem hlt));have hsz40 := HEX.out.1;have hsz1 := ExT.size_pos q.es[j];obtain ⟨e, he⟩ : ∃ e, e = q.es[j] := ⟨_, rfl⟩;rw [<- he] at hx HEX hsz40 hsz1;have HX := Lib.hid hx;have q0 := (hb0.cell (p := ⟨b, off + j * 3, none⟩) (lt_of_cell k0)).trans k0;have q1 := (hb0.cell (p := ⟨b, off + j * 3 + 1, none⟩) (lt_of_cell k1)).trans k1;have q2 := (hb0.cell (p := ⟨b, off + j * 3 + 2, none⟩) (lt_of_cell k2)).trans k2;have HTK : Hid ((q.es.take (j + 1)).map fnT = (q.es.take j).map fnT ++ [fnT e]) := Lib.hid (by rw [List.take_succ_eq_append_getElem hlt, List.map_append, he]; rfl);obtain ⟨wz, hwz⟩ : ∃ wz, wz = wy.alloc (.cells #[.int .i64 zo, .int .i64 zv, .slice za zn zc] 39) := ⟨_, rfl⟩;have HWZ : Hid (_ = wz) := Lib.hid hwz.symm;have hbz : Below wy.heap.size wy wz := by rw [hwz]; exact below_new1 _ _
   have hblk : wz.heap[wy.heap.size]? = some (.cells #[.int .i64 zo, .int .i64 zv, .slice za zn zc] 39 (0, 0)) := by rw [hwz]; exact heap_alloc_new _ _
   have p0 : wz.cell? ⟨wy.heap.size, 0, none⟩ = some (.int .i64 zo) := by rw [cell_of_row _ _ 0 _ _ _ hblk]; rfl
   have p1 : wz.cell? ⟨wy.heap.size, 1, none⟩ = some (.int .i64 zv) := by rw [cell_of_row _ _ 1 _ _ _ hblk]; rfl
   have p2 : wz.cell? ⟨wy.heap.size, 2, none⟩ = some (.slice za zn zc) := by rw [cell_of_row _ _ 2 _ _ _ hblk]; rfl
   obtain ⟨o4, m4, V4, lt0, mn4⟩ := HLE.out;have lt4 := lt0.below hbz;have n4 : o4 wy.heap.size = none := lt0.sat.lt.none (Nat.le_refl _);have hlk : ∀ g, u8.ownBlock = some g -> g < wy.heap.size := fun g hg => (lt0.l.own.lt g hg).2
   have hll : (two ++ hs).length = 2 + j := by simp [two, hhl]; omega
   have HCALL := Lib.hid (build_any hK e _ (two ++ hs) nx wz o4 m4 V4 _ lt4.sat ⟨lt4.st.1, mn4⟩ lt4.b2 HEX.out.2.1.valid (by have := HEX.out.2.2; rw [HQN.out] at this; exact this) hx (by omega) (room_step1 hn1 hsz40 (by omega)));have HLT4 := Lib.hid lt4;clear hb0 k0 k1 k2 hx hbz hblk hwz lt4 HLE he lt0;go_upto_region 9 with fail;rw [HWZ.out];clear q0 q1 q2;go_wp2_with fail;refine HCALL.out.mono ?_;rintro y w5 ⟨k, rfl, hk, o5, m5, V5, hc5, ⟨hw5, hmn5⟩, hs5⟩;have HMN5 : Hid (m5.d.pool.many <= 2 * 2 ^ n + (j + 1) * (39 * 2 ^ n + 1)) := Lib.hid (room_step2 hsz40 hsz1 hmn5);have HLT5 : Hid (LawT K n (OrdP q.order) (roomOf n) wb mb (two ++ (hs ++ [(k, fnT e)])) (k + 1) (fun ws c => ws = [] /\ True) hs hs w5 o5 m5 V5 u8 u9) := Lib.hid (HLT4.out.go (by rw [<- List.append_assoc]; exact hs5) (two_b2.app _) ⟨hw5, trivial⟩ hc5);have r0 := hc5.cell (p := ⟨wy.heap.size, 0, none⟩) p0 n4 (fun e => e);have r1 := hc5.cell (p := ⟨wy.heap.size, 1, none⟩) p1 n4 (fun e => e);have r2 := hc5.cell (p := ⟨wy.heap.size, 2, none⟩) p2 n4 (fun e => e);have n5 := hc5.none' (lt_of_cell p0) n4;have hsz5 : wb.heap.size <= w5.heap.size := hs5.chg.size;clear hc5 hw5 hs5 hmn5 HCALL p0 p1 p2 HLT4;go_upto_region 13 with (at_builtin; refine wpList_appC elemInt _ rfl _ _ rfl wb.heap.size _ (intsV (hs.map Prod.fst)) _ rfl rfl rfl rfl rfl (by exact HLT5.out.l.own) (by simp [intsV]; omega) hsz5 ?_; intro v6 w6 hown6 g1 g2 g3 g4 hk6)
   have hw6 := wr_app g1 g2 g3 g4 hk6;have hk6' : w6.heap[wy.heap.size]? = w5.heap[wy.heap.size]? := hw6.keep _ (lt_of_cell r0) (fun e => by have := hlk _ e; omega);have t0 := (World.cell?_of_block (w := w5) (a := ⟨wy.heap.size, 0, none⟩) hk6').trans r0;have t1 := (World.cell?_of_block (w := w5) (a := ⟨wy.heap.size, 1, none⟩) hk6').trans r1;have t2 := (World.cell?_of_block (w := w5) (a := ⟨wy.heap.size, 2, none⟩) hk6').trans r2;have HLT6 := Lib.hid (HLT5.out.appL hown6 g1 g2 g3 g4 hk6 (p := (k, fnT e)));have a0 := (HLT6.out.below0.cell (p := ⟨w.heap.size, 0, none⟩) (lt_of_cell c0)).trans c0;have HTB := Lib.hid (ref06Table_any e _ n (by omega) w6 (by omega) HEX.out.2.1 (HX.out.below HLT6.out.below0));clear hw6 hk6' hown6 g1 g2 g3 g4 hk6 r0 r1 r2 HLT5 hlk;go_wp2_with fail;refine HTB.out.mono ?_;rintro y w7 ⟨v7, rfl, hown7, hb7⟩;obtain ⟨av, cv, rfl, _⟩ := hown7.slice;have HLB : Hid (LawB w7 o5 wb.heap.size (.slice av (boolsV (tabB n (fnT e))).length cv) (tabB n (fnT e))) := Lib.hid (lawB_new (n := n) hown7 (by rw [tabB_length]; exact tab_small (by omega)) HLT6.out.sat.lt HLT6.out.sat.chg.size);have HLT7 := Lib.hid (HLT6.out.below hb7);obtain ⟨rs, hrs1, hrs2, hrs3⟩ := HLT7.out.x.ex;have HR2 := Lib.hid hrs2;have HR3 := Lib.hid hrs3;have hrl : rs.length = hs.length := by rw [hrs1]; simp
   have hsz7 : wb.heap.size <= w7.heap.size := HLT7.out.sat.chg.size;clear hown7 hb7 hrs2 hrs3 HTB HLT6 t0 t1 t2 a0;go_upto_region 14 with (at_builtin; refine wpList_appC elemRow _ rfl _ _ rfl wb.heap.size _ rs _ rfl rfl rfl rfl rfl (by exact HR2.out) (by omega) hsz7 ?_; intro v8 w8 hown8 g1 g2 g3 g4 hk8)
   have HLT8 := Lib.hid (HLT7.out.appX HLB.out rfl hrl HR2.out HR3.out hown8 g1 g2 g3 g4 hk8 (p := (k, fnT e)));have HIN : Hid (SetI K q n wb mb (j + 1) v6 v8 w8) := Lib.hid ⟨hs ++ [(k, fnT e)], k + 1, by rw [List.map_append, HSND.out, HTK.out]; rfl, by omega, o5, m5, V5, HLT8.out, HMN5.out⟩;clear hown8 g1 g2 g3 g4 hk8 HR2 HR3 HLT7 HLB HLT8;go_wp2_with fail;go_roundw
   case rel => exact ⟨j + 1, by omega, by go_num, HIN⟩
   case measure => simp [intOf]; omega
  ·
   have hje : j = q.es.length := by omega
   have hjz : ¬ (j : Int) < q.es.length := by omega
   obtain ⟨o4, m4, V4, lt4, mn4⟩ := HLE.out;have HMN4 := Lib.hid mn4;clear mn4;have e3 := (lt4.below0.cell (p := ⟨w.heap.size, 3, none⟩) (lt_of_cell c3)).trans c3;have hw4 : m4.waits = [] := lt4.st.1;have hcode : planR n m4.waits.length q.plan = 0 := by
    rw [hw4];have := HSM.out.planOk;rw [HQN.out] at this;exact this
   have HPL := Lib.hid (manPlan_any lt4.sat (c := cp) (HAB.out.plan.below lt4.below0) (fun h0 x hx => by
    obtain ⟨b, off, e, hc, _⟩ := HAB.out.plan.cells 0 h0;rw [hx] at e;cases e;exact lt4.sat.none0 (lt_of_cell hc)) (by rw [hw4]; simp))
   rw [hcode] at HPL;have HLT4 := Lib.hid lt4;have HW4 := Lib.hid hw4;clear lt4 hw4 hcode HLE;go_wp2_with fail;refine HPL.out.mono ?_;rintro y w5 ⟨rfl, o5, m5, hpd⟩
   have HF : Hid (Q (.returned (.tuple #[.pointer (some ⟨mb, 0, none⟩), u8, u9, .bool true])) w5) := Lib.hid (by
    rw [HQ.out];refine ⟨mb, u8, u9, wb, hs, nx, rfl, HBW.out, by rw [HSND.out, hje, List.take_length], by omega, o5, m5, V4, HLT4.out.go hpd.sat HLT4.out.b2 ?_ (ChgX.of_chg hpd.chg NoB), ?_⟩
    rotate_left
    ·
     rw [hpd.d];exact room_end (by omega) HMN4.out
    have := hpd.yes rfl;rw [HW4.out] at this;exact ⟨by simpa using this.1, by simpa using this.2⟩)
   clear hpd HPL;go_wp2_with fail;refine bodyPost_ret (results_tmp4 rfl _ _ _) rfl ?_;exact HF.out
open Go.RowKit
section
variable {P : Program} {ops : Array Oper} {S : World -> Prop} {Q : Exit -> Act -> World -> Prop} {last : Bool}
end
section
variable {K : Law} {n : Nat} {Od : List Nat -> Prop} {room : Nat} {w0 : World} {mb : Nat} {fs hs hl hx : List (Int × BF)} {nx : Int} {Wt : List Ev -> Int -> Prop} {W w w' : World} {o o' : Own} {m m' : ManD} {V V' : Nat -> BF} {vl vx : Value}
theorem manWaits_any {F : Phi} (h : ManAt F o w mb m) : Calls Tryz.prog 30 #[.pointer (some ⟨mb, 0, none⟩)] w fun x w' => x = .returned (.int .i64 m.waits.length) /\ w = w' := by
 obtain ⟨s, h⟩ := h;obtain ⟨c0, c1, c2, c3, c4, c5, f0⟩ := cells6 h.blk;obtain ⟨a, c, e⟩ := h.waits.form;rw [e] at c4;clear h e
 go_enter Tryz.func30, Tryz.ntmps30
 go_wp2_with fail;go_ret;exact ⟨rfl, rfl⟩
end
open Go.RowKit
theorem refNot_any (bu : List Bool) (au : Option Addr) (cu : Nat) (w : World) (h1 : BoolsAt w au bu) :
 Calls Tryz.prog 28 #[.slice au bu.length cu] w fun x w' => ∃ g, x = .returned (.slice (some ⟨g, 0, none⟩) bu.length bu.length) /\ OwnB w' w.heap.size (.slice (some ⟨g, 0, none⟩) bu.length bu.length) (bu.map (!·)) /\ Below w.heap.size w w' := by
 have hlen := h1.len;obtain ⟨L, hL⟩ : ∃ L, L = bu.length := ⟨_, rfl⟩;have H1 := Lib.hid h1;have HLL := Lib.hid hL;rw [<- hL] at hlen ⊢;clear hL h1
 go_enter Tryz.func28, Tryz.ntmps28
 go_wp2_with (at_make; refine wpList_makeC elemBool rfl _ _ rfl w.heap.size w _ L rfl rfl rfl (by omega) (Nat.le_refl _) (Below.refl _ _) ?_; intro g w1 hown1 hb1 hs1 hk1 hg1 hgx; clear hgx)
 go_loopw [4] (fun s4 wr => ∃ j : Nat, j <= L /\ s4 = .int .i64 j /\ OwnB wr w.heap.size (.slice (some ⟨g, 0, none⟩) L L) ((bu.map (!·)).take j ++ (List.replicate L false).drop j) /\ Below w.heap.size w wr) (fun s4 _ => L - (intOf s4).toNat)
 case atStart => exact ⟨0, by omega, rfl, by unfold OwnB; simpa [boolsV] using hown1, hb1⟩
 case round =>
  clear hown1 hb1;obtain ⟨j, hj, rfl, hown, hbel⟩ := hrel
  by_cases hlt : j < L
  ·
   have hjl : j < (bu.map (!·)).length := by simp [<- HLL.out]; exact hlt
   obtain ⟨b1, of1, e1, c1⟩ := (H1.out.below hbel).cells j (by rw [<- HLL.out]; exact hlt);have q0 := hown.cellB j (by have := HLL.out; simp; omega);have p0 := hown.frozen j;subst e1;have HOWN := Lib.hid hown;have HBEL := Lib.hid hbel;obtain ⟨y1, hy1⟩ : ∃ y, y = bu.getD j false := ⟨_, rfl⟩;rw [<- hy1] at c1
   have HY : Hid ((bu.map (!·))[j] = !y1) := Lib.hid (by
    have hj2 : j < bu.length := by rw [<- HLL.out]; exact hlt
    rw [hy1]; simp [hj2])
   clear hown hbel hy1 H1;go_wp2_with fail;go_roundw
   case rel =>
    refine ⟨j + 1, by omega, by go_num, ?_, HBEL.out.setCell hg1 _⟩;rw [<- list_take_set (by have := HLL.out; simp; omega) hjl HY.out];exact HOWN.out.setB j _
   case measure => simp [intOf]; omega
  ·
   obtain rfl : j = L := by omega
   have hl2 : (bu.map (!·)).length = j := by simp [<- HLL.out]
   go_wp2_with fail;go_ret;refine ⟨g, rfl, ?_, hbel⟩;rw [List.take_of_length_le (by omega), List.drop_of_length_le (by simp), List.append_nil] at hown;exact hown
open Go.RowKit
theorem notTab (n : Nat) (F : BF) : (tabB n F).map (fun b => !b) = tabB n (notF F) := by
 unfold tabB;rw [List.map_map];rfl
theorem refNot_tab (n : Nat) (F : BF) (au : Option Addr) (cu : Nat) (w : World) (h1 : BoolsAt w au (tabB n F)) :
 Calls Tryz.prog 28 #[.slice au (2 ^ n) cu] w fun x w' => ∃ g, x = .returned (.slice (some ⟨g, 0, none⟩) (2 ^ n) (2 ^ n)) /\ BoolsIs w' (.slice (some ⟨g, 0, none⟩) (2 ^ n) (2 ^ n)) (tabB n (notF F)) /\ Below w.heap.size w w' := by
 have := refNot_any (tabB n F) au cu w h1;rw [tabB_length] at this;refine this.mono ?_;rintro x w' ⟨g, rfl, h2, h3⟩;rw [notTab] at h2;exact ⟨g, rfl, h2.boolsIs (by have := h1.len; rw [tabB_length] at this ⊢; exact this), h3⟩
theorem varTab (n v : Nat) (hv : v < n) : (List.range (2 ^ n)).map (fun i => bitB i v) = tabB n (varF v) := by
 refine tab_ext (by simp) fun i hi => ?_
 have e : varF v (envOf (bitsL i n)) = bitB i v := by unfold varF; rw [envOf_bits]; simp [hv]
 rw [e]; simp [List.getD, hi]
theorem refVar_tab (v n : Nat) (hv : v < n) (hn : n <= 16) (w : World) : Calls Tryz.prog 16 #[.int .i64 v, .int .i64 n] w fun x w' => ∃ g, x = .returned (.slice (some ⟨g, 0, none⟩) (2 ^ n) (2 ^ n)) /\ OwnB w' w.heap.size (.slice (some ⟨g, 0, none⟩) (2 ^ n) (2 ^ n)) (tabB n (varF v)) /\ Below w.heap.size w w' := by
 have := refVar_any v n (by omega) hn w;rw [varTab n v hv] at this;exact this
theorem refConst_tab (b : Bool) (n : Nat) (hn : n <= 16) (w : World) : Calls Tryz.prog 27 #[.bool b, .int .i64 n] w fun x w' => ∃ g, x = .returned (.slice (some ⟨g, 0, none⟩) (2 ^ n) (2 ^ n)) /\ OwnB w' w.heap.size (.slice (some ⟨g, 0, none⟩) (2 ^ n) (2 ^ n)) (tabB n (fun _ => b)) /\ Below w.heap.size w w' := by
 have := refConst_any b n hn w;rw [replicate_tab] at this;exact this
open Go.RowKit
theorem bools_new (W : World) (bs : List Bool) (hl : bs.length <= 1000) : BoolsIs (W.alloc (.cells (boolsV bs).toArray 4)) (.slice (some ⟨W.heap.size, 0, none⟩) bs.length bs.length) bs :=
 ⟨_, _, rfl, ⟨by omega, fun k hk => ⟨W.heap.size, 0, rfl, by
  rw [Nat.zero_add, cell_of_row _ _ k _ _ _ (heap_alloc_new _ _)];simp [boolsV, List.getD, hk]⟩⟩, by simp⟩
abbrev LvG (w : World) (mb : Nat) (o : Own) (w1 : World) (fs : List (Int × BF)) (nx : Int) (M : Nat) (W : World) : Prop := Goes iteLaw 2 (fun _ => True) 100 w mb fs nx (NoW M) o w1 W
def lvA : List (Int × BF) := two ++ [(2, varF 0)]
def lvB : List (Int × BF) := lvA ++ [(3, varF 1)]
def lvC : List (Int × BF) := lvB ++ [(4, iteFn (varF 0) (varF 1) fun _ => false)]
def lvD : List (Int × BF) := lvC ++ [(5, iteFn (varF 1) (varF 0) fun _ => false)]
theorem lv_eq : iteFn (varF 0) (varF 1) (fun _ => false) = iteFn (varF 1) (varF 0) (fun _ => false) := by
 funext ρ
 show iteB (ρ 0) (ρ 1) false = iteB (ρ 1) (ρ 0) false
 cases ρ 0 <;> cases ρ 1 <;> rfl
theorem lives13b (w : World) : Calls Tryz.prog 13 #[] w fun x w' => x = .returned (.bool true) /\ Below w.heap.size w w' := by
 have HNEW := Lib.hid (new_sat2 (K := iteLaw) 2 100 w (by omega) (by omega) (by omega));have HV0 : Hid (∀ mb o w1 W, LvG w mb o w1 two 2 0 W -> Calls Tryz.prog 15 #[.pointer (some ⟨mb, 0, none⟩), .int .i64 0] W fun x w'' => x = .returned (.tuple #[.int .i64 2, .int .i64 0]) /\ LvG w mb o w1 lvA 3 1 w'') :=
  Lib.hid fun mb o w1 W g => var_ok iteLaw_ok g (by omega) (by decide) (v := 0) (by omega)
 have HV1 : Hid (∀ mb o w1 W, LvG w mb o w1 lvA 3 1 W -> Calls Tryz.prog 15 #[.pointer (some ⟨mb, 0, none⟩), .int .i64 1] W fun x w'' => x = .returned (.tuple #[.int .i64 3, .int .i64 0]) /\ LvG w mb o w1 lvB 4 2 w'') :=
  Lib.hid fun mb o w1 W g => var_ok iteLaw_ok g (by omega) (by decide) (v := 1) (by omega)
 have HI0 : Hid (∀ mb o w1 W, LvG w mb o w1 lvB 4 2 W -> Calls Tryz.prog 18 #[.pointer (some ⟨mb, 0, none⟩), .int .i64 2, .int .i64 3, .int .i64 0] W fun x w'' => x = .returned (.tuple #[.int .i64 4, .int .i64 0]) /\ LvG w mb o w1 lvC 5 5 w'') :=
  Lib.hid fun mb o w1 W g => ite_ok iteLaw_ok g (by omega) (by decide) (by simp [lvB, lvA]) (by simp [lvB]) (by simp [lvB, lvA, two])
 have HI1 : Hid (∀ mb o w1 W, LvG w mb o w1 lvC 5 5 W -> Calls Tryz.prog 18 #[.pointer (some ⟨mb, 0, none⟩), .int .i64 3, .int .i64 2, .int .i64 0] W fun x w'' => x = .returned (.tuple #[.int .i64 5, .int .i64 0]) /\ LvG w mb o w1 lvD 6 8 w'') :=
  Lib.hid fun mb o w1 W g => ite_ok iteLaw_ok g (by omega) (by decide) (by simp [lvC, lvB]) (by simp [lvC, lvB, lvA]) (by simp [lvC, lvB, lvA, two])
 have HSM : Hid (∀ mb o w1 W, LvG w mb o w1 lvD 6 8 W -> Calls Tryz.prog 56 #[.pointer (some ⟨mb, 0, none⟩), .int .i64 4, .int .i64 5] W fun x w'' => x = .returned (.tuple #[.bool true, .int .i64 0]) /\ W = w'') :=
  Lib.hid fun mb o w1 W ⟨o', m', V', _, _, h⟩ => (manSame_any h (k := 4) (l := 5) (F := iteFn (varF 0) (varF 1) fun _ => false) (G := iteFn (varF 1) (varF 0) fun _ => false) (by simp [lvD, lvC]) (by simp [lvD])).mono fun x w'' ⟨b, h1, h2, h3⟩ => by
   rw [h1, h2.2 lv_eq];exact ⟨rfl, h3⟩
 have HEV : Hid (∀ mb o w1 W, LvG w mb o w1 lvD 6 8 W -> ∀ v bs, BoolsIs W v bs -> Calls Tryz.prog 58 #[.pointer (some ⟨mb, 0, none⟩), .int .i64 4, v] W fun x w'' => x = .returned (.tuple #[.bool (iteFn (varF 0) (varF 1) (fun _ => false) (envOf bs)), .int .i64 0]) /\ Below W.heap.size W w'') :=
  Lib.hid fun mb o w1 W ⟨o', m', V', _, _, h⟩ v bs hb => h.eval (by simp [lvD, lvC]) hb
 have HHN : Hid (∀ mb o w1 W, LvG w mb o w1 lvD 6 8 W -> Calls Tryz.prog 70 #[.pointer (some ⟨mb, 0, none⟩)] W fun x w'' => x = .returned (.int .i64 6) /\ W = w'') :=
  Lib.hid fun mb o w1 W ⟨o', m', V', _, _, h⟩ => h.handles_any
 go_enter Tryz.func13, Tryz.ntmps13
 go_wp2_with fail;refine HNEW.out.mono ?_;rintro x w1 ⟨mb, rfl, o, m, V, hst, hwt, _, hmn⟩;have H1 := Lib.hid (HV0.out mb o w1 w1 ⟨o, m, V, ChgX.of_below (Below.refl _ _) o NoB, ⟨hwt, Nat.le_of_eq hmn⟩, hst⟩);clear hst hwt hmn HNEW HV0;go_wp2_with fail;refine H1.out.mono ?_;rintro x w2 ⟨rfl, h2⟩;have H2 := Lib.hid (HV1.out _ _ _ _ h2);clear h2 H1 HV1;go_wp2_with fail;refine H2.out.mono ?_;rintro x w3 ⟨rfl, h3⟩;have H3 := Lib.hid (HI0.out _ _ _ _ h3);clear h3 H2 HI0;go_wp2_with fail;refine H3.out.mono ?_;rintro x w4 ⟨rfl, h4⟩;have H4 := Lib.hid (HI1.out _ _ _ _ h4);clear h4 H3 HI1;go_wp2_with fail;refine H4.out.mono ?_;rintro x w5 ⟨rfl, h5⟩;have H5 := Lib.hid (HSM.out _ _ _ _ h5);have H5' := Lib.hid h5;clear h5 H4 HSM;go_wp2_with fail;refine H5.out.mono ?_;rintro x w6 ⟨rfl, rfl⟩;obtain ⟨w6, hw6⟩ : ∃ w6, w6 = w5.alloc (.cells #[.bool true, .bool true] 4) := ⟨_, rfl⟩;have hb6 : Below w5.heap.size w5 w6 := by rw [hw6]; exact below_new1 _ _
 have H6' := Lib.hid (H5'.out.below hb6);have H6 := Lib.hid (HEV.out _ _ _ _ H6'.out _ [true, true] (by rw [hw6]; exact bools_new w5 [true, true] (by decide)));have HW6 : Hid (_ = w6) := Lib.hid hw6.symm;clear hb6 hw6 H5';go_wp2_with fail;rw [HW6.out];refine H6.out.mono ?_;rintro x w7 ⟨rfl, hb7⟩;have e7 : iteFn (varF 0) (varF 1) (fun _ => false) (envOf [true, true]) = true := rfl;rw [e7];have H7' := Lib.hid (H6'.out.below hb7);clear hb7 H6' HW6 e7;obtain ⟨w8, hw8⟩ : ∃ w8, w8 = w7.alloc (.cells #[.bool true] 4) := ⟨_, rfl⟩;have hb8 : Below w7.heap.size w7 w8 := by rw [hw8]; exact below_new1 _ _
 have H8' := Lib.hid (H7'.out.below hb8);have H8 := Lib.hid (HEV.out _ _ _ _ H8'.out _ [true] (by rw [hw8]; exact bools_new w7 [true] (by decide)));have HW8 : Hid (_ = w8) := Lib.hid hw8.symm;clear hb8 hw8 H7' HEV;go_wp2_with fail;rw [HW8.out];refine H8.out.mono ?_;rintro x w9 ⟨rfl, hb9⟩;have e9 : iteFn (varF 0) (varF 1) (fun _ => false) (envOf [true]) = false := rfl;rw [e9];have H9' := Lib.hid (H8'.out.below hb9);have H9 := Lib.hid (HHN.out _ _ _ _ H9'.out);clear hb9 H8' HW8 e9;go_wp2_with fail;refine H9.out.mono ?_;rintro x w10 ⟨rfl, rfl⟩;go_wp2_with fail;go_ret;exact ⟨rfl, H9'.out.below0⟩
end Go.Proofs.YtchliiaknmknhaaGreat
