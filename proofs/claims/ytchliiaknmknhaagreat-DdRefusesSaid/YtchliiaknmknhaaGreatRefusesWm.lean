/- The walk of a law: RefusesW. -/
import Derived.Test.YtchliiaknmknhaaGreatU8
set_option linter.unusedSimpArgs false
set_option linter.unusedVariables false
set_option linter.unusedSectionVars false
set_option linter.unnecessarySimpa false
set_option maxRecDepth 100000
set_option maxHeartbeats 8000000
namespace Go.Proofs.YtchliiaknmknhaaGreat
open Go.RowKit
section
variable {K : Law} {n : Nat} {Od : List Nat -> Prop} {room : Nat} {w0 w w' : World} {mb : Nat} {fs : List (Int × BF)} {nx : Int} {o o' : Own} {m m' : ManD} {V V' : Nat -> BF}
theorem manSame_no (h : SatE K n Od room w0 mb fs nx w o m V) {k l : Int} {F : BF} (hl : (k, F) ∈ fs) (hk : ∀ p ∈ fs, p.1 ≠ l) :
 Calls Tryz.prog 56 #[.pointer (some ⟨mb, 0, none⟩), .int .i64 k, .int .i64 l] w fun x w' => x = .returned (.tuple #[.bool false, .int .i64 8]) /\ w = w' := by
 have hno := h.nofind hk;obtain ⟨f, hf, rfl⟩ := h.find hl;obtain ⟨s, hs⟩ := h.is;obtain ⟨c0, c1, c2, c3, c4, c5, f0⟩ := cells6 hs.blk;have hl1 := look_yes hs h.ok.handles.nodup hf;have hl2 := look_no hs hno;clear hs h hno hk hf hl
 go_enter Tryz.func56, Tryz.ntmps56
 go_wp2_with fail
 go_ret2
 exact ⟨rfl, rfl⟩
theorem manEval_no (h : SatE K n Od room w0 mb fs nx w o m V) {k : Int} (hk : ∀ p ∈ fs, p.1 ≠ k) (v : Value) :
 Calls Tryz.prog 58 #[.pointer (some ⟨mb, 0, none⟩), .int .i64 k, v] w fun x w' => x = .returned (.tuple #[.bool false, .int .i64 8]) /\ w = w' := by
 have hno := h.nofind hk;obtain ⟨s, hs⟩ := h.is;obtain ⟨c0, c1, c2, c3, c4, c5, f0⟩ := cells6 hs.blk;have hl2 := look_no hs hno;clear hs h hno hk
 go_enter Tryz.func58, Tryz.ntmps58
 go_wp2_with fail
 go_ret2
 exact ⟨rfl, rfl⟩
theorem manVar_bad (h : SatE K n Od room w0 mb fs nx w o m V) {v : Int} (hv : v < 0 \/ (n : Int) <= v) :
 Calls Tryz.prog 15 #[.pointer (some ⟨mb, 0, none⟩), .int .i64 v] w fun x w' => x = .returned (.tuple #[.int .i64 0, .int .i64 9]) /\ Below w.heap.size w w' := by
 obtain ⟨w1, hw1⟩ : ∃ w1, w1 = w.alloc (.cells #[.int .i64 v] 3) := ⟨_, rfl⟩;have hb1 : Below w.heap.size w w1 := by rw [hw1]; exact below_new1 w _
 have hvb : w1.heap[w.heap.size]? = some (.cells #[.int .i64 v] 3 (0, 0)) := by rw [hw1]; exact heap_alloc_new w _
 have cvb : w1.cell? ⟨w.heap.size, 0, none⟩ = some (.int .i64 v) := cell1 hvb;obtain ⟨s, hms⟩ := h.is;have hm1 := hms.below h.lt hb1;obtain ⟨c0, c1, c2, c3, c4, c5, f0⟩ := cells6 hm1.blk;obtain ⟨ss, hss⟩ := hm1.store;have hlz : levelZ m.d v = -1 := by
  unfold levelZ;rw [if_neg];rintro ⟨a, b⟩;rw [hss.len, h.vars] at b;omega
 have HLV : Hid (∀ n, Calls Tryz.prog 77 #[.pointer (some ⟨s.sb, 0, none⟩), .int .i64 v] (w1.drewN n) fun x w' => x = .returned (.int .i64 (-1)) /\ w1.drewN n = w') := by
  refine Lib.hid fun n => ?_
  have := storeLevelZ (hss.below (h.lt.mono hb1.size) (below_draw w1 n)) v (by rw [hss.len]; have := h.ok.store.small; omega);rw [hlz] at this; exact this
 have HB : Hid (∀ q, Below w.heap.size w (w1.drewN q)) := Lib.hid fun q => hb1.trans ((below_draw w1 q).mono hb1.size)
 have HW : Hid (w.alloc (.cells #[.int .i64 v] 3) = w1) := Lib.hid hw1.symm;clear hm1 hss hlz hms hb1 hvb hw1 h hv
 go_enter Tryz.func15, Tryz.ntmps15
 go_upto_region 3 with fail;rw [HW.out]
 go_quiet (with_reducible exact quiet_of_eq (HLV.out _))
 go_wp2_with fail
 go_ret2
 exact ⟨rfl, HB.out _⟩
end
theorem ite1_bad {K : Law} {n : Nat} {Od : List Nat -> Prop} {room : Nat} {w0 : World} {mb : Nat} {fs : List (Int × BF)} {nx : Int} (ws0 : List Ev) (bf bg bh : Nat) {kf kg kh : Int} {F : BF} (hf : (kf, F) ∈ fs) (hg : ∀ p ∈ fs, p.1 ≠ kg) :
 OpG K n Od room w0 mb fs nx (C3 bf bg bh) (B3 bf bg bh kf kg kh) (SuffOf ws0) 80 #[.pointer (some ⟨bf, 0, none⟩), .pointer (some ⟨bg, 0, none⟩), .pointer (some ⟨bh, 0, none⟩)] (fun _ _ _ _ => False) (fun er _ m' => er = 8 /\ m'.waits <:+ ws0) := by
 intro o W m V xb hsat hB hC hst hcx hnx;obtain ⟨f, hf, ef1⟩ := hsat.find hf;have hno := hsat.nofind hg;have hk := hsat.ok;have hlt := hsat.lt;have hks := hk.store;obtain ⟨s, hm⟩ := hsat.is;have hbd : Below W.heap.size W W.drew := below_draw W 1;have hmW := hm.below hlt hbd;have hlW := hlt.mono hbd.size;have hxW : CtxAt o W.drew xb mb := ⟨(hbd.cell (p := ⟨xb, 0, none⟩) (lt_of_cell hcx.cell)).trans hcx.cell, hcx.own⟩;have df := (hbd.cell (p := ⟨bf, 0, none⟩) (lt_of_cell hB.f)).trans hB.f;have dg := (hbd.cell (p := ⟨bg, 0, none⟩) (lt_of_cell hB.g)).trans hB.g;have dh := (hbd.cell (p := ⟨bh, 0, none⟩) (lt_of_cell hB.h)).trans hB.h;have of := (hC bf (.inl rfl)).2;have og := (hC bg (.inr (.inl rfl))).2;have oh := (hC bh (.inr (.inr rfl))).2;have HEF := Lib.hid (ctxEdge_yes ⟨s, hmW⟩ hxW hk.handles.nodup hf);have HEG := Lib.hid (ctxEdge_no ⟨s, hmW⟩ hxW hno);obtain ⟨P, hP⟩ : ∃ P : Ending -> World -> Prop, P = fun e w' => ∃ (o' : Own) (m' : ManD) (V' : Nat -> BF), StepX (C3 bf bg bh) K o W mb m V o' w' m' V' /\ B3 bf bg bh kf kg kh w' /\
  ((∃ r : Nat, e = .returned (.int .i64 r) /\ okE (nodesOf m'.d) r /\ False) \/
   (∃ er : Int, e = stopP er false ev0 /\ er ≠ 0 /\ m'.waits = m.waits /\ SuffOf ws0 m' /\ er = 8 /\ m'.waits <:+ ws0) \/
   (∃ ev, e = stopP 0 true ev /\ m.waits = ev :: m'.waits /\ StE K n Od room w0 mb fs nx (SuffOf ws0) m' /\ HapG K n Od room w0 mb fs nx ev)) := ⟨_, rfl⟩
 have HFIN : Hid (∀ e w', e = stopP 8 false ev0 /\ W.drew = w' -> (∃ v, e = .returned v /\ False) \/ (∃ ch, e = .panicked ch /\ P (.panicked ch) w')) := by
  refine Lib.hid ?_;subst hP;rintro e w' ⟨rfl, rfl⟩;have hb3 : B3 bf bg bh kf kg kh W.drew := ⟨df, dg, dh⟩;exact .inr ⟨_, rfl, o, m, V, ⟨⟨s, hmW⟩, hlW, ChgX.of_below hbd o _, hks, Ext.refl _ _, rfl, rfl⟩, hb3, .inr (.inl ⟨8, rfl, by omega, rfl, hst, rfl, hst⟩)⟩
 rw [<- hP];clear hm hks hk hcx hB hC hst hnx hlt hf hg hno of og oh hmW hlW hxW hbd hsat hP ef1
 go_enter Tryz.func80, Tryz.ntmps80
 go_upto_region 1 with fail;refine wp_region_leftP (fun W : World => W.cell? ⟨bf, 0, none⟩ = some (.int .i64 kf) /\ W.cell? ⟨bg, 0, none⟩ = some (.int .i64 kg) /\ W.cell? ⟨bh, 0, none⟩ = some (.int .i64 kh)) (fun ch w' => P (.panicked ch) w') 12 (fun c a w hd h => ⟨hd, h⟩) (by kernel_rfl) ⟨df, dg, dh⟩ ?_;refine left_readEP 0 rfl rfl (by kernel_rfl) ?_;apply Exists.intro;refine ⟨fun w' hw => ?_, ?_⟩
 ·
  obtain ⟨q1, q2, q3⟩ := hw;go_simp;rfl
 simp only [putLz];refine left_readEP 1 rfl rfl (by kernel_rfl) ?_;apply Exists.intro;refine ⟨fun w' hw => ?_, ?_⟩
 ·
  obtain ⟨q1, q2, q3⟩ := hw;go_simp;rfl
 simp only [putLz];refine left_readEP 2 rfl rfl (by kernel_rfl) ?_;apply Exists.intro;refine ⟨fun w' hw => ?_, ?_⟩
 ·
  obtain ⟨q1, q2, q3⟩ := hw;go_simp;rfl
 simp only [putLz];refine left_readEP 4 rfl rfl (by kernel_rfl) ?_;apply Exists.intro;refine ⟨fun w' hw => ?_, ?_⟩
 ·
  obtain ⟨q1, q2, q3⟩ := hw;go_simp;rfl
 simp only [putLz];refine left_readEP 5 rfl rfl (by kernel_rfl) ?_;apply Exists.intro;refine ⟨fun w' hw => ?_, ?_⟩
 ·
  obtain ⟨q1, q2, q3⟩ := hw;go_simp;rfl
 simp only [putLz];refine left_readEP 7 rfl rfl (by kernel_rfl) ?_;apply Exists.intro;refine ⟨fun w' hw => ?_, ?_⟩
 ·
  obtain ⟨q1, q2, q3⟩ := hw;go_simp;rfl
 simp only [putLz];refine left_readEP 8 rfl rfl (by kernel_rfl) ?_;apply Exists.intro;refine ⟨fun w' hw => ?_, ?_⟩
 ·
  obtain ⟨q1, q2, q3⟩ := hw;go_simp;rfl
 simp only [putLz];refine left_altsP [3] (by kernel_rfl) (fun i hi hS o ho => ?_);simp only [memLz] at hi;subst hi;simp only [altLz] at ho;subst ho;refine ⟨rfl, ?_⟩;refine oper_call (v := .int .i64 (f : Nat)) (R := fun w' => W.drew = w') (by go_simp) HEF.out ?_;rintro w' rfl;refine ⟨⟨df, dg, dh⟩, ?_⟩;simp only [putLz];refine left_altsP [6] (by kernel_rfl) (fun i hi hS o ho => ?_);simp only [memLz] at hi;subst hi;simp only [altLz] at ho;subst ho;refine ⟨rfl, ?_⟩;refine oper_callP (R := fun _ _ => False) (R2 := fun ch w' => P (.panicked ch) w') (by go_simp) (HEG.out.mono HFIN.out) ?_ ?_
 ·
  intro v w' hst;exact hst.elim
 ·
  intro ch w' hst;exact ⟨rfl, hst⟩
def BadLeft (K : Law) (n : Nat) (Od : List Nat -> Prop) (room : Nat) (w0 : World) (mb : Nat) (fs : List (Int × BF)) (nx : Int) (ws0 : List Ev) (z : Int) (o : Own) (w : World) (x : Ending) (w' : World) : Prop :=
 x = .returned (.tuple #[.int .i64 0, .int .i64 z]) /\ ∃ o' m' V', ChgX NoB o o' w w' /\ m'.waits <:+ ws0 /\ SatE K n Od room w0 mb fs nx w' o' m' V'
theorem manIte_bad {K : Law} (hK : LawOK K) {n : Nat} {Od : List Nat -> Prop} {room : Nat} {w0 : World} {mb : Nat} {fs : List (Int × BF)} {nx : Int} {w : World} {o : Own} {m : ManD} {V : Nat -> BF} (h : SatE K n Od room w0 mb fs nx w o m V) (ws0 : List Ev) (hws : m.waits <:+ ws0) (hhap : ∀ ev ∈ ws0, HapG K n Od room w0 mb fs nx ev) (hn : nx < 1099511627776)
 {kf kg kh : Int} {F : BF} (hf : (kf, F) ∈ fs) (hg : ∀ p ∈ fs, p.1 ≠ kg) :
 Calls Tryz.prog 18 #[.pointer (some ⟨mb, 0, none⟩), .int .i64 kf, .int .i64 kg, .int .i64 kh] w (BadLeft K n Od room w0 mb fs nx ws0 8 o w) := by
 have hmf : ∀ (fn : Fn) (first cap : Array Value) (w : World), (Instr.makeFunc fn first cap).run Tryz.prog w = .ok (.func fn first cap) w := fun _ _ _ _ => rfl
 obtain ⟨hb, cf, cg, ch⟩ := box3_ok kf kg kh w;have hw0 := h.chg.size;have hz : (box3 kf kg kh w).heap.size = w.heap.size + 3 := by simp [box3]
 have HDO : Hid (Calls Tryz.prog 24 #[.pointer (some ⟨mb, 0, none⟩), .func (.func 80) #[] #[.pointer (some ⟨w.heap.size, 0, none⟩), .pointer (some ⟨w.heap.size + 1, 0, none⟩), .pointer (some ⟨w.heap.size + 1 + 1, 0, none⟩)]] (box3 kf kg kh w) (BadLeft K n Od room w0 mb fs nx ws0 8 o w)) := by
  refine Lib.hid ?_;refine (do_gen hK B3.keep (fun _ _ _ _ _ h _ => h) (fun _ _ h _ => h) ?_ enters_ite1 (ite1_bad ws0 w.heap.size (w.heap.size + 1) (w.heap.size + 1 + 1) hf hg) (h.below hb) ⟨cf, cg, ch⟩ ?_ hws hn).mono fun x w' hp => ?_
  ·
   rintro c (rfl | rfl | rfl) <;> omega
  ·
   rintro c (rfl | rfl | rfl) <;> exact ⟨by omega, h.lt.none (by omega)⟩
  ·
   obtain ⟨o', m', V', _, hc, ⟨_, _, _, _, hfalse, _⟩ | ⟨er, m0, _, rfl, hs, ⟨rfl, hw⟩, _⟩⟩ := hp
   ·
    exact hfalse.elim
   ·
    exact ⟨rfl, o', m', V', (ChgX.of_below hb o NoB).trans hc (fun k hk e => by rcases e with rfl | rfl | rfl <;> omega), hw, hs⟩
 have HW : Hid (_ = box3 kf kg kh w) := Lib.hid (show ((w.alloc (.cells #[.int .i64 kf] 3)).alloc (.cells #[.int .i64 kg] 3)).alloc (.cells #[.int .i64 kh] 3) = box3 kf kg kh w from rfl);clear h hK hws hhap hn hf hg hb cf cg ch hw0 hz;obtain ⟨P, hP⟩ : ∃ P, P = BadLeft K n Od room w0 mb fs nx ws0 8 o w := ⟨_, rfl⟩;rw [<- hP] at HDO ⊢;have HT : Hid (∀ x w', P x w' -> ∃ a b, x = .returned (.tuple #[.int .i64 a, .int .i64 b])) := by
  refine Lib.hid ?_;subst hP;rintro x w' ⟨rfl, _⟩;exact ⟨_, _, rfl⟩
 clear hP
 go_enter Tryz.func18, Tryz.ntmps18
 go_wp2_with fail;rw [HW.out];refine HDO.out.mono ?_;intro x w' hd;obtain ⟨a, b, rfl⟩ := HT.out x w' hd;have HD := Lib.hid hd;clear hd;go_wp2_with fail;exact HD.out
open Go.RowKit
abbrev RefS (q : AskD) (n : Nat) (wb : World) (mb : Nat) (hs : List (Int × BF)) (nx : Int) (vl vx : Value) (W : World) : Prop := LawE iteLaw n (fun _ => True) (roomOf n) wb mb (two ++ hs) nx (SufW q.plan) hs hs W vl vx
theorem refuses_walk (q : AskD) (ao ae ap : Option Addr) (co ce cp : Nat) (zh zv : Int) (a2 : Option Addr) (c2 : Nat) (ev2 : List Ev) (w : World) (h : AskAt w q ao ae ap) (hev2 : EvsAt w a2 ev2) :
 Calls Tryz.prog 9 #[askV q ao ae ap co ce cp, .int .i64 zh, .int .i64 zv, .slice a2 ev2.length c2] w fun y w' => y = .returned (.bool true) /\ Below w.heap.size w w' := by
 have HSM : Hid (∀ W, Below w.heap.size w W -> ∀ u, u = askV q ao ae ap co ce cp -> Calls Tryz.prog 12 #[u] W fun y w' => ∃ b, y = .returned (.bool b) /\ (b = true -> SmallP q) /\ Below W.heap.size W w') := Lib.hid fun W hb u hu => by subst hu; exact small_any q ao ae ap co ce cp W (h.below hb)
 have HST : Hid (∀ W n, Below w.heap.size w W -> SmallP q -> q.vars = (n : Nat) -> ∀ u, u = askV q ao ae ap co ce cp -> Calls Tryz.prog 23 #[u] W (SetP iteLaw q n W)) := Lib.hid fun W n hb hs hn u hu => by subst hu; exact setup_any iteLaw_ok q ao ae ap co ce cp W (h.below hb) hs n hn
 have HEV := Lib.hid hev2;have hevl := hev2.len;obtain ⟨vars, hvars⟩ : ∃ z, z = q.vars := ⟨_, rfl⟩;have HV := Lib.hid hvars;obtain ⟨plen, hplen⟩ : ∃ z, z = q.plan.length := ⟨_, rfl⟩;have HPL := Lib.hid hplen;unfold askV at HSM HST ⊢;rw [<- hvars, <- hplen] at HSM HST ⊢;obtain ⟨olen, holen⟩ : ∃ z, z = q.order.length := ⟨_, rfl⟩;obtain ⟨elen, helen⟩ : ∃ z, z = q.es.length := ⟨_, rfl⟩;rw [<- holen, <- helen] at HSM HST ⊢;obtain ⟨w1, hw1⟩ : ∃ w1, w1 = w.alloc (.cells #[.int .i64 vars, .slice ao olen co, .slice ae elen ce, .slice ap plen cp] 26) := ⟨_, rfl⟩;have HW1 : Hid (_ = w1) := Lib.hid hw1.symm;have HB1 : Hid (Below w.heap.size w w1) := by rw [hw1]; exact Lib.hid (below_new1 _ _)
 have hblk : w1.heap[w.heap.size]? = some (.cells #[.int .i64 vars, .slice ao olen co, .slice ae elen ce, .slice ap plen cp] 26 (0, 0)) := by rw [hw1]; exact heap_alloc_new _ _
 have d0 : w1.cell? ⟨w.heap.size, 0, none⟩ = some (.int .i64 vars) := by rw [cell_of_row _ _ 0 _ _ _ hblk]; rfl
 have d1 : w1.cell? ⟨w.heap.size, 1, none⟩ = some (.slice ao olen co) := by rw [cell_of_row _ _ 1 _ _ _ hblk]; rfl
 have d2 : w1.cell? ⟨w.heap.size, 2, none⟩ = some (.slice ae elen ce) := by rw [cell_of_row _ _ 2 _ _ _ hblk]; rfl
 have d3 : w1.cell? ⟨w.heap.size, 3, none⟩ = some (.slice ap plen cp) := by rw [cell_of_row _ _ 3 _ _ _ hblk]; rfl
 clear h hev2 hw1 hblk hvars hplen holen helen
 go_enter Tryz.func9, Tryz.ntmps9
 go_upto_region 1 with fail;rw [HW1.out];go_wp2_with fail;refine (HSM.out _ HB1.out _ rfl).mono ?_;rintro y w2 ⟨b, rfl, hb, hbel⟩;have HB := Lib.hid hb;have HBEL := Lib.hid (HB1.out.trans (hbel.mono HB1.out.size));have e0 := (hbel.cell (p := ⟨w.heap.size, 0, none⟩) (lt_of_cell d0)).trans d0;have e1 := (hbel.cell (p := ⟨w.heap.size, 1, none⟩) (lt_of_cell d1)).trans d1;have e2 := (hbel.cell (p := ⟨w.heap.size, 2, none⟩) (lt_of_cell d2)).trans d2;have e3 := (hbel.cell (p := ⟨w.heap.size, 3, none⟩) (lt_of_cell d3)).trans d3;have HLV := Lib.hid (lives13b w2);clear hb hbel HSM d0 d1 d2 d3 HW1;cases b with
 | false =>
   go_wp2_with fail;refine HLV.out.mono ?_;rintro y w3 ⟨rfl, hb3⟩;have HB3 := Lib.hid (HBEL.out.trans (hb3.mono HBEL.out.size));clear hb3;go_wp2_with fail;go_ret;exact ⟨rfl, HB3.out⟩
 | true =>
   by_cases hl300 : (ev2.length : Int) > 300
   ·
    go_wp2_with fail;refine HLV.out.mono ?_;rintro y w3 ⟨rfl, hb3⟩;have HB3 := Lib.hid (HBEL.out.trans (hb3.mono HBEL.out.size));clear hb3;go_wp2_with fail;go_ret;exact ⟨rfl, HB3.out⟩
   have HSP := Lib.hid (HB.out (by first | rfl | trivial));obtain ⟨n, hn⟩ : ∃ n : Nat, vars = (n : Nat) := ⟨vars.toNat, by have := HSP.out.lo; have := HV.out; omega⟩;subst hn;have hn6 : n <= 6 := by have := HSP.out.hi; have := HV.out; omega
   have hes : q.es.length <= 5 := HSP.out.es;have HSET := Lib.hid (HST.out w2 n HBEL.out HSP.out rfl _ rfl);clear HST HLV HB;go_wp2_with fail;refine HSET.out.mono ?_;rintro y w3 ⟨mb, vl, vx, wb, hs, nx, rfl, hbw, hsnd, hnx, o3, m3, V3, lt3⟩;have hhl : hs.length <= 5 := by have := congrArg List.length hsnd; simp at this; omega
   obtain ⟨al, cl, hvl⟩ : ∃ a c, vl = .slice a hs.length c := by
    obtain ⟨a, c, e, _⟩ := lt3.l.own.slice;exact ⟨a, c, by rw [e]; simp [intsV]⟩
   subst hvl;have HSUB : Hid (∀ p ∈ hs, p ∈ two ++ hs) := Lib.hid fun p hp => List.mem_append_right _ hp
   have hfl : (two ++ hs).length = 2 + hs.length := by simp [two]; omega
   have HROOM : Hid (∀ k, k <= 192 -> k * 2 ^ n <= roomOf n) := Lib.hid fun k hk => roomOf_many hk
   have c0 := (hbw.cell (p := ⟨w.heap.size, 0, none⟩) (lt_of_cell e0)).trans e0;have f0 := (lt3.below0.cell (p := ⟨w.heap.size, 0, none⟩) (lt_of_cell c0)).trans c0;have HBB : Hid (Below w.heap.size w wb) := Lib.hid (HBEL.out.trans (hbw.mono HBEL.out.size));have HL := Lib.hid ((lt3.withOd (Od' := fun _ => True) trivial).withSt (Wt' := SufW q.plan) (by rw [lt3.st.1]; exact List.suffix_refl _));clear lt3 hbw hsnd HSET e0 e1 e2 e3 f0;go_upto_region 6 with fail
   go_cut [13] (fun s13 wx => ∃ b : Bool, s13 = .bool b /\ Hid (w3 = wx) /\ Hid (b = true ↔ zh = 0 \/ zh = 1))
   case first =>
    by_cases h0 : zh = 0
    ·
     have hb0 : (zh == 0) = true := by simpa using h0
     go_wp2_with fail;go_meet
     case rel => exact ⟨true, rfl, Lib.hid rfl, Lib.hid (by simp [h0])⟩
    ·
     have hb0 : (zh == 0) = false := by simpa using h0
     by_cases h1 : zh = 1
     ·
      have hb1 : (zh == 1) = true := by simpa using h1
      go_wp2_with fail;go_meet
      case rel => exact ⟨true, rfl, Lib.hid rfl, Lib.hid (by simp [h1])⟩
     ·
      have hb1 : (zh == 1) = false := by simpa using h1
      go_wp2_with fail;go_meet
      case rel => exact ⟨false, rfl, Lib.hid rfl, Lib.hid (by simp [h0, h1])⟩
   case rest =>
   obtain ⟨b0, rfl, HWX, HB0⟩ := hcut;have hwx := HWX.out;subst hwx;go_wp2_with fail
   go_loopw [13, 15, 58] (fun s13 s15 s58 wr => ∃ (i : Nat) (b : Bool), i <= hs.length /\ s58 = .int .i64 i /\ s13 = .bool b /\ Hid (w3 = wr) /\ Hid (b = true ↔ zh = 0 \/ zh = 1 \/ ∃ p ∈ hs.take i, p.1 = zh)) (fun _ _ s58 _ => hs.length - (intOf s58).toNat)
   case atStart => exact ⟨0, b0, Nat.zero_le _, rfl, rfl, Lib.hid rfl, Lib.hid (by rw [HB0.out]; simp)⟩
   case round =>
    clear HB0;obtain ⟨i, b, hi, rfl, rfl, HWR, HB⟩ := hrel;have hwr := HWR.out;subst hwr
    by_cases hlt : i < hs.length
    ·
     have hiz : (i : Int) < (hs.length : Int) := by omega
     have hrow := HL.out.row HSUB.out (by omega);obtain ⟨al', cl', ea, hli⟩ := hrow.l;cases ea;obtain ⟨b1, of1, rfl, k1⟩ := hli.cells i (by simpa using hlt);rw [at0_eq (by simpa using hlt), List.getElem_map] at k1;have HTK : Hid (∀ c : Bool, (c = true ↔ b = true \/ hs[i].1 = zh) -> (c = true ↔ zh = 0 \/ zh = 1 \/ ∃ p ∈ hs.take (i + 1), p.1 = zh)) := Lib.hid fun c hc => by
      rw [hc, HB.out, List.take_succ_eq_append_getElem hlt];constructor
      ·
       rintro ((h | h | ⟨p, hp, e⟩) | h)
       ·
        exact .inl h
       ·
        exact .inr (.inl h)
       ·
        exact .inr (.inr ⟨p, List.mem_append_left _ hp, e⟩)
       ·
        exact .inr (.inr ⟨hs[i], List.mem_append_right _ (List.mem_singleton.2 rfl), h⟩)
      ·
       rintro (h | h | ⟨p, hp, e⟩)
       ·
        exact .inl (.inl h)
       ·
        exact .inl (.inr (.inl h))
       ·
        rcases List.mem_append.1 hp with h | h
        ·
         exact .inl (.inr (.inr ⟨p, h, e⟩))
        ·
         simp only [List.mem_singleton] at h;exact .inr (by rw [<- h]; exact e)
     obtain ⟨ki, hki⟩ : ∃ k, k = hs[i].1 := ⟨_, rfl⟩;rw [<- hki] at k1 HTK;clear hrow hli hki;cases b with
     | true =>
       as_aux_lemma =>
        go_wp2_with fail;go_roundw
        case rel => exact ⟨i + 1, true, by omega, by go_num, rfl, Lib.hid (by first | rfl | trivial), Lib.hid (HTK.out true (by simp))⟩
        case measure => simp [intOf]; omega
     | false =>
       as_aux_lemma =>
        go_wp2_with fail;go_roundw
        case rel => exact ⟨i + 1, (zh == ki), by omega, by go_num, rfl, Lib.hid (by first | rfl | trivial), Lib.hid (HTK.out _ (by rw [beq_iff_eq]; exact ⟨fun h => .inr h.symm, fun h => by rcases h with h | h; (· cases h); (· exact h.symm)⟩))⟩
        case measure => simp [intOf]; omega
    ·
     have hiz : ¬ (i : Int) < (hs.length : Int) := by omega
     have HIN : Hid (b = true ↔ ∃ F, (zh, F) ∈ two ++ hs) := Lib.hid (by
      rw [HB.out, List.take_of_length_le (by omega)];constructor
      ·
       rintro (h | h | ⟨p, hp, h⟩)
       ·
        exact ⟨fun _ => false, by subst h; simp [two]⟩
       ·
        exact ⟨fun _ => true, by subst h; simp [two]⟩
       ·
        exact ⟨p.2, by rw [<- h]; exact List.mem_append_right _ hp⟩
      ·
       rintro ⟨F, hF⟩;rcases List.mem_append.1 hF with h | h
       ·
        simp only [two, List.mem_cons, List.not_mem_nil, or_false, Prod.mk.injEq] at h;rcases h with ⟨h, _⟩ | ⟨h, _⟩
        ·
         exact .inl h
        ·
         exact .inr (.inl h)
       ·
        exact .inr (.inr ⟨_, h, rfl⟩))
     have h1m : (1, fun _ => true) ∈ two ++ hs := (two_b2.app hs).one;have h0m : (0, fun _ => false) ∈ two ++ hs := (two_b2.app hs).zero;have HS0 : Hid (RefS q n wb mb hs nx (.slice al hs.length cl) vx w3) := Lib.hid ⟨o3, m3, V3, HL.out⟩;cases b with
     | true =>
       as_aux_lemma =>
        obtain ⟨F, hF⟩ := HIN.out.1 (by first | rfl | trivial);have HSM := Lib.hid (manSame_any HL.out.sat (k := 1) (l := zh) h1m hF);have HEA := Lib.hid (HL.out.sat.eval hF (v := .slice none 0 0) (bs := []) ⟨none, 0, rfl, ⟨by simp, fun k hk => by simp at hk⟩, fun _ => rfl⟩);have HISY := Lib.hid (fun W hb => manIs_yes (HL.out.below (W' := W) hb).sat hF);clear hF h1m h0m HIN HB;go_wp2_with fail;refine HSM.out.mono ?_;rintro y w' ⟨bq, rfl, _, rfl⟩;go_wp2_with fail;refine HEA.out.mono ?_;rintro y w4 ⟨rfl, hb4⟩;have HIY := Lib.hid (HISY.out _ hb4);have HS := Lib.hid (HS0.out.below hb4);clear hb4 HEA HSM HISY HS0;go_wp2_with fail;refine HIY.out.mono ?_;rintro y w' ⟨rfl, rfl⟩;clear HIY HL;go_upto_region 26 with fail
        go_cut [146] (fun s146 wy => ∃ b : Bool, s146 = .bool b /\ Hid (b = true -> zv < 0 \/ (n : Int) <= zv) /\ Hid (RefS q n wb mb hs nx (.slice al hs.length cl) vx wy))
        case first =>
         have g0 := (HS.out.below0.cell (p := ⟨w.heap.size, 0, none⟩) (lt_of_cell c0)).trans c0
         by_cases hv0 : zv < 0
         ·
          go_wp2_with fail;go_meet
          case rel => exact ⟨true, rfl, Lib.hid fun _ => .inl hv0, HS⟩
         ·
          by_cases hv1 : zv >= (n : Int)
          ·
           go_wp2_with fail;go_meet
           case rel => exact ⟨true, by first | rfl | trivial | (simp; omega), Lib.hid fun _ => .inr hv1, HS⟩
          ·
           go_wp2_with fail;go_meet
           case rel => exact ⟨false, by first | rfl | trivial | (simp; omega), Lib.hid (by simp), HS⟩
        case rest =>
        clear HS;obtain ⟨bv, rfl, HBV, HS⟩ := hcut;obtain ⟨ob, mB, VB, ltb⟩ := HS.out;have HVB := Lib.hid (fun hv => manVar_bad (v := zv) ltb.sat hv);clear ltb;cases bv
        rotate_left
        focus
         have HVB2 := Lib.hid (HVB.out (HBV.out (by first | rfl | trivial)));go_wp2_with fail;refine HVB2.out.mono ?_;rintro y wv ⟨rfl, hbv⟩;have HS3 := Lib.hid (HS.out.below hbv);clear hbv HVB HVB2 HS HBV;have HS := HS3;clear HS3
        rotate_left
        clear HVB HBV
        all_goals
         as_aux_lemma =>
          go_upto_region 30 with fail
          go_cut [169] (fun s169 wy => s169 = .bool false /\ Hid (RefS q n wb mb hs nx (.slice al hs.length cl) vx wy))
          case first =>
           obtain ⟨ob, mB, VB, ltb⟩ := HS.out;have g0 := (ltb.below0.cell (p := ⟨w.heap.size, 0, none⟩) (lt_of_cell c0)).trans c0;have HVB := Lib.hid (fun hv => swap_bad_law (z := zv) ltb hv);clear ltb;have hvc : zv < 0 \/ (¬ zv < 0 /\ zv > (n : Int) - 2) \/ (¬ zv < 0 /\ ¬ zv > (n : Int) - 2) := by omega
           rcases hvc with hv0 | ⟨hv0, hv1⟩ | ⟨hv0, hv1⟩
           rotate_left 2
           ·
            clear HVB;go_wp2_with fail;go_meet
            case rel => exact ⟨rfl, HS⟩
           all_goals
            have HVB2 := Lib.hid (HVB.out (by omega));go_wp2_with fail;refine HVB2.out.mono ?_;rintro y wv ⟨rfl, o9, m9, V9, _, l9⟩;have HS3 : Hid (RefS q n wb mb hs nx (.slice al hs.length cl) vx wv) := Lib.hid ⟨o9, m9, V9, l9⟩;clear l9 HVB HVB2;go_wp2_with fail;go_meet
            case rel => exact ⟨rfl, HS3⟩
          case rest =>
           clear HS;obtain ⟨rfl, HS⟩ := hcut
           rename World => wp
           obtain ⟨ob, mB, VB, ltb⟩ := HS.out;have g0 := (ltb.below0.cell (p := ⟨w.heap.size, 0, none⟩) (lt_of_cell c0)).trans c0;obtain ⟨wl, hwl⟩ : ∃ wl, wl = mB.waits.length := ⟨_, rfl⟩;have hwl6 : wl <= 6 := by
            have h1 : mB.waits <:+ q.plan := ltb.st;have := h1.length_le;have := HSP.out.plan;omega
           have HWA := Lib.hid (manWaits_any ltb.sat.is);have HEW : Hid (EvsAt wp a2 ev2) := Lib.hid (HEV.out.below (HBB.out.trans (ltb.below0.mono HBB.out.size)));obtain ⟨z, hz⟩ : ∃ z, z = planR n wl ev2 := ⟨_, rfl⟩;have HPN : Hid (Calls Tryz.prog 59 #[.int .i64 (n : Nat), .int .i64 (wl : Nat), .slice a2 ev2.length c2] wp fun y w' => y = .returned (.int .i64 z) /\ wp = w') := Lib.hid (by rw [hz]; exact plan13_any n wl (by omega) (by omega) a2 c2 ev2 wp HEW.out)
           have HMP : Hid (Calls Tryz.prog 37 #[.pointer (some ⟨mb, 0, none⟩), .slice a2 ev2.length c2] wp fun e w' => e = .returned (.int .i64 z) /\ ∃ o' m', (z ≠ 0 -> m'.waits.length = wl) /\ (z = 0 -> m'.waits.length = wl + ev2.length) /\ LawT iteLaw n (fun _ => True) (roomOf n) wb mb (two ++ hs) nx (fun _ _ => True) hs hs w' o' m' VB (.slice al hs.length cl) vx) := Lib.hid (by
            have h1 := manPlan_any ltb.sat (c := c2) HEW.out (fun h0 x hx => by
             obtain ⟨b, off, e, hc, _⟩ := HEV.out.cells 0 h0;rw [hx] at e;cases e;exact ltb.sat.none0 (Nat.lt_of_lt_of_le (lt_of_cell hc) HBB.out.size)) (by omega)
            rw [<- hwl, <- hz] at h1;refine h1.mono ?_;rintro e w' ⟨rfl, o', m', hp⟩;exact ⟨rfl, o', m', fun h0 => by rw [(hp.no h0).1, hwl], fun h0 => by rw [(hp.yes h0).1, List.length_append, hwl], ltb.go hp.sat ltb.b2 trivial (ChgX.of_chg hp.chg NoB)⟩)
           rw [<- hwl] at HWA;clear ltb hwl hz HS;go_wp2_with fail;refine HWA.out.mono ?_;rintro y w' ⟨rfl, rfl⟩;go_wp2_with fail;refine HPN.out.mono ?_;rintro y w' ⟨rfl, rfl⟩;go_wp2_with fail;refine HMP.out.mono ?_;rintro y wq ⟨rfl, oq, mq, hq1, hq2, ltq⟩;have HLQ := Lib.hid ltq;have HWQ := Lib.hid (manWaits_any ltq.sat.is);obtain ⟨wl2, hwl2⟩ : ∃ wl2, wl2 = mq.waits.length := ⟨_, rfl⟩;rw [<- hwl2] at hq1 hq2 HWQ
           have HLF : Hid (Calls Tryz.prog 20 #[.pointer (some ⟨mb, 0, none⟩), .int .i64 (hs.length : Nat)] wq fun x w' => x = .returned (.bool true) /\ wq = w') := Lib.hid ((left_any ltq.sat hs.length (by omega)).mono fun e w' ⟨h1, h2⟩ => by
            rw [h1, decide_eq_true (by rw [hfl]; omega)];exact ⟨rfl, h2⟩)
           have HALL := Lib.hid (all_any ltq.sat (by omega) (ltq.row HSUB.out (by omega)));have HQ1 := Lib.hid hq1;have HQ2 := Lib.hid hq2;clear ltq hwl2 hq1 hq2 HMP HPN HWA HEW g0;have hzz : (z = 0 /\ ((wl2 : Int) != (wl : Int) + (ev2.length : Int)) = false) \/ ((z != 0) = true /\ (z == 0) = false /\ wl2 = wl) := by
            by_cases hzc : z = 0
            ·
             have hw2 : (wl2 : Int) = (wl : Int) + (ev2.length : Int) := by have := HQ2.out hzc; omega
             exact .inl ⟨hzc, by rw [hw2]; simp⟩
            ·
             exact .inr ⟨by simpa using hzc, by simpa using hzc, HQ1.out hzc⟩
           rcases hzz with ⟨rfl, hwn⟩ | ⟨hz1, hz2, rfl⟩
           all_goals
            go_wp2_with fail;refine HWQ.out.mono ?_;rintro y w' ⟨rfl, rfl⟩;go_wp2_with fail;refine HLF.out.mono ?_;rintro y w' ⟨rfl, rfl⟩;go_wp2_with fail;refine HALL.out.mono ?_;rintro y wr ⟨rfl, hbr⟩;have HBR := Lib.hid (HBB.out.trans ((HLQ.out.below hbr).below0.mono HBB.out.size));have HLV := Lib.hid (lives13b wr);clear hbr;go_wp2_with fail;refine HLV.out.mono ?_;rintro y ws ⟨rfl, hbs⟩;have HFN := Lib.hid (HBR.out.trans (hbs.mono HBR.out.size));clear hbs;go_wp2_with fail;go_ret;exact ⟨rfl, HFN.out⟩
     | false =>
       as_aux_lemma =>
        have hno : ∀ p ∈ two ++ hs, p.1 ≠ zh := fun p hp e => by
         have := HIN.out.2 ⟨p.2, by rw [<- e]; exact hp⟩;simp at this
        have HSM := Lib.hid (manSame_no HL.out.sat (k := 1) h1m hno);have HEA := Lib.hid (manEval_no HL.out.sat hno (.slice none 0 0));have HISN := Lib.hid (manIs_no HL.out.sat hno);have HNT := Lib.hid (manNot_no HL.out.sat hno);have HIT := Lib.hid (manIte_bad iteLaw_ok HL.out.sat (kf := 0) (kh := 1) q.plan HL.out.st (fun ev _ => happen_any (by omega) ev) (by omega) h0m hno);have HNO := Lib.hid hno;clear hno h1m h0m HIN HB HS0;go_wp2_with fail;refine HSM.out.mono ?_;rintro y w' ⟨rfl, rfl⟩;go_wp2_with fail;refine HEA.out.mono ?_;rintro y w' ⟨rfl, rfl⟩;go_wp2_with fail;refine HISN.out.mono ?_;rintro y w' ⟨rfl, rfl⟩;go_wp2_with fail;refine HNT.out.mono ?_;rintro y w' ⟨rfl, rfl⟩;go_wp2_with fail;refine HIT.out.mono ?_;rintro y w4 ⟨rfl, o4, m4, V4, hc4, hw4, hs4⟩;have HL4 := Lib.hid (HL.out.go (Wt' := SufW q.plan) hs4 HL.out.b2 hw4 hc4);have HCP := Lib.hid (manCopy_no hs4 HNO.out);have hbn := below_new1 w4 (.cells #[.int .i64 zh] 3);have HDR := Lib.hid (manDrop_no (hs4.below hbn) HNO.out (c := 1) (intsAt_new w4 [zh] (by simp)));have HS : Hid (RefS q n wb mb hs nx (.slice al hs.length cl) vx (w4.alloc (.cells #[.int .i64 zh] 3))) := Lib.hid ⟨o4, m4, V4, HL4.out.below hbn⟩;clear hc4 hw4 hs4 hbn HSM HEA HISN HNT HIT HL HL4 HNO;go_wp2_with fail;refine HCP.out.mono ?_;rintro y w' ⟨rfl, rfl⟩;go_wp2_with fail;refine HDR.out.mono ?_;rintro y w' ⟨rfl, rfl⟩;clear HDR HCP;go_upto_region 26 with fail
        go_cut [146] (fun s146 wy => ∃ b : Bool, s146 = .bool b /\ Hid (b = true -> zv < 0 \/ (n : Int) <= zv) /\ Hid (RefS q n wb mb hs nx (.slice al hs.length cl) vx wy))
        case first =>
         have g0 := (HS.out.below0.cell (p := ⟨w.heap.size, 0, none⟩) (lt_of_cell c0)).trans c0
         by_cases hv0 : zv < 0
         ·
          go_wp2_with fail;go_meet
          case rel => exact ⟨true, rfl, Lib.hid fun _ => .inl hv0, HS⟩
         ·
          by_cases hv1 : zv >= (n : Int)
          ·
           go_wp2_with fail;go_meet
           case rel => exact ⟨true, by first | rfl | trivial | (simp; omega), Lib.hid fun _ => .inr hv1, HS⟩
          ·
           go_wp2_with fail;go_meet
           case rel => exact ⟨false, by first | rfl | trivial | (simp; omega), Lib.hid (by simp), HS⟩
        case rest =>
        clear HS;obtain ⟨bv, rfl, HBV, HS⟩ := hcut;obtain ⟨ob, mB, VB, ltb⟩ := HS.out;have HVB := Lib.hid (fun hv => manVar_bad (v := zv) ltb.sat hv);clear ltb;cases bv
        rotate_left
        focus
         have HVB2 := Lib.hid (HVB.out (HBV.out (by first | rfl | trivial)));go_wp2_with fail;refine HVB2.out.mono ?_;rintro y wv ⟨rfl, hbv⟩;have HS3 := Lib.hid (HS.out.below hbv);clear hbv HVB HVB2 HS HBV;have HS := HS3;clear HS3
        rotate_left
        clear HVB HBV
        all_goals
         as_aux_lemma =>
          go_upto_region 30 with fail
          go_cut [169] (fun s169 wy => s169 = .bool false /\ Hid (RefS q n wb mb hs nx (.slice al hs.length cl) vx wy))
          case first =>
           obtain ⟨ob, mB, VB, ltb⟩ := HS.out;have g0 := (ltb.below0.cell (p := ⟨w.heap.size, 0, none⟩) (lt_of_cell c0)).trans c0;have HVB := Lib.hid (fun hv => swap_bad_law (z := zv) ltb hv);clear ltb;have hvc : zv < 0 \/ (¬ zv < 0 /\ zv > (n : Int) - 2) \/ (¬ zv < 0 /\ ¬ zv > (n : Int) - 2) := by omega
           rcases hvc with hv0 | ⟨hv0, hv1⟩ | ⟨hv0, hv1⟩
           rotate_left 2
           ·
            clear HVB;go_wp2_with fail;go_meet
            case rel => exact ⟨rfl, HS⟩
           all_goals
            have HVB2 := Lib.hid (HVB.out (by omega));go_wp2_with fail;refine HVB2.out.mono ?_;rintro y wv ⟨rfl, o9, m9, V9, _, l9⟩;have HS3 : Hid (RefS q n wb mb hs nx (.slice al hs.length cl) vx wv) := Lib.hid ⟨o9, m9, V9, l9⟩;clear l9 HVB HVB2;go_wp2_with fail;go_meet
            case rel => exact ⟨rfl, HS3⟩
          case rest =>
           clear HS;obtain ⟨rfl, HS⟩ := hcut
           rename World => wp
           obtain ⟨ob, mB, VB, ltb⟩ := HS.out;have g0 := (ltb.below0.cell (p := ⟨w.heap.size, 0, none⟩) (lt_of_cell c0)).trans c0;obtain ⟨wl, hwl⟩ : ∃ wl, wl = mB.waits.length := ⟨_, rfl⟩;have hwl6 : wl <= 6 := by
            have h1 : mB.waits <:+ q.plan := ltb.st;have := h1.length_le;have := HSP.out.plan;omega
           have HWA := Lib.hid (manWaits_any ltb.sat.is);have HEW : Hid (EvsAt wp a2 ev2) := Lib.hid (HEV.out.below (HBB.out.trans (ltb.below0.mono HBB.out.size)));obtain ⟨z, hz⟩ : ∃ z, z = planR n wl ev2 := ⟨_, rfl⟩;have HPN : Hid (Calls Tryz.prog 59 #[.int .i64 (n : Nat), .int .i64 (wl : Nat), .slice a2 ev2.length c2] wp fun y w' => y = .returned (.int .i64 z) /\ wp = w') := Lib.hid (by rw [hz]; exact plan13_any n wl (by omega) (by omega) a2 c2 ev2 wp HEW.out)
           have HMP : Hid (Calls Tryz.prog 37 #[.pointer (some ⟨mb, 0, none⟩), .slice a2 ev2.length c2] wp fun e w' => e = .returned (.int .i64 z) /\ ∃ o' m', (z ≠ 0 -> m'.waits.length = wl) /\ (z = 0 -> m'.waits.length = wl + ev2.length) /\ LawT iteLaw n (fun _ => True) (roomOf n) wb mb (two ++ hs) nx (fun _ _ => True) hs hs w' o' m' VB (.slice al hs.length cl) vx) := Lib.hid (by
            have h1 := manPlan_any ltb.sat (c := c2) HEW.out (fun h0 x hx => by
             obtain ⟨b, off, e, hc, _⟩ := HEV.out.cells 0 h0;rw [hx] at e;cases e;exact ltb.sat.none0 (Nat.lt_of_lt_of_le (lt_of_cell hc) HBB.out.size)) (by omega)
            rw [<- hwl, <- hz] at h1;refine h1.mono ?_;rintro e w' ⟨rfl, o', m', hp⟩;exact ⟨rfl, o', m', fun h0 => by rw [(hp.no h0).1, hwl], fun h0 => by rw [(hp.yes h0).1, List.length_append, hwl], ltb.go hp.sat ltb.b2 trivial (ChgX.of_chg hp.chg NoB)⟩)
           rw [<- hwl] at HWA;clear ltb hwl hz HS;go_wp2_with fail;refine HWA.out.mono ?_;rintro y w' ⟨rfl, rfl⟩;go_wp2_with fail;refine HPN.out.mono ?_;rintro y w' ⟨rfl, rfl⟩;go_wp2_with fail;refine HMP.out.mono ?_;rintro y wq ⟨rfl, oq, mq, hq1, hq2, ltq⟩;have HLQ := Lib.hid ltq;have HWQ := Lib.hid (manWaits_any ltq.sat.is);obtain ⟨wl2, hwl2⟩ : ∃ wl2, wl2 = mq.waits.length := ⟨_, rfl⟩;rw [<- hwl2] at hq1 hq2 HWQ
           have HLF : Hid (Calls Tryz.prog 20 #[.pointer (some ⟨mb, 0, none⟩), .int .i64 (hs.length : Nat)] wq fun x w' => x = .returned (.bool true) /\ wq = w') := Lib.hid ((left_any ltq.sat hs.length (by omega)).mono fun e w' ⟨h1, h2⟩ => by
            rw [h1, decide_eq_true (by rw [hfl]; omega)];exact ⟨rfl, h2⟩)
           have HALL := Lib.hid (all_any ltq.sat (by omega) (ltq.row HSUB.out (by omega)));have HQ1 := Lib.hid hq1;have HQ2 := Lib.hid hq2;clear ltq hwl2 hq1 hq2 HMP HPN HWA HEW g0;have hzz : (z = 0 /\ ((wl2 : Int) != (wl : Int) + (ev2.length : Int)) = false) \/ ((z != 0) = true /\ (z == 0) = false /\ wl2 = wl) := by
            by_cases hzc : z = 0
            ·
             have hw2 : (wl2 : Int) = (wl : Int) + (ev2.length : Int) := by have := HQ2.out hzc; omega
             exact .inl ⟨hzc, by rw [hw2]; simp⟩
            ·
             exact .inr ⟨by simpa using hzc, by simpa using hzc, HQ1.out hzc⟩
           rcases hzz with ⟨rfl, hwn⟩ | ⟨hz1, hz2, rfl⟩
           all_goals
            go_wp2_with fail;refine HWQ.out.mono ?_;rintro y w' ⟨rfl, rfl⟩;go_wp2_with fail;refine HLF.out.mono ?_;rintro y w' ⟨rfl, rfl⟩;go_wp2_with fail;refine HALL.out.mono ?_;rintro y wr ⟨rfl, hbr⟩;have HBR := Lib.hid (HBB.out.trans ((HLQ.out.below hbr).below0.mono HBB.out.size));have HLV := Lib.hid (lives13b wr);clear hbr;go_wp2_with fail;refine HLV.out.mono ?_;rintro y ws ⟨rfl, hbs⟩;have HFN := Lib.hid (HBR.out.trans (hbs.mono HBR.out.size));clear hbs;go_wp2_with fail;go_ret;exact ⟨rfl, HFN.out⟩
end Go.Proofs.YtchliiaknmknhaaGreat
