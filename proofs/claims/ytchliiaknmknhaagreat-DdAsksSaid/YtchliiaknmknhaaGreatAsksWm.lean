/- The walk of a law: AsksW. -/
import Derived.Test.YtchliiaknmknhaaGreatAsksXm
set_option linter.unusedSimpArgs false
set_option linter.unusedVariables false
set_option linter.unusedSectionVars false
set_option linter.unnecessarySimpa false
set_option maxRecDepth 100000
set_option maxHeartbeats 8000000
namespace Go.Proofs.YtchliiaknmknhaaGreat
open Go.RowKit
structure AtC (K : Law) (k : Nat) (o : Own) (w : World) (mb : Nat) (m : ManD) (V : Nat -> BF) (o' : Own) (w' : World) (m' : ManD) (V' : Nat -> BF) : Prop where
 st : Step K o w mb m V o' w' m' V'
 waits : m'.waits = m.waits
 many : m'.d.pool.many <= m.d.pool.many + k
def CStop (K : Law) (k : Nat) (o : Own) (w : World) (mb : Nat) (m : ManD) (V : Nat -> BF) (er : Int) (evt : Bool) (ev : Ev) (w' : World) : Prop :=
 ∃ o' m' V', Step K o w mb m V o' w' m' V' /\ ((er = 7 /\ evt = false /\ ev = ev0 /\ m'.waits = m.waits /\ m'.d.pool.many = m'.d.pool.room /\ m'.d.pool.many + 1 <= m.d.pool.many + k) \/ (er = 0 /\ evt = true /\ m.waits = ev :: m'.waits))
def CPost (K : Law) (k : Nat) (o : Own) (w : World) (mb : Nat) (m : ManD) (V : Nat -> BF) (A : StoreD -> (Nat -> BF) -> Nat -> Prop) (e : Ending) (w' : World) : Prop :=
 (∃ r o' m' V', e = .returned (.int .i64 (r : Nat)) /\ AtC K k o w mb m V o' w' m' V' /\ okE (nodesOf m'.d) r /\ A m'.d V' r) \/ (∃ er evt ev, e = stopP er evt ev /\ CStop K k o w mb m V er evt ev w')
section
variable {K : Law} {n k k1 k2 : Nat} {Od : List Nat -> Prop} {room : Nat} {w0 w w' w1 w2 : World} {mb : Nat} {fs : List (Int × BF)} {nx : Int} {o o' o1 o2 : Own} {m m' m1 m2 : ManD} {V V' V1 V2 : Nat -> BF} {xb : Nat}
theorem AtC.refl (h : ManAt (K m.d V) o w mb m) (hl : OwnLt o w) (hk : StoreOK m.d V) : AtC K 0 o w mb m V o w m V := ⟨⟨h, hl, Chg.refl _ _ _, hk, Ext.refl _ _, rfl, rfl⟩, rfl, Nat.le_refl _⟩
theorem AtC.trans (h : AtC K k1 o w mb m V o1 w1 m1 V1) (h' : AtC K k2 o1 w1 mb m1 V1 o2 w2 m2 V2) : AtC K (k1 + k2) o w mb m V o2 w2 m2 V2 :=
 ⟨h.st.trans h'.st, h'.waits.trans h.waits, by have := h.many; have := h'.many; omega⟩
theorem AtC.mono (h : AtC K k1 o w mb m V o1 w1 m1 V1) (hk : k1 <= k2) : AtC K k2 o w mb m V o1 w1 m1 V1 := ⟨h.st, h.waits, Nat.le_trans h.many (by omega)⟩
theorem AtC.below (h : AtC K k o w mb m V o1 w1 m1 V1) (hb : Below w1.heap.size w1 w2) : AtC K k o w mb m V o1 w2 m1 V1 := ⟨h.st.below hb, h.waits, h.many⟩
theorem AtC.vars (h : AtC K k o w mb m V o1 w1 m1 V1) (hv : m.d.vars.length = n) : m1.d.vars.length = n := by rw [h.st.ext.vars]; exact hv
theorem CStop.after {er : Int} {evt : Bool} {ev : Ev} (h : AtC K k1 o w mb m V o1 w1 m1 V1) (h' : CStop K k2 o1 w1 mb m1 V1 er evt ev w2) (hk : k1 + k2 <= k) : CStop K k o w mb m V er evt ev w2 := by
 obtain ⟨o2, m2, V2, st, ⟨a1, a2, a3, a4, a5, a6⟩ | ⟨a1, a2, a3⟩⟩ := h'
 ·
  have := h.many;exact ⟨o2, m2, V2, h.st.trans st, .inl ⟨a1, a2, a3, a4.trans h.waits, a5, by omega⟩⟩
 ·
  exact ⟨o2, m2, V2, h.st.trans st, .inr ⟨a1, a2, by rw [<- h.waits]; exact a3⟩⟩
theorem ctxMk_c (hK : LawOK K) (h : ManAt (K m.d V) o w mb m) (hlt : OwnLt o w) (hx : CtxAt o w xb mb) (hk : StoreOK m.d V) (v lo hi : Nat) (hv : v < m.d.vars.length) (hlo : okE (nodesOf m.d) lo) (hhi : okE (nodesOf m.d) hi)
 (hgl : levN m.d v < lvE m.d.vars.length (levN m.d) (nodesOf m.d) lo) (hgh : levN m.d v < lvE m.d.vars.length (levN m.d) (nodesOf m.d) hi) :
 Calls Tryz.prog 26 #[.pointer (some ⟨xb, 0, none⟩), .int .i64 v, .int .i64 lo, .int .i64 hi] w (CPost K 1 o w mb m V fun d V' r => ef V' r = iteF v (ef V hi) (ef V lo) /\ levN m.d v <= lvE m.d.vars.length (levN d) (nodesOf d) r) := by
 refine (ctxMk_any hK h hlt hx hk v lo hi hlo hhi).mono ?_;rintro e w' ⟨o', m', V', st, ⟨ev, h1, _, _, _, _, rfl⟩ | ⟨h1, _, _, (⟨er, her, hd, _, rfl⟩ | ⟨_, _, r, rfl, h2, h3, h4, h5⟩)⟩⟩
 ·
  exact .inr ⟨0, true, ev, rfl, o', m', V', st, .inr ⟨rfl, rfl, h1⟩⟩
 ·
  rcases her with ⟨_, h⟩ | ⟨_, _, _, h⟩ | ⟨rfl, h⟩
  ·
   exact (h ⟨by omega, by omega⟩).elim
  ·
   simp only [Int.toNat_natCast] at h; omega
  ·
   exact .inr ⟨7, false, ev0, rfl, o', m', V', st, .inl ⟨rfl, rfl, rfl, h1, by rw [hd]; exact h, by rw [hd]; omega⟩⟩
 ·
  exact .inl ⟨r, o', m', V', rfl, ⟨st, h1, h5⟩, h2, h3, h4⟩
theorem ctxVar_c (hK : LawOK K) (h : ManAt (K m.d V) o w mb m) (hlt : OwnLt o w) (hx : CtxAt o w xb mb) (hk : StoreOK m.d V) (v : Nat) (hv : v < m.d.vars.length) :
 Calls Tryz.prog 26 #[.pointer (some ⟨xb, 0, none⟩), .int .i64 v, .int .i64 (1 : Nat), .int .i64 (0 : Nat)] w (CPost K 1 o w mb m V fun _ V' r => ef V' r = varF v) := by
 have hlv := hk.dag.lt v hv;refine (ctxMk_c hK h hlt hx hk v 1 0 hv (.inl rfl) (.inl rfl) (by rw [lvE_const hk rfl]; exact hlv) (by rw [lvE_const hk rfl]; exact hlv)).mono ?_;rintro e w' (⟨r, o', m', V', rfl, h1, h2, h3, _⟩ | h)
 ·
  refine .inl ⟨r, o', m', V', rfl, h1, h2, ?_⟩
  show ef V' r = varF v
  rw [h3];funext ρ;simp only [iteF, varF, ef_zero hk.dag.one, ef_one hk.dag.one];cases ρ v <;> rfl
 ·
  exact .inr h
theorem ctxIte_c (hK : LawOK K) (h : ManAt (K m.d V) o w mb m) (hlt : OwnLt o w) (hx : CtxAt o w xb mb) (hk : StoreOK m.d V) (hn : m.d.vars.length = n) (f g e : Nat) (hf : okE (nodesOf m.d) f) (hg : okE (nodesOf m.d) g) (he : okE (nodesOf m.d) e) :
 Calls Tryz.prog 40 #[.pointer (some ⟨xb, 0, none⟩), .int .i64 f, .int .i64 g, .int .i64 e] w (CPost K (2 ^ n - 1) o w mb m V fun _ V' r => ef V' r = iteFn (ef V f) (ef V g) (ef V e)) := by
 have hp2 : 0 < 2 ^ n := Nat.pow_pos (by omega);refine (ctxIte_any hK n o w xb mb m V f g e h hlt hx hk hf hg he (by omega)).mono ?_;rintro x w' ⟨o', m', V', st, ⟨r, rfl, h1, h2, h3⟩ | ⟨rfl, h2, h3, h4⟩ | ⟨ev, rfl, h1⟩⟩
 ·
  refine .inl ⟨r, o', m', V', rfl, ⟨st, h2, by omega⟩, h1.okR, ?_⟩
  show ef V' r = iteFn (ef V f) (ef V g) (ef V e)
  funext ρ;rw [h1.val ρ, st.ext.ef hf, st.ext.ef hg, st.ext.ef he];rfl
 ·
  exact .inr ⟨7, false, ev0, rfl, o', m', V', st, .inl ⟨rfl, rfl, rfl, h2, h3, by omega⟩⟩
 ·
  exact .inr ⟨0, true, ev, rfl, o', m', V', st, .inr ⟨rfl, rfl, h1⟩⟩
theorem opG_of {C : Nat -> Prop} {B : World -> Prop} {gop : Nat} {lop : Array Value} {F : BF} (ws0 : List Ev) (lim : Option Nat) (hlim : LimIn ws0 lim k room) (hhap : ∀ ev ∈ ws0, HapG K n Od room w0 mb fs nx ev)
 (hB : ∀ W W', B W -> (∀ c, C c -> W'.heap[c]? = W.heap[c]?) -> B W')
 (hop : ∀ (o : Own) (W : World) (m : ManD) (V : Nat -> BF) (xb : Nat), SatE K n Od room w0 mb fs nx W o m V -> B W -> (∀ k, C k -> k < W.heap.size /\ o k = none) -> CtxAt o W xb mb -> ¬ C xb -> Calls Tryz.prog gop (#[.pointer (some ⟨xb, 0, none⟩)] ++ lop) W (CPost K k o W mb m V fun _ V' r => ef V' r = F)) :
 OpG K n Od room w0 mb fs nx C B (StL ws0 lim) gop lop (QF ws0 lim k F) (EL (SatX K n Od room w0 mb fs nx) k ws0 lim) := by
 intro o W m V xb hsat hb hC hst hcx hnx;refine (hop o W m V xb hsat hb hC hcx hnx).mono ?_;have hkeep : ∀ {o' : Own} {w' : World} {m' : ManD} {V' : Nat -> BF}, Step K o W mb m V o' w' m' V' -> B w' := fun st => hB _ _ hb fun c hc => st.chg.alien (hC c hc).1 (hC c hc).2
 rintro e w' (⟨r, o', m', V', rfl, h1, h2, h3⟩ | ⟨er, evt, ev, rfl, o', m', V', st, ⟨rfl, rfl, rfl, a4, a5, a6⟩ | ⟨rfl, rfl, a3⟩⟩)
 ·
  exact ⟨o', m', V', h1.st.toX _, hkeep h1.st, .inl ⟨r, rfl, h2, h3, by rw [h1.waits]; exact hst.1, fun M e => by have := hst.2 M e; have := h1.many; omega⟩⟩
 ·
  have hl0 : lim = none := lim_none (m' := m') hlim hst.2 (by rw [<- a5]; omega) (by rw [st.ext.room]; exact hsat.room);exact ⟨o', m', V', st.toX _, hkeep st, .inr (.inl ⟨7, rfl, by omega, a4, ⟨by unfold SuffOf; rw [a4]; exact hst.1, by subst hl0; exact fun M e => by cases e⟩, hl0, rfl, ⟨_, _, _, hsat⟩, a5, a6, by rw [a4]; exact hst.1⟩)⟩
 ·
  have hst' : m.waits <:+ ws0 := hst.1;rw [a3] at hst';exact ⟨o', m', V', st.toX _, hkeep st, .inr (.inr ⟨ev, rfl, a3, fun _ _ _ _ _ e _ _ => ⟨by unfold SuffOf; rw [e]; exact (List.suffix_cons ev m'.waits).trans hst', lim_ev hlim hst'⟩, hhap ev (hst'.subset (List.mem_cons_self ..))⟩)⟩
theorem do_of {C : Nat -> Prop} {B : World -> Prop} {gop : Nat} {lop : Array Value} {F : BF} (hK : LawOK K) (eg : ∀ args w, (callFunc gop args).run Tryz.prog w = .ok (.enter gop args) w) (ws0 : List Ev)
 (hB : ∀ W W', B W -> (∀ c, C c -> W'.heap[c]? = W.heap[c]?) -> B W')
 (hop : ∀ (o : Own) (W : World) (m : ManD) (V : Nat -> BF) (xb : Nat), SatE K n (fun _ => True) room w0 mb fs nx W o m V -> B W -> (∀ k, C k -> k < W.heap.size /\ o k = none) -> CtxAt o W xb mb -> ¬ C xb -> Calls Tryz.prog gop (#[.pointer (some ⟨xb, 0, none⟩)] ++ lop) W (CPost K k o W mb m V fun _ V' r => ef V' r = F))
 (h : SatE K n (fun _ => True) room w0 mb fs nx w o m V) (hb1 : Below w.heap.size w w1) (hC : ∀ c, C c -> w.heap.size <= c /\ c < w1.heap.size) (hb : B w1) (hst : m.waits <:+ ws0) (hn : nx <= 549755813888) (hr : fs.length * 2 ^ n + k <= room) :
 Calls Tryz.prog 24 #[.pointer (some ⟨mb, 0, none⟩), .func (.func gop) #[] lop] w1 fun x w' => x = .returned (.tuple #[.int .i64 nx, .int .i64 0]) /\
  ∃ o' m' V', ChgX NoB o o' w w' /\ m'.waits <:+ ws0 /\ SatE K n (fun _ => True) room w0 mb (fs ++ [(nx, F)]) (nx + 1) w' o' m' V' := by
 have hw0 := h.chg.size;refine (do_gen hK hB (fun _ _ _ _ _ h _ => h) StL.coll (fun c hc => Nat.le_trans hw0 (hC c hc).1) eg (opG_of ws0 none (fun _ e => by cases e) (fun ev _ => happen_any hn ev) hB hop) (h.below hb1) hb (fun c hc => ⟨(hC c hc).2, h.lt.none (hC c hc).1⟩) ⟨hst, fun _ e => by cases e⟩ (by omega)).mono ?_;intro x w' hp;obtain ⟨o', m', V', h1, h2, ⟨h3, _, h4⟩ | ⟨_, _, _, m0, ⟨W, oo, VV, hs⟩, h5, h6⟩⟩ := opLeft_of hb1 (fun c hc => (hC c hc).1) hp
 ·
  exact ⟨h3, o', m', V', h1, h2, h4⟩
 ·
  exfalso;have := hs.few h5;omega
end
open Go.RowKit
def specLaw (Sp : List Nat -> Int -> BF -> BF -> BF -> BF -> Prop) : Law := fun d V op a b c r =>
 if op = 1 then IteP d V a b c r else okE (nodesOf d) a /\ okE (nodesOf d) b /\ okE (nodesOf d) c /\ okE (nodesOf d) r /\ Sp d.vars op (ef V a) (ef V b) (ef V c) (ef V r)
theorem specLaw_ok (Sp : List Nat -> Int -> BF -> BF -> BF -> BF -> Prop) : LawOK (specLaw Sp) := by
 refine ⟨fun d V a b c r => ?_, fun d V d' V' op a b c r k1 k2 x h => ?_, fun d d' V op a b c r h1 h2 h3 h => ?_⟩
 ·
  unfold specLaw;rw [if_pos rfl]
 ·
  unfold specLaw at h ⊢
  by_cases e : op = 1
  ·
   rw [if_pos e] at h ⊢;exact (iteLaw_ok.ite ..).1 (iteLaw_ok.ext d V d' V' 1 a b c r k1 k2 x ((iteLaw_ok.ite ..).2 h))
  ·
   rw [if_neg e] at h ⊢;obtain ⟨q1, q2, q3, q4, q5⟩ := h;refine ⟨x.ok q1, x.ok q2, x.ok q3, x.ok q4, ?_⟩;rw [x.vars, x.ef q1, x.ef q2, x.ef q3, x.ef q4];exact q5
 ·
  unfold specLaw at h ⊢
  by_cases e : op = 1
  ·
   rw [if_pos e] at h ⊢;exact (iteLaw_ok.ite ..).1 (iteLaw_ok.same d d' V 1 a b c r h1 h2 h3 ((iteLaw_ok.ite ..).2 h))
  ·
   rw [if_neg e] at h ⊢;rw [h1, h3];exact h
theorem specLaw_iff {Sp : List Nat -> Int -> BF -> BF -> BF -> BF -> Prop} {d : StoreD} {V : Nat -> BF} {op : Int} {a b c r : Nat} (h : op ≠ 1) : specLaw Sp d V op a b c r ↔ okE (nodesOf d) a /\ okE (nodesOf d) b /\ okE (nodesOf d) c /\ okE (nodesOf d) r /\ Sp d.vars op (ef V a) (ef V b) (ef V c) (ef V r) := by
 unfold specLaw;rw [if_neg h]
section
variable {K : Law} {k : Nat} {w : World} {mb : Nat} {o : Own} {m : ManD} {V : Nat -> BF} {xb : Nat}
theorem ctxMemo_c (h : ManAt (K m.d V) o w mb m) (hlt : OwnLt o w) (hx : CtxAt o w xb mb) (hk : StoreOK m.d V) {gf : Nat} {lf : Array Value} (eg : ∀ args w, (callFunc gf args).run Tryz.prog w = .ok (.enter gf args) w) (op : Int) (a b c : Nat) {A : StoreD -> (Nat -> BF) -> Nat -> Prop}
 (hA : ∀ r, K m.d V op a b c r -> okE (nodesOf m.d) r /\ A m.d V r) (hput : ∀ d' V' r, StoreOK d' V' -> Ext m.d V d' V' -> okE (nodesOf d') r -> A d' V' r -> K d' V' op a b c r)
 (hf : ∀ w1, Chg (fun _ => True) o o w w1 -> ManAt (K m.d V) o w1 mb m -> OwnLt o w1 -> Calls Tryz.prog gf lf w1 (CPost K k o w1 mb m V A)) :
 Calls Tryz.prog 65 #[.pointer (some ⟨xb, 0, none⟩), .int .i64 op, .int .i64 a, .int .i64 b, .int .i64 c, .func (.func gf) #[] lf] w (CPost K k o w mb m V A) := by
 obtain ⟨s, hms⟩ := h;obtain ⟨c0, c1, c2, c3, c4, c5, f0⟩ := cells6 hms.blk;have cx := hx.cell;have HX := Lib.hid hx;have HGET := Lib.hid (get_any o s.me (K m.d V) op a b c w hms.memo hlt);have HMS := Lib.hid hms;have HOL := Lib.hid hlt;have HK := Lib.hid hk;have HA := Lib.hid hA;have HP := Lib.hid hput;have HF := Lib.hid hf;clear hms hlt hx hk hA hput hf
 go_enter Tryz.func65, Tryz.ntmps65
 go_wp2_with fail;refine HGET.out.mono ?_;rintro x w1 ⟨hgs, hme, hc1, hl1⟩;have hm1 : ManAt (K m.d V) o w1 mb m := ⟨s, HMS.out.setMemo HOL.out hme (hc1.mono fun r e => .inl e)⟩;have HAT1 : Hid (AtC K 0 o w mb m V o w1 m V) := Lib.hid ⟨⟨hm1, hl1, hc1.any, HK.out, Ext.refl _ _, rfl, rfl⟩, rfl, Nat.le_refl _⟩;rcases hgs with rfl | ⟨r, rfl, hkr⟩
 ·
  have HFC := Lib.hid (HF.out w1 hc1.any hm1 hl1);clear hm1 hme hc1 hl1 c0 c1 c2 c3 c4 c5 f0 cx;go_wp2_with fail;refine HFC.out.mono ?_;rintro e w2 (⟨r, o2, m2, V2, rfl, at2, hok, hA2⟩ | ⟨er, evt, ev, rfl, hs⟩)
  ·
   have hat := HAT1.out.trans at2;obtain ⟨s2, hm2⟩ := hat.st.is;obtain ⟨c0, c1, c2, c3, c4, c5, f0⟩ := cells6 hm2.blk;have cx := (HX.out.chg hat.st.chg).cell;have HPUT := Lib.hid (put_memo o2 s2.me (K m2.d V2) op a b c r w2 hm2.memo hat.st.lt (HP.out _ _ r hat.st.ok hat.st.ext hok hA2));have HM2 := Lib.hid hm2;have HAT2 := Lib.hid hat;have HOK := Lib.hid hok;have HA2 := Lib.hid hA2;clear hat hm2 at2 hok hA2 HFC;go_wp2_with fail;refine HPUT.out.mono ?_;rintro x w3 ⟨rfl, o3, hme, hc3, hl3⟩;have HR : Hid (AtC K k o w mb m V o3 w3 m2 V2) := Lib.hid ⟨⟨⟨s2, HM2.out.setMemo HAT2.out.st.lt hme hc3⟩, hl3, HAT2.out.st.chg.trans hc3.any, HAT2.out.st.ok, HAT2.out.st.ext, HAT2.out.st.hs, HAT2.out.st.next⟩, HAT2.out.waits, by have := HAT2.out.many; omega⟩;clear hme hc3 hl3 c0 c1 c2 c3 c4 c5 f0 cx;go_wp2_with fail;go_ret;exact .inl ⟨r, o3, m2, V2, rfl, HR.out, HOK.out, HA2.out⟩
  ·
   have HS := Lib.hid (hs.after HAT1.out (k := k) (by omega));clear hs HFC;unfold stopP;go_wp2_with fail;exact ⟨rfl, .inr ⟨er, evt, ev, rfl, HS.out⟩⟩
 ·
  have hr := HA.out r hkr;have HR : Hid (AtC K k o w mb m V o w1 m V) := Lib.hid (HAT1.out.mono (Nat.zero_le _));have HOK := Lib.hid hr;clear hkr hr hme hc1 hl1 hm1 c0 c1 c2 c3 c4 c5 f0 cx;go_wp2_with fail;go_ret;exact .inl ⟨r, o, m, V, rfl, HR.out, HOK.out.1, HOK.out.2⟩
end
open Go.RowKit
def MkBad (w : World) (er : Int) (e : Ending) (w' : World) : Prop := e = .returned (.tuple #[.int .i64 0, .int .i64 er]) /\ Below w.heap.size w w'
theorem mk_var0 {o : Own} {w : World} {sb : Nat} {d : StoreD} {s : StoreW} {V : Nat -> BF} (h : StoreIn o w sb d s) (hk : StoreOK d V) (v : Int) (lo hi : Nat) (hv : ¬ (0 <= v /\ v < d.vars.length)) :
 Calls Tryz.prog 89 #[.pointer (some ⟨sb, 0, none⟩), .int .i64 v, .int .i64 lo, .int .i64 hi] w (MkBad w 9) := by
 have HLV := Lib.hid (storeLevelZ h v (by rw [h.len]; have := hk.small; omega));have e : levelZ d v = -1 := by unfold levelZ; rw [if_neg (by rw [h.len]; exact hv)]
 rw [e] at HLV;have HV := Lib.hid hv;clear h hk e hv
 go_enter Tryz.func89, Tryz.ntmps89
 go_wp2_with fail;refine HLV.out.mono ?_;rintro x w' ⟨rfl, rfl⟩;go_wp2_with fail
 go_ret2
 exact ⟨rfl, Below.refl _ _⟩
theorem mk_hi0 {o : Own} {w : World} {sb : Nat} {d : StoreD} {s : StoreW} {V : Nat -> BF} (h : StoreIn o w sb d s) (hlt : OwnLt o w) (hk : StoreOK d V) (v lo hi : Nat) (hv : v < d.vars.length) (hlo : okE (nodesOf d) lo) (hhi : okE (nodesOf d) hi) (hbad : lvE d.vars.length (levN d) (nodesOf d) hi <= levN d v) (hgood : levN d v < lvE d.vars.length (levN d) (nodesOf d) lo) :
 Calls Tryz.prog 89 #[.pointer (some ⟨sb, 0, none⟩), .int .i64 v, .int .i64 lo, .int .i64 hi] w (MkBad w 10) := by
 have hll : levN d v < d.vars.length := hk.dag.lt v hv;have hlol := h.edge_lt hlo;have hhil := h.edge_lt hhi;have hlom : lo < eMax := by unfold eMax; omega
 have hhim : hi < eMax := by unfold eMax; omega
 have hlen : d.level.length < 1000000 := by rw [h.len]; have := hk.small; omega
 have HLV : Hid (∀ W : World, Below w.heap.size w W -> Calls Tryz.prog 77 #[.pointer (some ⟨sb, 0, none⟩), .int .i64 v] W fun x w' => x = .returned (.int .i64 (levN d v : Nat)) /\ W = w') := fun W hb => by
  have h1 := storeLevel_any (h.below hlt hb) v hlen;unfold StoreD.levelOf at h1;rw [if_pos (by rw [h.len]; exact hv)] at h1;exact h1
 have HISL : Hid (∀ W : World, Below w.heap.size w W -> Calls Tryz.prog 87 #[.pointer (some ⟨sb, 0, none⟩), .int .i64 lo] W fun x w' => x = .returned (.bool true) /\ Below W.heap.size W w') := fun W hb => by
  have h1 := storeIs_any (h.below hlt hb) (hlt.mono hb.size) lo hlom;rw [is_eq hlo] at h1; exact h1
 have HISH : Hid (∀ W : World, Below w.heap.size w W -> Calls Tryz.prog 87 #[.pointer (some ⟨sb, 0, none⟩), .int .i64 hi] W fun x w' => x = .returned (.bool true) /\ Below W.heap.size W w') := fun W hb => by
  have h1 := storeIs_any (h.below hlt hb) (hlt.mono hb.size) hi hhim;rw [is_eq hhi] at h1; exact h1
 have HUL : Hid (∀ W : World, Below w.heap.size w W -> Calls Tryz.prog 126 #[.pointer (some ⟨sb, 0, none⟩), .int .i64 lo, .int .i64 (levN d v : Nat)] W fun x w' => x = .returned (.bool (decide (levN d v < lvE d.vars.length (levN d) (nodesOf d) lo))) /\ Below W.heap.size W w') := fun W hb => by
  have h1 := storeUnder_any (h.below hlt hb) (hlt.mono hb.size) lo hlom (levN d v : Nat) hlen;rw [under_eq h hk hlo hll] at h1; exact h1
 have HUH : Hid (∀ W : World, Below w.heap.size w W -> Calls Tryz.prog 126 #[.pointer (some ⟨sb, 0, none⟩), .int .i64 hi, .int .i64 (levN d v : Nat)] W fun x w' => x = .returned (.bool (decide (levN d v < lvE d.vars.length (levN d) (nodesOf d) hi))) /\ Below W.heap.size W w') := fun W hb => by
  have h1 := storeUnder_any (h.below hlt hb) (hlt.mono hb.size) hi hhim (levN d v : Nat) hlen;rw [under_eq h hk hhi hll] at h1; exact h1
 have HPOST : Hid (∀ W, Below w.heap.size w W -> MkBad w 10 (.returned (.tuple #[.int .i64 0, .int .i64 10])) W) := fun W hb => ⟨rfl, hb⟩
 rw [decide_eq_true hgood] at HUL;rw [decide_eq_false (by omega)] at HUH;obtain ⟨l, hl⟩ : ∃ l, l = levN d v := ⟨_, rfl⟩;rw [<- hl] at HLV HUL HUH;have hl0 : ¬ ((l : Nat) : Int) < 0 := by omega
 clear h hlt hk hv hlo hhi hbad hll hlol hhil hlom hhim hlen hl hgood
 go_enter Tryz.func89, Tryz.ntmps89
 go_wp2_with fail;refine (HLV.out _ (Below.refl _ _)).mono ?_;rintro x w' ⟨rfl, rfl⟩;go_wp2_with fail;refine (HISL.out _ (Below.refl _ _)).mono ?_;rintro x w1 ⟨rfl, hb1⟩;have HB1 := Lib.hid hb1;clear hb1;go_wp2_with fail;refine (HISH.out _ HB1.out).mono ?_;rintro x w2 ⟨rfl, hb2⟩;have HB2 := Lib.hid (HB1.out.trans (hb2.mono HB1.out.size));clear hb2;go_wp2_with fail;refine (HLV.out _ HB2.out).mono ?_;rintro x w' ⟨rfl, rfl⟩;go_wp2_with fail;refine (HUL.out _ HB2.out).mono ?_;rintro x w3 ⟨rfl, hb3⟩;have HB3 := Lib.hid (HB2.out.trans (hb3.mono HB2.out.size));clear hb3;go_wp2_with fail;refine (HLV.out _ HB3.out).mono ?_;rintro x w' ⟨rfl, rfl⟩;go_wp2_with fail;refine (HUH.out _ HB3.out).mono ?_;rintro x w4 ⟨rfl, hb4⟩;have HB4 := Lib.hid (HB3.out.trans (hb4.mono HB3.out.size));clear hb4;go_wp2_with fail
 go_ret2
 exact HPOST.out _ HB4.out
theorem ctxMk_bad {K : Law} {o : Own} {w : World} {xb mb : Nat} {m : ManD} {V : Nat -> BF} (h : ManAt (K m.d V) o w mb m) (hlt : OwnLt o w) (hx : CtxAt o w xb mb) (hk : StoreOK m.d V) (v : Int) (lo hi : Nat) (er : Int) (h0 : er ≠ 0) (hmk : ∀ (sb : Nat) (s : StoreW) (W : World), StoreIn o W sb m.d s -> OwnLt o W -> Calls Tryz.prog 89 #[.pointer (some ⟨sb, 0, none⟩), .int .i64 v, .int .i64 lo, .int .i64 hi] W (MkBad W er)) (hdue : ∀ ev ws, m.waits = ev :: ws -> callsUp m.calls < ev.after) :
 Calls Tryz.prog 26 #[.pointer (some ⟨xb, 0, none⟩), .int .i64 v, .int .i64 lo, .int .i64 hi] w fun e w' => e = stopP er false ev0 /\ Step K o w mb m V o w' { m with calls := callsUp m.calls } V := by
 obtain ⟨s, h⟩ := h;obtain ⟨c0, c1, c2, c3, c4, c5, f0⟩ := cells6 h.blk;have cx := hx.cell;obtain ⟨W, hW⟩ : ∃ W, W = w.setCell ⟨mb, 5, none⟩ (.int .i64 (callsUp m.calls)) := ⟨_, rfl⟩;have hMW : ManIn (K m.d V) o W mb { m with calls := callsUp m.calls } s := by rw [hW]; exact h.field rfl rfl rfl rfl rfl h.waits rfl
 have hCW : Chg (fun _ => True) o o w W := by rw [hW]; exact (Chg.refl _ o w).setCell (p := ⟨mb, 5, none⟩) h.own trivial _
 have hLW : OwnLt o W := hlt.mono hCW.size;have hXW := hx.chg hCW;obtain ⟨d0, d1, d2, d3, d4, d5, g0⟩ := cells6 hMW.blk;have dx := hXW.cell;obtain ⟨aw, cw, hvw, hnil⟩ := hMW.waits.slice;have hwl : (m.waits = [] /\ True) \/ ∃ ev ws, m.waits = ev :: ws := by cases m.waits with
  | nil => exact .inl ⟨rfl, trivial⟩
  | cons ev ws => exact .inr ⟨ev, ws, rfl⟩
 have HCW := Lib.hid hCW;have HLW := Lib.hid hLW;have HMW := Lib.hid hMW;have HOK := Lib.hid hk;have h00 : (er == 0) = false := by simpa using h0
 have HMK : Hid (∀ n, Calls Tryz.prog 89 #[.pointer (some ⟨s.sb, 0, none⟩), .int .i64 v, .int .i64 lo, .int .i64 hi] (W.drewN n) (MkBad (W.drewN n) er)) :=
  Lib.hid fun n => by
   obtain ⟨ss, hss⟩ := hMW.store;exact hmk s.sb ss _ (hss.below hLW (below_draw W n)) (hLW.mono (below_draw W n).size)
 have HDUE := Lib.hid hdue;have HW : Hid (w.setCell ⟨mb, 5, none⟩ (.int .i64 (wrap64 (m.calls + 1))) = W) := Lib.hid hW.symm;have hneg : 5 ≠ 4 := by decide
 clear h hlt hx hk hmk h0 hMW hCW hLW hXW hW hdue
 go_enter Tryz.func26, Tryz.ntmps26
 go_upto_region 3 with fail;rw [HW.out];obtain ⟨cu, hcu⟩ : ∃ cu, cu = wrap64 (m.calls + 1) := ⟨_, rfl⟩;have d5' : W.cell? ⟨mb, 5, none⟩ = some (.int .i64 cu) := by rw [hcu]; exact d5
 have HCU : Hid (callsUp m.calls = cu) := Lib.hid hcu.symm;rw [<- hcu];clear c0 c1 c2 c3 c4 c5 f0 cx hneg d5 hcu;have STE : Hid (∀ w', Below W.heap.size W w' -> Step K o w mb m V o w' { m with calls := callsUp m.calls } V) :=
  Lib.hid fun w' hb => ⟨⟨s, HMW.out.below HLW.out hb⟩, HLW.out.mono hb.size, HCW.out.trans (Chg.of_below hb _ _), HOK.out, Ext.refl _ _, rfl, rfl⟩
 rcases hwl with ⟨hw0, _⟩ | ⟨ev, ws, hw1⟩
 ·
  rw [hvw] at d4;dsimp only at d4;rw [hw0] at d4;have d4' : W.cell? ⟨mb, 4, none⟩ = some (.slice aw 0 cw) := d4;clear d4 hw0 hvw hnil
  go_quiet (fail)
  go_wp2_with fail;refine (HMK.out nq).mono ?_;rintro x w' ⟨rfl, q2⟩;have H1 := Lib.hid (STE.out w' (belowOf q2));clear q2;go_wp2_with fail;exact ⟨rfl, rfl, H1.out⟩
 ·
  have HWA := HMW.out.waits;have e0 : ({ m with calls := callsUp m.calls } : ManD).waits = ev :: ws := hw1;rw [e0] at HWA;obtain ⟨g, off, cap, hvs, hog, hwc, hcm, k0, k1, k2, _⟩ := HWA.first
  have hlt : ¬ ev.after <= cu := by have := HDUE.out ev ws hw1; rw [HCU.out] at this; omega
  rw [hvs] at d4;have hp : (0 : Int) < ((ws.length + 1 : Nat) : Int) := by omega
  clear hvw hvs hnil HWA e0 hw1 hog
  go_quiet (fail)
  go_wp2_with fail;refine (HMK.out nq).mono ?_;rintro x w' ⟨rfl, q2⟩;have H1 := Lib.hid (STE.out w' (belowOf q2));clear q2;go_wp2_with fail;exact ⟨rfl, rfl, H1.out⟩
open Go.RowKit
structure BK (ab : Nat) (asks : Int) (W : World) : Prop where
 blk : W.heap[ab]? = some (.cells #[.int .i64 asks] 3 (0, 0))
theorem BK.keep {ab : Nat} {asks : Int} (W W' : World) (h : BK ab asks W) (hk : ∀ c, C1 ab c -> W'.heap[c]? = W.heap[c]?) : BK ab asks W' := ⟨(hk _ rfl).trans h.blk⟩
theorem ChgX.drop {C : Nat -> Prop} {o o' : Own} {w w' : World} (h : ChgX C o o' w w') (hk : ∀ k, C k -> w'.heap[k]? = w.heap[k]?) : ChgX NoB o o' w w' :=
 ⟨h.os, h.tape, h.output, h.size, fun k h1 h2 _ => by
  by_cases hc : C k
  ·
   exact hk k hc
  ·
   exact h.block k h1 h2 hc, h.ext, h.new⟩
theorem SatE.base {K : Law} {n : Nat} {Od : List Nat -> Prop} {room : Nat} {w0 w0' w : World} {mb : Nat} {fs : List (Int × BF)} {nx : Int} {o : Own} {m : ManD} {V : Nat -> BF} (h : SatE K n Od room w0 mb fs nx w o m V) (hc : ChgX NoB (fun _ => none) o w0' w) : SatE K n Od room w0' mb fs nx w o m V :=
 ⟨h.is, h.lt, h.ok, h.vars, h.od, h.room, h.next, h.hs, hc⟩
open Go.RowKit
theorem eqNilFL (w : World) (g : Fn) (fs cs : Array Value) : (binOp .eql 85 (.func g fs cs) .nilFunc).run Tryz.prog w = .ok (.bool false) w := by
 have hd : Op.maxDepth = 9999 + 1 := rfl;have h : (Op.equal 85 (.func g fs cs) .nilFunc).run Tryz.prog w = .ok false w := by
  unfold Op.equal;rw [hd];unfold Op.equalIn;simp only [Sem.run_bind, run_underlying Tryz.underlying85, Result.andThen_ok];simp
 simp only [binOp];simp [h]
section
variable {K : Law} {n : Nat} {Od : List Nat -> Prop} {room : Nat} {w0 : World} {mb : Nat} {fs : List (Int × BF)} {nx : Int} {C : Nat -> Prop} {B : World -> Prop} {St : ManD -> Prop} {gop : Nat} {lop : Array Value} {Q : World -> ManD -> (Nat -> BF) -> Prop} {E : Int -> ManD -> ManD -> Prop}
def OpL (K : Law) (n : Nat) (Od : List Nat -> Prop) (room : Nat) (w0 : World) (mb : Nat) (fs : List (Int × BF)) (nx : Int) (C : Nat -> Prop) (B : World -> Prop) (St : ManD -> Prop) (gop : Nat) (lop : Array Value) (Q : World -> ManD -> (Nat -> BF) -> Prop) (E : Int -> ManD -> ManD -> Prop) : Prop :=
 ∀ (o : Own) (W : World) (m : ManD) (V : Nat -> BF) (xb : Nat), SatE K n Od room w0 mb fs nx W o m V -> B W -> (∀ k, C k -> k < W.heap.size /\ o k = none) -> St m -> CtxAt o W xb mb -> ¬ C xb ->
  Calls Tryz.prog gop (#[.pointer (some ⟨xb, 0, none⟩)] ++ lop) W fun e w' => ∃ (o' : Own) (m' : ManD) (V' : Nat -> BF), StepX C K o W mb m V o' w' m' V' /\ B w' /\
   ((e = .returned (.tuple #[]) /\ Q w' m' V') \/
    (∃ er : Int, e = stopP er false ev0 /\ er ≠ 0 /\ m'.waits = m.waits /\ St m' /\ E er m m') \/
    (∃ ev, e = stopP 0 true ev /\ m.waits = ev :: m'.waits /\ StE K n Od room w0 mb fs nx St m' /\ HapG K n Od room w0 mb fs nx ev))
structure LookI (K : Law) (n : Nat) (Od : List Nat -> Prop) (room : Nat) (w0 : World) (mb : Nat) (fs : List (Int × BF)) (nx : Int) (C : Nat -> Prop) (B : World -> Prop) (St : ManD -> Prop) (o0 : Own) (w : World) (k : Nat) (full : Bool) (W : World) (o : Own) (m : ManD) (V : Nat -> BF) : Prop where
 sat : SatE K n Od room w0 mb fs nx W o m V
 bok : B W
 st : St m
 len : m.waits.length = k
 cok : ∀ c, C c -> c < w.heap.size /\ o c = none
 chg : ChgX C o0 o w W
 clean : full = true -> m.d.dead = 0
def LookF (K : Law) (n : Nat) (Od : List Nat -> Prop) (room : Nat) (w0 : World) (mb : Nat) (fs : List (Int × BF)) (nx : Int) (C : Nat -> Prop) (B : World -> Prop) (Q : World -> ManD -> (Nat -> BF) -> Prop) (E : Int -> ManD -> ManD -> Prop) (o0 : Own) (w : World) (er : Int) (W : World) : Prop :=
 ∃ o m V, SatE K n Od room w0 mb fs nx W o m V /\ B W /\ ChgX C o0 o w W /\ ((er = 0 /\ Q W m V) \/ (er ≠ 0 /\ ∃ m0 : ManD, E er m0 m /\ (er = 7 -> m0.d.dead = 0)))
theorem look_runG (hB : ∀ W W', B W -> (∀ c, C c -> W'.heap[c]? = W.heap[c]?) -> B W') (hQ : ∀ W W' m V, Q W m V -> (∀ c, C c -> W'.heap[c]? = W.heap[c]?) -> Q W' m V) (hSt : ∀ (m : ManD) (d : StoreD), St m -> CollRel m.d d -> St { m with d := d }) (hC0 : ∀ c, C c -> w0.heap.size <= c) (eg : ∀ args w, (callFunc gop args).run Tryz.prog w = .ok (.enter gop args) w)
 (hop : OpL K n Od room w0 mb fs nx C B St gop lop Q E) {o : Own} {w : World} {m : ManD} {V : Nat -> BF} (h : SatE K n Od room w0 mb fs nx w o m V) (hb : B w) (hC : ∀ c, C c -> c < w.heap.size /\ o c = none) (hst : St m) :
 Calls Tryz.prog 85 #[.pointer (some ⟨mb, 0, none⟩), .func (.func gop) #[] lop] w fun x w' => ∃ er, x = .returned (.int .i64 er) /\ LookF K n Od room w0 mb fs nx C B Q E o w er w' := by
 have hw0 := h.chg.size;have hother : ∀ {k full W W' o1 m1 V1}, LookI K n Od room w0 mb fs nx C B St o w k full W o1 m1 V1 -> ∀ {s : Nat}, w.heap.size <= s -> o1 s = none -> o1 (s + 1) = none -> Ali s W W' -> LookI K n Od room w0 mb fs nx C B St o w k full W' o1 m1 V1 := by
  intro k full W W' o1 m1 V1 hi s hs n0 n1 a;have hk : ∀ k, k < w.heap.size -> W'.heap[k]? = W.heap[k]? := fun k hk => a.keep k (by have := hi.chg.size; omega) (by omega)
  refine ⟨hi.sat.other a (fun k _ e => ?_), hB _ _ hi.bok (fun c hc => hk c (hi.cok c hc).1), hi.st, hi.len, hi.cok, hi.chg.trans (ChgX.of_wr (C := fun k => w.heap.size <= k) a o1 (fun k _ e => by omega)) (fun k hk e => by omega), hi.clean⟩;rcases e with rfl | rfl
  ·
   exact ⟨by omega, n0⟩
  ·
   exact ⟨by omega, n1⟩
 have hnext : ∀ {k full full' W W' o1 m1 V1 o2 m2 V2}, LookI K n Od room w0 mb fs nx C B St o w k full W o1 m1 V1 -> SatE K n Od room w0 mb fs nx W' o2 m2 V2 -> ChgX NoB o1 o2 W W' -> m2.waits = m1.waits -> St m2 -> (full' = true -> m2.d.dead = 0) -> LookI K n Od room w0 mb fs nx C B St o w k full' W' o2 m2 V2 := by
  intro k full full' W W' o1 m1 V1 o2 m2 V2 hi hsat hc e1 e2 e3;have hsz := hi.chg.size;exact ⟨hsat, hB _ _ hi.bok (fun c hc' => hc.block c (by have := (hi.cok c hc').1; omega) (hi.cok c hc').2 (fun e => e)), e2, by rw [e1]; exact hi.len, fun c hc' => ⟨(hi.cok c hc').1, hc.none' (by have := (hi.cok c hc').1; omega) (hi.cok c hc').2⟩, hi.chg.trans hc (fun _ _ e => e.elim), e3⟩
 refine run_any mb _ _ _ eg (fun k full W => ∃ o1 m1 V1, LookI K n Od room w0 mb fs nx C B St o w k full W o1 m1 V1) _ ?_ m.waits.length ⟨o, m, V, h, hb, hst, rfl, hC, ChgX.of_below (Below.refl _ _) o C, by simp⟩;rintro k full W ⟨o1, m1, V1, hi⟩;have hsz := hi.chg.size;obtain ⟨s, hs⟩ : ∃ s, s = W.heap.size := ⟨_, rfl⟩
 refine ⟨fun st W1 => match st with
  | none => ∃ (o' : Own) (m' : ManD) (V' : Nat -> BF), SatE K n Od room w0 mb fs nx W1 o' m' V' /\ B W1 /\ ChgX C o o' w W1 /\ s + 3 <= W1.heap.size /\ (∀ q, w.heap.size <= q -> q < s + 3 -> o1 q = none -> o' q = none) /\ Q W1 m' V'
  | some (er, evt, ev) => ∃ (o' : Own) (m' : ManD) (V' : Nat -> BF), LookI K n Od room w0 mb fs nx C B St o w m'.waits.length false W1 o' m' V' /\ s + 3 <= W1.heap.size /\ (∀ q, w.heap.size <= q -> q < s + 3 -> o1 q = none -> o' q = none) /\
   ((evt = false /\ er ≠ 0 /\ m'.waits = m1.waits /\ E er m1 m') \/ (evt = true /\ m1.waits = ev :: m'.waits /\ StE K n Od room w0 mb fs nx St m' /\ HapG K n Od room w0 mb fs nx ev)), ?_, ?_, ?_, ?_, ?_⟩
 ·
  unfold TryOp;have hbt : Below W.heap.size W (tryW mb W) := ((below_new1 _ _).alloc (by simp) _).alloc (by simp; omega) _;have hzt : (tryW mb W).heap.size = W.heap.size + 3 := by unfold tryW; simp
  obtain ⟨T, hT⟩ : ∃ T, T = tryW mb W := ⟨_, rfl⟩;have h1 : (tryW mb W).heap[W.heap.size + 2]? = some (.cells #[.pointer (some ⟨mb, 0, none⟩)] 114 (0, 0)) := by
   have := heap_alloc_new ((W.alloc (.cells #[.int .i64 0, .bool false, .int .i64 0, .int .i64 0, .int .i64 0] 116)).alloc (.cells #[.bool false] 4)) (.cells #[.pointer (some ⟨mb, 0, none⟩)] 114);rw [World.size_alloc, World.size_alloc] at this; exact this
  rw [<- hT] at hbt hzt h1 ⊢;clear hT;have hsatT := hi.sat.below hbt;have hcx : CtxAt o1 T (W.heap.size + 2) mb := ⟨cell1 h1, hi.sat.lt.none (by omega)⟩;have hC' : ∀ q, w.heap.size <= q -> ¬ C q := fun q hq e => by have := (hi.cok q e).1; omega
  have hkeep : ∀ {o' : Own} {w1 : World}, ChgX C o1 o' T w1 -> ∀ q, w.heap.size <= q -> q < s + 3 -> o1 q = none -> w1.heap[q]? = T.heap[q]? := fun hc q h1 h2 h3 => hc.block q (by omega) h3 (hC' q h1)
  have n0 : o1 W.heap.size = none := hi.sat.lt.none (Nat.le_refl _);have n1 : o1 (W.heap.size + 1) = none := hi.sat.lt.none (by omega);refine (hop o1 T m1 V1 (W.heap.size + 2) hsatT (hB _ _ hi.bok (fun c hc => hbt.block c (by have := (hi.cok c hc).1; omega))) (fun c hc => ⟨by have := (hi.cok c hc).1; omega, (hi.cok c hc).2⟩) hi.st hcx (hC' _ (by omega))).mono ?_;rintro e w1 ⟨o', m', V', st, b1, hcase⟩;have hsz1 := st.chg.size;have hc1 := (hi.chg.trans (ChgX.of_below hbt o1 C) (fun _ _ e => e)).trans st.chg (fun _ _ e => e);refine ⟨by omega, hkeep st.chg _ (by omega) (by omega) n0, hkeep st.chg _ (by omega) (by omega) n1, ?_⟩;have hnone : ∀ q, w.heap.size <= q -> q < s + 3 -> o1 q = none -> o' q = none := fun q _ h2 h3 => st.chg.none' (by omega) h3
  have hcok : ∀ c, C c -> c < w.heap.size /\ o' c = none := fun c hc => ⟨(hi.cok c hc).1, st.chg.none' (by have := (hi.cok c hc).1; omega) (hi.cok c hc).2⟩
  rcases hcase with ⟨rfl, q1⟩ | ⟨er, rfl, q1, q2, q3, q4⟩ | ⟨ev, rfl, q1, q2, q3⟩
  ·
   exact .inl ⟨rfl, o', m', V', hsatT.step st hC0, b1, hc1, by omega, hnone, q1⟩
  ·
   exact .inr ⟨er, false, ev0, rfl, o', m', V', ⟨hsatT.step st hC0, b1, q3, rfl, hcok, hc1, by simp⟩, by omega, hnone, .inl ⟨rfl, q1, q2, q4⟩⟩
  ·
   exact .inr ⟨0, true, ev, rfl, o', m', V', ⟨hsatT.step st hC0, b1, q2 _ _ _ _ (hsatT.step st hC0) rfl rfl (.inl (Nat.le_refl _)), rfl, hcok, hc1, by simp⟩, by omega, hnone, .inr ⟨rfl, q1, q2, q3⟩⟩
 ·
  rintro W1 W2 ⟨o', m', V', a1, a2, a3, a4, a5, a8⟩ al;rw [<- hs] at al;have n0 : o' s = none := a5 s (by omega) (by omega) (by rw [hs]; exact hi.sat.lt.none (Nat.le_refl _));have n1 : o' (s + 1) = none := a5 (s + 1) (by omega) (by omega) (by rw [hs]; exact hi.sat.lt.none (by omega));have hk : ∀ c, C c -> W2.heap[c]? = W1.heap[c]? := fun c hc => al.keep c (by have := (hi.cok c hc).1; omega) (by have := (hi.cok c hc).1; omega)
  refine ⟨o', m', V', a1.other al (fun k _ e => ?_), hB _ _ a2 hk, a3.trans (ChgX.of_wr (C := fun k => w.heap.size <= k) al o' (fun k _ e => by omega)) (fun k hk e => by omega), .inl ⟨rfl, hQ _ _ _ _ a8 hk⟩⟩;rcases e with rfl | rfl
  ·
   exact ⟨by omega, n0⟩
  ·
   exact ⟨by omega, n1⟩
 ·
  rintro er ev W1 W2 ⟨o', m', V', hi', a4, a5, (⟨h1, _⟩ | ⟨_, hev, hvs, hap⟩)⟩ al
  ·
   cases h1
  rw [<- hs] at al;have n0 : o' s = none := a5 s (by omega) (by omega) (by rw [hs]; exact hi.sat.lt.none (Nat.le_refl _));have n1 : o' (s + 1) = none := a5 (s + 1) (by omega) (by omega) (by rw [hs]; exact hi.sat.lt.none (by omega));have hi2 := hother hi' (by omega) n0 n1 al;refine (hap o' W2 m' V' hi2.sat).mono ?_;rintro x w' ⟨rfl, o2, m2, V2, g1, g2, g3, g5, g4⟩;exact ⟨rfl, m'.waits.length, by rw [<- hi.len, hev]; simp, o2, m2, V2, hnext hi2 g1 g4 g2 (hvs _ _ _ _ g1 g2 g3 g5) (by simp)⟩
 ·
  rintro ev W1 W2 ⟨o', m', V', hi', a4, a5, (⟨_, _, hw, _⟩ | ⟨h1, _⟩)⟩ al hfull
  ·
   rw [<- hs] at al;have n0 : o' s = none := a5 s (by omega) (by omega) (by rw [hs]; exact hi.sat.lt.none (Nat.le_refl _));have n1 : o' (s + 1) = none := a5 (s + 1) (by omega) (by omega) (by rw [hs]; exact hi.sat.lt.none (by omega));have hi2 := hother hi' (by omega) n0 n1 al;refine (manCollect_any hi2.sat).mono ?_;rintro x w' ⟨rfl, o2, d2, g1, g2, g3⟩;have hi3 := hnext (full' := true) hi2 g1 (ChgX.of_chg g3 NoB) rfl (hSt _ _ hi2.st g2) (fun _ => g2.dead);rw [hw, hi.len] at hi3;exact ⟨⟨_, rfl⟩, o2, _, V', hi3⟩
  ·
   cases h1
 ·
  rintro er ev W1 W2 ⟨o', m', V', hi', a4, a5, (⟨_, h0, hw, hE⟩ | ⟨h1, _⟩)⟩ al hne
  ·
   rw [<- hs] at al;have n0 : o' s = none := a5 s (by omega) (by omega) (by rw [hs]; exact hi.sat.lt.none (Nat.le_refl _));have n1 : o' (s + 1) = none := a5 (s + 1) (by omega) (by omega) (by rw [hs]; exact hi.sat.lt.none (by omega));have hi2 := hother hi' (by omega) n0 n1 al;refine ⟨o', m', V', hi2.sat, hi2.bok, hi2.chg, .inr ⟨h0, m1, hE, fun e7 => hi.clean ?_⟩⟩;cases full with
   | true => rfl
   | false => exact (hne ⟨e7, rfl⟩).elim
  ·
   cases h1
theorem look_gen (hB : ∀ W W', B W -> (∀ c, C c -> W'.heap[c]? = W.heap[c]?) -> B W') (hQ : ∀ W W' m V, Q W m V -> (∀ c, C c -> W'.heap[c]? = W.heap[c]?) -> Q W' m V) (hSt : ∀ (m : ManD) (d : StoreD), St m -> CollRel m.d d -> St { m with d := d }) (hC0 : ∀ c, C c -> w0.heap.size <= c) (eg : ∀ args w, (callFunc gop args).run Tryz.prog w = .ok (.enter gop args) w)
 (hop : OpL K n Od room w0 mb fs nx C B St gop lop Q E) {o : Own} {w : World} {m : ManD} {V : Nat -> BF} (h : SatE K n Od room w0 mb fs nx w o m V) (hb : B w) (hC : ∀ c, C c -> c < w.heap.size /\ o c = none) (hst : St m) :
 Calls Tryz.prog 60 #[.pointer (some ⟨mb, 0, none⟩), .func (.func gop) #[] lop] w fun x w' => ∃ er, x = .returned (.int .i64 er) /\ LookF K n Od room w0 mb fs nx C B Q E o w er w' := by
 have HRUN := Lib.hid (look_runG hB hQ hSt hC0 eg hop h hb hC hst);have hnf := eqNilFL w (.func gop) #[] lop;clear h hb hB hQ hSt hC0 hop hC hst
 go_enter Tryz.func60, Tryz.ntmps60
 go_wp2_with fail;refine HRUN.out.mono ?_;rintro x w1 ⟨er, rfl, hf⟩;have HF := Lib.hid hf;clear hf HRUN;go_wp2_with fail;go_ret;exact ⟨er, rfl, HF.out⟩
end
open Go.RowKit
section
variable {K : Law} {n k : Nat} {Od : List Nat -> Prop} {room : Nat} {w0 w w' w1 w2 : World} {mb : Nat} {fs : List (Int × BF)} {nx : Int} {o o' o1 o2 : Own} {m m' m1 m2 : ManD} {V V' V1 V2 : Nat -> BF}
theorem Step.other {C : Nat -> Prop} (h : Step K o w mb m V o1 w1 m1 V1) (hx : Wr C w1 w2) (hC : ∀ k, C k -> w.heap.size <= k /\ o1 k = none) : Step K o w mb m V o1 w2 m1 V1 := by
 obtain ⟨s, hm⟩ := h.is;refine ⟨⟨s, hm.keep (fun g r hg => hx.keep g (h.lt g r hg) (fun e => ?_)) (fun _ _ h => h)⟩, h.lt.mono hx.size, ⟨hx.os.trans h.chg.os, hx.tape.trans h.chg.tape, hx.output.trans h.chg.output, Nat.le_trans h.chg.size hx.size, fun k hk ho => ?_, h.chg.ext, h.chg.new⟩, h.ok, h.ext, h.hs, h.next⟩
 ·
  have := (hC g e).2;rw [hg] at this; cases this
 ·
  exact (hx.keep k (Nat.lt_of_lt_of_le hk h.chg.size) (fun e => by have := (hC k e).1; omega)).trans (h.chg.block k hk ho)
theorem AtC.other {C : Nat -> Prop} (h : AtC K k o w mb m V o1 w1 m1 V1) (hx : Wr C w1 w2) (hC : ∀ k, C k -> w.heap.size <= k /\ o1 k = none) : AtC K k o w mb m V o1 w2 m1 V1 := ⟨h.st.other hx hC, h.waits, h.many⟩
theorem do_old {gop b : Nat} {z : Int} {F : BF} (hK : LawOK K) (eg : ∀ args w, (callFunc gop args).run Tryz.prog w = .ok (.enter gop args) w) (ws0 : List Ev)
 (hop : ∀ (o : Own) (W : World) (m : ManD) (V : Nat -> BF) (xb : Nat), SatE K n (fun _ => True) room w mb fs nx W o m V -> W.cell? ⟨b, 0, none⟩ = some (.int .i64 z) -> o b = none -> CtxAt o W xb mb -> Calls Tryz.prog gop (#[.pointer (some ⟨xb, 0, none⟩)] ++ #[.pointer (some ⟨b, 0, none⟩)]) W (CPost K k o W mb m V fun _ V' r => ef V' r = F))
 {W : World} (h : SatE K n (fun _ => True) room w0 mb fs nx W o m V) (hb0 : Below w.heap.size w w0) (hwb : w.heap.size <= b) (hb : b < w0.heap.size) (hbk : BK b z W) (hst : m.waits <:+ ws0) (hnx : nx <= 549755813888) (hr : fs.length * 2 ^ n + k <= room) :
 Calls Tryz.prog 24 #[.pointer (some ⟨mb, 0, none⟩), .func (.func gop) #[] #[.pointer (some ⟨b, 0, none⟩)]] W fun x w' => x = .returned (.tuple #[.int .i64 nx, .int .i64 0]) /\
  ∃ o' m' V', ChgX NoB o o' W w' /\ m'.waits <:+ ws0 /\ SatE K n (fun _ => True) room w0 mb (fs ++ [(nx, F)]) (nx + 1) w' o' m' V' := by
 have hs0 := h.base ((ChgX.of_below hb0 (fun _ => none) NoB).trans h.chg (fun _ _ e => e));have hno : o b = none := h.none0 hb;have hlt : b < W.heap.size := Nat.lt_of_lt_of_le hb h.chg.size;refine (do_gen hK BK.keep (fun _ _ _ _ _ h _ => h) StL.coll ?_ eg (opG_of (k := k) (F := F) ws0 none (fun _ e => by cases e) (fun ev _ => happen_any hnx ev) BK.keep fun o W m V xb hs hb' hC hcx _ => hop o W m V xb hs (cell1 hb'.blk) (hC b rfl).2 hcx) hs0 hbk ?_ ⟨hst, fun _ e => by cases e⟩ (by omega)).mono ?_
 ·
  rintro c rfl; exact hwb
 ·
  rintro c rfl; exact ⟨hlt, hno⟩
 ·
  rintro x w' ⟨o', m', V', hB, hc, ⟨r, m1, rfl, hs, ⟨q1, q2, _⟩, _, _, _, _, _, q3, _⟩ | ⟨er, m0, _, _, hsf, ⟨_, e7, ⟨W', oo, VV, hs'⟩, h5, h6, _⟩, h7⟩⟩
  ·
   have hc' := hc.drop (fun k hk => by cases hk; rw [hB.blk, hbk.blk]);exact ⟨rfl, o', m', V', hc', by rw [q3]; exact q2, by rw [<- q1]; exact hs.base (h.chg.trans hc' (fun _ _ e => e))⟩
  ·
   exfalso;have h8 := hs'.few (h7 e7);have h9 := hsf.room;omega
end
def askSp (_ : List Nat) (_ : Int) (a _ _ r : BF) : Prop := r = notF a
abbrev askLaw : Law := specLaw askSp
theorem enters_asks1 (args : Array Value) (w : World) : (callFunc 61 args).run Tryz.prog w = .ok (.enter 61 args) w := enters_of Tryz.func61 (by kernel_rfl) rfl args w
theorem enters_asks2 (args : Array Value) (w : World) : (callFunc 62 args).run Tryz.prog w = .ok (.enter 62 args) w := enters_of Tryz.func62 (by kernel_rfl) rfl args w
theorem enters_asks3 (args : Array Value) (w : World) : (callFunc 63 args).run Tryz.prog w = .ok (.enter 63 args) w := enters_of Tryz.func63 (by kernel_rfl) rfl args w
theorem enters_asks4 (args : Array Value) (w : World) : (callFunc 64 args).run Tryz.prog w = .ok (.enter 64 args) w := enters_of Tryz.func64 (by kernel_rfl) rfl args w
theorem enters_asks41 (args : Array Value) (w : World) : (callFunc 66 args).run Tryz.prog w = .ok (.enter 66 args) w := enters_of Tryz.func66 (by kernel_rfl) rfl args w
theorem enters_asks42 (args : Array Value) (w : World) : (callFunc 67 args).run Tryz.prog w = .ok (.enter 67 args) w := enters_of Tryz.func67 (by kernel_rfl) rfl args w
section
variable {K : Law} {n k : Nat} {Od : List Nat -> Prop} {room : Nat} {w0 w w' w1 w2 : World} {mb xb : Nat} {fs : List (Int × BF)} {nx : Int} {o o' o1 o2 : Own} {m m' m1 m2 : ManD} {V V' V1 V2 : Nat -> BF}
theorem asks41_c (hK : LawOK K) (h : ManAt (K m.d V) o w mb m) (hlt : OwnLt o w) (hx : CtxAt o w xb mb) (hk : StoreOK m.d V) (hn : m.d.vars.length = n) {bx bp p : Nat} (hp : okE (nodesOf m.d) p) (cx : w.cell? ⟨bx, 0, none⟩ = some (.pointer (some ⟨xb, 0, none⟩))) (cp : w.cell? ⟨bp, 0, none⟩ = some (.int .i64 (p : Nat))) :
 Calls Tryz.prog 66 #[.pointer (some ⟨bx, 0, none⟩), .pointer (some ⟨bp, 0, none⟩)] w (CPost K (2 ^ n - 1) o w mb m V fun _ V' r => ef V' r = notF (ef V p)) := by
 have hI := ctxIte_c hK h hlt hx hk hn p 1 0 hp (.inl rfl) (.inl rfl);have e : iteFn (ef V p) (ef V 1) (ef V 0) = notF (ef V p) := by
  rw [hk.dag.ef0, hk.dag.ef1];funext ρ
  show iteB (ef V p ρ) false true = !(ef V p ρ)
  cases ef V p ρ <;> rfl
 rw [e] at hI;have HI := Lib.hid hI;clear hI e hK h hlt hx hk hp
 go_enter Tryz.func66, Tryz.ntmps66
 go_wp2_with fail;refine HI.out.mono ?_;rintro e w' (⟨r, o', m', V', rfl, h⟩ | ⟨er, evt, ev, rfl, h⟩)
 ·
  have HR := Lib.hid h;clear h HI;go_wp2_with fail;go_ret;exact .inl ⟨r, o', m', V', rfl, HR.out⟩
 ·
  have HR := Lib.hid h;clear h HI;unfold stopP;go_wp2_with fail;exact ⟨rfl, .inr ⟨er, evt, ev, rfl, HR.out⟩⟩
theorem asks42_c (hK : LawOK K) (h : ManAt (K m.d V) o w mb m) (hlt : OwnLt o w) (hx : CtxAt o w xb mb) (hk : StoreOK m.d V) (hn : m.d.vars.length = n) {bx bp p : Nat} (hp : okE (nodesOf m.d) p) (cx : w.cell? ⟨bx, 0, none⟩ = some (.pointer (some ⟨xb, 0, none⟩))) (cp : w.cell? ⟨bp, 0, none⟩ = some (.int .i64 (p : Nat))) :
 Calls Tryz.prog 67 #[.pointer (some ⟨bx, 0, none⟩), .pointer (some ⟨bp, 0, none⟩)] w (CPost K (2 ^ n - 1) o w mb m V fun _ V' r => ef V' r = ef V p) := by
 have hI := ctxIte_c hK h hlt hx hk hn p 0 1 hp (.inl rfl) (.inl rfl);have e : iteFn (ef V p) (ef V 0) (ef V 1) = ef V p := by
  rw [hk.dag.ef0, hk.dag.ef1];funext ρ
  show iteB (ef V p ρ) true false = ef V p ρ
  cases ef V p ρ <;> rfl
 rw [e] at hI;have HI := Lib.hid hI;clear hI e hK h hlt hx hk hp
 go_enter Tryz.func67, Tryz.ntmps67
 go_wp2_with fail;refine HI.out.mono ?_;rintro e w' (⟨r, o', m', V', rfl, h⟩ | ⟨er, evt, ev, rfl, h⟩)
 ·
  have HR := Lib.hid h;clear h HI;go_wp2_with fail;go_ret;exact .inl ⟨r, o', m', V', rfl, HR.out⟩
 ·
  have HR := Lib.hid h;clear h HI;unfold stopP;go_wp2_with fail;exact ⟨rfl, .inr ⟨er, evt, ev, rfl, HR.out⟩⟩
theorem asks4_c (h : SatE askLaw n (fun _ => True) room w0 mb fs nx w o m V) (hx : CtxAt o w xb mb) (hn : 1 <= n) {ob : Nat} {op : Int} (hop : op ≠ 1) (co : w.cell? ⟨ob, 0, none⟩ = some (.int .i64 op)) (hno : o ob = none) :
 Calls Tryz.prog 64 #[.pointer (some ⟨xb, 0, none⟩), .pointer (some ⟨ob, 0, none⟩)] w (CPost askLaw (2 * 2 ^ n) o w mb m V fun _ V' r => ef V' r = notF (varF 0)) := by
 have hp2 : 0 < 2 ^ n := Nat.pow_pos (by omega);have hK := specLaw_ok askSp;have hks := h.ok.store;have hvn := h.vars;obtain ⟨w1, hw1⟩ : ∃ w1, w1 = w.alloc (.cells #[.pointer (some ⟨xb, 0, none⟩)] 51) := ⟨_, rfl⟩;have hb1 : Below w.heap.size w w1 := by rw [hw1]; exact below_new1 _ _
 have cbx : w1.cell? ⟨w.heap.size, 0, none⟩ = some (.pointer (some ⟨xb, 0, none⟩)) := by rw [hw1]; exact cell1 (heap_alloc_new _ _)
 have hz1 : w1.heap.size = w.heap.size + 1 := by rw [hw1]; simp
 have HW1 : Hid (_ = w1) := Lib.hid hw1.symm;have hat1 : AtC askLaw 0 o w mb m V o w1 m V := (AtC.refl h.is h.lt hks).below hb1;have hx1 := hx.chg hat1.st.chg;have HMK := Lib.hid (ctxVar_c hK hat1.st.is hat1.st.lt hx1 hks 0 (by rw [hvn]; omega));have hnb : o w.heap.size = none := h.lt.none (Nat.le_refl _);have HAT1 := Lib.hid hat1;have HX := Lib.hid hx;have co1 := (hb1.cell (p := ⟨ob, 0, none⟩) (lt_of_cell co)).trans co;clear h hx hks hw1 hb1 hat1 hx1 co
 go_enter Tryz.func64, Tryz.ntmps64
 go_upto_region 1 with fail;rw [HW1.out];go_wp2_with fail;refine HMK.out.mono ?_;rintro e w2 (⟨p, o1, m1, V1, rfl, at2, hp, hef⟩ | ⟨er, evt, ev, rfl, hs⟩)
 rotate_left
 ·
  have HR := Lib.hid (hs.after HAT1.out (k := 2 * 2 ^ n) (by omega));clear hs HMK;unfold stopP;go_wp2_with fail;exact ⟨rfl, .inr ⟨er, evt, ev, rfl, HR.out⟩⟩
 have hef : ef V1 p = varF 0 := hef;have hat2 := HAT1.out.trans at2;have lbx := lt_of_cell cbx;have cbx2 := at2.st.chg.cell cbx hnb;have co2 := at2.st.chg.cell co1 hno;have nbx2 := at2.st.chg.alien' lbx hnb;have nob2 := at2.st.chg.alien' (lt_of_cell co1) hno;have hz2 : w1.heap.size <= w2.heap.size := at2.st.chg.size;obtain ⟨w4, hw4⟩ : ∃ w4, w4 = w2.alloc (.cells #[.int .i64 (p : Nat)] 52) := ⟨_, rfl⟩;have HW4 : Hid (_ = w4) := Lib.hid hw4.symm;have cp4 : w4.cell? ⟨w2.heap.size, 0, none⟩ = some (.int .i64 (p : Nat)) := by rw [hw4]; exact cell1 (heap_alloc_new _ _)
 have hb4 : Below w2.heap.size w2 w4 := by rw [hw4]; exact below_new1 _ _
 have np2 : o1 w2.heap.size = none := hat2.st.lt.none (Nat.le_refl _);have hat4 : AtC askLaw 1 o w mb m V o1 w4 m1 V1 := (hat2.mono (by omega)).below hb4;have cbx4 := (hb4.cell (p := ⟨w.heap.size, 0, none⟩) (lt_of_cell cbx2)).trans cbx2;have co4 := (hb4.cell (p := ⟨ob, 0, none⟩) (lt_of_cell co2)).trans co2;have hv4 := hat4.vars hvn;have HV4 := Lib.hid hv4;have HAT4 := Lib.hid hat4;have hmf : ∀ (fn : Fn) (first cap : Array Value) (w : World), (Instr.makeFunc fn first cap).run Tryz.prog w = .ok (.func fn first cap) w := fun _ _ _ _ => rfl
 have hx4 := HX.out.chg hat4.st.chg
 have HM1 := Lib.hid (ctxMemo_c (K := askLaw) hat4.st.is hat4.st.lt hx4 hat4.st.ok enters_asks41 op p p 0 (A := fun _ V' r => ef V' r = notF (varF 0)) (lf := #[.pointer (some ⟨w.heap.size, 0, none⟩), .pointer (some ⟨w2.heap.size, 0, none⟩)]) (k := 2 ^ n - 1)
  (fun r hr => by
   obtain ⟨_, _, _, q4, q5⟩ := (specLaw_iff hop).1 hr;exact ⟨q4, by rw [<- hef]; exact q5⟩)
  (fun d' V' r hk' ext okr hr => (specLaw_iff hop).2 ⟨ext.ok hp, ext.ok hp, .inl rfl, okr, by
   show ef V' r = notF (ef V' p)
   rw [ext.ef hp, hef];exact hr⟩)
  (fun w1' hc hm hl => by
   have := asks41_c hK hm hl (hx4.chg hc) hat4.st.ok hv4 hp (hc.cell cbx4 nbx2) (hc.cell cp4 np2);rw [hef] at this;exact this))
 have HEF := Lib.hid hef;have HP := Lib.hid hp;have HNP : Hid (w2.heap.size < w4.heap.size) := Lib.hid (lt_of_cell cp4);have HHK := Lib.hid hK;have HOP := Lib.hid hop;clear hat2 hat4 at2 hef hp hv4 hK hx4 hw4 hb4 hop hz1 hz2 cbx cbx2 co1 co2 HMK;go_upto_region 2 with fail;rw [HW4.out];go_wp2_with fail;refine HM1.out.mono ?_;rintro e w5 (⟨q, o5, m5, V5, rfl, at5, hq, hef5⟩ | ⟨er, evt, ev, rfl, hs⟩)
 rotate_left
 ·
  have HR := Lib.hid (hs.after HAT4.out (k := 2 * 2 ^ n) (by omega));clear hs HM1;unfold stopP;go_wp2_with fail;exact ⟨rfl, .inr ⟨er, evt, ev, rfl, HR.out⟩⟩
 have hef5 : ef V5 q = notF (varF 0) := hef5;have hat5 := HAT4.out.trans at5;have cbx5 := at5.st.chg.cell cbx4 nbx2;have cp5 := at5.st.chg.cell cp4 np2;have co5 := at5.st.chg.cell co4 nob2;have nbx5 := at5.st.chg.alien' (lt_of_cell cbx4) nbx2;have nob5 := at5.st.chg.alien' (lt_of_cell co4) nob2;obtain ⟨w6, hw6⟩ : ∃ w6, w6 = w5.alloc (.cells #[.int .i64 (q : Nat)] 52) := ⟨_, rfl⟩;have HW6 : Hid (_ = w6) := Lib.hid hw6.symm;have cq6 : w6.cell? ⟨w5.heap.size, 0, none⟩ = some (.int .i64 (q : Nat)) := by rw [hw6]; exact cell1 (heap_alloc_new _ _)
 have hb6 : Below w5.heap.size w5 w6 := by rw [hw6]; exact below_new1 _ _
 have nq5 : o5 w5.heap.size = none := hat5.st.lt.none (Nat.le_refl _);have hat6 := hat5.below hb6;have cbx6 := (hb6.cell (p := ⟨w.heap.size, 0, none⟩) (lt_of_cell cbx5)).trans cbx5;have cp6 := (hb6.cell (p := ⟨w2.heap.size, 0, none⟩) (lt_of_cell cp5)).trans cp5;have co6 := (hb6.cell (p := ⟨ob, 0, none⟩) (lt_of_cell co5)).trans co5;have hv6 := hat6.vars hvn;have hx6 := HX.out.chg hat6.st.chg;have hefp : ef V5 p = varF 0 := by rw [at5.st.ext.ef HP.out]; exact HEF.out
 have hp5 := at5.st.ext.ok HP.out
 have HM2 := Lib.hid (ctxMemo_c (K := askLaw) hat6.st.is hat6.st.lt hx6 hat6.st.ok enters_asks42 op p p 0 (A := fun _ V' r => ef V' r = notF (varF 0)) (lf := #[.pointer (some ⟨w.heap.size, 0, none⟩), .pointer (some ⟨w5.heap.size, 0, none⟩)]) (k := 2 ^ n - 1)
  (fun r hr => by
   obtain ⟨_, _, _, q4, q5⟩ := (specLaw_iff HOP.out).1 hr;exact ⟨q4, by rw [<- hefp]; exact q5⟩)
  (fun d' V' r hk' ext okr hr => (specLaw_iff HOP.out).2 ⟨ext.ok hp5, ext.ok hp5, .inl rfl, okr, by
   show ef V' r = notF (ef V' p)
   rw [ext.ef hp5, hefp];exact hr⟩)
  (fun w1' hc hm hl => by
   have := asks42_c HHK.out hm hl (hx6.chg hc) hat6.st.ok hv6 hq (hc.cell cbx6 nbx5) (hc.cell cq6 nq5);rw [hef5] at this;exact this))
 have HAT6 := Lib.hid hat6;clear hat5 hat6 at5 hef5 hq hv6 hx6 hw6 hb6 hefp hp5 cbx5 cp5 co5 cbx4 cp4 co4 HM1;go_upto_region 3 with fail;rw [HW6.out];go_wp2_with fail;refine HM2.out.mono ?_;rintro e w7 (⟨r, o7, m7, V7, rfl, at7, hr7, hef7⟩ | ⟨er, evt, ev, rfl, hs⟩)
 rotate_left
 ·
  have HR := Lib.hid (hs.after HAT6.out (k := 2 * 2 ^ n) (by omega));clear hs HM2;unfold stopP;go_wp2_with fail;exact ⟨rfl, .inr ⟨er, evt, ev, rfl, HR.out⟩⟩
 have HR := Lib.hid ((HAT6.out.trans at7).mono (k2 := 2 * 2 ^ n) (by omega));have HH : Hid (okE (nodesOf m7.d) r /\ ef V7 r = notF (varF 0)) := Lib.hid ⟨hr7, hef7⟩;clear at7 hr7 hef7 HM2;go_wp2_with fail;go_ret;exact .inl ⟨r, o7, m7, V7, rfl, HR.out, HH.out.1, HH.out.2⟩
end
open Go.RowKit
section
variable {K : Law} {n k : Nat} {Od : List Nat -> Prop} {room : Nat} {w0 w w' w1 w2 : World} {mb xb : Nat} {fs : List (Int × BF)} {nx : Int} {o o' o1 o2 : Own} {m m' m1 m2 : ManD} {V V' V1 V2 : Nat -> BF}
theorem asks1_gen (ws0 : List Ev) (b : Nat) (z : Int) : OpL K n Od room w0 mb fs nx (C1 b) (BK b z) (fun m => m.waits = ws0) 61 #[.pointer (some ⟨b, 0, none⟩)] (fun _ m' _ => m'.waits = ws0 /\ ∃ F, (z, F) ∈ fs) (fun er _ m' => er = 8 /\ m'.waits = ws0 /\ ∀ p ∈ fs, p.1 ≠ z) := by
 intro o W m V xb hsat hB hC hst hcx hnx;have cb := cell1 hB.blk
 by_cases hin : ∃ F, (z, F) ∈ fs
 ·
  obtain ⟨F, hF⟩ := hin;obtain ⟨f, hf, _⟩ := hsat.find hF;have HE := Lib.hid (ctxEdge_yes hsat.is hcx hsat.ok.handles.nodup hf);have HF : Hid (StepX (C1 b) K o W mb m V o W m V /\ BK b z W /\ m.waits = ws0 /\ ∃ F, (z, F) ∈ fs) := Lib.hid ⟨⟨hsat.is, hsat.lt, ChgX.of_below (Below.refl _ _) o _, hsat.ok.store, Ext.refl _ _, rfl, rfl⟩, hB, hst, F, hF⟩;clear hsat hB hC hst hcx hnx hF hf
  go_enter Tryz.func61, Tryz.ntmps61
  go_wp2_with fail;refine HE.out.mono ?_;rintro x w' ⟨rfl, rfl⟩;go_wp2_with fail;go_end0;exact ⟨o, m, V, HF.out.1, HF.out.2.1, .inl ⟨rfl, HF.out.2.2⟩⟩
 ·
  have hno : ∀ p ∈ fs, p.1 ≠ z := fun p hp e => hin ⟨p.2, by rw [<- e]; exact hp⟩
  have HE := Lib.hid (ctxEdge_no hsat.is hcx (hsat.nofind hno));have HF : Hid (StepX (C1 b) K o W mb m V o W m V /\ BK b z W /\ m.waits = ws0 /\ ∀ p ∈ fs, p.1 ≠ z) := Lib.hid ⟨⟨hsat.is, hsat.lt, ChgX.of_below (Below.refl _ _) o _, hsat.ok.store, Ext.refl _ _, rfl, rfl⟩, hB, hst, hno⟩;clear hsat hB hC hst hcx hnx hno hin
  go_enter Tryz.func61, Tryz.ntmps61
  go_wp2_with fail;refine HE.out.mono ?_;rintro x w' ⟨rfl, rfl⟩;unfold stopP;go_wp2_with fail;exact ⟨rfl, o, m, V, HF.out.1, HF.out.2.1, .inr (.inl ⟨8, rfl, by omega, rfl, HF.out.2.2.1, rfl, HF.out.2.2.1, HF.out.2.2.2⟩)⟩
theorem asks_look (h : SatE K n Od room w0 mb fs nx w1 o m V) (hb0 : Below w.heap.size w w0) {b : Nat} {z : Int} (hwb : w.heap.size <= b) (hb : b < w0.heap.size) (hbk : BK b z w1) {c : Int} (hc : (c = 0 /\ ∃ F, (z, F) ∈ fs) \/ (c = 8 /\ ∀ p ∈ fs, p.1 ≠ z)) :
 Calls Tryz.prog 60 #[.pointer (some ⟨mb, 0, none⟩), .func (.func 61) #[] #[.pointer (some ⟨b, 0, none⟩)]] w1 fun x w' => x = .returned (.int .i64 c) /\ ∃ o' m' V', ChgX NoB o o' w1 w' /\ m'.waits = m.waits /\ SatE K n Od room w0 mb fs nx w' o' m' V' := by
 have hs0 := h.base ((ChgX.of_below hb0 (fun _ => none) NoB).trans h.chg (fun _ _ e => e));have hno : o b = none := h.none0 hb;have hlt : b < w1.heap.size := Nat.lt_of_lt_of_le hb h.chg.size;refine (look_gen BK.keep (fun _ _ _ _ h _ => h) (fun _ _ h _ => h) ?_ enters_asks1 (asks1_gen m.waits b z) hs0 hbk ?_ rfl).mono ?_
 ·
  rintro c rfl; exact hwb
 ·
  rintro c rfl; exact ⟨hlt, hno⟩
 ·
  rintro x w' ⟨er, rfl, o', m', V', hs, hB, hch, hcase⟩;have hc' := hch.drop (fun k hk => by cases hk; rw [hB.blk, hbk.blk]);refine ⟨?_, o', m', V', hc', ?_, hs.base (h.chg.trans hc' (fun _ _ e => e))⟩
  ·
   rcases hcase with ⟨rfl, _, F, hF⟩ | ⟨_, _, ⟨rfl, _, hn⟩, _⟩ <;> rcases hc with ⟨rfl, F', hF'⟩ | ⟨rfl, hn'⟩
   ·
    rfl
   ·
    exact (hn' _ hF rfl).elim
   ·
    exact (hn _ hF' rfl).elim
   ·
    rfl
  ·
   rcases hcase with ⟨rfl, h1, _⟩ | ⟨_, _, ⟨_, h1, _⟩, _⟩ <;> exact h1
theorem asks2_c (hK : LawOK K) (h : SatE K n Od room w0 mb fs nx w o m V) (hx : CtxAt o w xb mb) {b v : Nat} (hv : v < n) (cb : w.cell? ⟨b, 0, none⟩ = some (.int .i64 v)) :
 Calls Tryz.prog 62 #[.pointer (some ⟨xb, 0, none⟩), .pointer (some ⟨b, 0, none⟩)] w (CPost K 1 o w mb m V fun _ V' r => ef V' r = varF v) := by
 have HI := Lib.hid (ctxVar_c hK h.is h.lt hx h.ok.store v (by rw [h.vars]; exact hv));clear hK h hx hv
 go_enter Tryz.func62, Tryz.ntmps62
 go_wp2_with fail;refine HI.out.mono ?_;rintro e w' (⟨r, o', m', V', rfl, h⟩ | ⟨er, evt, ev, rfl, h⟩)
 ·
  have HR := Lib.hid h;clear h HI;go_wp2_with fail;go_ret;exact .inl ⟨r, o', m', V', rfl, HR.out⟩
 ·
  have HR := Lib.hid h;clear h HI;unfold stopP;go_wp2_with fail;exact ⟨rfl, .inr ⟨er, evt, ev, rfl, HR.out⟩⟩
theorem ctxMk_noVar (h : ManAt (K m.d V) o w mb m) (hlt : OwnLt o w) (hx : CtxAt o w xb mb) (hk : StoreOK m.d V) (v : Int) (hv : ¬ (0 <= v /\ v < m.d.vars.length)) :
 Calls Tryz.prog 26 #[.pointer (some ⟨xb, 0, none⟩), .int .i64 v, .int .i64 (1 : Nat), .int .i64 (0 : Nat)] w fun e w' => ∃ o' m' V', Step K o w mb m V o' w' m' V' /\ ((e = stopP 9 false ev0 /\ m'.waits = m.waits) \/ ∃ ev, e = stopP 0 true ev /\ m.waits = ev :: m'.waits) := by
 by_cases hd : ∀ ev ws, m.waits = ev :: ws -> callsUp m.calls < ev.after
 ·
  refine (ctxMk_bad h hlt hx hk v 1 0 9 (by omega) (fun sb s W hs hl => mk_var0 hs hk v 1 0 hv) hd).mono ?_;rintro e w' ⟨rfl, st⟩;exact ⟨o, _, V, st, .inl ⟨rfl, rfl⟩⟩
 ·
  cases hw : m.waits with
  | nil => exact absurd (fun ev ws e => by rw [hw] at e; cases e) hd
  | cons ev ws =>
    have hle : ev.after <= callsUp m.calls := Int.not_lt.1 fun hl => hd fun ev' ws' e => by rw [hw] at e; cases e; exact hl
    refine (ctxMk_due h hlt hx hk v 1 0 hw hle).mono ?_;rintro e w' ⟨o', m', V', st, ⟨ev2, h1, h2, h3, _, _, rfl⟩ | ⟨_, _, h, _⟩⟩
    ·
     exact ⟨o', m', V', st, .inr ⟨ev2, rfl, by rw [<- hw]; exact h1⟩⟩
    ·
     have := h ev ws hw; omega
theorem asks2_bad (ws0 : List Ev) (hhap : ∀ ev ∈ ws0, HapG K n Od room w0 mb fs nx ev) (b : Nat) (v : Int) (hv : ¬ (0 <= v /\ v < (n : Int))) :
 OpG K n Od room w0 mb fs nx (C1 b) (BK b v) (SuffOf ws0) 62 #[.pointer (some ⟨b, 0, none⟩)] (fun _ _ _ _ => False) (fun er _ m' => er = 9 /\ m'.waits <:+ ws0) := by
 intro o W m V xb hsat hB hC hst hcx hnx;have cb := cell1 hB.blk;have HI := Lib.hid (ctxMk_noVar hsat.is hsat.lt hcx hsat.ok.store v (by rw [hsat.vars]; exact hv));obtain ⟨P, hP⟩ : ∃ P : Ending -> World -> Prop, P = fun e w' => ∃ (o' : Own) (m' : ManD) (V' : Nat -> BF), StepX (C1 b) K o W mb m V o' w' m' V' /\ BK b v w' /\
  ((∃ r : Nat, e = .returned (.int .i64 r) /\ okE (nodesOf m'.d) r /\ False) \/
   (∃ er : Int, e = stopP er false ev0 /\ er ≠ 0 /\ m'.waits = m.waits /\ SuffOf ws0 m' /\ er = 9 /\ m'.waits <:+ ws0) \/
   (∃ ev, e = stopP 0 true ev /\ m.waits = ev :: m'.waits /\ StE K n Od room w0 mb fs nx (SuffOf ws0) m' /\ HapG K n Od room w0 mb fs nx ev)) := ⟨_, rfl⟩
 have HFIN : Hid (∀ e w', (∃ o' m' V', Step K o W mb m V o' w' m' V' /\ ((e = stopP 9 false ev0 /\ m'.waits = m.waits) \/ ∃ ev, e = stopP 0 true ev /\ m.waits = ev :: m'.waits)) -> ∃ er evt ev, e = stopP er evt ev /\ P (stopP er evt ev) w') := Lib.hid (by
  subst hP;rintro e w' ⟨o', m', V', st, ⟨rfl, h1⟩ | ⟨ev, rfl, h1⟩⟩
  ·
   exact ⟨9, false, ev0, rfl, o', m', V', st.toX _, ⟨(st.chg.alien (hC b rfl).1 (hC b rfl).2).trans hB.blk⟩, .inr (.inl ⟨9, rfl, by omega, h1, by unfold SuffOf; rw [h1]; exact hst, rfl, by rw [h1]; exact hst⟩)⟩
  ·
   have hst' : m.waits <:+ ws0 := hst;rw [h1] at hst';exact ⟨0, true, ev, rfl, o', m', V', st.toX _, ⟨(st.chg.alien (hC b rfl).1 (hC b rfl).2).trans hB.blk⟩, .inr (.inr ⟨ev, rfl, h1, fun _ _ _ _ _ e _ _ => by unfold SuffOf; rw [e]; exact (List.suffix_cons ev m'.waits).trans hst', hhap ev (hst'.subset (List.mem_cons_self ..))⟩)⟩)
 rw [<- hP];clear hsat hB hC hst hcx hnx hP hv hhap
 go_enter Tryz.func62, Tryz.ntmps62
 go_wp2_with fail;refine HI.out.mono ?_;intro e w' hp;obtain ⟨er, evt, ev, rfl, h⟩ := HFIN.out e w' hp;have HR := Lib.hid h;clear hp h HI HFIN;unfold stopP;go_wp2_with fail;exact ⟨rfl, HR.out⟩
theorem asks_do2 (hK : LawOK K) {W : World} (h : SatE K n (fun _ => True) room w0 mb fs nx W o m V) (hb0 : Below w.heap.size w w0) {b : Nat} {v : Int} (hwb : w.heap.size <= b) (hb : b < w0.heap.size) (hbk : BK b v W) (ws0 : List Ev) (hst : m.waits <:+ ws0) (hnx : nx <= 549755813888) (hr : fs.length * 2 ^ n + 1 <= room) :
 Calls Tryz.prog 24 #[.pointer (some ⟨mb, 0, none⟩), .func (.func 62) #[] #[.pointer (some ⟨b, 0, none⟩)]] W fun x w' => ∃ k f, x = .returned (.tuple #[.int .i64 k, .int .i64 f]) /\ ∃ o' m' V' fs' nx', ChgX NoB o o' W w' /\ m'.waits <:+ ws0 /\ SatE K n (fun _ => True) room w0 mb fs' nx' w' o' m' V' /\ ((0 <= v /\ v < (n : Int) /\ f = 0 /\ fs' = fs ++ [(nx, varF v.toNat)] /\ nx' = nx + 1) \/ (¬ (0 <= v /\ v < (n : Int)) /\ f = 9 /\ fs' = fs /\ nx' = nx)) := by
 by_cases hv : 0 <= v /\ v < (n : Int)
 ·
  obtain ⟨u, rfl⟩ : ∃ u : Nat, v = u := ⟨v.toNat, by omega⟩;refine (do_old (k := 1) (F := varF u) hK enters_asks2 ws0 (fun o W m V xb hs hc _ hx => asks2_c hK hs hx (by omega) hc) h hb0 hwb hb hbk hst hnx hr).mono ?_;rintro x w' ⟨rfl, o', m', V', h1, h2, h3⟩;exact ⟨nx, 0, rfl, o', m', V', _, _, h1, h2, h3, .inl ⟨hv.1, hv.2, rfl, by rw [Int.toNat_natCast], rfl⟩⟩
 ·
  have hs0 := h.base ((ChgX.of_below hb0 (fun _ => none) NoB).trans h.chg (fun _ _ e => e));have hno : o b = none := h.none0 hb;have hlt : b < W.heap.size := Nat.lt_of_lt_of_le hb h.chg.size;refine (do_gen hK BK.keep (fun _ _ _ _ _ h _ => h) (fun _ _ h _ => h) ?_ enters_asks2 (asks2_bad ws0 (fun ev _ => happen_any hnx ev) b v hv) hs0 hbk ?_ hst (by omega)).mono ?_
  ·
   rintro c rfl; exact hwb
  ·
   rintro c rfl; exact ⟨hlt, hno⟩
  ·
   rintro x w' ⟨o', m', V', hB, hc, ⟨_, _, _, _, hf, _⟩ | ⟨er, m0, _, rfl, hs, ⟨rfl, h2⟩, _⟩⟩
   ·
    exact hf.elim
   ·
    have hc' := hc.drop (fun k hk => by cases hk; rw [hB.blk, hbk.blk]);exact ⟨0, 9, rfl, o', m', V', _, _, hc', h2, hs.base (h.chg.trans hc' (fun _ _ e => e)), .inr ⟨hv, rfl, rfl, rfl⟩⟩
end
open Go.RowKit
section
variable {K : Law} {n k : Nat} {Od : List Nat -> Prop} {room : Nat} {w0 w w' w1 w2 : World} {mb xb : Nat} {fs : List (Int × BF)} {nx : Int} {o o' o1 o2 : Own} {m m' m1 m2 : ManD} {V V' V1 V2 : Nat -> BF}
abbrev C2 (a b : Nat) : Nat -> Prop := fun k => k = a \/ k = b
structure BO (bo g off cp n u v : Nat) (W : World) : Prop where
 s : W.cell? ⟨bo, 0, none⟩ = some (.slice (some ⟨g, off, none⟩) n cp)
 u : W.cell? ⟨g, off, none⟩ = some (.int .i64 u)
 v : W.cell? ⟨g, off + 1, none⟩ = some (.int .i64 v)
theorem BO.keep {bo g off cp n u v : Nat} (W W' : World) (h : BO bo g off cp n u v W) (hk : ∀ c, C2 bo g c -> W'.heap[c]? = W.heap[c]?) : BO bo g off cp n u v W' :=
 ⟨(World.cell?_of_block (w := W) (a := ⟨bo, 0, none⟩) (hk _ (.inl rfl))).trans h.s, (World.cell?_of_block (w := W) (a := ⟨g, off, none⟩) (hk _ (.inr rfl))).trans h.u, (World.cell?_of_block (w := W) (a := ⟨g, off + 1, none⟩) (hk _ (.inr rfl))).trans h.v⟩
theorem asks3_gen (hK : LawOK K) (bo g off cp u v : Nat) (hn2 : 1 < n) :
 OpG K n (fun l => l.getD 0 0 = u /\ l.getD 1 0 = v) room w0 mb fs nx (C2 bo g) (BO bo g off cp n u v) (SuffOf []) 63 #[.pointer (some ⟨bo, 0, none⟩)] (fun _ _ _ _ => False) (fun er m m' => (er = 10 /\ m'.waits = []) \/ (er = 7 /\ EF (SatX K n (fun l => l.getD 0 0 = u /\ l.getD 1 0 = v) room w0 mb fs nx) 1 [] er m m')) := by
 intro o W m V xb hsat hB hC hst hcx hnx;have hks := hsat.ok.store;have hvn := hsat.vars;have hw0 : m.waits = [] := by have : m.waits <:+ [] := hst; simpa using this
 have hu := hks.vlt 0 (by rw [hvn]; omega);have hv := hks.vlt 1 (by rw [hvn]; omega);rw [hsat.od.1] at hu;rw [hsat.od.2] at hv;have nbo := (hC bo (.inl rfl)).2;have ng := (hC g (.inr rfl)).2;have hbd : Below W.heap.size W W.drew := below_draw W 1;obtain ⟨s, hms⟩ := hsat.is;have hmW := hms.below hsat.lt hbd;have hlW := hsat.lt.mono hbd.size;have hxW : CtxAt o W.drew xb mb := ⟨(hbd.cell (p := ⟨xb, 0, none⟩) (lt_of_cell hcx.cell)).trans hcx.cell, hcx.own⟩;have hBW : BO bo g off cp n u v W.drew := ⟨(hbd.cell (p := ⟨bo, 0, none⟩) (lt_of_cell hB.s)).trans hB.s, (hbd.cell (p := ⟨g, off, none⟩) (lt_of_cell hB.u)).trans hB.u, (hbd.cell (p := ⟨g, off + 1, none⟩) (lt_of_cell hB.v)).trans hB.v⟩;have hstep : AtC K 0 o W mb m V o W.drew m V := (AtC.refl hsat.is hsat.lt hks).below hbd;have HM1 := Lib.hid (ctxVar_c hK ⟨s, hmW⟩ hlW hxW hks u hu.1);obtain ⟨P, hP⟩ : ∃ P : Ending -> World -> Prop, P = fun e w' => ∃ (o' : Own) (m' : ManD) (V' : Nat -> BF), StepX (C2 bo g) K o W mb m V o' w' m' V' /\ BO bo g off cp n u v w' /\
  ((∃ r : Nat, e = .returned (.int .i64 r) /\ okE (nodesOf m'.d) r /\ False) \/
   (∃ er : Int, e = stopP er false ev0 /\ er ≠ 0 /\ m'.waits = m.waits /\ SuffOf [] m' /\ ((er = 10 /\ m'.waits = []) \/ (er = 7 /\ EF (SatX K n (fun l => l.getD 0 0 = u /\ l.getD 1 0 = v) room w0 mb fs nx) 1 [] er m m'))) \/
   (∃ ev, e = stopP 0 true ev /\ m.waits = ev :: m'.waits /\ StE K n (fun l => l.getD 0 0 = u /\ l.getD 1 0 = v) room w0 mb fs nx (SuffOf []) m' /\ HapG K n (fun l => l.getD 0 0 = u /\ l.getD 1 0 = v) room w0 mb fs nx ev)) := ⟨_, rfl⟩
 have hkB : ∀ {o' : Own} {w' : World} {m' : ManD} {V' : Nat -> BF}, Step K o W mb m V o' w' m' V' -> BO bo g off cp n u v w' := fun st => ⟨st.chg.cell hB.s nbo, st.chg.cell hB.u ng, st.chg.cell hB.v ng⟩
 have HC1 : Hid (∀ e w', CPost K 1 o W.drew mb m V (fun _ V' r => ef V' r = varF u) e w' -> (∃ x, e = .returned x /\ BO bo g off cp n u v w' /\ ∃ r : Nat, x = .int .i64 r /\ Calls Tryz.prog 26 #[.pointer (some ⟨xb, 0, none⟩), .int .i64 v, .int .i64 1, .int .i64 r] w' fun e2 w2 => ∃ ch, e2 = .panicked ch /\ P (.panicked ch) w2) \/ (∃ ch, e = .panicked ch /\ P (.panicked ch) w')) := Lib.hid (by
  subst hP;rintro e w' (⟨r, o1, m1, V1, rfl, at1, hr, hef⟩ | ⟨er, evt, ev, rfl, hs⟩)
  ·
   have hat := hstep.trans at1;refine .inl ⟨_, rfl, hkB hat.st, r, rfl, ?_⟩;have hk1 := hat.st.ok;have hv1 : v < m1.d.vars.length := by rw [hat.st.ext.vars]; exact hv.1
   have hlv : levN m1.d v = 1 := by rw [hat.st.ext.lev]; exact hv.2
   have hlu : levN m1.d u = 0 := by rw [hat.st.ext.lev]; exact hu.2
   have hbad : lvE m1.d.vars.length (levN m1.d) (nodesOf m1.d) r <= levN m1.d v := by
    rw [hlv];rcases Nat.lt_or_ge (levN m1.d u) (lvE m1.d.vars.length (levN m1.d) (nodesOf m1.d) r) with h | h
    ·
     exfalso;have h1 := hk1.dag.indep_var hr h (fun _ => false) true;have h2 := congrFun hef (upd (fun _ => false) u true);have h3 := congrFun hef (fun _ => false);rw [h1, h3] at h2;simp [varF, upd] at h2
    ·
     omega
   have hw1 : m1.waits = [] := hat.waits.trans hw0;refine (ctxMk_bad hat.st.is hat.st.lt (hcx.chg hat.st.chg) hk1 (v : Nat) 1 r 10 (by omega) (fun sb s W hs hl => mk_hi0 hs hl hk1 v 1 r hv1 (.inl rfl) hr hbad (by rw [lvE_const hk1 rfl]; exact hk1.dag.lt v hv1)) (fun ev ws e => by rw [hw1] at e; cases e)).mono ?_;rintro e2 w2 ⟨rfl, st2⟩;have st := hat.st.trans st2;exact ⟨_, rfl, o1, _, V1, st.toX _, hkB st, .inr (.inl ⟨10, rfl, by omega, hw1.trans hw0.symm, by unfold SuffOf; rw [show ({ m1 with calls := callsUp m1.calls } : ManD).waits = [] from hw1]; exact List.suffix_refl _, .inl ⟨rfl, hw1⟩⟩)⟩
  ·
   obtain ⟨o', m', V', st, ⟨rfl, rfl, rfl, a4, a5, a6⟩ | ⟨rfl, rfl, a3⟩⟩ := hs.after hstep (k := 1) (by omega)
   ·
    have hwn : m'.waits = [] := a4.trans hw0;exact .inr ⟨_, rfl, o', m', V', st.toX _, hkB st, .inr (.inl ⟨7, rfl, by omega, a4, by unfold SuffOf; rw [hwn]; exact List.suffix_refl _, .inr ⟨rfl, rfl, ⟨_, _, _, hsat⟩, a5, a6, by rw [hwn]; exact List.suffix_refl _⟩⟩)⟩
   ·
    rw [hw0] at a3; cases a3)
 rw [<- hP];obtain ⟨d1, d2, d3⟩ := hBW;have hnz : (1 : Int) < (n : Int) := by omega
 have hnz0 : (0 : Int) < (n : Int) := by omega
 have hn0 : 0 < n := by omega
 clear hsat hB hC hst hcx hnx hks hvn hw0 hu hv nbo ng hbd hms hmW hlW hxW hstep hkB hP hK
 go_enter Tryz.func63, Tryz.ntmps63
 go_upto_region 1 with fail;refine wp_region_leftP (fun W : World => W.cell? ⟨bo, 0, none⟩ = some (.slice (some ⟨g, off, none⟩) n cp) /\ W.cell? ⟨g, off, none⟩ = some (.int .i64 u) /\ W.cell? ⟨g, off + 1, none⟩ = some (.int .i64 v)) (fun ch w' => P (.panicked ch) w') 11 (fun c a w hd h => ⟨hd, h⟩) (by kernel_rfl) ⟨d1, d2, d3⟩ ?_;refine left_readEP 0 rfl rfl (by kernel_rfl) ?_;apply Exists.intro;refine ⟨fun w' hw => ?_, ?_⟩
 ·
  obtain ⟨q1, q2, q3⟩ := hw;go_simp;rfl
 simp only [putLz];refine left_readEP 1 rfl rfl (by kernel_rfl) ?_;apply Exists.intro;refine ⟨fun w' hw => ?_, ?_⟩
 ·
  obtain ⟨q1, q2, q3⟩ := hw;go_simp;rfl
 simp only [putLz];refine left_readEP 2 rfl rfl (by kernel_rfl) ?_;apply Exists.intro;refine ⟨fun w' hw => ?_, ?_⟩
 ·
  obtain ⟨q1, q2, q3⟩ := hw;go_simp;rfl
 simp only [putLz];refine left_readEP 3 rfl rfl (by kernel_rfl) ?_;apply Exists.intro;refine ⟨fun w' hw => ?_, ?_⟩
 ·
  obtain ⟨q1, q2, q3⟩ := hw;go_simp;rfl
 simp only [putLz];refine left_readEP 4 rfl rfl (by kernel_rfl) ?_;apply Exists.intro;refine ⟨fun w' hw => ?_, ?_⟩
 ·
  obtain ⟨q1, q2, q3⟩ := hw;go_simp;rfl
 simp only [putLz];refine left_readEP 5 rfl rfl (by kernel_rfl) ?_;apply Exists.intro;refine ⟨fun w' hw => ?_, ?_⟩
 ·
  obtain ⟨q1, q2, q3⟩ := hw;go_simp;rfl
 simp only [putLz];refine left_readEP 6 rfl rfl (by kernel_rfl) ?_;apply Exists.intro;refine ⟨fun w' hw => ?_, ?_⟩
 ·
  obtain ⟨q1, q2, q3⟩ := hw;go_simp;rfl
 simp only [putLz];refine left_readEP 7 rfl rfl (by kernel_rfl) ?_;apply Exists.intro;refine ⟨fun w' hw => ?_, ?_⟩
 ·
  obtain ⟨q1, q2, q3⟩ := hw;go_simp;rfl
 simp only [putLz];refine left_altsP [8] (by kernel_rfl) (fun i hi hS o ho => ?_);simp only [memLz] at hi;subst hi;simp only [altLz] at ho;subst ho;refine ⟨rfl, ?_⟩;refine oper_callP (R := fun x w' => BO bo g off cp n u v w' /\ ∃ r : Nat, x = .int .i64 r /\ Calls Tryz.prog 26 #[.pointer (some ⟨xb, 0, none⟩), .int .i64 v, .int .i64 1, .int .i64 r] w' fun e2 w2 => ∃ ch, e2 = .panicked ch /\ P (.panicked ch) w2) (R2 := fun ch w' => P (.panicked ch) w') (by go_simp) (HM1.out.mono HC1.out) ?_ ?_
 rotate_left
 ·
  intro ch w' hst;exact ⟨rfl, hst⟩
 rintro x w3 ⟨⟨e1, e2, e3⟩, r, rfl, hcall⟩;refine ⟨⟨e1, e2, e3⟩, ?_⟩;have HCALL := Lib.hid hcall;clear hcall hS d1 d2 d3;simp only [putLz];refine left_altsP [9] (by kernel_rfl) (fun i hi hS o ho => ?_);simp only [memLz] at hi;subst hi;simp only [altLz] at ho;subst ho;refine ⟨rfl, ?_⟩;refine oper_callP (R := fun _ _ => False) (R2 := fun ch w' => P (.panicked ch) w') (by go_simp) (HCALL.out.mono fun e w' h => .inr h) ?_ ?_
 ·
  intro v w' hf;exact hf.elim
 ·
  intro ch w' hst;exact ⟨rfl, hst⟩
theorem asks_do3 (hK : LawOK K) {W : World} {u v : Nat} (h : SatE K n (fun l => l.getD 0 0 = u /\ l.getD 1 0 = v) room w0 mb fs nx w o m V) (hb1 : Below w.heap.size w W) {bo g off cp : Nat} (hbo : w.heap.size <= bo) (hg : w.heap.size <= g) (hB : BO bo g off cp n u v W) (hn2 : 1 < n) (hst : m.waits = []) (hnx : nx <= 549755813888) (hr : fs.length * 2 ^ n + 1 <= room) :
 Calls Tryz.prog 24 #[.pointer (some ⟨mb, 0, none⟩), .func (.func 63) #[] #[.pointer (some ⟨bo, 0, none⟩)]] W fun x w' => ∃ k, x = .returned (.tuple #[.int .i64 k, .int .i64 10]) /\ ∃ o' m' V', ChgX NoB o o' w w' /\ m'.waits = [] /\ SatE K n (fun l => l.getD 0 0 = u /\ l.getD 1 0 = v) room w0 mb fs nx w' o' m' V' := by
 have hw0 := h.chg.size;refine (do_gen hK BO.keep (fun _ _ _ _ _ h _ => h) (fun _ _ h _ => h) ?_ enters_asks3 (asks3_gen hK bo g off cp u v hn2) (h.below hb1) hB ?_ (by unfold SuffOf; rw [hst]; exact List.suffix_refl _) (by omega)).mono ?_
 ·
  rintro c (rfl | rfl) <;> omega
 ·
  rintro c (rfl | rfl)
  ·
   exact ⟨lt_of_cell hB.s, h.lt.none hbo⟩
  ·
   exact ⟨lt_of_cell hB.u, h.lt.none hg⟩
 ·
  rintro x w' ⟨o', m', V', _, hc, ⟨_, _, _, _, hf, _⟩ | ⟨er, m0, _, rfl, hs, hE, h7⟩⟩
  ·
   exact hf.elim
  ·
   rcases hE with ⟨rfl, hw⟩ | ⟨e7, _, ⟨W', oo, VV, hs'⟩, h5, h6, _⟩
   ·
    exact ⟨0, rfl, o', m', V', (ChgX.of_below hb1 o NoB).trans hc (fun k hk e => by rcases e with rfl | rfl <;> omega), hw, hs⟩
   ·
    exfalso;have h8 := hs'.few (h7 e7);have h9 := hs.room;omega
end
open Go.RowKit
theorem asks_at3 {K : Law} {n : Nat} {room : Nat} {w0 w5 w6 w7 : World} {mb : Nat} {fs : List (Int × BF)} {nx : Int} {o : Own} {m : ManD} {V : Nat -> BF} {l : List Nat} {av : Option Addr} {cv : Nat} (hK : LawOK K) (h : SatE K n (fun _ => True) room w0 mb fs nx w5 o m V) (hl : l = m.d.vars) (hb6 : Below w5.heap.size w5 w6) (hva : IntsAt w6 av (l.map Int.ofNat)) (hown : ∀ k, (Value.slice av n cv).ownBlock = some k -> w5.heap.size <= k) (hb7 : Below w6.heap.size w6 w7) (cb : w7.cell? ⟨w6.heap.size, 0, none⟩ = some (.slice av n cv)) (hn2 : 1 < n) (hst : m.waits = []) (hnx : nx <= 549755813888) (hr : fs.length * 2 ^ n + 1 <= room) :
 Calls Tryz.prog 24 #[.pointer (some ⟨mb, 0, none⟩), .func (.func 63) #[] #[.pointer (some ⟨w6.heap.size, 0, none⟩)]] w7 fun x w' => ∃ k, x = .returned (.tuple #[.int .i64 k, .int .i64 10]) /\ ∃ o' m' V', ChgX NoB o o' w5 w' /\ m'.waits = [] /\ SatE K n (fun _ => True) room w0 mb fs nx w' o' m' V' := by
 have hlen : (l.map Int.ofNat).length = n := by rw [List.length_map, hl, h.vars]
 obtain ⟨g, off, rfl, k0⟩ := hva.cells 0 (by rw [hlen]; omega);obtain ⟨g', off', e, k1⟩ := hva.cells 1 (by rw [hlen]; omega);cases e;rw [at0_nat (by rw [<- List.length_map (f := Int.ofNat), hlen]; omega)] at k0 k1;have hg : w5.heap.size <= g := hown g rfl;have hB : BO w6.heap.size g off cv n (l.getD 0 0) (l.getD 1 0) w7 := ⟨cb, (hb7.cell (p := ⟨g, off, none⟩) (lt_of_cell k0)).trans k0, (hb7.cell (p := ⟨g, off + 1, none⟩) (lt_of_cell k1)).trans k1⟩;refine (asks_do3 hK (h.withOd (Od' := fun l' => l'.getD 0 0 = l.getD 0 0 /\ l'.getD 1 0 = l.getD 1 0) (by rw [hl]; exact ⟨rfl, rfl⟩)) (hb6.trans (hb7.mono hb6.size)) hb6.size hg hB hn2 hst hnx hr).mono ?_;rintro x w' ⟨k, rfl, o', m', V', h1, h2, h3⟩;exact ⟨k, rfl, o', m', V', h1, h2, h3.withOd trivial⟩
theorem wrap_one {k : Nat} (hk : k <= 1000) : IntKind.i64.wrap ((k : Int) + 1) = (k : Int) + 1 := by
 simp [IntKind.wrap, IntKind.bits];omega
theorem left_yes {K : Law} {n : Nat} {Od : List Nat -> Prop} {room : Nat} {w0 w : World} {mb : Nat} {fs : List (Int × BF)} {nx : Int} {o : Own} {m : ManD} {V : Nat -> BF} (h : SatE K n Od room w0 mb fs nx w o m V) (q : Nat) (hq : q <= 100) (hl : fs.length = q + 2) :
 Calls Tryz.prog 20 #[.pointer (some ⟨mb, 0, none⟩), .int .i64 (q : Nat)] w fun x w' => x = .returned (.bool true) /\ w = w' := by
 have := left_any h q (by omega);rw [decide_eq_true hl] at this;exact this
theorem boxes3 (wa : World) (x y z : Int) : Below wa.heap.size wa (((wa.alloc (.cells #[.int .i64 x] 3)).alloc (.cells #[.int .i64 y] 3)).alloc (.cells #[.int .i64 z] 3)) /\
 (((wa.alloc (.cells #[.int .i64 x] 3)).alloc (.cells #[.int .i64 y] 3)).alloc (.cells #[.int .i64 z] 3)).heap[wa.heap.size]? = some (.cells #[.int .i64 x] 3 (0, 0)) /\
 (((wa.alloc (.cells #[.int .i64 x] 3)).alloc (.cells #[.int .i64 y] 3)).alloc (.cells #[.int .i64 z] 3)).heap[wa.heap.size + 1]? = some (.cells #[.int .i64 y] 3 (0, 0)) /\
 (((wa.alloc (.cells #[.int .i64 x] 3)).alloc (.cells #[.int .i64 y] 3)).alloc (.cells #[.int .i64 z] 3)).heap[wa.heap.size + 2]? = some (.cells #[.int .i64 z] 3 (0, 0)) /\
 (((wa.alloc (.cells #[.int .i64 x] 3)).alloc (.cells #[.int .i64 y] 3)).alloc (.cells #[.int .i64 z] 3)).heap.size = wa.heap.size + 3 := by
 refine ⟨((below_new1 _ _).alloc (by simp) _).alloc (by simp; omega) _, ?_, ?_, ?_, by simp⟩
 ·
  exact (Go.heap_alloc_old _ _ (by simp; omega)).trans ((Go.heap_alloc_old _ _ (by simp)).trans (heap_alloc_new _ _))
 ·
  have := heap_alloc_new (wa.alloc (.cells #[.int .i64 x] 3)) (.cells #[.int .i64 y] 3);rw [World.size_alloc] at this;exact (Go.heap_alloc_old _ _ (by simp)).trans this
 ·
  have := heap_alloc_new ((wa.alloc (.cells #[.int .i64 x] 3)).alloc (.cells #[.int .i64 y] 3)) (.cells #[.int .i64 z] 3);rw [World.size_alloc, World.size_alloc] at this;exact this
theorem asks_walk (q : AskD) (ao ae ap : Option Addr) (co ce cp : Nat) (zh zv zo : Int) (w : World) (h : AskAt w q ao ae ap) :
 Calls Tryz.prog 10 #[askV q ao ae ap co ce cp, .int .i64 zh, .int .i64 zv, .int .i64 zo] w fun y w' => y = .returned (.bool true) /\ Below w.heap.size w w' := by
 have HSM : Hid (∀ W, Below w.heap.size w W -> ∀ u, u = askV q ao ae ap co ce cp -> Calls Tryz.prog 12 #[u] W fun y w' => ∃ b, y = .returned (.bool b) /\ (b = true -> SmallP q) /\ Below W.heap.size W w') := Lib.hid fun W hb u hu => by subst hu; exact small_any q ao ae ap co ce cp W (h.below hb)
 have HST : Hid (∀ W n, Below w.heap.size w W -> SmallP q -> q.vars = (n : Nat) -> ∀ u, u = askV q ao ae ap co ce cp -> Calls Tryz.prog 23 #[u] W (SetP askLaw q n W)) := Lib.hid fun W n hb hs hn u hu => by subst hu; exact setup_any (specLaw_ok askSp) q ao ae ap co ce cp W (h.below hb) hs n hn
 obtain ⟨vars, hvars⟩ : ∃ z, z = q.vars := ⟨_, rfl⟩;have HV := Lib.hid hvars;have HASK := Lib.hid h;obtain ⟨plen, hplen⟩ : ∃ z, z = q.plan.length := ⟨_, rfl⟩;have HPLN := Lib.hid hplen;unfold askV at HSM HST ⊢;rw [<- hvars, <- hplen] at HSM HST ⊢;obtain ⟨olen, holen⟩ : ∃ z, z = q.order.length := ⟨_, rfl⟩;obtain ⟨elen, helen⟩ : ∃ z, z = q.es.length := ⟨_, rfl⟩;rw [<- holen, <- helen] at HSM HST ⊢;obtain ⟨wa, hwa⟩ : ∃ wa, wa = w.alloc (.cells #[.int .i64 vars, .slice ao olen co, .slice ae elen ce, .slice ap plen cp] 26) := ⟨_, rfl⟩;obtain ⟨w1, hw1⟩ : ∃ w1, w1 = ((wa.alloc (.cells #[.int .i64 zh] 3)).alloc (.cells #[.int .i64 zv] 3)).alloc (.cells #[.int .i64 zo] 3) := ⟨_, rfl⟩;have hza : wa.heap.size = w.heap.size + 1 := by rw [hwa]; simp
 have HW1 : Hid ((((w.alloc (.cells #[.int .i64 vars, .slice ao olen co, .slice ae elen ce, .slice ap plen cp] 26)).alloc (.cells #[.int .i64 zh] 3)).alloc (.cells #[.int .i64 zv] 3)).alloc (.cells #[.int .i64 zo] 3) = w1) := Lib.hid (by rw [hw1, hwa]);obtain ⟨hb3, k1, k2, k3, hz3⟩ := boxes3 wa zh zv zo;rw [<- hw1, hza] at k1 k2 k3;rw [<- hw1, hza] at hz3;rw [<- hw1] at hb3;have hbwa : Below w.heap.size w wa := by rw [hwa]; exact below_new1 _ _
 have HB1 : Hid (Below w.heap.size w w1) := Lib.hid (hbwa.trans (hb3.mono hbwa.size));have hblk : w1.heap[w.heap.size]? = some (.cells #[.int .i64 vars, .slice ao olen co, .slice ae elen ce, .slice ap plen cp] 26 (0, 0)) := (hb3.block _ (by omega)).trans (by rw [hwa]; exact heap_alloc_new _ _);have HBK : Hid (∀ W, Below w1.heap.size w1 W -> BK (w.heap.size + 1) zh W /\ BK (w.heap.size + 2) zv W /\ BK (w.heap.size + 3) zo W) := Lib.hid fun W hb => ⟨⟨(hb.block _ (by omega)).trans k1⟩, ⟨(hb.block _ (by omega)).trans k2⟩, ⟨(hb.block _ (by omega)).trans k3⟩⟩
 have d0 : w1.cell? ⟨w.heap.size, 0, none⟩ = some (.int .i64 vars) := by rw [cell_of_row _ _ 0 _ _ _ hblk]; rfl
 have d1 : w1.cell? ⟨w.heap.size, 1, none⟩ = some (.slice ao olen co) := by rw [cell_of_row _ _ 1 _ _ _ hblk]; rfl
 have d2 : w1.cell? ⟨w.heap.size, 2, none⟩ = some (.slice ae elen ce) := by rw [cell_of_row _ _ 2 _ _ _ hblk]; rfl
 have d3 : w1.cell? ⟨w.heap.size, 3, none⟩ = some (.slice ap plen cp) := by rw [cell_of_row _ _ 3 _ _ _ hblk]; rfl
 clear h hw1 hwa hza hb3 k1 k2 k3 hbwa hblk hvars hplen holen helen
 go_enter Tryz.func10, Tryz.ntmps10
 go_upto_region 1 with fail;rw [HW1.out];go_wp2_with fail;refine (HSM.out _ HB1.out _ rfl).mono ?_;rintro y w2 ⟨b, rfl, hb, hbel⟩;have HB := Lib.hid hb;have HBEL := Lib.hid (HB1.out.trans (hbel.mono HB1.out.size));have HB12 := Lib.hid hbel;have e0 := (hbel.cell (p := ⟨w.heap.size, 0, none⟩) (lt_of_cell d0)).trans d0;have e1 := (hbel.cell (p := ⟨w.heap.size, 1, none⟩) (lt_of_cell d1)).trans d1;have e2 := (hbel.cell (p := ⟨w.heap.size, 2, none⟩) (lt_of_cell d2)).trans d2;have e3 := (hbel.cell (p := ⟨w.heap.size, 3, none⟩) (lt_of_cell d3)).trans d3;have HLV := Lib.hid (lives13b w2);clear hb hbel HSM d0 d1 d2 d3 HW1;cases b with
 | false =>
   go_wp2_with fail;refine HLV.out.mono ?_;rintro y w3 ⟨rfl, hb3⟩;have HB3 := Lib.hid (HBEL.out.trans (hb3.mono HBEL.out.size));clear hb3;go_wp2_with fail;go_ret;exact ⟨rfl, HB3.out⟩
 | true =>
   have HSP := Lib.hid (HB.out (by first | rfl | trivial));obtain ⟨n, hn⟩ : ∃ n : Nat, vars = (n : Nat) := ⟨vars.toNat, by have := HSP.out.lo; have := HV.out; omega⟩;subst hn;have hn6 : n <= 6 := by have := HSP.out.hi; have := HV.out; omega
   have hes : q.es.length <= 5 := HSP.out.es;have HSET := Lib.hid (HST.out w2 n HBEL.out HSP.out rfl _ rfl);clear HST HB;clear HLV;go_wp2_with fail;refine HSET.out.mono ?_;rintro y w3 ⟨mb, vl, vx, wb, hs, nx, rfl, hbw, hsnd, hnx, o3, m3, V3, lt3, _⟩;have hhl : hs.length <= 5 := by have := congrArg List.length hsnd; simp at this; omega
   have hh1 : hs.length + 1 <= 100 := by omega
   have hh0 : hs.length <= 100 := by omega
   have hhk : hs.length <= 1000 := by omega
   obtain ⟨al, cl, hvl⟩ : ∃ a c, vl = .slice a hs.length c := by
    obtain ⟨a, c, e, _⟩ := lt3.l.own.slice;exact ⟨a, c, by rw [e]; simp [intsV]⟩
   subst hvl;have hfl : (two ++ hs).length = 2 + hs.length := by simp [two]; omega
   have hn1 : 1 <= n := by have := HSP.out.lo; have := HV.out; omega
   have c0 := (hbw.cell (p := ⟨w.heap.size, 0, none⟩) (lt_of_cell e0)).trans e0;have c3 := (hbw.cell (p := ⟨w.heap.size, 3, none⟩) (lt_of_cell e3)).trans e3;have hbb := HBEL.out.trans (hbw.mono HBEL.out.size);have HBB := Lib.hid hbb;have hbk := HBK.out _ (HB12.out.trans (hbw.mono HB12.out.size));have hl3 : w.heap.size + 3 < wb.heap.size := (Array.getElem?_eq_some_iff.1 hbk.2.2.blk).1;have HBX : Hid (∀ W, Below wb.heap.size wb W -> W.cell? ⟨w.heap.size, 0, none⟩ = some (.int .i64 (n : Nat)) /\ W.cell? ⟨w.heap.size, 3, none⟩ = some (.slice ap plen cp) /\ BK (w.heap.size + 1) zh W /\ BK (w.heap.size + 2) zv W /\ BK (w.heap.size + 3) zo W /\ Below w.heap.size w W) := Lib.hid fun W hb =>
    ⟨(hb.cell (p := ⟨w.heap.size, 0, none⟩) (lt_of_cell c0)).trans c0, (hb.cell (p := ⟨w.heap.size, 3, none⟩) (lt_of_cell c3)).trans c3, ⟨(hb.block _ (by omega)).trans hbk.1.blk⟩, ⟨(hb.block _ (by omega)).trans hbk.2.1.blk⟩, ⟨(hb.block _ (by omega)).trans hbk.2.2.blk⟩, hbb.trans (hb.mono hbb.size)⟩
   have HROOM : Hid (∀ l : List (Int × BF), l.length <= 10 -> l.length * 2 ^ n + 2 * 2 ^ n <= roomOf n) := Lib.hid fun l hl => by
    have h1 := roomOf_many (n := n) (k := 12) (by omega);have h2 := Nat.mul_le_mul_right (2 ^ n) hl;omega
   have hp2 : 0 < 2 ^ n := Nat.pow_pos (by omega);have L3 := (lt3.withOd (Od' := fun _ => True) trivial).withSt (Wt' := SufW q.plan) (by rw [lt3.st.1]; exact List.suffix_refl _);have HRG : Hid (∀ p ∈ two ++ hs, p.1 < nx) := Lib.hid fun p hp => (L3.sat.range p hp).2
   have hb3w : w.heap.size <= w.heap.size + 3 := by omega
   have hb3b : w.heap.size + 3 < wb.heap.size := hl3;obtain ⟨c, hc⟩ : ∃ c : Int, (c = 0 /\ ∃ F, (zh, F) ∈ two ++ hs) \/ (c = 8 /\ ∀ p ∈ two ++ hs, p.1 ≠ zh) := by
    by_cases hin : ∃ F, (zh, F) ∈ two ++ hs
    ·
     exact ⟨0, .inl ⟨rfl, hin⟩⟩
    ·
     exact ⟨8, .inr ⟨rfl, fun p hp e => hin ⟨p.2, by rw [<- e]; exact hp⟩⟩⟩
   have HC := Lib.hid hc;have HL3 := Lib.hid L3;have HLK := Lib.hid (asks_look L3.sat hbb (b := w.heap.size + 1) (by omega) (by omega) (HBX.out _ L3.below0).2.2.1 hc);clear lt3 L3 hbw hsnd HSET e0 e1 e2 e3 c0 c3 hbk hc;obtain ⟨nb, hnb⟩ : ∃ nb : Bool, (nb = false /\ c = 0 /\ ∃ F, (zh, F) ∈ two ++ hs) \/ (nb = true /\ c = 8 /\ ∀ p ∈ two ++ hs, p.1 ≠ zh) := by
    rcases HC.out with h | h
    ·
     exact ⟨false, .inl ⟨rfl, h⟩⟩
    ·
     exact ⟨true, .inr ⟨rfl, h⟩⟩
   have HNB := Lib.hid hnb;clear hnb;go_upto_region 7 with fail
   go_cut [39] (fun s39 wx => s39 = .bool nb /\ Hid (w3 = wx))
   case first =>
    have cb := cell1 (HBX.out _ HL3.out.below0).2.2.1.blk;rcases HNB.out with ⟨rfl, _, F, hF⟩ | ⟨rfl, _, hno⟩
    ·
     have HIS := Lib.hid (manIs_yes HL3.out.sat hF);clear hF;go_wp2_with fail;refine HIS.out.mono ?_;rintro y w' ⟨rfl, rfl⟩;go_wp2_with fail;go_meet
     case rel => exact ⟨by first | rfl | trivial, Lib.hid rfl⟩
    ·
     have HIS := Lib.hid (manIs_no HL3.out.sat hno);clear hno;go_wp2_with fail;refine HIS.out.mono ?_;rintro y w' ⟨rfl, rfl⟩;go_wp2_with fail;go_meet
     case rel => exact ⟨by first | rfl | trivial, Lib.hid rfl⟩
   case rest =>
   obtain ⟨rfl, HWX⟩ := hcut;have hwx := HWX.out;subst hwx
   go_upto_if 39 with fail
   go_cut [13] (fun s13 wx => s13 = .int .i64 c /\ Hid (w3 = wx))
   case first =>
    rcases HNB.out with ⟨rfl, rfl, _⟩ | ⟨rfl, rfl, _⟩
    all_goals
     go_wp2_with fail;go_meet
     case rel => exact ⟨rfl, Lib.hid rfl⟩
   case rest =>
   obtain ⟨rfl, HWX⟩ := hcut;have hwx := HWX.out;subst hwx;go_wp2_with fail;refine HLK.out.mono ?_;rintro y w4 ⟨rfl, o4, m4, V4, hc4, hw4, hs4⟩;have hL4 := HL3.out.go (Wt' := SufW q.plan) hs4 HL3.out.b2 (by show m4.waits <:+ q.plan; rw [hw4]; exact HL3.out.st) hc4;have HL4 := Lib.hid hL4;have HD2 := Lib.hid (asks_do2 (specLaw_ok askSp) hL4.sat hbb (b := w.heap.size + 2) (by omega) (by omega) (HBX.out _ hL4.below0).2.2.2.1 q.plan hL4.st (by omega) (by have := HROOM.out (two ++ hs) (by omega); omega));obtain ⟨nv, hnv⟩ : ∃ nv : Int, (nv = 0 /\ 0 <= zv /\ zv < (n : Int)) \/ (nv = 9 /\ ¬ (0 <= zv /\ zv < (n : Int))) := by
    by_cases hin : 0 <= zv /\ zv < (n : Int)
    ·
     exact ⟨0, .inl ⟨rfl, hin⟩⟩
    ·
     exact ⟨9, .inr ⟨rfl, hin⟩⟩
   have HNV := Lib.hid hnv;clear hL4 hs4 hc4 hw4 HLK HL3 HC HWX hnv hl3;obtain ⟨vb, hvb⟩ : ∃ vb : Bool, (vb = false /\ nv = 0 /\ 0 <= zv /\ zv < (n : Int)) \/ (vb = true /\ nv = 9 /\ ¬ (0 <= zv /\ zv < (n : Int))) := by
    rcases HNV.out with h | h
    ·
     exact ⟨false, .inl ⟨rfl, h⟩⟩
    ·
     exact ⟨true, .inr ⟨rfl, h⟩⟩
   have HVB := Lib.hid hvb;clear hvb;go_upto_region 10 with fail
   go_cut [50] (fun s50 wx => s50 = .bool vb /\ Hid (w4 = wx))
   case first =>
    obtain ⟨g0, _, _, gv, _, _⟩ := HBX.out _ HL4.out.below0;have cb := cell1 gv.blk
    by_cases hv0 : zv < 0
    ·
     obtain rfl : vb = true := by rcases HVB.out with ⟨_, _, h, _⟩ | ⟨h, _⟩ <;> (first | exact h | omega)
     clear gv;go_wp2_with fail;go_meet
     case rel => exact ⟨by first | rfl | trivial, Lib.hid rfl⟩
    ·
     by_cases hv1 : zv >= (n : Int)
     ·
      obtain rfl : vb = true := by rcases HVB.out with ⟨_, _, h⟩ | ⟨h, _⟩ <;> (first | exact h | omega)
      clear gv;go_wp2_with fail;go_meet
      case rel => exact ⟨by first | rfl | trivial | (simp; omega), Lib.hid rfl⟩
     ·
      obtain rfl : vb = false := by rcases HVB.out with ⟨h, _⟩ | ⟨_, _, h⟩ <;> (first | exact h | omega)
      clear gv;go_wp2_with fail;go_meet
      case rel => exact ⟨by first | rfl | trivial | (simp; omega), Lib.hid rfl⟩
   case rest =>
   obtain ⟨rfl, HWX⟩ := hcut;have hwx := HWX.out;subst hwx
   go_upto_if 50 with fail
   go_cut [14] (fun s14 wx => s14 = .int .i64 nv /\ Hid (w4 = wx))
   case first =>
    rcases HVB.out with ⟨rfl, rfl, _⟩ | ⟨rfl, rfl, _⟩
    all_goals
     go_wp2_with fail;go_meet
     case rel => exact ⟨rfl, Lib.hid rfl⟩
   case rest =>
   obtain ⟨rfl, HWX⟩ := hcut;have hwx := HWX.out;subst hwx;go_wp2_with fail;refine HD2.out.mono ?_;rintro y w5 ⟨k5, f5, rfl, o5, m5, V5, fs5, nx5, hc5, hw5, hs5, hcase⟩;have hf5 : f5 = nv /\ fs5.length <= 8 /\ nx5 <= nx + 1 /\ (∀ p ∈ two ++ hs, p ∈ fs5) /\ B2 fs5 /\ ((f5 = 0 /\ fs5.length = hs.length + 1 + 2) \/ (f5 = 9 /\ fs5.length = hs.length + 2)) := by
    rcases hcase with ⟨h1, h2, rfl, rfl, rfl⟩ | ⟨h1, rfl, rfl, rfl⟩
    ·
     refine ⟨?_, by rw [List.length_append, hfl]; exact (show 2 + hs.length + 1 <= 8 by omega), by omega, fun p hp => List.mem_append_left _ hp, HL4.out.b2.app _, .inl ⟨rfl, by rw [List.length_append, hfl]; exact (show 2 + hs.length + 1 = hs.length + 1 + 2 by omega)⟩⟩;rcases HNV.out with ⟨h, _⟩ | ⟨_, h⟩ <;> omega
    ·
     refine ⟨?_, by rw [hfl]; omega, by omega, fun p hp => hp, HL4.out.b2, .inr ⟨rfl, by rw [hfl]; omega⟩⟩;rcases HNV.out with ⟨_, h⟩ | ⟨h, _⟩ <;> omega
   obtain ⟨rfl, hl8, hnx5, hsub5, hb25, hlen5⟩ := hf5;have HL5 := Lib.hid (HL4.out.go (Wt' := SufW q.plan) hs5 hb25 hw5 hc5);have HR1 : Hid (fs5.length * 2 ^ n + 1 <= roomOf n) := Lib.hid (by have := HROOM.out fs5 (by omega); omega);have HR2 : Hid (fs5.length * 2 ^ n + 2 * 2 ^ n <= roomOf n) := Lib.hid (HROOM.out fs5 (by omega));have HNX5 : Hid (nx5 <= 549755813888) := Lib.hid (by omega);have HHL : Hid (hs.length <= 100) := Lib.hid hh0;have HN16 : Hid (n <= 16) := Lib.hid (by omega);have HN64 : Hid (n <= 64) := Lib.hid (by omega);have HLFG : Hid (∀ q : Nat, q <= 100 -> fs5.length = q + 2 -> Calls Tryz.prog 20 #[.pointer (some ⟨mb, 0, none⟩), .int .i64 (q : Nat)] w5 fun x w' => x = .returned (.bool true) /\ w5 = w') := Lib.hid fun q hq h => left_yes HL5.out.sat q hq h
   have HSUB := Lib.hid hsub5;have HLEN := Lib.hid hlen5;have HB2 := Lib.hid hb25;clear hs5 hc5 hw5 hcase HD2 HL4 HNV HWX hsub5 hlen5 hb25;go_upto_region 13 with fail
   go_cut [87] (fun s87 wx => s87 = .bool false /\ Hid (w5 = wx))
   case first =>
    rcases HLEN.out with ⟨rfl, h⟩ | ⟨rfl, h⟩
    ·
     have HLF := Lib.hid (HLFG.out (hs.length + 1) hh1 h);have HWR : Hid (IntKind.i64.wrap ((hs.length : Int) + 1) = (hs.length : Int) + 1) := Lib.hid (wrap_one hhk);clear h;go_wp2_with fail;refine HLF.out.mono ?_;rintro y w' ⟨rfl, rfl⟩;go_wp2_with fail;go_meet
     case rel => exact ⟨by first | rfl | trivial, Lib.hid rfl⟩
    ·
     have HLF := Lib.hid (HLFG.out hs.length hh0 h);clear h;go_wp2_with fail;refine HLF.out.mono ?_;rintro y w' ⟨rfl, rfl⟩;go_wp2_with fail;go_meet
     case rel => exact ⟨by first | rfl | trivial, Lib.hid rfl⟩
   case rest =>
   obtain ⟨rfl, HWX⟩ := hcut;have hwx := HWX.out;subst hwx;have hlv := HL5.out.sat.vars;have hord := manOrder_any HL5.out.sat.is HL5.out.sat.lt (by rw [hlv]; exact HN64.out);obtain ⟨l5, hl5⟩ : ∃ l, l = m5.d.vars := ⟨_, rfl⟩;rw [<- hl5] at hord hlv;have HL5V := Lib.hid hl5;have HOR := Lib.hid hord;have HLV5 := Lib.hid hlv;clear hord hlv hl5 HLEN HLFG HWX HVB HNB hh1 hhk hnx5;go_upto_region 15 with fail;go_wp2_with fail;refine HOR.out.mono ?_;rintro y w6 ⟨v6, rfl, hv6, hb6⟩;have hown6 : ∀ k, v6.ownBlock = some k -> w5.heap.size <= k := fun k hk => (hv6.lt k hk).1
   obtain ⟨av, cv, rfl, hva, _⟩ := hv6.sliceIs (by rw [List.length_map, HLV5.out]; exact Nat.le_trans HN64.out (by decide));have hlm : (l5.map Int.ofNat).length = n := by rw [List.length_map, HLV5.out]
   rw [hlm] at hown6 ⊢;have HVA := Lib.hid hva;have HOW6 := Lib.hid hown6;have HLM := Lib.hid hlm;have HL6 := Lib.hid (HL5.out.below hb6);have HB6 := Lib.hid hb6;obtain ⟨w7, hw7⟩ : ∃ w7, w7 = w6.alloc (.cells #[.slice av n cv] 22) := ⟨_, rfl⟩;have HW7 : Hid (_ = w7) := Lib.hid hw7.symm;have hb7 : Below w6.heap.size w6 w7 := by rw [hw7]; exact below_new1 _ _
   have cb7 : w7.cell? ⟨w6.heap.size, 0, none⟩ = some (.slice av n cv) := by rw [hw7]; exact cell1 (heap_alloc_new _ _)
   have HB7 := Lib.hid hb7;have HL7 := Lib.hid (HL6.out.below hb7);obtain ⟨g0, g3, _, _, go, _⟩ := HBX.out _ HL7.out.below0;have co7 := cell1 go.blk;obtain ⟨gb, hgb⟩ : ∃ gb : Bool, (gb = true /\ 1 < n /\ plen = 0) \/ (gb = false /\ ¬ (1 < n /\ plen = 0)) := by
    by_cases h : 1 < n /\ plen = 0
    ·
     exact ⟨true, .inl ⟨rfl, h⟩⟩
    ·
     exact ⟨false, .inr ⟨rfl, h⟩⟩
   have HGB := Lib.hid hgb;clear hv6 hb6 hown6 hva hlm hw7 hb7 HOR hgb go;go_upto_region 16 with fail;rw [HW7.out]
   go_cut [98] (fun s98 wx => s98 = .bool gb /\ Hid (w7 = wx))
   case first =>
    rcases HGB.out with ⟨rfl, h1, rfl⟩ | ⟨rfl, h1⟩
    ·
     have h1z : (1 : Int) < (n : Int) := by exact_mod_cast h1
     go_wp2_with fail;go_meet
     case rel => exact ⟨by first | rfl | trivial, Lib.hid rfl⟩
    ·
     by_cases h2 : 1 < n
     ·
      have h3 : plen ≠ 0 := fun e => h1 ⟨h2, e⟩
      have h2z : (1 : Int) < (n : Int) := by exact_mod_cast h2
      have h3z : ((plen : Int) == 0) = false := by simp [h3]
      go_wp2_with fail;go_meet
      case rel => exact ⟨by first | rfl | trivial | simp [h3], Lib.hid rfl⟩
     ·
      have h2z : ¬ (1 : Int) < (n : Int) := by exact_mod_cast h2
      clear h1;go_wp2_with fail;go_meet
      case rel => exact ⟨by first | rfl | trivial, Lib.hid rfl⟩
   case rest =>
   obtain ⟨rfl, HWX⟩ := hcut;have hwx := HWX.out;subst hwx
   go_upto_if 98 with fail
   go_cut [19, 20] (fun _ _ wx => Hid (LawE askLaw n (fun _ => True) (roomOf n) wb mb fs5 nx5 (SufW q.plan) hs hs wx (.slice al hs.length cl) vx))
   case first =>
    rcases HGB.out with ⟨rfl, h1, rfl⟩ | ⟨rfl, h1⟩
    ·
     have hpn : m5.waits = [] := by
      have h2 : m5.waits <:+ q.plan := HL5.out.st;have h3 := HPLN.out;rw [List.eq_nil_of_length_eq_zero h3.symm] at h2;simpa using h2
     have HD3 := Lib.hid (asks_at3 (specLaw_ok askSp) HL5.out.sat HL5V.out HB6.out HVA.out HOW6.out HB7.out cb7 h1 hpn HNX5.out HR1.out);clear h1 hpn;go_wp2_with fail;refine HD3.out.mono ?_;rintro y w8 ⟨k8, rfl, o8, m8, V8, hc8, hw8, hs8⟩;have HF : Hid (LawE askLaw n (fun _ => True) (roomOf n) wb mb fs5 nx5 (SufW q.plan) hs hs w8 (.slice al hs.length cl) vx) := Lib.hid ⟨o8, m8, V8, HL5.out.go hs8 HB2.out (by show m8.waits <:+ q.plan; rw [hw8]; exact List.nil_suffix) hc8⟩;clear hc8 hw8 hs8 HD3;go_wp2_with fail;go_meet
     case rel => exact HF
    ·
     have HF : Hid (LawE askLaw n (fun _ => True) (roomOf n) wb mb fs5 nx5 (SufW q.plan) hs hs w7 (.slice al hs.length cl) vx) := Lib.hid ⟨_, _, _, HL7.out⟩;clear h1;go_wp2_with fail;go_meet
     case rel => exact HF
   case rest =>
   obtain ⟨o8, m8, V8, L8⟩ := hcut.out
   rename World => w8
   have hbx8 := HBX.out _ L8.below0;have co8 := cell1 hbx8.2.2.2.2.1.blk;have g08 := hbx8.1;have HL8 := Lib.hid L8;have HD4 := Lib.hid fun (hz : zo ≠ 1) => do_old (k := 2 * 2 ^ n) (F := notF (varF 0)) (specLaw_ok askSp) enters_asks4 q.plan (fun o W m V xb hs hc hno hx => asks4_c hs hx hn1 hz hc hno) L8.sat hbb hb3w hb3b hbx8.2.2.2.2.1 L8.st HNX5.out HR2.out
   have HSB5 : Hid (∀ p ∈ hs, p ∈ fs5) := Lib.hid fun p hp => HSUB.out p (List.mem_append_right _ hp)
   have HALL := Lib.hid fun (W : World) (hb : Below w8.heap.size w8 W) => all_any (HL8.out.below hb).sat HN16.out ((HL8.out.below hb).row HSB5.out (Nat.le_trans HHL.out (by decide)))
   have HLV8 := Lib.hid fun W => lives13b W
   have HBF : Hid (∀ W, Below wb.heap.size wb W -> Below w.heap.size w W) := Lib.hid fun W hb => (HBX.out W hb).2.2.2.2.2
   clear L8 hbx8 hcut HL5 HL6 HL7 HB6 HB7 HWX cb7 co7 g0 g3 HVA HOW6 HLM HGB HR1 HLV5 HL5V
   by_cases hz : zo < 100
   ·
    clear HD4;go_wp2_with fail;refine (HALL.out _ (Below.refl _ _)).mono ?_;rintro y w9 ⟨rfl, hb9⟩;have HB9 := Lib.hid (HL8.out.below hb9).below0;clear hb9;go_wp2_with fail;refine (HLV8.out _).mono ?_;rintro y w10 ⟨rfl, hb10⟩;have HFN := Lib.hid (HBF.out _ (HB9.out.trans (hb10.mono HB9.out.size)));clear hb10;go_wp2_with fail;go_ret;exact ⟨rfl, HFN.out⟩
   ·
    have HD := Lib.hid (HD4.out (by omega));clear HD4 HALL;go_wp2_with fail;refine HD.out.mono ?_;rintro y w9 ⟨rfl, o9, m9, V9, hc9, hw9, hs9⟩;have HL9 := Lib.hid (HL8.out.go (Wt' := SufW q.plan) hs9 (HB2.out.app _) hw9 hc9);have g09 := (HBX.out _ HL9.out.below0).1;have HVAR := Lib.hid (refVar_tab 0 n hn1 HN16.out w9);have HALL : Hid (∀ W, Below w9.heap.size w9 W -> _) := Lib.hid fun (W : World) (hb : Below w9.heap.size w9 W) => all_any (HL9.out.below hb).sat HN16.out ((HL9.out.below hb).row (fun p hp => List.mem_append_left _ (HSB5.out p hp)) (Nat.le_trans HHL.out (by decide)))
    clear hc9 hw9 hs9 HD HL8 co8 g08;go_wp2_with fail;refine HVAR.out.mono ?_;rintro y w10 ⟨g10, rfl, hown10, hb10⟩;have hbs10 := hown10.boolsIs (by rw [tabB_length]; exact tab_small HN16.out);have hba : BoolsAt w10 (some ⟨g10, 0, none⟩) (tabB n (varF 0)) := by
     obtain ⟨a, c, e, h1, _⟩ := hbs10;injection e with e1 e2 e3
     rw [e1];exact h1
    have HNT := Lib.hid (refNot_tab n (varF 0) _ (2 ^ n) w10 hba);have HB10 := Lib.hid hb10;clear hown10 hb10 hbs10 hba HVAR;go_wp2_with fail;refine HNT.out.mono ?_;rintro y w11 ⟨g11, rfl, hbs11, hb11⟩;have HB11 := Lib.hid (HB10.out.trans (hb11.mono HB10.out.size));have HIS := Lib.hid (is_any (HL9.out.below HB11.out).sat HN16.out (k := nx5) (F := notF (varF 0)) (by simp) hbs11);clear hbs11 hb11 HNT;go_wp2_with fail;refine HIS.out.mono ?_;rintro y w12 ⟨b, rfl, hb, hb12⟩;obtain rfl := hb.2 (by first | rfl | trivial);have HB12' := Lib.hid (HB11.out.trans (hb12.mono HB11.out.size));have HAL := Lib.hid (HALL.out w12 HB12'.out);clear hb hb12 HIS HALL;go_wp2_with fail;refine HAL.out.mono ?_;rintro y w13 ⟨rfl, hb13⟩;have HB13 := Lib.hid (HL9.out.below (HB12'.out.trans (hb13.mono HB12'.out.size))).below0;clear hb13 HAL;go_wp2_with fail;refine (HLV8.out _).mono ?_;rintro y w14 ⟨rfl, hb14⟩;have HFN := Lib.hid (HBF.out _ (HB13.out.trans (hb14.mono HB13.out.size)));clear hb14;go_wp2_with fail;go_ret;exact ⟨rfl, HFN.out⟩
end Go.Proofs.YtchliiaknmknhaaGreat
