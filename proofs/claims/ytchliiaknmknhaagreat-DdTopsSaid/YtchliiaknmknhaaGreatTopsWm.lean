/- The walk of a law: TopsW. -/
import Derived.Test.YtchliiaknmknhaaGreatU8
set_option linter.unusedSimpArgs false
set_option linter.unusedVariables false
set_option linter.unusedSectionVars false
set_option linter.unnecessarySimpa false
set_option maxRecDepth 100000
set_option maxHeartbeats 8000000
namespace Go.Proofs.YtchliiaknmknhaaGreat
open Go.RowKit
theorem refSame13_any (bx bz : List Bool) (hlen : bz.length = bx.length) (ax az : Option Addr) (cx cz : Nat) (w : World) (h1 : BoolsAt w ax bx) (h2 : BoolsAt w az bz) :
 Calls Tryz.prog 57 #[.slice ax bx.length cx, .slice az bx.length cz] w fun x w' => x = .returned (.bool (decide (bx = bz))) /\ Below w.heap.size w w' := by
 have H1 := Lib.hid h1;have H2 := Lib.hid h2;have hl := h1.len;have HLN := Lib.hid hlen;obtain ⟨L, hL⟩ : ∃ L, L = bx.length := ⟨_, rfl⟩;have HL := Lib.hid hL;rw [<- hL] at hl ⊢;clear h1 h2 hL hlen
 go_enter Tryz.func57, Tryz.ntmps57
 go_wp2_with fail
 go_loopw [4, 5] (fun s4 s5 wr => ∃ j : Nat, j <= L /\ s5 = .int .i64 j /\ Hid (Below w.heap.size w wr) /\ Hid (∀ q, q < j -> bx.getD q false = bz.getD q false)) (fun _ s5 _ => L - (intOf s5).toNat)
 case atStart => exact ⟨0, Nat.zero_le _, rfl, Lib.hid (Below.refl _ _), Lib.hid fun q hq => by omega⟩
 case round =>
  obtain ⟨j, hj, rfl, HB, HQ⟩ := hrel
  by_cases hlt : j < L
  ·
   obtain ⟨b1, of1, rfl, c1⟩ := (H1.out.below HB.out).cells j (by rw [<- HL.out]; exact hlt);obtain ⟨b2, of2, rfl, c2⟩ := (H2.out.below HB.out).cells j (by rw [HLN.out, <- HL.out]; exact hlt);have HBN := Lib.hid (HB.out.trans ((below_draw wr 1).mono HB.out.size));have hjz : (j : Int) < (L : Int) := by omega
   obtain ⟨y1, hy1⟩ : ∃ y, y = bx.getD j false := ⟨_, rfl⟩;obtain ⟨y2, hy2⟩ : ∃ y, y = bz.getD j false := ⟨_, rfl⟩;rw [<- hy1] at c1;rw [<- hy2] at c2;have HQ2 : Hid (y1 = y2 -> ∀ q, q < j + 1 -> bx.getD q false = bz.getD q false) := Lib.hid fun e q hq => by
    rcases Nat.lt_or_ge q j with h | h
    ·
     exact HQ.out q h
    ·
     obtain rfl : q = j := by omega
     rw [<- hy1, <- hy2, e]
   have HNE : Hid (y1 ≠ y2 -> bx ≠ bz) := Lib.hid fun hne e => hne (by rw [hy1, hy2, e])
   clear hy1 hy2;go_upto_region 6 with fail;refine wp_region_mix (fun W : World => W.cell? ⟨b1, of1 + j, none⟩ = some (.bool y1) /\ W.cell? ⟨b2, of2 + j, none⟩ = some (.bool y2)) false 9
    [(0, false), (1, false), (2, false), (3, false), (4, false), (5, false), (6, false), (7, false), (8, false)] (by kernel_rfl) (by kernel_rfl) ⟨c1, c2⟩ ?_
   simp only [planned, plnLz]
   iterate 9
    refine mix_readE rfl ?_;apply Exists.intro;refine ⟨fun w' hw => ?_, ?_⟩
    ·
     obtain ⟨h1, h2⟩ := hw;go_simp;rfl
    simp only [putLz]
   refine mix_end ?_;clear c1 c2;cases y1 <;> cases y2
   ·
    have HQ3 := Lib.hid (HQ2.out rfl);go_wp2_with fail;go_roundw
    case rel => exact ⟨j + 1, by omega, by go_num, HBN, HQ3⟩
    case measure => simp [intOf]; omega
   ·
    have HF : Hid (Ending.returned (.bool false) = .returned (.bool (decide (bx = bz)))) := Lib.hid (by rw [decide_eq_false (HNE.out (by simp))]);go_wp2_with fail;go_ret;exact ⟨HF.out, HBN.out⟩
   ·
    have HF : Hid (Ending.returned (.bool false) = .returned (.bool (decide (bx = bz)))) := Lib.hid (by rw [decide_eq_false (HNE.out (by simp))]);go_wp2_with fail;go_ret;exact ⟨HF.out, HBN.out⟩
   ·
    have HQ3 := Lib.hid (HQ2.out rfl);go_wp2_with fail;go_roundw
    case rel => exact ⟨j + 1, by omega, by go_num, HBN, HQ3⟩
    case measure => simp [intOf]; omega
  ·
   have HF : Hid (Ending.returned (.bool true) = .returned (.bool (decide (bx = bz)))) := Lib.hid (by
    rw [decide_eq_true];refine List.ext_getElem HLN.out.symm fun i h1 h2 => ?_
    have := HQ.out i (by have := HL.out; omega);simpa [List.getD, h1, h2] using this)
   have hjz : ¬ (j : Int) < (L : Int) := by omega
   go_wp2_with fail;go_ret;exact ⟨HF.out, HB.out⟩
open Go.RowKit
def cofF (F : BF) (v : Nat) (b : Bool) : BF := fun ρ => F fun u => if u = v then b else ρ u
theorem bit_low {u v x r : Nat} (hu : u < v) : bitB (2 ^ v * x + r) u = bitB r u := by
 obtain ⟨k, rfl⟩ : ∃ k, v = u + (k + 1) := ⟨v - u - 1, by omega⟩;unfold bitB;have e1 : (2 : Nat) ^ (u + (k + 1)) * x = 2 ^ u * (2 * (2 ^ k * x)) := by rw [Nat.pow_add, Nat.pow_succ]; ac_rfl
 rw [e1, Nat.mul_add_div (Nat.pow_pos (by omega)), Nat.mul_add_mod]
theorem bit_at {v q c r : Nat} (hr : r < 2 ^ v) (hc : c < 2) : bitB (2 ^ v * (2 * q + c) + r) v = decide (c = 1) := by
 unfold bitB;rw [Nat.mul_add_div (Nat.pow_pos (by omega)), Nat.div_eq_of_lt hr, Nat.add_zero, Nat.mul_add_mod, Nat.mod_eq_of_lt hc]
theorem bit_high {u v q c r : Nat} (hr : r < 2 ^ v) (hc : c < 2) (hu : v < u) : bitB (2 ^ v * (2 * q + c) + r) u = decide (q / 2 ^ (u - v - 1) % 2 = 1) := by
 obtain ⟨k, rfl⟩ : ∃ k, u = v + (k + 1) := ⟨u - v - 1, by omega⟩;unfold bitB;have e1 : (2 : Nat) ^ (v + (k + 1)) = 2 ^ v * (2 * 2 ^ k) := by rw [Nat.pow_add, Nat.pow_succ]; ac_rfl
 have e2 : v + (k + 1) - v - 1 = k := by omega
 rw [e1, e2, <- Nat.div_div_eq_div_mul, Nat.mul_add_div (Nat.pow_pos (by omega)), Nat.div_eq_of_lt hr, Nat.add_zero, <- Nat.div_div_eq_div_mul];have e3 : (2 * q + c) / 2 = q := by omega
 rw [e3]
def cofI (j v : Nat) (b : Bool) : Nat := if bitB j v && !b then j - 2 ^ v else if !bitB j v && b then j + 2 ^ v else j
theorem split_at (j v : Nat) : ∃ q c r, r < 2 ^ v /\ c < 2 /\ j = 2 ^ v * (2 * q + c) + r := by
 have h := Nat.div_add_mod j (2 ^ v);refine ⟨j / 2 ^ v / 2, j / 2 ^ v % 2, j % 2 ^ v, Nat.mod_lt _ (Nat.pow_pos (by omega)), by omega, ?_⟩;have e : 2 * (j / 2 ^ v / 2) + j / 2 ^ v % 2 = j / 2 ^ v := by omega
 rw [e];exact h.symm
theorem cofI_bits (j v : Nat) (b : Bool) : ∀ u, bitB (cofI j v b) u = if u = v then b else bitB j u := by
 obtain ⟨q, c, r, hr, hc, rfl⟩ := split_at j v;have hat := bit_at (q := q) hr hc;have key : ∃ c' : Nat, c' < 2 /\ decide (c' = 1) = b /\ cofI (2 ^ v * (2 * q + c) + r) v b = 2 ^ v * (2 * q + c') + r := by
  unfold cofI;rw [hat];have h2 : 2 ^ v * (2 * q + 1) = 2 ^ v * (2 * q + 0) + 2 ^ v := by simp [Nat.mul_add]
  rcases (by omega : c = 0 \/ c = 1) with rfl | rfl
  ·
   cases b with
   | false => exact ⟨0, by omega, rfl, by simp⟩
   | true => exact ⟨1, by omega, rfl, by simp only [Nat.zero_ne_one, decide_false, Bool.not_true, Bool.and_self, Bool.not_false, Bool.false_eq_true, if_false, if_true]; omega⟩
  ·
   cases b with
   | true => exact ⟨1, by omega, rfl, by simp⟩
   | false => exact ⟨0, by omega, rfl, by simp only [decide_true, Bool.not_false, Bool.and_self, if_true]; omega⟩
 obtain ⟨c', hc', hb, e⟩ := key;intro u;rw [e];rcases Nat.lt_trichotomy u v with h | rfl | h
 ·
  rw [if_neg (by omega), bit_low h, bit_low h]
 ·
  rw [if_pos rfl, bit_at hr hc', hb]
 ·
  rw [if_neg (by omega), bit_high hr hc' h, bit_high hr hc h]
theorem bits_lt {n i : Nat} (h : ∀ u, n <= u -> bitB i u = false) : i < 2 ^ n := by
 rcases Nat.lt_or_ge i (2 ^ n) with h' | h'
 ·
  exact h'
 ·
  exfalso;have hz : ∀ k, i / 2 ^ n ≠ 0 -> (∀ u, n <= u -> bitB i u = false) -> i / 2 ^ n < 2 ^ k -> False := by
   intro k
   induction k with
   | zero => intro h1 _ h2; simp at h2; omega
   | succ k ih =>
     intro h1 h2 h3;refine ih h1 h2 ?_;have hb := h2 (n + k) (by omega);unfold bitB at hb;rw [decide_eq_false_iff_not] at hb;have e : i / 2 ^ (n + k) = i / 2 ^ n / 2 ^ k := by rw [Nat.pow_add, Nat.div_div_eq_div_mul]
     rw [e] at hb;have h4 : i / 2 ^ n / 2 ^ k < 2 := by
      rw [Nat.div_lt_iff_lt_mul (Nat.pow_pos (by omega))];rw [Nat.pow_succ, Nat.mul_comm] at h3;exact h3
     have h5 : i / 2 ^ n / 2 ^ k = 0 := by
      generalize i / 2 ^ n / 2 ^ k = X at hb h4
      omega
     exact (Nat.div_eq_zero_iff_lt (Nat.pow_pos (by omega))).1 h5
  have h0 : i / 2 ^ n ≠ 0 := by
   intro e;have := (Nat.div_eq_zero_iff_lt (Nat.pow_pos (by omega))).1 e;omega
  exact hz (i / 2 ^ n) h0 h (Nat.lt_two_pow_self)
theorem cofI_lt {n j v : Nat} {b : Bool} (hj : j < 2 ^ n) (hv : v < n) : cofI j v b < 2 ^ n := by
 refine bits_lt fun u hu => ?_
 rw [cofI_bits, if_neg (by omega)];unfold bitB;rw [decide_eq_false_iff_not, Nat.div_eq_of_lt (Nat.lt_of_lt_of_le hj (Nat.pow_le_pow_right (by omega) hu))];omega
theorem cof_tab {n : Nat} {F : BF} {j v : Nat} {b : Bool} (hj : j < 2 ^ n) (hv : v < n) : (tabB n F).getD (cofI j v b) false = cofF F v b (envOf (bitsL j n)) := by
 rw [tabB_get (cofI_lt hj hv)];unfold cofF;congr 1;funext u;rw [envOf_bits, cofI_bits, envOf_bits]
 by_cases e : u = v
 ·
  subst e; simp [hv]
 ·
  rw [if_neg e, if_neg e]
open Go.RowKit
theorem refCof_tab (n : Nat) (F : BF) (v : Nat) (b : Bool) (hn : n <= 16) (hv : v < n) (au : Option Addr) (cu : Nat) (w : World) (h1 : BoolsAt w au (tabB n F)) :
 Calls Tryz.prog 43 #[.slice au (2 ^ n) cu, .int .i64 v, .bool b] w fun x w' => ∃ g, x = .returned (.slice (some ⟨g, 0, none⟩) (2 ^ n) (2 ^ n)) /\ BoolsIs w' (.slice (some ⟨g, 0, none⟩) (2 ^ n) (2 ^ n)) (tabB n (cofF F v b)) /\ Below w.heap.size w w' := by
 have H1 := Lib.hid h1;have hL6 : 2 ^ n <= 1000000 := tab_small hn;have hp6 : 2 ^ v <= 1000000 := tab_small (by omega);have HTR : Hid (∀ i, i <= 1048576 -> ∀ W, Calls Tryz.prog 79 #[.int .i64 (i : Nat), .int .i64 (v : Nat)] W fun x w' => x = .returned (.bool (bitB i v)) /\ W = w') := Lib.hid fun i hi W => truth_any i v hi (by omega) W
 obtain ⟨G, hG⟩ : ∃ G : Nat -> Bool, G = fun i => cofF F v b (envOf (bitsL i n)) := ⟨_, rfl⟩
 have HT : Hid (tabB n (cofF F v b) = (List.range (2 ^ n)).map G) := Lib.hid (by rw [hG]; rfl);have HCT : Hid (∀ j, j < 2 ^ n -> cofI j v b < 2 ^ n /\ (tabB n F).getD (cofI j v b) false = G j) := Lib.hid fun j hj => ⟨cofI_lt hj hv, by rw [hG]; exact cof_tab hj hv⟩
 have HLT : Hid ((tabB n F).length = 2 ^ n) := Lib.hid (tabB_length n F);rw [HT.out];obtain ⟨L, hL⟩ : ∃ L, L = 2 ^ n := ⟨_, rfl⟩;obtain ⟨p, hp⟩ : ∃ p, p = 2 ^ v := ⟨_, rfl⟩;have HBT : Hid (∀ W, Calls Tryz.prog 98 #[.int .i64 (v : Nat)] W fun x w' => x = .returned (.int .i64 (p : Nat)) /\ W = w') := Lib.hid fun W => by rw [hp]; exact bit_any v (by omega) W
 have HCI : Hid (∀ j, cofI j v b = if bitB j v && !b then j - p else if !bitB j v && b then j + p else j) := Lib.hid fun j => by rw [hp]; rfl
 have HPJ : Hid (∀ j, bitB j v = true -> p <= j) := Lib.hid fun j hj => by
  rcases Nat.lt_or_ge j p with h | h
  ·
   unfold bitB at hj;rw [<- hp, Nat.div_eq_of_lt h] at hj;simp at hj
  ·
   exact h
 rw [<- hL] at hL6 HCT HLT ⊢;rw [<- hp] at hp6;clear hL hp h1 hG HT
 go_enter Tryz.func43, Tryz.ntmps43
 go_wp2_with (at_make; refine wpList_makeC elemBool rfl _ _ rfl w.heap.size w _ L rfl rfl rfl (by omega) (Nat.le_refl _) (Below.refl _ _) ?_; intro g w1 hown1 hb1 hs1 hk1 hg1 hgx; clear hgx)
 go_loopw [8, 9] (fun s8 s9 wr => ∃ j : Nat, j <= L /\ s8 = .int .i64 j /\ Hid (OwnB wr w.heap.size (.slice (some ⟨g, 0, none⟩) L L) (((List.range L).map G).take j ++ (List.replicate L false).drop j)) /\ Hid (Below w.heap.size w wr)) (fun s8 _ _ => L - (intOf s8).toNat)
 case atStart => exact ⟨0, by omega, rfl, Lib.hid (by unfold OwnB; simpa [boolsV] using hown1), Lib.hid hb1⟩
 case round =>
  clear hown1 hb1;obtain ⟨j, hj, rfl, HOWN, HBEL⟩ := hrel
  by_cases hlt : j < L
  ·
   have hjl : j < ((List.range L).map G).length := by simp; exact hlt
   obtain ⟨hkl, hkv⟩ := HCT.out j hlt;have hci := HCI.out j;have hpj := HPJ.out j;obtain ⟨kk, hkk⟩ : ∃ kk, kk = cofI j v b := ⟨_, rfl⟩;rw [<- hkk] at hkl hkv hci;obtain ⟨b1, of1, e1, c1⟩ := (H1.out.below HBEL.out).cells kk (by rw [HLT.out]; exact hkl);rw [hkv] at c1;have q0 := HOWN.out.cellB j (by simp; omega);have p0 := HOWN.out.frozen j;subst e1;obtain ⟨y, hy⟩ : ∃ y, y = G j := ⟨_, rfl⟩;rw [<- hy] at c1;have HST : Hid (((List.range L).map G)[j] = y) := Lib.hid (by rw [hy]; simp);obtain ⟨t, ht⟩ : ∃ t, t = bitB j v := ⟨_, rfl⟩;rw [<- ht] at hci hpj;have HTJ : Hid (∀ W, Calls Tryz.prog 79 #[.int .i64 (j : Nat), .int .i64 (v : Nat)] W fun x w' => x = .returned (.bool t) /\ W = w') := Lib.hid fun W => by rw [ht]; exact HTR.out j (by omega) W
   have hkz : (kk : Int) < (L : Int) := by omega
   have HNX : Hid (OwnB (wr.setCell ⟨g, j, none⟩ (.bool y)) w.heap.size (.slice (some ⟨g, 0, none⟩) L L) (((List.range L).map G).take (j + 1) ++ (List.replicate L false).drop (j + 1))) := Lib.hid (by
    rw [<- list_take_set (by simp; omega) hjl HST.out];exact HOWN.out.setB j y)
   have HBN : Hid (Below w.heap.size w (wr.setCell ⟨g, j, none⟩ (.bool y))) := Lib.hid (HBEL.out.setCell hg1 _);clear hkv hy ht hkk HOWN H1;cases t <;> cases b
   ·
    have hk1 : kk = j := by simpa using hci
    subst hk1;clear hci hpj;go_wp2_with fail;refine (HTJ.out _).mono ?_;rintro x w2 ⟨rfl, rfl⟩;go_wp2_with fail;refine (HTJ.out _).mono ?_;rintro x w2 ⟨rfl, rfl⟩;go_wp2_with fail;go_roundw
    case rel => exact ⟨kk + 1, by omega, by go_num, HNX, HBN⟩
    case measure => simp [intOf]; omega
   ·
    have hk1 : kk = j + p := by simpa using hci
    have hk2 : (j : Int) + (p : Int) = (kk : Nat) := by omega
    clear hci hpj hk1;go_wp2_with fail;refine (HTJ.out _).mono ?_;rintro x w2 ⟨rfl, rfl⟩;go_wp2_with fail;refine (HTJ.out _).mono ?_;rintro x w2 ⟨rfl, rfl⟩;go_wp2_with fail;refine (HBT.out _).mono ?_;rintro x w2 ⟨rfl, rfl⟩;go_wp2_with fail;go_roundw
    case rel => exact ⟨j + 1, by omega, by go_num, HNX, HBN⟩
    case measure => simp [intOf]; omega
   ·
    have hk1 : kk = j - p := by simpa using hci
    have := hpj rfl;have hk2 : (j : Int) - (p : Int) = (kk : Nat) := by omega
    clear hci hpj hk1;go_wp2_with fail;refine (HTJ.out _).mono ?_;rintro x w2 ⟨rfl, rfl⟩;go_wp2_with fail;refine (HBT.out _).mono ?_;rintro x w2 ⟨rfl, rfl⟩;go_wp2_with fail;refine (HTJ.out _).mono ?_;rintro x w2 ⟨rfl, rfl⟩;go_wp2_with fail;go_roundw
    case rel => exact ⟨j + 1, by omega, by go_num, HNX, HBN⟩
    case measure => simp [intOf]; omega
   ·
    have hk1 : kk = j := by simpa using hci
    subst hk1;clear hci hpj;go_wp2_with fail;refine (HTJ.out _).mono ?_;rintro x w2 ⟨rfl, rfl⟩;go_wp2_with fail;refine (HTJ.out _).mono ?_;rintro x w2 ⟨rfl, rfl⟩;go_wp2_with fail;go_roundw
    case rel => exact ⟨kk + 1, by omega, by go_num, HNX, HBN⟩
    case measure => simp [intOf]; omega
  ·
   obtain rfl : j = L := by omega
   have hl2 : ((List.range j).map G).length = j := by simp
   have HF : Hid (BoolsIs wr (.slice (some ⟨g, 0, none⟩) j j) ((List.range j).map G)) := Lib.hid (by
    have h := HOWN.out;rw [List.take_of_length_le (by omega), List.drop_of_length_le (by simp), List.append_nil] at h;exact OwnC.boolsIs h (by simp; exact hL6))
   go_wp2_with fail;go_ret;exact ⟨g, rfl, HF.out, HBEL.out⟩
def hangsB (n : Nat) (F : BF) (v : Nat) : Bool := !decide (tabB n (cofF F v false) = tabB n (cofF F v true))
theorem refHangs_tab (n : Nat) (F : BF) (v : Nat) (hn : n <= 16) (hv : v < n) (au : Option Addr) (cu : Nat) (w : World) (h1 : BoolsAt w au (tabB n F)) :
 Calls Tryz.prog 96 #[.slice au (2 ^ n) cu, .int .i64 v] w fun x w' => x = .returned (.bool (hangsB n F v)) /\ Below w.heap.size w w' := by
 have HC : Hid (∀ b W, Below w.heap.size w W -> Calls Tryz.prog 43 #[.slice au (2 ^ n) cu, .int .i64 (v : Nat), .bool b] W fun x w' => ∃ g, x = .returned (.slice (some ⟨g, 0, none⟩) (2 ^ n) (2 ^ n)) /\ BoolsIs w' (.slice (some ⟨g, 0, none⟩) (2 ^ n) (2 ^ n)) (tabB n (cofF F v b)) /\ Below W.heap.size W w') :=
  Lib.hid fun b W hb => refCof_tab n F v b hn hv au cu W (h1.below hb)
 have HSA : Hid (∀ (a1 a2 : Nat) W, BoolsIs W (.slice (some ⟨a1, 0, none⟩) (2 ^ n) (2 ^ n)) (tabB n (cofF F v false)) -> BoolsIs W (.slice (some ⟨a2, 0, none⟩) (2 ^ n) (2 ^ n)) (tabB n (cofF F v true)) -> Calls Tryz.prog 57 #[.slice (some ⟨a1, 0, none⟩) (2 ^ n) (2 ^ n), .slice (some ⟨a2, 0, none⟩) (2 ^ n) (2 ^ n)] W fun x w' => x = .returned (.bool (decide (tabB n (cofF F v false) = tabB n (cofF F v true)))) /\ Below W.heap.size W w') := Lib.hid fun a1 a2 W q1 q2 => by
  obtain ⟨b1, d1, e1, k1, _⟩ := q1;obtain ⟨b2, d2, e2, k2, _⟩ := q2;injection e1 with e1
  injection e2 with e2
  subst e1 e2;have := refSame13_any (tabB n (cofF F v false)) (tabB n (cofF F v true)) (by simp [tabB_length]) _ _ (2 ^ n) (2 ^ n) W k1 k2;rw [tabB_length] at this;exact this
 unfold hangsB;obtain ⟨L, hL⟩ : ∃ L, L = 2 ^ n := ⟨_, rfl⟩;rw [<- hL] at HC HSA ⊢;obtain ⟨d, hd⟩ : ∃ d, d = decide (tabB n (cofF F v false) = tabB n (cofF F v true)) := ⟨_, rfl⟩;rw [<- hd] at HSA ⊢;clear h1 hL hd
 go_enter Tryz.func96, Tryz.ntmps96
 go_wp2_with fail;refine (HC.out false w (Below.refl _ _)).mono ?_;rintro x w1 ⟨g1, rfl, k1, hb1⟩;have K1 := Lib.hid k1;have HB1 := Lib.hid hb1;clear k1 hb1;go_wp2_with fail;refine (HC.out true w1 HB1.out).mono ?_;rintro x w2 ⟨g2, rfl, k2, hb2⟩;have HS := Lib.hid (HSA.out g1 g2 w2 (K1.out.below hb2) k2);have HB2 := Lib.hid (HB1.out.trans (hb2.mono HB1.out.size));clear k2 hb2 K1;go_wp2_with fail;refine HS.out.mono ?_;rintro x w3 ⟨rfl, hb3⟩;have HB3 := Lib.hid (HB2.out.trans (hb3.mono HB2.out.size));clear hb3 HS;go_wp2_with fail;go_ret;exact ⟨rfl, HB3.out⟩
def topR (n : Nat) (F : BF) : List Nat -> Int
 | [] => -1
 | v :: l => if hangsB n F v then (v : Nat) else topR n F l
theorem refTop_tab (n : Nat) (F : BF) (l : List Nat) (hl : l.length <= 64) (hlt : ∀ v ∈ l, v < n) (hn : n <= 16) (au al : Option Addr) (cu cl : Nat) (w : World) (h1 : BoolsAt w au (tabB n F)) (h2 : IntsAt w al (l.map Int.ofNat)) :
 Calls Tryz.prog 41 #[.slice au (2 ^ n) cu, .slice al l.length cl] w fun x w' => x = .returned (.int .i64 (topR n F l)) /\ Below w.heap.size w w' := by
 have HH : Hid (∀ v W, v < n -> Below w.heap.size w W -> Calls Tryz.prog 96 #[.slice au (2 ^ n) cu, .int .i64 (v : Nat)] W fun x w' => x = .returned (.bool (hangsB n F v)) /\ Below W.heap.size W w') := Lib.hid fun v W hv hb => refHangs_tab n F v hn hv au cu W (h1.below hb)
 have H2 := Lib.hid h2;have HLT := Lib.hid hlt;obtain ⟨N, hN⟩ : ∃ N, N = topR n F l := ⟨_, rfl⟩;have HN : Hid (topR n F (l.drop 0) = N) := Lib.hid hN.symm;rw [<- hN];obtain ⟨L, hL⟩ : ∃ L, L = 2 ^ n := ⟨_, rfl⟩;rw [<- hL] at HH ⊢;clear h1 h2 hlt hN hL
 go_enter Tryz.func41, Tryz.ntmps41
 go_wp2_with fail
 go_loopw [4, 5] (fun s4 s5 wr => ∃ i : Nat, i <= l.length /\ s5 = .int .i64 i /\ Hid (Below w.heap.size w wr) /\ Hid (topR n F (l.drop i) = N)) (fun _ s5 _ => l.length - (intOf s5).toNat)
 case atStart => exact ⟨0, Nat.zero_le _, rfl, Lib.hid (Below.refl _ _), HN⟩
 case round =>
  obtain ⟨i, hi, rfl, HB, HNI⟩ := hrel
  by_cases hlt : i < l.length
  ·
   have hiz : (i : Int) < (l.length : Int) := by omega
   obtain ⟨b, off, rfl, c0⟩ := (H2.out.below HB.out).cells i (by simpa using hlt);rw [at0_nat hlt] at c0;have HV : Hid (l.drop i = l.getD i 0 :: l.drop (i + 1)) := Lib.hid (by rw [List.drop_eq_getElem_cons hlt]; simp [List.getD, hlt]);have hvn : l.getD i 0 < n := HLT.out _ (by simp [List.getD, hlt]);obtain ⟨v, hv⟩ : ∃ v, v = l.getD i 0 := ⟨_, rfl⟩;rw [<- hv] at c0 HV hvn;have HC := Lib.hid (HH.out v wr hvn HB.out);obtain ⟨t, ht⟩ : ∃ t, t = hangsB n F v := ⟨_, rfl⟩;rw [<- ht] at HC;have HTT : Hid (N = if t then (v : Int) else topR n F (l.drop (i + 1))) := Lib.hid (by rw [<- HNI.out, HV.out, ht]; rfl);clear hv ht;cases t with
   | true =>
     go_wp2_with fail;refine HC.out.mono ?_;rintro x w2 ⟨rfl, hb2⟩;have c1 := (hb2.cell (p := ⟨b, off + i, none⟩) (lt_of_cell c0)).trans c0;have HB2 := Lib.hid (HB.out.trans (hb2.mono HB.out.size));have HF : Hid (Ending.returned (.int .i64 (v : Nat)) = .returned (.int .i64 N)) := Lib.hid (by rw [HTT.out]; rfl);clear hb2 c0 HC HTT;go_wp2_with fail;go_ret;exact ⟨HF.out, HB2.out⟩
   | false =>
     go_wp2_with fail;refine HC.out.mono ?_;rintro x w2 ⟨rfl, hb2⟩;have HB2 := Lib.hid (HB.out.trans (hb2.mono HB.out.size));have HN2 : Hid (topR n F (l.drop (i + 1)) = N) := Lib.hid (by rw [HTT.out]; rfl);clear hb2 c0 HC HTT;go_wp2_with fail;go_roundw
     case rel => exact ⟨i + 1, by omega, by go_num, HB2, HN2⟩
     case measure => simp [intOf]; omega
  ·
   have hiz : ¬ (i : Int) < (l.length : Int) := by omega
   have HF : Hid (Ending.returned (.int .i64 (-1)) = .returned (.int .i64 N)) := Lib.hid (by
    rw [<- HNI.out, List.drop_eq_nil_of_le (by omega)]; rfl)
   go_wp2_with fail;go_ret;exact ⟨HF.out, HB.out⟩
open Go.RowKit
theorem topR_none {n : Nat} {F : BF} : ∀ {l : List Nat}, (∀ v ∈ l, hangsB n F v = false) -> topR n F l = -1
 | [], _ => rfl
 | v :: l, h => by
   show (if hangsB n F v then ((v : Nat) : Int) else topR n F l) = -1
   rw [h v (List.mem_cons_self ..)];exact topR_none fun u hu => h u (List.mem_cons_of_mem _ hu)
theorem topR_at {n : Nat} {F : BF} : ∀ (l : List Nat) (k : Nat), k < l.length -> hangsB n F (l.getD k 0) = true -> (∀ j, j < k -> hangsB n F (l.getD j 0) = false) -> topR n F l = (l.getD k 0 : Nat)
 | [], k, hk, _, _ => by simp at hk
 | v :: l, 0, _, h, _ => by
   show (if hangsB n F v then ((v : Nat) : Int) else topR n F l) = (v : Nat)
   have h' : hangsB n F v = true := h;rw [h', if_pos rfl]
 | v :: l, k + 1, hk, h, hj => by
   show (if hangsB n F v then ((v : Nat) : Int) else topR n F l) = _
   have h0 : hangsB n F v = false := hj 0 (by omega);rw [h0];have := topR_at l k (by simpa using hk) (by simpa using h) (fun j hjk => by simpa using hj (j + 1) (by omega));simpa using this
section
variable {d : StoreD} {V : Nat -> BF}
theorem StoreOK.dep (h : StoreOK d V) {f : Nat} (hf : okE (nodesOf d) f) : DepF d.vars.length (ef V f) := fun ρ ρ' hr => h.dag.indep _ f (Nat.le_refl _) hf ρ ρ' fun v hv _ => hr v hv
theorem cofF_dep {n : Nat} {F : BF} (h : DepF n F) (v : Nat) (b : Bool) : DepF n (cofF F v b) := fun ρ ρ' hr => h _ _ fun u hu => by
 show (if u = v then b else ρ u) = if u = v then b else ρ' u
 rw [hr u hu]
theorem cofF_upd (F : BF) (v : Nat) (b : Bool) (ρ : Nat -> Bool) : cofF F v b ρ = F (upd ρ v b) := rfl
theorem hangs_iff {n : Nat} {F : BF} (h : DepF n F) (v : Nat) : hangsB n F v = true ↔ cofF F v false ≠ cofF F v true := by
 unfold hangsB;rw [Bool.not_eq_true', decide_eq_false_iff_not];exact ⟨fun h1 e => h1 (by rw [e]), fun h1 e => h1 (tab_inj (cofF_dep h v _) (cofF_dep h v _) e)⟩
theorem hangs_no (h : StoreOK d V) {f v : Nat} (hf : okE (nodesOf d) f) (hl : levN d v < lvE d.vars.length (levN d) (nodesOf d) f) : hangsB d.vars.length (ef V f) v = false := by
 rw [<- Bool.not_eq_true, hangs_iff (h.dep hf)];intro hne;refine hne ?_;funext ρ;rw [cofF_upd, cofF_upd, h.dag.indep_var hf hl, h.dag.indep_var hf hl]
theorem top_const (h : StoreOK d V) {f : Nat} (hf : okE (nodesOf d) f) (hn : nodesOf d (f / 2) = none) : topR d.vars.length (ef V f) d.vars = -1 := by
 refine topR_none fun v hv => hangs_no h hf ?_
 obtain ⟨i, hi, e⟩ := List.getElem_of_mem hv;have hvi : d.vars.getD i 0 = v := by simp [List.getD, hi, e]
 have h1 := h.vlt i hi;rw [hvi] at h1;have h2 := h.dag.lt v h1.1;have h3 : lvE d.vars.length (levN d) (nodesOf d) f = d.vars.length := by unfold lvE; rw [hn]
 omega
theorem ef_split (V : Nat -> BF) (f : Nat) (ρ : Nat -> Bool) : ef V f ρ = (if f % 2 = 0 then V (f / 2) ρ else !V (f / 2) ρ) := by
 unfold ef;split <;> simp_all
theorem top_node (h : StoreOK d V) {f : Nat} {b : BN} (hb : nodesOf d (f / 2) = some b) : topR d.vars.length (ef V f) d.vars = (b.v : Nat) /\ b.v < d.vars.length := by
 have hf : okE (nodesOf d) f := .inr ⟨b, hb⟩;have hbv := h.dag.var _ _ hb;have hlv := h.dag.lt _ hbv;have hlf : lvE d.vars.length (levN d) (nodesOf d) f = levN d b.v := by unfold lvE; rw [hb]
 refine ⟨?_, hbv⟩;have hinv := h.inv b.v hbv;rw [topR_at d.vars (levN d b.v) hlv ?_ ?_, hinv]
 ·
  rw [hinv, hangs_iff (h.dep hf)];intro he;have hc : ef V b.hi = ef V b.lo := by
   funext ρ;have h1 := h.dag.cofs hb ρ;have h2 : ef V f (upd ρ b.v false) = ef V f (upd ρ b.v true) := congrFun he ρ;rw [ef_split, ef_split, h1.1, h1.2] at h2;split at h2
   ·
    exact h2.symm
   ·
    have := congrArg not h2; simpa using this.symm
  have := h.dag.canon (h.dag.okHi _ _ hb) (h.dag.okLo _ _ hb) hc;exact h.dag.ne _ _ hb this.symm
 ·
  intro j hj;have h1 := h.vlt j (by omega);exact hangs_no h hf (by rw [hlf, h1.2]; exact hj)
end
open Go.RowKit
section
variable {d : StoreD} {V : Nat -> BF}
theorem cofs_fn (h : StoreOK d V) {f : Nat} {b : BN} (hb : nodesOf d (f / 2) = some b) : (okE (nodesOf d) (cofs d f b.v).1 /\ ef V (cofs d f b.v).1 = cofF (ef V f) b.v false) /\ okE (nodesOf d) (cofs d f b.v).2 /\ ef V (cofs d f b.v).2 = cofF (ef V f) b.v true := by
 have hf : okE (nodesOf d) f := .inr ⟨b, hb⟩;have hbv := h.dag.var _ _ hb;obtain ⟨h1, h2, h3, h4, h5⟩ := cofs_ok h hf hbv (by unfold lvE; rw [hb]; exact Nat.le_refl _);refine ⟨⟨h1, ?_⟩, h2, ?_⟩
 ·
  funext ρ;rw [cofF_upd, h5, upd_same, h.dag.indep_var h1 h3];rfl
 ·
  funext ρ;rw [cofF_upd, h5, upd_same, h.dag.indep_var h2 h4];rfl
theorem topS_one {f : Nat} {top least : Int} (h : TopS d [f] top least) : (top = -1 /\ nodesOf d (f / 2) = none) \/ ∃ b, nodesOf d (f / 2) = some b /\ top = (b.v : Nat) := by
 rcases h with ⟨h1, _, h3⟩ | ⟨v, h1, _, _, ⟨e, he, b, hb, hv⟩, _⟩
 ·
  exact .inl ⟨h1, h3 f (by simp)⟩
 ·
  simp only [List.mem_singleton] at he;subst he;exact .inr ⟨b, hb, by rw [h1, hv]⟩
end
abbrev AtS (ws0 : List Ev) (l0 : List Nat) (m : ManD) : Prop := m.waits = ws0 /\ m.d.vars = l0
structure TopQ (n : Nat) (tb lb : Nat) (F : BF) (ws0 : List Ev) (l0 : List Nat) (W : World) (m' : ManD) (V' : Nat -> BF) (r : Nat) : Prop where
 ex : ∃ tv : Int, W.heap[tb]? = some (.cells #[.int .i64 tv] 3 (0, 0)) /\ W.heap[lb]? = some (.cells #[.int .i64 (levelZ m'.d tv)] 3 (0, 0)) /\ tv = topR n F m'.d.vars /\ (tv < 0 -> ef V' r = F) /\ (0 <= tv -> ef V' r = cofF F tv.toNat false)
 waits : m'.waits = ws0
 vars : m'.d.vars = l0
structure BT (hb tb lb : Nat) (kh : Int) (W : World) : Prop where
 h : W.cell? ⟨hb, 0, none⟩ = some (.int .i64 kh)
 t : ∃ z : Int, W.heap[tb]? = some (.cells #[.int .i64 z] 3 (0, 0))
 l : ∃ z : Int, W.heap[lb]? = some (.cells #[.int .i64 z] 3 (0, 0))
theorem BT.keep {hb tb lb : Nat} {kh : Int} (W W' : World) (h : BT hb tb lb kh W) (hk : ∀ c, C3 hb tb lb c -> W'.heap[c]? = W.heap[c]?) : BT hb tb lb kh W' := by
 obtain ⟨z1, h1⟩ := h.t;obtain ⟨z2, h2⟩ := h.l;exact ⟨(World.cell?_of_block (w := W) (a := ⟨hb, 0, none⟩) (hk _ (.inl rfl))).trans h.h, ⟨z1, (hk _ (.inr (.inl rfl))).trans h1⟩, ⟨z2, (hk _ (.inr (.inr rfl))).trans h2⟩⟩
theorem ints_one (W : World) (f : Nat) : IntsAt (W.alloc (.cells #[.int .i64 (f : Nat)] 52)) (some ⟨W.heap.size, 0, none⟩) [(f : Int)] :=
 ⟨by simp, fun k hk => ⟨W.heap.size, 0, rfl, by
  have hk0 : k = 0 := by simpa using hk
  subst hk0;rw [cell_of_row _ _ 0 _ _ _ (heap_alloc_new _ _)];rfl⟩⟩
theorem tops1_gen {K : Law} {n : Nat} {Od : List Nat -> Prop} {room : Nat} {w0 : World} {mb : Nat} {fs : List (Int × BF)} {nx : Int} (ws0 : List Ev) (l0 : List Nat) (hb tb lb : Nat) (hne : hb ≠ tb /\ hb ≠ lb /\ tb ≠ lb) {kh : Int} {F : BF} (hF : (kh, F) ∈ fs) :
 OpG K n Od room w0 mb fs nx (C3 hb tb lb) (BT hb tb lb kh) (AtS ws0 l0) 32 #[.pointer (some ⟨hb, 0, none⟩), .pointer (some ⟨tb, 0, none⟩), .pointer (some ⟨lb, 0, none⟩)] (TopQ n tb lb F ws0 l0) (fun _ _ _ => False) := by
 intro o W m V xb hsat hB hC hst hcx hnx;obtain ⟨n1, n2, n3⟩ := hne;obtain ⟨f, hf, ef1⟩ := hsat.find hF;have hok := hsat.ok;have hks := hok.store;have hvn := hsat.vars;have hfe := hok.handles.ok _ hf;obtain ⟨z1, ht⟩ := hB.t;obtain ⟨z2, hl⟩ := hB.l;have dh := hB.h;have hlh := (hC hb (.inl rfl)).1;have hlt := (hC tb (.inr (.inl rfl))).1;have hll := (hC lb (.inr (.inr rfl))).1;have hxl := World.block_lt_of_cell? W _ hcx.cell;have hox := hcx.own;have HW : Hid (∀ W', Wr (fun k => k = tb \/ k = lb) W W' -> ManAt (K m.d V) o W' mb m /\ OwnLt o W' /\ CtxAt o W' xb mb /\ W'.cell? ⟨hb, 0, none⟩ = some (.int .i64 kh)) := Lib.hid fun W' hw => by
  obtain ⟨s, hm⟩ := hsat.is;have hno : ∀ k, (k = tb \/ k = lb) -> o k = none := fun k hk => (hC k (by rcases hk with rfl | rfl; (· exact .inr (.inl rfl)); (· exact .inr (.inr rfl)))).2
  refine ⟨⟨s, hm.keep (fun g r hg => hw.keep g (hsat.lt g r hg) (fun e => by rw [hno g e] at hg; cases hg)) (fun _ _ h => h)⟩, hsat.lt.mono hw.size, ⟨?_, hox⟩, ?_⟩
  ·
   exact (World.cell?_of_block (w := W) (a := ⟨xb, 0, none⟩) (hw.keep xb hxl (fun e => hnx (by rcases e with rfl | rfl; (· exact .inr (.inl rfl)); (· exact .inr (.inr rfl)))))).trans hcx.cell
  ·
   exact (World.cell?_of_block (w := W) (a := ⟨hb, 0, none⟩) (hw.keep hb hlh (fun e => by rcases e with e | e; (· exact n1 e); (· exact n2 e)))).trans dh
 have HE : Hid (∀ W', Wr (fun k => k = tb \/ k = lb) W W' -> Calls Tryz.prog 34 #[.pointer (some ⟨xb, 0, none⟩), .int .i64 kh] W' fun x w' => x = .returned (.int .i64 (f : Nat)) /\ W' = w') := Lib.hid fun W' hw => by
  obtain ⟨q1, q2, q3, _⟩ := HW.out W' hw;exact ctxEdge_yes q1 q3 hok.handles.nodup hf
 have HTP : Hid (∀ W' a, Wr (fun k => k = tb \/ k = lb) W W' -> IntsAt W' a [(f : Int)] -> Calls Tryz.prog 33 #[.pointer (some ⟨xb, 0, none⟩), .slice a 1 1] W' fun x w' => ∃ top : Int, x = .returned (.int .i64 top) /\ ((top = -1 /\ nodesOf m.d (f / 2) = none) \/ ∃ b, nodesOf m.d (f / 2) = some b /\ top = (b.v : Nat)) /\ Below W'.heap.size W' w') := Lib.hid fun W' a hw hz => by
  obtain ⟨q1, q2, q3, _⟩ := HW.out W' hw;refine (ctxTop_any q1 q2 q3 hks [f] (by simpa using hfe) a 1 hz).mono ?_;rintro x w' ⟨top, least, rfl, h1, h2⟩;exact ⟨top, rfl, topS_one h1, h2⟩
 have HLV : Hid (∀ W' v, Wr (fun k => k = tb \/ k = lb) W W' -> Calls Tryz.prog 35 #[.pointer (some ⟨xb, 0, none⟩), .int .i64 v] W' fun x w' => x = .returned (.int .i64 (levelZ m.d v)) /\ W' = w') := Lib.hid fun W' v hw => by
  obtain ⟨q1, q2, q3, _⟩ := HW.out W' hw;exact ctxLevel_any q1 q3 hks v
 have HSP : Hid (∀ W' v, Wr (fun k => k = tb \/ k = lb) W W' -> Calls Tryz.prog 36 #[.pointer (some ⟨xb, 0, none⟩), .int .i64 (f : Nat), .int .i64 v] W' fun x w' => x = .returned (.tuple #[.int .i64 (cofs m.d f v).1, .int .i64 (cofs m.d f v).2]) /\ Below W'.heap.size W' w') := Lib.hid fun W' v hw => by
  obtain ⟨q1, q2, q3, _⟩ := HW.out W' hw;exact ctxSplit_any q1 q2 q3 hks f hfe v
 obtain ⟨P, hP⟩ : ∃ P : Ending -> World -> Prop, P = fun e w' => ∃ (o' : Own) (m' : ManD) (V' : Nat -> BF), StepX (C3 hb tb lb) K o W mb m V o' w' m' V' /\ BT hb tb lb kh w' /\
  ((∃ r : Nat, e = .returned (.int .i64 r) /\ okE (nodesOf m'.d) r /\ TopQ n tb lb F ws0 l0 w' m' V' r) \/
   (∃ er : Int, e = stopP er false ev0 /\ er ≠ 0 /\ m'.waits = m.waits /\ AtS ws0 l0 m' /\ False) \/
   (∃ ev, e = stopP 0 true ev /\ m.waits = ev :: m'.waits /\ StE K n Od room w0 mb fs nx (AtS ws0 l0) m' /\ HapG K n Od room w0 mb fs nx ev)) := ⟨_, rfl⟩
 have HFIN : Hid (∀ (W' : World) (tv : Int) (r : Nat), Wr (fun k => k = tb \/ k = lb) W W' -> W'.heap[tb]? = some (.cells #[.int .i64 tv] 3 (0, 0)) -> W'.heap[lb]? = some (.cells #[.int .i64 (levelZ m.d tv)] 3 (0, 0)) ->
  ((tv = -1 /\ nodesOf m.d (f / 2) = none /\ r = f) \/ ∃ b, nodesOf m.d (f / 2) = some b /\ tv = (b.v : Nat) /\ r = (cofs m.d f tv).1) -> P (.returned (.int .i64 (r : Nat))) W') := Lib.hid (by
  subst hP;intro W' tv r hw h1 h2 h3;obtain ⟨q1, q2, q3, q4⟩ := HW.out W' hw;have hstep : StepX (C3 hb tb lb) K o W mb m V o W' m V := ⟨q1, q2, ChgX.of_wr hw o (fun k _ hk => .inr hk), hks, Ext.refl _ _, rfl, rfl⟩;rcases h3 with ⟨e1, e2, e3⟩ | ⟨b, e1, e2, e3⟩
  ·
   subst e3;refine ⟨o, m, V, hstep, ⟨q4, ⟨_, h1⟩, ⟨_, h2⟩⟩, .inl ⟨r, rfl, hfe, ⟨⟨tv, h1, h2, ?_, fun _ => ef1, fun h => by omega⟩, hst.1, hst.2⟩⟩⟩;rw [e1, <- ef1, <- hvn];exact (top_const hks hfe e2).symm
  ·
   have hc := cofs_fn hks e1;subst e2;subst e3;refine ⟨o, m, V, hstep, ⟨q4, ⟨_, h1⟩, ⟨_, h2⟩⟩, .inl ⟨_, rfl, hc.1.1, ⟨⟨_, h1, h2, ?_, fun h => by omega, fun _ => ?_⟩, hst.1, hst.2⟩⟩⟩
   ·
    rw [<- ef1, <- hvn];exact (top_node hks e1).1.symm
   ·
    rw [hc.1.2, ef1];rfl)
 rw [<- hP];clear hP hsat hB hC hst hcx hnx hf ef1 hok hks hfe hvn hox hF
 go_enter Tryz.func32, Tryz.ntmps32
 go_wp2_with fail;refine (HE.out W (Wr.refl _ _)).mono ?_;rintro x w' ⟨rfl, rfl⟩;obtain ⟨W1, hW1⟩ : ∃ W1, W1 = W.alloc (.cells #[.int .i64 (f : Nat)] 52) := ⟨_, rfl⟩;have HW1 : Hid (_ = W1) := Lib.hid hW1.symm;have hwr1 : Wr (fun k => k = tb \/ k = lb) W W1 := by rw [hW1]; exact (Wr.refl _ _).alloc _
 have hz1 : IntsAt W1 (some ⟨W.heap.size, 0, none⟩) [(f : Int)] := by rw [hW1]; exact ints_one W f
 have HT1 := Lib.hid (HTP.out W1 _ hwr1 hz1);have HWR1 := Lib.hid hwr1;have ht1 : W1.heap[tb]? = some (.cells #[.int .i64 z1] 3 (0, 0)) := by rw [hW1]; exact (Go.heap_alloc_old _ _ hlt).trans ht
 have hl1 : W1.heap[lb]? = some (.cells #[.int .i64 z2] 3 (0, 0)) := by rw [hW1]; exact (Go.heap_alloc_old _ _ hll).trans hl
 have hs1 : W1.heap.size = W.heap.size + 1 := by rw [hW1]; simp
 clear hwr1 hz1 hW1 ht hl dh;go_wp2_with fail;rw [HW1.out];refine HT1.out.mono ?_;rintro x W2 ⟨top, rfl, htop, hb2⟩;have HTOP := Lib.hid htop;have ht2 := (hb2.block tb (by omega)).trans ht1;have hl2 := (hb2.block lb (by omega)).trans hl1;have HWR2 : Hid (Wr (fun k => k = tb \/ k = lb) W W2) := Lib.hid (HWR1.out.trans (Wr.of_below hb2 NoB) (fun _ _ e => e) (fun _ _ e => e.elim));have ct2 := cell1 ht2;have ft2 : W2.frozen? ⟨tb, 0, none⟩ = false := by simp [World.frozen?, ht2]
 obtain ⟨W3, hW3⟩ : ∃ W3, W3 = W2.setCell ⟨tb, 0, none⟩ (.int .i64 top) := ⟨_, rfl⟩;have ht3 : W3.heap[tb]? = some (.cells #[.int .i64 top] 3 (0, 0)) := by rw [hW3]; exact heap_setCell_same ht2 _
 have hl3 : W3.heap[lb]? = some (.cells #[.int .i64 z2] 3 (0, 0)) := by rw [hW3]; exact (heap_setCell_ne (fun e => n3 e.symm) _).trans hl2
 have HWR3 : Hid (Wr (fun k => k = tb \/ k = lb) W W3) := Lib.hid (by rw [hW3]; exact HWR2.out.setCell (p := ⟨tb, 0, none⟩) (.inl (.inl rfl)) _);have HW3 : Hid (W2.setCell ⟨tb, 0, none⟩ (.int .i64 top) = W3) := Lib.hid hW3.symm;have HLV3 := Lib.hid (HLV.out W3 top HWR3.out);have ct3 := cell1 ht3;have cl3 := cell1 hl3;have fl3 : W3.frozen? ⟨lb, 0, none⟩ = false := by simp [World.frozen?, hl3]
 obtain ⟨lv, hlv⟩ : ∃ lv, lv = levelZ m.d top := ⟨_, rfl⟩;obtain ⟨W4, hW4⟩ : ∃ W4, W4 = W3.setCell ⟨lb, 0, none⟩ (.int .i64 lv) := ⟨_, rfl⟩;have ht4 : W4.heap[tb]? = some (.cells #[.int .i64 top] 3 (0, 0)) := by rw [hW4]; exact (heap_setCell_ne n3 _).trans ht3
 have hl4 : W4.heap[lb]? = some (.cells #[.int .i64 lv] 3 (0, 0)) := by rw [hW4]; exact heap_setCell_same hl3 _
 have HWR4 : Hid (Wr (fun k => k = tb \/ k = lb) W W4) := Lib.hid (by rw [hW4]; exact HWR3.out.setCell (p := ⟨lb, 0, none⟩) (.inl (.inr rfl)) _);have HW4 : Hid (W3.setCell ⟨lb, 0, none⟩ (.int .i64 lv) = W4) := Lib.hid hW4.symm;rw [<- hlv] at HLV3;have HLVE := Lib.hid hlv;have ct4 := cell1 ht4;have dh4 := (HW.out W4 HWR4.out).2.2.2;clear hb2 htop hW3 hW4 hlv ht1 hl1 HT1 HW1 ht2 hl2 ht3 hl3;go_upto_region 2 with fail;rw [HW3.out];go_wp2_with fail;refine HLV3.out.mono ?_;rintro x w' ⟨rfl, rfl⟩;go_upto_region 3 with fail;rw [HW4.out];clear ct2 ft2 ct3 cl3 fl3 HLV3 HW3 HW4
 by_cases htn : top < 0
 ·
  have HE4 := Lib.hid (HE.out W4 HWR4.out)
  have HF := Lib.hid (HFIN.out W4 top f HWR4.out ht4 (by rw [<- HLVE.out]; exact hl4) (by
   rcases HTOP.out with ⟨e1, e2⟩ | ⟨b, _, e⟩
   ·
    exact .inl ⟨e1, e2, rfl⟩
   ·
    omega))
  clear ht4 hl4;go_wp2_with fail;refine HE4.out.mono ?_;rintro x w' ⟨rfl, rfl⟩;go_wp2_with fail;exact HF.out
 ·
  have hb4 := below_draw W4 1;have HWRD : Hid (Wr (fun k => k = tb \/ k = lb) W W4.drew) := Lib.hid HWR4.out.drew;have HE4 := Lib.hid (HE.out W4.drew HWRD.out);have HS4 := Lib.hid (HSP.out W4.drew top HWRD.out)
  have HF : Hid (∀ W', Below W4.heap.size W4 W' -> P (.returned (.int .i64 ((cofs m.d f top).1 : Nat))) W') := Lib.hid fun W' hb => HFIN.out W' top _ (HWR4.out.trans (Wr.of_below hb NoB) (fun _ _ e => e) (fun _ _ e => e.elim)) ((hb.block tb (Array.getElem?_eq_some_iff.1 ht4).1).trans ht4) (by rw [<- HLVE.out]; exact (hb.block lb (Array.getElem?_eq_some_iff.1 hl4).1).trans hl4) (by
   rcases HTOP.out with ⟨e1, e2⟩ | ⟨b, e1, e⟩
   ·
    omega
   ·
    exact .inr ⟨b, e1, e, rfl⟩)
  clear ht4 hl4;go_upto_region 5 with fail;refine wp_region_mix (fun W' : World => W'.cell? ⟨hb, 0, none⟩ = some (.int .i64 kh) /\ W'.cell? ⟨tb, 0, none⟩ = some (.int .i64 top)) false 11
   [(0, false), (1, false), (2, false), (4, false), (3, true), (5, true), (6, false), (7, false), (8, false), (9, false), (10, false)] (by kernel_rfl) (by kernel_rfl) ⟨dh4, ct4⟩ ?_
  simp only [planned, plnLz]
  iterate 4
   refine mix_readE rfl ?_;apply Exists.intro;refine ⟨fun w' hw => ?_, ?_⟩
   ·
    obtain ⟨h1, h2⟩ := hw;go_simp;rfl
   simp only [putLz]
  refine mix_callR (R := fun v w' => v = .int .i64 (f : Nat) /\ W4.drew = w') rfl (by go_simp) (HE4.out.mono (fun e w' he => ?_)) ?_
  ·
   obtain ⟨rfl, rfl⟩ := he;exact ⟨_, rfl, ⟨dh4, ct4⟩, rfl, rfl⟩
  rintro v w' - ⟨rfl, rfl⟩;simp only [putLz];refine mix_callR (R := fun v w' => v = .tuple #[.int .i64 (cofs m.d f top).1, .int .i64 (cofs m.d f top).2] /\ Below W4.heap.size W4 w') rfl (by go_simp) (HS4.out.mono (fun e w' he => ?_)) ?_
  ·
   obtain ⟨rfl, hbb⟩ := he;have hb' := hb4.trans (hbb.mono hb4.size);exact ⟨_, rfl, ⟨(hb'.cell (p := ⟨hb, 0, none⟩) (lt_of_cell dh4)).trans dh4, (hb'.cell (p := ⟨tb, 0, none⟩) (lt_of_cell ct4)).trans ct4⟩, rfl, hb'⟩
  rintro v W5 - ⟨rfl, hb5⟩;have HFN := Lib.hid (HF.out W5 hb5);clear hb5 HS4 HE4;simp only [putLz]
  iterate 5
   refine mix_readE rfl ?_;apply Exists.intro;refine ⟨fun w' hw => ?_, ?_⟩
   ·
    obtain ⟨h1, h2⟩ := hw;go_simp;rfl
   simp only [putLz]
  refine mix_end ?_;go_wp2_with fail;exact HFN.out
structure TopQ2 (n : Nat) (F : BF) (ws0 : List Ev) (l0 : List Nat) (_ : World) (m' : ManD) (V' : Nat -> BF) (r : Nat) : Prop where
 neg : topR n F m'.d.vars < 0 -> ef V' r = F
 pos : 0 <= topR n F m'.d.vars -> ef V' r = cofF F (topR n F m'.d.vars).toNat true
 waits : m'.waits = ws0
 vars : m'.d.vars = l0
theorem tops2_gen {K : Law} {n : Nat} {Od : List Nat -> Prop} {room : Nat} {w0 : World} {mb : Nat} {fs : List (Int × BF)} {nx : Int} (ws0 : List Ev) (l0 : List Nat) (hb : Nat) {kh : Int} {F : BF} (hF : (kh, F) ∈ fs) :
 OpG K n Od room w0 mb fs nx (C1 hb) (B1 hb kh) (AtS ws0 l0) 38 #[.pointer (some ⟨hb, 0, none⟩)] (TopQ2 n F ws0 l0) (fun _ _ _ => False) := by
 intro o W m V xb hsat hB hC hst hcx hnx;obtain ⟨f, hf, ef1⟩ := hsat.find hF;have hok := hsat.ok;have hks := hok.store;have hvn := hsat.vars;have hfe := hok.handles.ok _ hf;have dh := hB.c;have hxl := World.block_lt_of_cell? W _ hcx.cell;have HW : Hid (∀ W', Below W.heap.size W W' -> ManAt (K m.d V) o W' mb m /\ OwnLt o W' /\ CtxAt o W' xb mb /\ W'.cell? ⟨hb, 0, none⟩ = some (.int .i64 kh)) := Lib.hid fun W' hw => by
  obtain ⟨s, hm⟩ := hsat.is;exact ⟨⟨s, hm.below hsat.lt hw⟩, hsat.lt.mono hw.size, ⟨(hw.cell (p := ⟨xb, 0, none⟩) (lt_of_cell hcx.cell)).trans hcx.cell, hcx.own⟩, (hw.cell (p := ⟨hb, 0, none⟩) (lt_of_cell dh)).trans dh⟩
 have HE : Hid (∀ W', Below W.heap.size W W' -> Calls Tryz.prog 34 #[.pointer (some ⟨xb, 0, none⟩), .int .i64 kh] W' fun x w' => x = .returned (.int .i64 (f : Nat)) /\ W' = w') := Lib.hid fun W' hw => by
  obtain ⟨q1, q2, q3, _⟩ := HW.out W' hw;exact ctxEdge_yes q1 q3 hok.handles.nodup hf
 have HTP : Hid (∀ W' a, Below W.heap.size W W' -> IntsAt W' a [(f : Int)] -> Calls Tryz.prog 33 #[.pointer (some ⟨xb, 0, none⟩), .slice a 1 1] W' fun x w' => ∃ top : Int, x = .returned (.int .i64 top) /\ ((top = -1 /\ nodesOf m.d (f / 2) = none) \/ ∃ b, nodesOf m.d (f / 2) = some b /\ top = (b.v : Nat)) /\ Below W'.heap.size W' w') := Lib.hid fun W' a hw hz => by
  obtain ⟨q1, q2, q3, _⟩ := HW.out W' hw;refine (ctxTop_any q1 q2 q3 hks [f] (by simpa using hfe) a 1 hz).mono ?_;rintro x w' ⟨top, least, rfl, h1, h2⟩;exact ⟨top, rfl, topS_one h1, h2⟩
 have HSP : Hid (∀ W' v, Below W.heap.size W W' -> Calls Tryz.prog 36 #[.pointer (some ⟨xb, 0, none⟩), .int .i64 (f : Nat), .int .i64 v] W' fun x w' => x = .returned (.tuple #[.int .i64 (cofs m.d f v).1, .int .i64 (cofs m.d f v).2]) /\ Below W'.heap.size W' w') := Lib.hid fun W' v hw => by
  obtain ⟨q1, q2, q3, _⟩ := HW.out W' hw;exact ctxSplit_any q1 q2 q3 hks f hfe v
 obtain ⟨P, hP⟩ : ∃ P : Ending -> World -> Prop, P = fun e w' => ∃ (o' : Own) (m' : ManD) (V' : Nat -> BF), StepX (C1 hb) K o W mb m V o' w' m' V' /\ B1 hb kh w' /\
  ((∃ r : Nat, e = .returned (.int .i64 r) /\ okE (nodesOf m'.d) r /\ TopQ2 n F ws0 l0 w' m' V' r) \/
   (∃ er : Int, e = stopP er false ev0 /\ er ≠ 0 /\ m'.waits = m.waits /\ AtS ws0 l0 m' /\ False) \/
   (∃ ev, e = stopP 0 true ev /\ m.waits = ev :: m'.waits /\ StE K n Od room w0 mb fs nx (AtS ws0 l0) m' /\ HapG K n Od room w0 mb fs nx ev)) := ⟨_, rfl⟩
 have HFIN : Hid (∀ (W' : World) (tv : Int) (r : Nat), Below W.heap.size W W' ->
  ((tv = -1 /\ nodesOf m.d (f / 2) = none /\ r = f) \/ ∃ b, nodesOf m.d (f / 2) = some b /\ tv = (b.v : Nat) /\ r = (cofs m.d f tv).2) -> P (.returned (.int .i64 (r : Nat))) W') := Lib.hid (by
  subst hP;intro W' tv r hw h3;obtain ⟨q1, q2, q3, q4⟩ := HW.out W' hw;have hstep : StepX (C1 hb) K o W mb m V o W' m V := ⟨q1, q2, ChgX.of_below hw o _, hks, Ext.refl _ _, rfl, rfl⟩;rcases h3 with ⟨e1, e2, e3⟩ | ⟨b, e1, e2, e3⟩
  ·
   have ht := top_const hks hfe e2;rw [ef1, hvn] at ht;subst e3;exact ⟨o, m, V, hstep, ⟨q4⟩, .inl ⟨r, rfl, hfe, ⟨fun _ => ef1, fun h => by omega, hst.1, hst.2⟩⟩⟩
  ·
   have hc := cofs_fn hks e1;have ht := (top_node hks e1).1;rw [ef1, hvn] at ht;subst e2;subst e3;exact ⟨o, m, V, hstep, ⟨q4⟩, .inl ⟨_, rfl, hc.2.1, ⟨fun h => by omega, fun _ => by rw [hc.2.2, ef1, ht]; rfl, hst.1, hst.2⟩⟩⟩)
 rw [<- hP];clear hP hsat hB hC hst hcx hnx hf ef1 hok hks hfe hvn hF
 go_enter Tryz.func38, Tryz.ntmps38
 go_wp2_with fail;refine (HE.out W (Below.refl _ _)).mono ?_;rintro x w' ⟨rfl, rfl⟩;obtain ⟨W1, hW1⟩ : ∃ W1, W1 = W.alloc (.cells #[.int .i64 (f : Nat)] 52) := ⟨_, rfl⟩;have HW1 : Hid (_ = W1) := Lib.hid hW1.symm;have hb1 : Below W.heap.size W W1 := by rw [hW1]; exact below_new1 _ _
 have HT1 := Lib.hid (HTP.out W1 _ hb1 (by rw [hW1]; exact ints_one W f));have HB1 := Lib.hid hb1;clear hb1 hW1 dh;go_wp2_with fail;rw [HW1.out];refine HT1.out.mono ?_;rintro x W2 ⟨top, rfl, htop, hb2⟩;have HTOP := Lib.hid htop;have HB2 := Lib.hid (HB1.out.trans (hb2.mono HB1.out.size));have dh2 := (HW.out W2 HB2.out).2.2.2;have HE2 := Lib.hid (HE.out W2 HB2.out);have HS2 := Lib.hid (HSP.out W2 top HB2.out);clear hb2 htop HT1 HW1 HB1
 by_cases htn : top >= 0
 ·
  go_wp2_with fail;refine HE2.out.mono ?_;rintro x w' ⟨rfl, rfl⟩;go_wp2_with fail;refine HS2.out.mono ?_;rintro x W3 ⟨rfl, hb3⟩
  have HF := Lib.hid (HFIN.out W3 top (cofs m.d f top).2 (HB2.out.trans (hb3.mono HB2.out.size)) (by
   rcases HTOP.out with ⟨e1, e2⟩ | ⟨b, e1, e⟩
   ·
    omega
   ·
    exact .inr ⟨b, e1, e, rfl⟩))
  clear hb3;go_wp2_with fail;exact HF.out
 ·
  have HF := Lib.hid (HFIN.out W2 top f HB2.out (by
   rcases HTOP.out with ⟨e1, e2⟩ | ⟨b, _, e⟩
   ·
    exact .inl ⟨e1, e2, rfl⟩
   ·
    omega))
  go_wp2_with fail;refine HE2.out.mono ?_;rintro x w' ⟨rfl, rfl⟩;go_wp2_with fail;exact HF.out
open Go.RowKit
abbrev C4 (tb hb ib lb : Nat) : Nat -> Prop := fun k => k = tb \/ k = hb \/ k = ib \/ k = lb
structure B4 (tb hb ib lb : Nat) (tv kh ki kl : Int) (W : World) : Prop where
 t : W.cell? ⟨tb, 0, none⟩ = some (.int .i64 tv)
 h : W.cell? ⟨hb, 0, none⟩ = some (.int .i64 kh)
 i : W.cell? ⟨ib, 0, none⟩ = some (.int .i64 ki)
 l : W.cell? ⟨lb, 0, none⟩ = some (.int .i64 kl)
theorem B4.keep {tb hb ib lb : Nat} {tv kh ki kl : Int} (W W' : World) (h : B4 tb hb ib lb tv kh ki kl W) (hk : ∀ c, C4 tb hb ib lb c -> W'.heap[c]? = W.heap[c]?) : B4 tb hb ib lb tv kh ki kl W' :=
 ⟨(World.cell?_of_block (w := W) (a := ⟨tb, 0, none⟩) (hk _ (.inl rfl))).trans h.t, (World.cell?_of_block (w := W) (a := ⟨hb, 0, none⟩) (hk _ (.inr (.inl rfl)))).trans h.h,
   (World.cell?_of_block (w := W) (a := ⟨ib, 0, none⟩) (hk _ (.inr (.inr (.inl rfl))))).trans h.i, (World.cell?_of_block (w := W) (a := ⟨lb, 0, none⟩) (hk _ (.inr (.inr (.inr rfl))))).trans h.l⟩
theorem cofs_back (F : BF) (v : Nat) : iteFn (varF v) (cofF F v true) (cofF F v false) = F := by
 funext ρ
 show iteB (ρ v) (F fun u => if u = v then true else ρ u) (F fun u => if u = v then false else ρ u) = F ρ
 unfold iteB;cases hv : ρ v
 ·
  simp only [Bool.false_eq_true, if_false];congr 1;funext u
  by_cases e : u = v
  ·
   rw [if_pos e, e, hv]
  ·
   rw [if_neg e]
 ·
  simp only [if_true];congr 1;funext u
  by_cases e : u = v
  ·
   rw [if_pos e, e, hv]
  ·
   rw [if_neg e]
abbrev SufV (ws0 : List Ev) (l0 : List Nat) (m : ManD) : Prop := m.waits <:+ ws0 /\ (m.waits = ws0 -> m.d.vars = l0)
abbrev QFV (ws0 : List Ev) (l0 : List Nat) (F : BF) (_ : World) (m' : ManD) (V' : Nat -> BF) (r : Nat) : Prop := ef V' r = F /\ SufV ws0 l0 m'
theorem tops3_gen {K : Law} (hK : LawOK K) {n : Nat} {Od : List Nat -> Prop} {room : Nat} {w0 : World} {mb : Nat} {fs : List (Int × BF)} {nx : Int} (ws0 : List Ev) (l0 : List Nat) (hhap : ∀ ev ∈ ws0, HapG K n Od room w0 mb fs nx ev) (tb hb ib lb : Nat) {tv kh ki kl : Int} {F G1 G0 : BF} (hF : (kh, F) ∈ fs) (hG1 : (ki, G1) ∈ fs) (hG0 : (kl, G0) ∈ fs) (htv : tv < n) :
 OpG K n Od room w0 mb fs nx (C4 tb hb ib lb) (B4 tb hb ib lb tv kh ki kl) (SufV ws0 l0) 39 #[.pointer (some ⟨tb, 0, none⟩), .pointer (some ⟨hb, 0, none⟩), .pointer (some ⟨ib, 0, none⟩), .pointer (some ⟨lb, 0, none⟩)] (QFV ws0 l0 (if tv < 0 then F else iteFn (varF tv.toNat) G1 G0)) (EF (SatX K n Od room w0 mb fs nx) (2 ^ n) ws0) := by
 intro o W m V xb hsat hB hC hst hcx hnx;obtain ⟨f, hf, ef1⟩ := hsat.find hF;obtain ⟨gi, hgi, ef2⟩ := hsat.find hG1;obtain ⟨gl, hgl, ef3⟩ := hsat.find hG0;have hk := hsat.ok;have hlt := hsat.lt;have hks := hk.store;have dt := hB.t;have dh := hB.h;have di := hB.i;have dl := hB.l;have ot := (hC tb (.inl rfl)).2;have oh := (hC hb (.inr (.inl rfl))).2;have oi := (hC ib (.inr (.inr (.inl rfl)))).2;have ol := (hC lb (.inr (.inr (.inr rfl)))).2;have hp2 : 0 < 2 ^ n := Nat.pow_pos (by omega);obtain ⟨P, hP⟩ : ∃ P : Ending -> World -> Prop, P = fun e w' => ∃ (o' : Own) (m' : ManD) (V' : Nat -> BF), StepX (C4 tb hb ib lb) K o W mb m V o' w' m' V' /\ B4 tb hb ib lb tv kh ki kl w' /\
  ((∃ r : Nat, e = .returned (.int .i64 r) /\ okE (nodesOf m'.d) r /\ QFV ws0 l0 (if tv < 0 then F else iteFn (varF tv.toNat) G1 G0) w' m' V' r) \/
   (∃ er : Int, e = stopP er false ev0 /\ er ≠ 0 /\ m'.waits = m.waits /\ SufV ws0 l0 m' /\ EF (SatX K n Od room w0 mb fs nx) (2 ^ n) ws0 er m m') \/
   (∃ ev, e = stopP 0 true ev /\ m.waits = ev :: m'.waits /\ StE K n Od room w0 mb fs nx (SufV ws0 l0) m' /\ HapG K n Od room w0 mb fs nx ev)) := ⟨_, rfl⟩
 have HEV : Hid (∀ (ev : Ev) (m' : ManD), m.waits = ev :: m'.waits -> StE K n Od room w0 mb fs nx (SufV ws0 l0) m' /\ HapG K n Od room w0 mb fs nx ev) := Lib.hid fun ev m' e => by
  have hst' : m.waits <:+ ws0 := hst.1;rw [e] at hst'
  exact ⟨fun _ _ m2 _ _ e1 _ _ => by
   unfold SufV;rw [e1];exact ⟨(List.suffix_cons ev _).trans hst', fun e2 => by have := hst'.length_le; rw [<- e2, List.length_cons] at this; omega⟩, hhap ev (hst'.subset (List.mem_cons_self ..))⟩
 by_cases htn : tv < 0
 ·
  have HE := Lib.hid (ctxEdge_yes hsat.is hcx hk.handles.nodup hf)
  have HF : Hid (P (.returned (.int .i64 (f : Nat))) W) := Lib.hid (by
   subst hP;exact ⟨o, m, V, ⟨hsat.is, hlt, ChgX.of_below (Below.refl _ _) o _, hks, Ext.refl _ _, rfl, rfl⟩, hB, .inl ⟨f, rfl, hk.handles.ok _ hf, by rw [if_pos htn]; exact ⟨ef1, hst⟩⟩⟩)
  rw [<- hP];clear hP hk hlt hks hB hC hst hcx hnx hK hhap hf hgi hgl ef1 ef2 ef3 hsat hF hG1 hG0 HEV
  go_enter Tryz.func39, Tryz.ntmps39
  go_wp2_with fail;refine HE.out.mono ?_;rintro x w' ⟨rfl, rfl⟩;go_wp2_with fail;exact HF.out
 obtain ⟨v, rfl⟩ : ∃ v : Nat, tv = v := ⟨tv.toNat, by omega⟩;have hv : v < n := by omega
 have o0 : okE (nodesOf m.d) 0 := .inl rfl;have o1 : okE (nodesOf m.d) 1 := .inl rfl;have hl0 : lvE m.d.vars.length (levN m.d) (nodesOf m.d) 0 = m.d.vars.length := lvE_const hks rfl;have hl1 : lvE m.d.vars.length (levN m.d) (nodesOf m.d) 1 = m.d.vars.length := lvE_const hks rfl;have hvl : v < m.d.vars.length := by rw [hsat.vars]; exact hv
 have hlv := hks.dag.lt v hvl;have HMK := Lib.hid (ctxMk_any hK hsat.is hlt hcx hks v 1 0 o1 o0);have HNX : Hid (∀ e w', CtxMkPost K o W mb m V v 1 0 e w' -> (∃ r : Nat, e = .returned (.int .i64 r) /\ ∃ o1 m1 V1, Step K o W mb m V o1 w' m1 V1 /\ okE (nodesOf m1.d) r /\ ef V1 r = varF v /\ m1.waits = m.waits /\ m1.d.pool.many <= m.d.pool.many + 1) \/ (∃ er evt ev, e = stopP er evt ev /\ P (stopP er evt ev) w')) := by
  refine Lib.hid ?_;subst hP;rintro e w' ⟨o', m', V', st, hcase⟩;have hb4 : B4 tb hb ib lb v kh ki kl w' := ⟨st.chg.cell dt ot, st.chg.cell dh oh, st.chg.cell di oi, st.chg.cell dl ol⟩;have stx : StepX (C4 tb hb ib lb) K o W mb m V o' w' m' V' := st.toX _;rcases hcase with ⟨ev, h1, _, _, _, _, rfl⟩ | ⟨h1, _, _, (⟨er, her, hd, _, rfl⟩ | ⟨_, _, r, rfl, h2, h3, _, h5⟩)⟩
  ·
   exact .inr ⟨0, true, ev, rfl, o', m', V', stx, hb4, .inr (.inr ⟨ev, rfl, h1, HEV.out ev _ h1⟩)⟩
  ·
   refine .inr ⟨er, false, ev0, rfl, o', m', V', stx, hb4, .inr (.inl ?_)⟩;rcases her with ⟨_, h⟩ | ⟨_, _, _, h⟩ | ⟨rfl, h⟩
   ·
    exact (h ⟨by omega, by omega⟩).elim
   ·
    simp only [Int.toNat_natCast] at h; omega
   ·
    exact ⟨7, rfl, by omega, h1, by unfold SufV; rw [h1, hd]; exact hst, rfl, ⟨_, _, _, hsat⟩, by rw [hd]; exact h, by rw [hd]; omega, by rw [h1]; exact hst.1⟩
  ·
   refine .inl ⟨r, rfl, o', m', V', st, h2, ?_, h1, h5⟩;rw [h3];funext ρ;have a0 := ef_zero hks.dag.one ρ;have a1 := ef_one hks.dag.one ρ;simp only [iteF, varF, Int.toNat_natCast, a0, a1];cases ρ v <;> rfl
 have HIT : Hid (∀ (r1 : Nat) o1 W1 m1 V1, Step K o W mb m V o1 W1 m1 V1 -> okE (nodesOf m1.d) r1 -> ef V1 r1 = varF v -> m1.waits = m.waits -> m1.d.pool.many <= m.d.pool.many + 1 ->
  (W1.drew.cell? ⟨tb, 0, none⟩ = some (.int .i64 (v : Nat)) /\ W1.drew.cell? ⟨hb, 0, none⟩ = some (.int .i64 kh) /\ W1.drew.cell? ⟨ib, 0, none⟩ = some (.int .i64 ki) /\ W1.drew.cell? ⟨lb, 0, none⟩ = some (.int .i64 kl)) /\
  (Calls Tryz.prog 34 #[.pointer (some ⟨xb, 0, none⟩), .int .i64 ki] W1.drew fun x w' => x = .returned (.int .i64 (gi : Nat)) /\ W1.drew = w') /\
  (Calls Tryz.prog 34 #[.pointer (some ⟨xb, 0, none⟩), .int .i64 kl] W1.drew fun x w' => x = .returned (.int .i64 (gl : Nat)) /\ W1.drew = w') /\
  (Calls Tryz.prog 40 #[.pointer (some ⟨xb, 0, none⟩), .int .i64 (r1 : Nat), .int .i64 (gi : Nat), .int .i64 (gl : Nat)] W1.drew fun e w' => (∃ v', e = .returned v' /\ (w'.cell? ⟨tb, 0, none⟩ = some (.int .i64 (v : Nat)) /\ w'.cell? ⟨hb, 0, none⟩ = some (.int .i64 kh) /\ w'.cell? ⟨ib, 0, none⟩ = some (.int .i64 ki) /\ w'.cell? ⟨lb, 0, none⟩ = some (.int .i64 kl)) /\ P (.returned v') w') \/ (∃ ch, e = .panicked ch /\ P (.panicked ch) w'))) := by
  refine Lib.hid fun r1 o1 W1 m1 V1 st hr1 hef hwt hmany => ?_
  have hbd : Below W1.heap.size W1 W1.drew := below_draw W1 1;have st1 : Step K o W mb m V o1 W1.drew m1 V1 := st.below hbd;have q1 := st1.chg.cell dt ot;have q2 := st1.chg.cell dh oh;have q3 := st1.chg.cell di oi;have q4 := st1.chg.cell dl ol;have hx1 := hcx.chg st1.chg;have n1 : ∀ {b : Nat} {val : Value}, W.cell? ⟨b, 0, none⟩ = some val -> o b = none -> o1 b = none := fun hc ho => st1.chg.alien' (lt_of_cell hc) ho
  have hh1 : ∀ p, p ∈ m.hs -> p ∈ m1.hs := fun p hp => by rw [st1.hs]; exact hp
  have hnd : (m1.hs.map Prod.fst).Nodup := by rw [st1.hs]; exact hk.handles.nodup
  have og := fun (g : Nat) (hg : okE (nodesOf m.d) g) => st1.ext.ok hg
  refine ⟨⟨q1, q2, q3, q4⟩, ctxEdge_yes st1.is hx1 hnd (hh1 _ hgi), ctxEdge_yes st1.is hx1 hnd (hh1 _ hgl), ?_⟩;have hvn : m1.d.vars.length = n := by rw [st1.ext.vars]; exact hsat.vars
  refine (ctxIte_any hK n o1 W1.drew xb mb m1 V1 r1 gi gl st1.is st1.lt hx1 st1.ok hr1 (og _ (hk.handles.ok _ hgi)) (og _ (hk.handles.ok _ hgl)) (by rw [hvn]; omega)).mono ?_;subst hP;rintro e w' ⟨o', m', V', st2, hcase⟩;have st3 := st1.trans st2;have c1 := st3.chg.cell dt ot;have c2 := st3.chg.cell dh oh;have c3 := st3.chg.cell di oi;have c4 := st3.chg.cell dl ol;have stx : StepX (C4 tb hb ib lb) K o W mb m V o' w' m' V' := st3.toX _;rcases hcase with ⟨r, rfl, h1, h2, h3⟩ | ⟨rfl, h2, h3, h4⟩ | ⟨ev, rfl, h1⟩
  ·
   refine .inl ⟨_, rfl, ⟨c1, c2, c3, c4⟩, o', m', V', stx, ⟨c1, c2, c3, c4⟩, .inl ⟨r, rfl, h1.okR, ?_, by unfold SufV; rw [h2, hwt, st3.ext.vars]; exact hst⟩⟩;rw [if_neg (by omega)];have a1 := (st2.ext.ef hr1).trans hef;have a2 := (st3.ext.ef (hk.handles.ok _ hgi)).trans ef2;have a3 := (st3.ext.ef (hk.handles.ok _ hgl)).trans ef3;dsimp only at a1 a2 a3;funext ρ;rw [h1.val ρ, a1, a2, a3];rfl
  ·
   exact .inr ⟨_, rfl, o', m', V', stx, ⟨c1, c2, c3, c4⟩, .inr (.inl ⟨7, rfl, by omega, h2.trans hwt, by unfold SufV; rw [h2, hwt, st3.ext.vars]; exact hst, rfl, ⟨_, _, _, hsat⟩, h3, by omega, by rw [h2, hwt]; exact hst.1⟩)⟩
  ·
   rw [hwt] at h1;exact .inr ⟨_, rfl, o', m', V', stx, ⟨c1, c2, c3, c4⟩, .inr (.inr ⟨ev, rfl, h1, HEV.out ev _ h1⟩)⟩
 rw [<- hP];clear hP hk hlt hks hB hC hst hcx hnx hK hhap hf hgi hgl ef1 ef2 ef3 hsat hF hG1 hG0 HEV o0 o1 hl0 hl1 hvl hlv ot oh oi ol
 go_enter Tryz.func39, Tryz.ntmps39
 go_wp2_with fail;refine HMK.out.mono ?_;intro e w' hp;rcases HNX.out e w' hp with ⟨r1, rfl, o1, m1, V1, a1, a2, a3, a4, a5⟩ | ⟨er, evt, ev, rfl, hst⟩
 ·
  obtain ⟨hcs, he1, he2, hit⟩ := HIT.out r1 o1 w' m1 V1 a1 a2 a3 a4 a5;have HE1 := Lib.hid he1;have HE2 := Lib.hid he2;have HI := Lib.hid hit;clear hp a1 a2 a3 a4 a5 he1 he2 hit dt dh di dl;go_upto_region 4 with fail;refine wp_region_leftP (fun W : World => W.cell? ⟨tb, 0, none⟩ = some (.int .i64 (v : Nat)) /\ W.cell? ⟨hb, 0, none⟩ = some (.int .i64 kh) /\ W.cell? ⟨ib, 0, none⟩ = some (.int .i64 ki) /\ W.cell? ⟨lb, 0, none⟩ = some (.int .i64 kl)) (fun ch w' => P (.panicked ch) w') 10 (fun c a w hd h => ⟨hd, h⟩) (by kernel_rfl) hcs ?_;refine left_readEP 0 rfl rfl (by kernel_rfl) ?_;apply Exists.intro;refine ⟨fun w' hw => ?_, ?_⟩
  ·
   obtain ⟨q1, q2, q3, q4⟩ := hw;go_simp;rfl
  simp only [putLz];refine left_readEP 1 rfl rfl (by kernel_rfl) ?_;apply Exists.intro;refine ⟨fun w' hw => ?_, ?_⟩
  ·
   obtain ⟨q1, q2, q3, q4⟩ := hw;go_simp;rfl
  simp only [putLz];refine left_readEP 2 rfl rfl (by kernel_rfl) ?_;apply Exists.intro;refine ⟨fun w' hw => ?_, ?_⟩
  ·
   obtain ⟨q1, q2, q3, q4⟩ := hw;go_simp;rfl
  simp only [putLz];refine left_readEP 3 rfl rfl (by kernel_rfl) ?_;apply Exists.intro;refine ⟨fun w' hw => ?_, ?_⟩
  ·
   obtain ⟨q1, q2, q3, q4⟩ := hw;go_simp;rfl
  simp only [putLz];refine left_readEP 5 rfl rfl (by kernel_rfl) ?_;apply Exists.intro;refine ⟨fun w' hw => ?_, ?_⟩
  ·
   obtain ⟨q1, q2, q3, q4⟩ := hw;go_simp;rfl
  simp only [putLz];refine left_readEP 6 rfl rfl (by kernel_rfl) ?_;apply Exists.intro;refine ⟨fun w' hw => ?_, ?_⟩
  ·
   obtain ⟨q1, q2, q3, q4⟩ := hw;go_simp;rfl
  simp only [putLz];refine left_altsP [4] (by kernel_rfl) (fun i hi hS o ho => ?_);simp only [memLz] at hi;subst hi;simp only [altLz] at ho;subst ho;refine ⟨rfl, ?_⟩;refine oper_call (v := .int .i64 (gi : Nat)) (R := fun w'' => w'.drew = w'') (by go_simp) HE1.out ?_;rintro w'' rfl;refine ⟨hcs, ?_⟩;simp only [putLz];refine left_altsP [7] (by kernel_rfl) (fun i hi hS o ho => ?_);simp only [memLz] at hi;subst hi;simp only [altLz] at ho;subst ho;refine ⟨rfl, ?_⟩;refine oper_call (v := .int .i64 (gl : Nat)) (R := fun w'' => w'.drew = w'') (by go_simp) HE2.out ?_;rintro w'' rfl;refine ⟨hcs, ?_⟩;simp only [putLz];refine left_altsP [8] (by kernel_rfl) (fun i hi hS o ho => ?_);simp only [memLz] at hi;subst hi;simp only [altLz] at ho;subst ho;refine ⟨rfl, ?_⟩;refine oper_callP (R := fun v' w' => (w'.cell? ⟨tb, 0, none⟩ = some (.int .i64 (v : Nat)) /\ w'.cell? ⟨hb, 0, none⟩ = some (.int .i64 kh) /\ w'.cell? ⟨ib, 0, none⟩ = some (.int .i64 ki) /\ w'.cell? ⟨lb, 0, none⟩ = some (.int .i64 kl)) /\ P (.returned v') w') (R2 := fun ch w' => P (.panicked ch) w') (by go_simp) HI.out ?_ ?_
  ·
   rintro v' w'' ⟨hS, hst⟩;refine ⟨hS, ?_⟩;have HST := Lib.hid hst;clear hst;simp only [putLz];refine left_readEP 9 rfl rfl (by kernel_rfl) ?_;apply Exists.intro;refine ⟨fun w' hw => ?_, ?_⟩
   ·
    go_simp;rfl
   simp only [putLz];refine left_endP (by kernel_rfl) ?_;clear hS hcs;go_wp2_with fail;exact HST.out
  ·
   intro ch w'' hst;exact ⟨rfl, hst⟩
 ·
  have HST := Lib.hid hst;clear hp hst;unfold stopP;go_wp2_with fail;exact ⟨rfl, HST.out⟩
open Go.RowKit
theorem topR_or (n : Nat) (F : BF) : ∀ l, topR n F l = -1 \/ ∃ v ∈ l, topR n F l = (v : Nat)
 | [] => .inl rfl
 | v :: l => by
   show (if hangsB n F v then ((v : Nat) : Int) else topR n F l) = -1 \/ ∃ u ∈ v :: l, (if hangsB n F v then ((v : Nat) : Int) else topR n F l) = (u : Nat)
   cases hangsB n F v with
   | true => exact .inr ⟨v, List.mem_cons_self .., if_pos rfl⟩
   | false =>
     rcases topR_or n F l with h | ⟨u, hu, h⟩
     ·
      exact .inl h
     ·
      exact .inr ⟨u, List.mem_cons_of_mem _ hu, h⟩
theorem enters_tops1 (args : Array Value) (w : World) : (callFunc 32 args).run Tryz.prog w = .ok (.enter 32 args) w := enters_of Tryz.func32 (by kernel_rfl) rfl args w
theorem enters_tops2 (args : Array Value) (w : World) : (callFunc 38 args).run Tryz.prog w = .ok (.enter 38 args) w := enters_of Tryz.func38 (by kernel_rfl) rfl args w
theorem enters_tops3 (args : Array Value) (w : World) : (callFunc 39 args).run Tryz.prog w = .ok (.enter 39 args) w := enters_of Tryz.func39 (by kernel_rfl) rfl args w
structure TopI (K : Law) (n room : Nat) (w0 : World) (mb : Nat) (fs : List (Int × BF)) (nx : Int) (o3 : Own) (wA W : World) (o : Own) (m : ManD) (V : Nat -> BF) : Prop where
 sat : SatE K n (fun _ => True) room w0 mb fs nx W o m V
 chg : ChgX NoB o3 o wA W
structure Bx (wA : World) (o : Own) (W : World) (b : Nat) (z : Int) : Prop where
 low : wA.heap.size <= b
 no : o b = none
 cell : W.cell? ⟨b, 0, none⟩ = some (.int .i64 z)
section
variable {K : Law} {n room : Nat} {w0 : World} {mb : Nat} {fs : List (Int × BF)} {nx : Int} {W W' wA : World} {o o3 o' : Own} {m : ManD} {V : Nat -> BF} {ws0 : List Ev} {l0 : List Nat} {b : Nat} {z : Int}
theorem TopI.below (h : TopI K n room w0 mb fs nx o3 wA W o m V) (hb : Below W.heap.size W W') : TopI K n room w0 mb fs nx o3 wA W' o m V := ⟨h.sat.below hb, h.chg.trans (ChgX.of_below hb o NoB) (fun _ _ e => e)⟩
theorem TopI.box (h : TopI K n room w0 mb fs nx o3 wA W o m V) {b : Nat} {z : Int} (hl : W.heap.size <= b) (hc : W'.cell? ⟨b, 0, none⟩ = some (.int .i64 z)) : Bx wA o W' b z := ⟨by have := h.chg.size; omega, h.sat.lt.none hl, hc⟩
theorem Bx.lt (h : Bx wA o W b z) : b < W.heap.size := lt_of_cell h.cell
theorem Bx.chg {C : Nat -> Prop} (h : Bx wA o W b z) (hc : ChgX C o o' W W') (hn : ¬ C b) : Bx wA o' W' b z := ⟨h.low, hc.none' h.lt h.no, hc.cell h.cell h.no hn⟩
theorem Bx.below (h : Bx wA o W b z) (hb : Below W.heap.size W W') : Bx wA o W' b z := h.chg (chg_below hb o) (fun e => e)
theorem levelZ_top (h : SatE K n (fun _ => True) room w0 mb fs nx W o m V) {F : BF} : (topR n F m.d.vars < 0 -> levelZ m.d (topR n F m.d.vars) = -1) /\ (0 <= topR n F m.d.vars -> 0 <= levelZ m.d (topR n F m.d.vars) /\ levelZ m.d (topR n F m.d.vars) < n /\ (m.d.vars.getD (levelZ m.d (topR n F m.d.vars)).toNat 0 : Nat) = topR n F m.d.vars /\ topR n F m.d.vars < n) := by
 refine ⟨fun h0 => by unfold levelZ; rw [if_neg (by omega)], fun h0 => ?_⟩;rcases topR_or n F m.d.vars with e | ⟨v, hv, e⟩
 ·
  omega
 ·
  have hk := h.ok.store;have hvn := h.vars;obtain ⟨i, hi, e2⟩ := List.getElem_of_mem hv;have hvi : m.d.vars.getD i 0 = v := by simp [List.getD, hi, e2]
  have h1 := hk.vlt i hi;rw [hvi] at h1;have h2 := hk.dag.lt v h1.1;obtain ⟨s, hms⟩ := h.is;obtain ⟨ss, hss⟩ := hms.store;rw [e, levelZ_of (by rw [hss.len]; exact h1.1), Int.toNat_natCast, hk.inv v h1.1];exact ⟨by omega, by omega, rfl, by omega⟩
theorem tops_do1 (hK : LawOK K) (h : TopI K n room w0 mb fs nx o3 wA W o m V) (hst : AtS ws0 l0 m) {hb tb lb : Nat} {kh z1 z2 : Int} {F : BF} (b1 : Bx wA o W hb kh) (b2 : Bx wA o W tb z1) (b3 : Bx wA o W lb z2)
 (e2 : W.heap[tb]? = some (.cells #[.int .i64 z1] 3 (0, 0))) (e3 : W.heap[lb]? = some (.cells #[.int .i64 z2] 3 (0, 0))) (hne : hb ≠ tb /\ hb ≠ lb /\ tb ≠ lb) (h0 : w0.heap.size <= wA.heap.size) (hF : (kh, F) ∈ fs) (hn : nx < 1099511627776) :
 Calls Tryz.prog 24 #[.pointer (some ⟨mb, 0, none⟩), .func (.func 32) #[] #[.pointer (some ⟨hb, 0, none⟩), .pointer (some ⟨tb, 0, none⟩), .pointer (some ⟨lb, 0, none⟩)]] W fun x w' => x = .returned (.tuple #[.int .i64 nx, .int .i64 0]) /\
  ∃ o' m' V' G lv, TopI K n room w0 mb (fs ++ [(nx, G)]) (nx + 1) o3 wA w' o' m' V' /\ AtS ws0 l0 m' /\ Bx wA o' w' hb kh /\ Bx wA o' w' tb (topR n F l0) /\ Bx wA o' w' lb lv /\
   (topR n F l0 < 0 -> G = F /\ lv = -1) /\ (0 <= topR n F l0 -> G = cofF F (topR n F l0).toNat false /\ 0 <= lv /\ lv < n /\ (l0.getD lv.toNat 0 : Nat) = topR n F l0 /\ topR n F l0 < n) := by
 have h1 := b1.low;have h2 := b2.low;have h3 := b3.low;refine (do_gen hK BT.keep ?_ (fun _ _ h r => ⟨h.1, r.vars.trans h.2⟩) ?_ enters_tops1 (tops1_gen ws0 l0 hb tb lb hne hF) h.sat ⟨b1.cell, ⟨z1, e2⟩, ⟨z2, e3⟩⟩ ?_ hst hn).mono ?_
 ·
  intro W W' m V r q hk;obtain ⟨tv, q1, q2, q3⟩ := q.ex;exact ⟨⟨tv, (hk _ (.inr (.inl rfl))).trans q1, (hk _ (.inr (.inr rfl))).trans q2, q3⟩, q.waits, q.vars⟩
 ·
  rintro c (rfl | rfl | rfl) <;> omega
 ·
  rintro c (rfl | rfl | rfl)
  ·
   exact ⟨b1.lt, b1.no⟩
  ·
   exact ⟨b2.lt, b2.no⟩
  ·
   exact ⟨b3.lt, b3.no⟩
 ·
  rintro x w' ⟨o', m', V', hB', hc, ⟨r, m1, rfl, hs, hq, _, _, f1, f2, _, f4, _⟩ | ⟨er, m0, _, _, _, hf, _⟩⟩
  ·
   obtain ⟨tv, q1, q2, q3, q4, q5⟩ := hq.ex;have hlz : levelZ m1.d tv = levelZ m'.d tv := by unfold levelZ levN; rw [f2]
   have hv' : m'.d.vars = l0 := f1.trans hq.vars;have hlt := levelZ_top hs (F := F);rw [hv'] at hlt;rw [hq.vars] at q3;subst q3;rw [hlz] at q2;refine ⟨rfl, o', m', V', ef V' r, levelZ m'.d (topR n F l0), ⟨hs, h.chg.trans hc ?_⟩, ⟨f4.trans hq.waits, hv'⟩, ⟨h1, hc.none' b1.lt b1.no, hB'.h⟩, ⟨h2, hc.none' b2.lt b2.no, cell1 q1⟩, ⟨h3, hc.none' b3.lt b3.no, cell1 q2⟩, fun h => ⟨q4 h, hlt.1 h⟩, fun h => ⟨q5 h, hlt.2 h⟩⟩;rintro k hk (rfl | rfl | rfl) <;> omega
  ·
   exact hf.elim
theorem tops_do2 (hK : LawOK K) (h : TopI K n room w0 mb fs nx o3 wA W o m V) (hst : AtS ws0 l0 m) {hb : Nat} {kh : Int} {F : BF} (b1 : Bx wA o W hb kh) (h0 : w0.heap.size <= wA.heap.size) (hF : (kh, F) ∈ fs) (hn : nx < 1099511627776) :
 Calls Tryz.prog 24 #[.pointer (some ⟨mb, 0, none⟩), .func (.func 38) #[] #[.pointer (some ⟨hb, 0, none⟩)]] W fun x w' => x = .returned (.tuple #[.int .i64 nx, .int .i64 0]) /\
  ∃ o' m' V' G, TopI K n room w0 mb (fs ++ [(nx, G)]) (nx + 1) o3 wA w' o' m' V' /\ AtS ws0 l0 m' /\ Bx wA o' w' hb kh /\ (∀ b z, b ≠ hb -> Bx wA o W b z -> Bx wA o' w' b z) /\
   (topR n F l0 < 0 -> G = F) /\ (0 <= topR n F l0 -> G = cofF F (topR n F l0).toNat true) := by
 have h1 := b1.low;refine (do_gen hK B1.keep (fun _ _ _ _ _ q _ => ⟨q.neg, q.pos, q.waits, q.vars⟩) (fun _ _ h r => ⟨h.1, r.vars.trans h.2⟩) ?_ enters_tops2 (tops2_gen ws0 l0 hb hF) h.sat ⟨b1.cell⟩ ?_ hst hn).mono ?_
 ·
  rintro c rfl; omega
 ·
  rintro c rfl;exact ⟨b1.lt, b1.no⟩
 ·
  rintro x w' ⟨o', m', V', hB', hc, ⟨r, m1, rfl, hs, hq, _, _, f1, f2, _, f4, _⟩ | ⟨er, m0, _, _, _, hf, _⟩⟩
  ·
   have q1 := hq.neg;have q2 := hq.pos;rw [hq.vars] at q1 q2;refine ⟨rfl, o', m', V', ef V' r, ⟨hs, h.chg.trans hc ?_⟩, ⟨f4.trans hq.waits, f1.trans hq.vars⟩, ⟨h1, hc.none' b1.lt b1.no, hB'.c⟩, fun b z hne hx => hx.chg hc hne, q1, q2⟩;rintro k hk rfl;omega
  ·
   exact hf.elim
theorem tops_do3 (hK : LawOK K) (h : TopI K n room w0 mb fs nx o3 wA W o m V) (hst : AtS ws0 l0 m) {tb hb ib lb : Nat} {tv kh ki kl : Int} {F G1 G0 F0 : BF} (b1 : Bx wA o W tb tv) (b2 : Bx wA o W hb kh) (b3 : Bx wA o W ib ki) (b4 : Bx wA o W lb kl) (h0 : w0.heap.size <= wA.heap.size)
 (hF : (kh, F) ∈ fs) (hG1 : (ki, G1) ∈ fs) (hG0 : (kl, G0) ∈ fs) (htv : tv < n) (heq : (if tv < 0 then F else iteFn (varF tv.toNat) G1 G0) = F0) (hr : (fs.length + 1) * 2 ^ n <= room) (hn : nx <= 549755813888) :
 Calls Tryz.prog 24 #[.pointer (some ⟨mb, 0, none⟩), .func (.func 39) #[] #[.pointer (some ⟨tb, 0, none⟩), .pointer (some ⟨hb, 0, none⟩), .pointer (some ⟨ib, 0, none⟩), .pointer (some ⟨lb, 0, none⟩)]] W fun x w' => x = .returned (.tuple #[.int .i64 nx, .int .i64 0]) /\
  ∃ o' m' V', TopI K n room w0 mb (fs ++ [(nx, F0)]) (nx + 1) o3 wA w' o' m' V' /\ SufV ws0 l0 m' /\ Bx wA o' w' tb tv /\ Bx wA o' w' ib ki /\ Bx wA o' w' lb kl /\ (∀ b z, b ≠ tb -> b ≠ hb -> b ≠ ib -> b ≠ lb -> Bx wA o W b z -> Bx wA o' w' b z) := by
 have h1 := b1.low;have h2 := b2.low;have h3 := b3.low;have h4 := b4.low;refine (do_gen hK B4.keep (fun _ _ _ _ _ q _ => q) (fun _ _ h r => ⟨h.1, fun e => r.vars.trans (h.2 e)⟩) ?_ enters_tops3 (tops3_gen hK ws0 l0 (fun ev _ => happen_any hn ev) tb hb ib lb hF hG1 hG0 htv) h.sat ⟨b1.cell, b2.cell, b3.cell, b4.cell⟩ ?_ ⟨by rw [hst.1]; exact List.suffix_refl _, fun _ => hst.2⟩ (by omega)).mono ?_
 ·
  rintro c (rfl | rfl | rfl | rfl) <;> omega
 ·
  rintro c (rfl | rfl | rfl | rfl)
  ·
   exact ⟨b1.lt, b1.no⟩
  ·
   exact ⟨b2.lt, b2.no⟩
  ·
   exact ⟨b3.lt, b3.no⟩
  ·
   exact ⟨b4.lt, b4.no⟩
 ·
  rintro x w' ⟨o', m', V', hB', hc, ⟨r, m1, rfl, hs, ⟨q1, q2⟩, _, _, f1, f2, _, f4, _⟩ | ⟨er, m0, _, _, hs, ⟨rfl, ⟨_, _, _, hx⟩, g2, g3, _⟩, g7⟩⟩
  ·
   rw [<- heq, <- q1];refine ⟨rfl, o', m', V', ⟨hs, h.chg.trans hc ?_⟩, by unfold SufV; rw [f4, f1]; exact q2, ⟨h1, hc.none' b1.lt b1.no, hB'.t⟩, ⟨h3, hc.none' b3.lt b3.no, hB'.i⟩, ⟨h4, hc.none' b4.lt b4.no, hB'.l⟩, fun b z n1 n2 n3 n4 hx => hx.chg hc (by rintro (e | e | e | e) <;> contradiction)⟩;rintro k hk (rfl | rfl | rfl | rfl) <;> omega
  ·
   exfalso;have := hx.few (g7 rfl);have := hs.room;rw [Nat.add_mul] at hr;omega
theorem plan_none (h : TopI K n room w0 mb fs nx o3 wA W o m V) (hw : m.waits.length <= 256) :
 Calls Tryz.prog 37 #[.pointer (some ⟨mb, 0, none⟩), .slice none 0 0] W fun x w' => x = .returned (.int .i64 0) /\ ∃ o' m', TopI K n room w0 mb fs nx o3 wA w' o' m' V /\ m'.waits = m.waits /\ m'.d.vars = m.d.vars /\ (∀ b z, Bx wA o W b z -> Bx wA o' w' b z) := by
 have hz : planR n m.waits.length [] = 0 := by
  unfold planR;rw [if_neg (by simp; omega)];rfl
 refine (manPlan_any h.sat (a := none) (c := 0) (l := []) ⟨by simp, fun k hk => by simp at hk⟩ (fun h => by simp at h) hw).mono ?_;rintro x w' ⟨rfl, o', m', hp⟩;rw [hz] at hp ⊢;have hc := ChgX.of_chg hp.chg NoB;exact ⟨rfl, o', m', ⟨hp.sat, h.chg.trans hc (fun _ _ e => e)⟩, by rw [(hp.yes rfl).1, List.append_nil], by rw [hp.d], fun b z hx => hx.chg hc (fun e => e)⟩
theorem vars_lt (h : SatE K n (fun _ => True) room w0 mb fs nx W o m V) : ∀ v ∈ m.d.vars, v < n := by
 intro v hv;obtain ⟨i, hi, e2⟩ := List.getElem_of_mem hv;have h1 := (h.ok.store.vlt i hi).1;rw [show m.d.vars.getD i 0 = v by simp [List.getD, hi, e2], h.vars] at h1;exact h1
end
open Go.RowKit
theorem tops_walk (q : AskD) (ao ae ap : Option Addr) (co ce cp : Nat) (zf : Int) (w : World) (h : AskAt w q ao ae ap) :
 Calls Tryz.prog 5 #[askV q ao ae ap co ce cp, .int .i64 zf] w fun y w' => y = .returned (.bool true) /\ Below w.heap.size w w' := by
 have HSM : Hid (∀ W, Below w.heap.size w W -> ∀ u, u = askV q ao ae ap co ce cp -> Calls Tryz.prog 12 #[u] W fun y w' => ∃ b, y = .returned (.bool b) /\ (b = true -> SmallP q) /\ Below W.heap.size W w') := Lib.hid fun W hb u hu => by subst hu; exact small_any q ao ae ap co ce cp W (h.below hb)
 have HST : Hid (∀ W n, Below w.heap.size w W -> SmallP q -> q.vars = (n : Nat) -> ∀ u, u = askV q ao ae ap co ce cp -> Calls Tryz.prog 23 #[u] W (SetP iteLaw q n W)) := Lib.hid fun W n hb hs hn u hu => by subst hu; exact setup_any iteLaw_ok q ao ae ap co ce cp W (h.below hb) hs n hn
 obtain ⟨vars, hvars⟩ : ∃ z, z = q.vars := ⟨_, rfl⟩;have HV := Lib.hid hvars;obtain ⟨plen, hplen⟩ : ∃ z, z = q.plan.length := ⟨_, rfl⟩;have HPL := Lib.hid hplen;unfold askV at HSM HST ⊢;rw [<- hvars, <- hplen] at HSM HST ⊢;obtain ⟨olen, holen⟩ : ∃ z, z = q.order.length := ⟨_, rfl⟩;obtain ⟨elen, helen⟩ : ∃ z, z = q.es.length := ⟨_, rfl⟩;rw [<- holen, <- helen] at HSM HST ⊢;obtain ⟨w1, hw1⟩ : ∃ w1, w1 = w.alloc (.cells #[.int .i64 vars, .slice ao olen co, .slice ae elen ce, .slice ap plen cp] 26) := ⟨_, rfl⟩;have HW1 : Hid (_ = w1) := Lib.hid hw1.symm;have HB1 : Hid (Below w.heap.size w w1) := by rw [hw1]; exact Lib.hid (below_new1 _ _)
 have hblk : w1.heap[w.heap.size]? = some (.cells #[.int .i64 vars, .slice ao olen co, .slice ae elen ce, .slice ap plen cp] 26 (0, 0)) := by rw [hw1]; exact heap_alloc_new _ _
 have d0 : w1.cell? ⟨w.heap.size, 0, none⟩ = some (.int .i64 vars) := by rw [cell_of_row _ _ 0 _ _ _ hblk]; rfl
 have d1 : w1.cell? ⟨w.heap.size, 1, none⟩ = some (.slice ao olen co) := by rw [cell_of_row _ _ 1 _ _ _ hblk]; rfl
 have d2 : w1.cell? ⟨w.heap.size, 2, none⟩ = some (.slice ae elen ce) := by rw [cell_of_row _ _ 2 _ _ _ hblk]; rfl
 have d3 : w1.cell? ⟨w.heap.size, 3, none⟩ = some (.slice ap plen cp) := by rw [cell_of_row _ _ 3 _ _ _ hblk]; rfl
 clear h hw1 hblk hvars hplen holen helen
 go_enter Tryz.func5, Tryz.ntmps5
 go_upto_region 1 with fail;rw [HW1.out];go_wp2_with fail;refine (HSM.out _ HB1.out _ rfl).mono ?_;rintro y w2 ⟨b, rfl, hb, hbel⟩;have HB := Lib.hid hb;have HBEL := Lib.hid (HB1.out.trans (hbel.mono HB1.out.size));have e0 := (hbel.cell (p := ⟨w.heap.size, 0, none⟩) (lt_of_cell d0)).trans d0;have e1 := (hbel.cell (p := ⟨w.heap.size, 1, none⟩) (lt_of_cell d1)).trans d1;have e2 := (hbel.cell (p := ⟨w.heap.size, 2, none⟩) (lt_of_cell d2)).trans d2;have e3 := (hbel.cell (p := ⟨w.heap.size, 3, none⟩) (lt_of_cell d3)).trans d3;have HLV := Lib.hid (lives13b w2);clear hb hbel HSM d0 d1 d2 d3 HW1;cases b with
 | false =>
   go_wp2_with fail;refine HLV.out.mono ?_;rintro y w3 ⟨rfl, hb3⟩;have HB3 := Lib.hid (HBEL.out.trans (hb3.mono HBEL.out.size));clear hb3;go_wp2_with fail;go_ret;exact ⟨rfl, HB3.out⟩
 | true =>
   have HSP := Lib.hid (HB.out (by first | rfl | trivial));obtain ⟨n, hn⟩ : ∃ n : Nat, vars = (n : Nat) := ⟨vars.toNat, by have := HSP.out.lo; have := HV.out; omega⟩;subst hn;have hn6 : n <= 6 := by have := HSP.out.hi; have := HV.out; omega
   have hes : q.es.length <= 5 := HSP.out.es;have HSET := Lib.hid (HST.out w2 n HBEL.out HSP.out rfl _ rfl);clear HST HLV HB;go_wp2_with fail;refine HSET.out.mono ?_;rintro y w3 ⟨mb, vl, vx, wb, hs, nx, rfl, hbw, hsnd, hnx, o3, m3, V3, lt3⟩;have hhl : hs.length <= 5 := by have := congrArg List.length hsnd; simp at this; omega
   obtain ⟨al, cl, hvl⟩ : ∃ a c, vl = .slice a hs.length c := by
    obtain ⟨a, c, e, _⟩ := lt3.l.own.slice;exact ⟨a, c, by rw [e]; simp [intsV]⟩
   subst hvl;have HSUB : Hid (∀ p ∈ hs, p ∈ two ++ hs) := Lib.hid fun p hp => List.mem_append_right _ hp
   have hfl : (two ++ hs).length = 2 + hs.length := by simp [two]; omega
   have HROOM : Hid (∀ k, k <= 192 -> k * 2 ^ n <= roomOf n) := Lib.hid fun k hk => roomOf_many hk
   have c0 := (hbw.cell (p := ⟨w.heap.size, 0, none⟩) (lt_of_cell e0)).trans e0;have c3 := (hbw.cell (p := ⟨w.heap.size, 3, none⟩) (lt_of_cell e3)).trans e3;have f0 := (lt3.below0.cell (p := ⟨w.heap.size, 0, none⟩) (lt_of_cell c0)).trans c0;have HBB : Hid (Below w.heap.size w wb) := Lib.hid (HBEL.out.trans (hbw.mono HBEL.out.size));have HRG : Hid (∀ p ∈ two ++ hs, p.1 < nx) := Lib.hid fun p hp => (lt3.sat.range p hp).2
   have HRM : Hid (roomOf n = roomOf n) := Lib.hid rfl;have HL := Lib.hid ((lt3.withOd (Od' := fun _ => True) trivial).withSt (Wt' := fun ws _ => ws = q.plan) lt3.st.1);have HONE := Lib.hid (one_law HL.out HSUB.out (by omega) (by omega) zf);clear lt3 hbw hsnd HSET e0 e1 e2 e3;go_wp2_with fail;refine HONE.out.mono ?_;rintro y wA ⟨kh, F, rt, rfl, hm1, hf1, hbA⟩;have HLA := Lib.hid (HL.out.below hbA);have HFA := Lib.hid hf1;have HM := Lib.hid hm1;obtain ⟨l0, hl0⟩ : ∃ l0, l0 = m3.d.vars := ⟨_, rfl⟩;have HAT : Hid (AtS q.plan l0 m3) := Lib.hid ⟨HLA.out.st, hl0.symm⟩;have HT : Hid (TopI iteLaw n (roomOf n) wb mb (two ++ hs) nx o3 wA wA o3 m3 V3) := Lib.hid ⟨HLA.out.sat, ChgX.of_below (Below.refl _ _) o3 NoB⟩;have HW0 : Hid (wb.heap.size <= wA.heap.size) := Lib.hid HLA.out.below0.size;clear hf1 hbA hm1 HONE HL f0 hl0;obtain ⟨tv, htv⟩ : ∃ tv, tv = topR n F l0 := ⟨_, rfl⟩;have HTV := Lib.hid htv;obtain ⟨hb3, k1, k2, k3⟩ := box3_ok kh 0 0 wA;have m2 : (box3 kh 0 0 wA).heap[wA.heap.size + 1]? = some (.cells #[.int .i64 0] 3 (0, 0)) := (Go.heap_alloc_old _ _ (by simp)).trans (by have := heap_alloc_new (wA.alloc (.cells #[.int .i64 kh] 3)) (.cells #[.int .i64 0] 3); rw [World.size_alloc] at this; exact this);have m3' : (box3 kh 0 0 wA).heap[wA.heap.size + 1 + 1]? = some (.cells #[.int .i64 0] 3 (0, 0)) := by
    have := heap_alloc_new ((wA.alloc (.cells #[.int .i64 kh] 3)).alloc (.cells #[.int .i64 0] 3)) (.cells #[.int .i64 0] 3);rw [World.size_alloc, World.size_alloc] at this;exact this
   have hDO := tops_do1 iteLaw_ok (HT.out.below hb3) HAT.out (HT.out.box (Nat.le_refl _) k1) (HT.out.box (Nat.le_succ _) k2) (HT.out.box (by omega) k3) m2 m3' ⟨by omega, by omega, by omega⟩ HW0.out HM.out (by omega);rw [<- htv] at hDO;have HDO := Lib.hid hDO;have HW3 : Hid (_ = box3 kh 0 0 wA) := Lib.hid (show ((wA.alloc (.cells #[.int .i64 kh] 3)).alloc (.cells #[.int .i64 0] 3)).alloc (.cells #[.int .i64 0] 3) = box3 kh 0 0 wA from rfl);clear hb3 k1 k2 k3 m2 m3' hDO htv HT HAT;go_wp2_with fail;rw [HW3.out];refine HDO.out.mono ?_;rintro y w8 ⟨rfl, o8, m8, V8, G8, lv, t8, a8, x1, x2, x3, q1, q2⟩;have HQ1 := Lib.hid q1;have HQ2 := Lib.hid q2;have HA8 := Lib.hid a8;have hb9 := below_new1 w8 (.cells #[.int .i64 nx] 3);obtain ⟨w9, hw9⟩ : ∃ w9, w9 = w8.alloc (.cells #[.int .i64 nx] 3) := ⟨_, rfl⟩;have HW9 : Hid (_ = w9) := Lib.hid hw9.symm;have e9 : w9.cell? ⟨w8.heap.size, 0, none⟩ = some (.int .i64 nx) := by rw [hw9]; exact cell1 (heap_alloc_new _ _)
   rw [<- hw9] at hb9;have HT9 := Lib.hid (t8.below hb9);have HX1 := Lib.hid (x1.below hb9);have HX2 := Lib.hid (x2.below hb9);have HX3 := Lib.hid (x3.below hb9);have HX4 := Lib.hid (t8.box (Nat.le_refl _) e9);obtain ⟨b13, hb13⟩ : ∃ b, b = w8.heap.size := ⟨_, rfl⟩;have HN13 : Hid (wA.heap.size + 3 <= b13) := Lib.hid (by have := x3.lt; omega);rw [<- hb13] at HX4;have HPN := Lib.hid (plan_none HT9.out (by rw [HA8.out.1]; have := HSP.out.plan; omega));clear q1 q2 a8 hw9 e9 hb9 t8 x1 x2 x3 HDO HW3;go_upto_region 9 with fail;rw [HW9.out, <- hb13];clear hb13 HW9;go_wp2_with fail;refine HPN.out.mono ?_;rintro y w10 ⟨rfl, o10, m10, t10, a10, v10, hx10⟩;have HA10 : Hid (AtS q.plan l0 m10) := Lib.hid ⟨a10.trans HA8.out.1, v10.trans HA8.out.2⟩;have HWT := Lib.hid (manWaits_any t10.sat.is);rw [HA10.out.1, <- HPL.out] at HWT;have HY1 := Lib.hid (hx10 _ _ HX1.out);have HY2 := Lib.hid (hx10 _ _ HX2.out);have HY3 := Lib.hid (hx10 _ _ HX3.out);have HY4 := Lib.hid (hx10 _ _ HX4.out);have HD2 := Lib.hid (tops_do2 iteLaw_ok t10 HA10.out HY1.out HW0.out (List.mem_append_left _ HM.out) (by omega));clear t10 a10 v10 hx10 HX1 HX2 HX3 HX4 HA8 HT9 HPN;go_wp2_with fail;refine HWT.out.mono ?_;rintro y w' ⟨rfl, rfl⟩;go_wp2_with fail;refine HD2.out.mono ?_;rintro y w12 ⟨rfl, o12, m12, V12, G12, t12, a12, z1, hx12, q1, q2⟩;have HQ3 := Lib.hid q1;have HQ4 := Lib.hid q2;rw [<- HTV.out] at HQ3 HQ4;have HA12 := Lib.hid a12;have hb14 := below_new1 w12 (.cells #[.int .i64 (nx + 1)] 3);obtain ⟨w13, hw13⟩ : ∃ w13, w13 = w12.alloc (.cells #[.int .i64 (nx + 1)] 3) := ⟨_, rfl⟩;have HW13 : Hid (_ = w13) := Lib.hid hw13.symm;have e13 : w13.cell? ⟨w12.heap.size, 0, none⟩ = some (.int .i64 (nx + 1)) := by rw [hw13]; exact cell1 (heap_alloc_new _ _)
   rw [<- hw13] at hb14;have n1 : wA.heap.size + 1 ≠ wA.heap.size := by omega
   have n2 : wA.heap.size + 1 + 1 ≠ wA.heap.size := by omega
   have n3 : b13 ≠ wA.heap.size := by have := HN13.out; omega
   have HX1 := Lib.hid (z1.below hb14);have HX2 := Lib.hid ((hx12 _ _ n1 HY2.out).below hb14);have HX3 := Lib.hid ((hx12 _ _ n2 HY3.out).below hb14);have HX4 := Lib.hid ((hx12 _ _ n3 HY4.out).below hb14);have HX5 := Lib.hid (t12.box (Nat.le_refl _) e13);obtain ⟨b16, hb16⟩ : ∃ b, b = w12.heap.size := ⟨_, rfl⟩;have HN16 : Hid (b13 < b16) := Lib.hid (by have := (hx12 _ _ n3 HY4.out).lt; omega);rw [<- hb16] at HX5
   have HTN : Hid (tv < n) := Lib.hid (by
    by_cases h0 : 0 <= tv
    ·
     exact (HQ2.out h0).2.2.2.2
    ·
     omega)
   have HEQ : Hid ((if tv < 0 then F else iteFn (varF tv.toNat) G12 G8) = F) := Lib.hid (by
    split
    ·
     rfl
    ·
     rw [(HQ2.out (by omega)).1, HQ4.out (by omega)];exact cofs_back F _)
   have HD3 := Lib.hid (tops_do3 iteLaw_ok (t12.below hb14) HA12.out HX2.out HX1.out HX5.out HX4.out HW0.out (List.mem_append_left _ (List.mem_append_left _ HM.out)) (by simp) (by simp) HTN.out HEQ.out (by have := HROOM.out (2 + hs.length + 1 + 1 + 1) (by omega); simp only [List.length_append, List.length_singleton, hfl] at this ⊢; exact this) (by omega));clear q1 q2 a12 hw13 e13 hb14 t12 z1 hx12 n1 n2 n3 HY1 HY2 HY3 HY4 HA10 HWT HD2 HX1;go_upto_region 13 with fail;rw [HW13.out, <- hb16];clear hb16 HW13;go_wp2_with fail;refine HD3.out.mono ?_;rintro y w14 ⟨rfl, o14, m14, V14, t14, a14, z2, z5, z4, hx14⟩
   have HS : Hid (∀ W, Below w14.heap.size w14 W -> LawT iteLaw n (fun _ => True) (roomOf n) wb mb ((((two ++ hs) ++ [(nx, G8)]) ++ [(nx + 1, G12)]) ++ [(nx + 1 + 1, F)]) (nx + 1 + 1 + 1) (fun _ _ => True) hs hs W o14 m14 V14 (.slice al hs.length cl) vx /\ LawF W o14 rt (tabB n F) /\
    W.cell? ⟨wA.heap.size + 1, 0, none⟩ = some (.int .i64 tv) /\ W.cell? ⟨wA.heap.size + 1 + 1, 0, none⟩ = some (.int .i64 lv) /\ W.cell? ⟨b13, 0, none⟩ = some (.int .i64 nx) /\ W.cell? ⟨b16, 0, none⟩ = some (.int .i64 (nx + 1)) /\ W.cell? ⟨w.heap.size, 3, none⟩ = some (.slice ap plen cp) /\ Below w.heap.size w W) := Lib.hid fun W hb => by
    have x3 := hx14 _ _ (by omega) (by omega) (by have := HN13.out; have := HN16.out; omega) (by have := HN13.out; omega) HX3.out;have L := (HLA.out.go (Wt' := fun _ _ => True) t14.sat (((HLA.out.b2.app _).app _).app _) trivial t14.chg).below hb;exact ⟨L, (HFA.out.chg t14.chg).chg (chg_below hb o14), (z2.below hb).cell, (x3.below hb).cell, (z4.below hb).cell, (z5.below hb).cell, (L.below0.cell (p := ⟨w.heap.size, 3, none⟩) (lt_of_cell c3)).trans c3, HBB.out.trans (L.below0.mono HBB.out.size)⟩
   have HFB : Hid (∀ W, Below w14.heap.size w14 W -> Below w.heap.size w W) := Lib.hid fun W hb => (HS.out W hb).2.2.2.2.2.2.2
   have HA14 := Lib.hid a14;have HVL := Lib.hid (vars_lt t14.sat);obtain ⟨hL14, hF14, _⟩ := HS.out w14 (Below.refl _ _);obtain ⟨ta, tc, rfl, hba⟩ := hF14.tab;have HBA : Hid (∀ W, Below w14.heap.size w14 W -> BoolsAt W ta (tabB n F)) := Lib.hid fun W hb => hba.below hb
   have hor := order_law hL14;have HWT : Hid (∀ W, Below w14.heap.size w14 W -> Calls Tryz.prog 30 #[.pointer (some ⟨mb, 0, none⟩)] W fun x w' => x = .returned (.int .i64 m14.waits.length) /\ W = w') := Lib.hid fun W hb => manWaits_any (HS.out W hb).1.sat.is
   obtain ⟨wl, hwl⟩ : ∃ wl, wl = m14.waits.length := ⟨_, rfl⟩;obtain ⟨l14, hl14⟩ : ∃ l, l = m14.d.vars := ⟨_, rfl⟩;rw [<- hwl] at HWT;rw [<- hl14] at HVL hor;have HOR := Lib.hid hor;have hwp : wl <= plen := by
    have := HA14.out.1.length_le;have := HPL.out;omega
   have HEQL : Hid (wl = plen -> l14 = l0 /\ m14.d.vars = l0) := Lib.hid fun e => by
    have h1 : m14.waits = q.plan := HA14.out.1.eq_of_length (by rw [<- hwl, e]; exact HPL.out);exact ⟨hl14.trans (HA14.out.2 h1), HA14.out.2 h1⟩
   clear t14 a14 z2 z5 z4 hx14 hL14 hF14 hba hor hwl hl14 HX2 HX3 HX4 HX5 HD3 HEQ HA12 HLA HFA HA14;go_wp2_with fail;refine HOR.out.mono ?_;rintro y w15 ⟨oa, oc, rfl, hll, hoi, _, hb15⟩;have HTP := refTop_tab n F l14 (by omega) HVL.out (by omega) ta oa tc oc w15 (HBA.out _ hb15) hoi;rw [hll] at HTP;have HTP := Lib.hid HTP;have HB15 := Lib.hid hb15;obtain ⟨tz, htz⟩ : ∃ tz, tz = topR n F l14 := ⟨_, rfl⟩;rw [<- htz] at HTP;have HTZ := Lib.hid htz;clear hoi hll hb15 htz HOR;go_wp2_with fail;refine HTP.out.mono ?_;rintro y w16 ⟨rfl, hb16⟩;have HB16 := Lib.hid (HB15.out.trans (hb16.mono HB15.out.size));have HIS := Lib.hid (is_any (HS.out _ HB16.out).1.sat (by omega) (k := nx + 1 + 1) (F := F) (by simp) (HS.out _ HB16.out).2.1.is);clear hb16 HTP HB15;go_wp2_with fail;refine HIS.out.mono ?_;rintro y w17 ⟨b, rfl, hb, hb17⟩;obtain rfl := hb.2 (by first | rfl | trivial);have HB17 := Lib.hid (HB16.out.trans (hb17.mono HB16.out.size));obtain ⟨_, _, y1, y2, y3, y4, y5, _⟩ := HS.out _ HB17.out;have HW17 := Lib.hid (HWT.out _ HB17.out);clear hb hb17 HIS HB16 c3;rcases Nat.lt_or_ge wl plen with hlt | hge
   ·
    have HLV := Lib.hid (lives13b w17);have hlz : (wl : Int) < (plen : Int) := by omega
    clear hlt hwp;go_wp2_with fail;refine HW17.out.mono ?_;rintro y w' ⟨rfl, rfl⟩;go_wp2_with fail;refine HLV.out.mono ?_;rintro y w18 ⟨rfl, hb18⟩;have HB18 := Lib.hid (HB17.out.trans (hb18.mono HB17.out.size));have HALL := Lib.hid (all_any (HS.out _ HB18.out).1.sat (by omega) ((HS.out _ HB18.out).1.row (fun p hp => by simp [HSUB.out p hp, hp]) (by omega)));clear hb18 HLV;go_wp2_with fail;refine HALL.out.mono ?_;rintro y w19 ⟨rfl, hb19⟩;have HFN := Lib.hid (HS.out _ (HB18.out.trans (hb19.mono HB18.out.size))).2.2.2.2.2.2.2;clear hb19 HALL;go_wp2_with fail;go_ret;exact ⟨rfl, HFN.out⟩
   ·
    obtain rfl : wl = plen := by omega
    have HLL := Lib.hid (HEQL.out rfl).1;obtain rfl : tz = tv := by rw [HTZ.out, HTV.out, HLL.out]
    have hlz : ¬ (wl : Int) < (wl : Int) := by omega
    clear hge hwp;rcases Int.lt_or_le tz 0 with ht0 | ht0
    ·
     obtain ⟨rfl, rfl⟩ := HQ1.out ht0;have HG := Lib.hid (HQ3.out ht0);have HLV := Lib.hid (lives13b w17);go_wp2_with fail;refine HW17.out.mono ?_;rintro y w' ⟨rfl, rfl⟩;go_wp2_with fail;refine HLV.out.mono ?_;rintro y w18 ⟨rfl, hb18⟩;have HB18 := Lib.hid (HB17.out.trans (hb18.mono HB17.out.size));obtain ⟨h1, h2, x1, x2, x3, x4, x5, _⟩ := HS.out _ HB18.out;have HIS := Lib.hid (is_any h1.sat (by omega) (k := nx) (F := G8) (by simp) h2.is);clear hb18 h1 h2 y1 y2 y3 y4 y5 HLV;go_wp2_with fail;refine HIS.out.mono ?_;rintro y w19 ⟨b, rfl, hb, hb19⟩;obtain rfl := hb.2 (by first | rfl | trivial);have HB19 := Lib.hid (HB18.out.trans (hb19.mono HB18.out.size));obtain ⟨h1, h2, y1, y2, y3, y4, y5, _⟩ := HS.out _ HB19.out;have HIS2 := Lib.hid (is_any h1.sat (by omega) (k := nx + 1) (F := G12) (by simp) h2.is);clear hb hb19 h1 h2 x1 x2 x3 x4 x5 HIS;go_wp2_with fail;refine HIS2.out.mono ?_;rintro y w20 ⟨b, rfl, hb, hb20⟩;obtain rfl := hb.2 (by rw [HG.out]);have HFN := Lib.hid (HS.out _ (HB19.out.trans (hb20.mono HB19.out.size))).2.2.2.2.2.2.2;clear hb hb20 HIS2;go_wp2_with fail;go_ret;exact ⟨rfl, HFN.out⟩
    ·
     obtain ⟨tn, rfl⟩ : ∃ t : Nat, tz = t := ⟨tz.toNat, by omega⟩;obtain ⟨q1, q2, q3, q4, q5⟩ := HQ2.out ht0;have q6 := HQ4.out ht0;obtain ⟨j, rfl⟩ : ∃ j : Nat, lv = j := ⟨lv.toNat, by omega⟩;rw [Int.toNat_natCast] at q1 q4 q6;have HG8 := Lib.hid q1;have HG12 := Lib.hid q6;have hj4 : l0.getD j 0 = tn := by omega
     have HJ := Lib.hid hj4;have hor := order_law (HS.out _ HB17.out).1;rw [(HEQL.out rfl).2] at hor;have HOR := Lib.hid hor;have htn0 : ¬ (tn : Int) < 0 := by omega
     have htn : tn < n := by omega
     have hjn : j < n := by omega
     have hjz : (j : Int) < (n : Int) := by omega
     clear q1 q2 q3 q4 q5 q6 ht0 hj4 hor;go_wp2_with fail;refine HW17.out.mono ?_;rintro y w' ⟨rfl, rfl⟩;go_wp2_with fail;refine HOR.out.mono ?_;rintro y w18 ⟨oa2, oc2, rfl, hll, hoi, _, hb18⟩;obtain ⟨ob, of, rfl, hcell⟩ := hoi.cells j (by rw [List.length_map]; omega);rw [at0_nat (by omega), HJ.out] at hcell;have HB18 := Lib.hid (HB17.out.trans (hb18.mono HB17.out.size));have HSS : Hid (∀ W, Below w18.heap.size w18 W -> W.cell? ⟨wA.heap.size + 1, 0, none⟩ = some (.int .i64 (tn : Nat)) /\ W.cell? ⟨wA.heap.size + 1 + 1, 0, none⟩ = some (.int .i64 (j : Nat)) /\ W.cell? ⟨b13, 0, none⟩ = some (.int .i64 nx) /\ W.cell? ⟨b16, 0, none⟩ = some (.int .i64 (nx + 1)) /\ W.cell? ⟨ob, of + j, none⟩ = some (.int .i64 (tn : Nat))) := Lib.hid fun W hb => by
      obtain ⟨_, _, x1, x2, x3, x4, _, _⟩ := HS.out _ (HB18.out.trans (hb.mono HB18.out.size));exact ⟨x1, x2, x3, x4, (hb.cell (p := ⟨ob, of + j, none⟩) (lt_of_cell hcell)).trans hcell⟩
     have HCF : Hid (∀ W b, Below w18.heap.size w18 W -> Calls Tryz.prog 43 #[.slice ta (2 ^ n) tc, .int .i64 (tn : Nat), .bool b] W fun x w' => ∃ v, x = .returned v /\ BoolsIs w' v (tabB n (cofF F tn b)) /\ Below w18.heap.size w18 w') := Lib.hid fun W b hb => by
      refine (refCof_tab n F tn b (by omega) htn ta tc W (HBA.out _ (HB18.out.trans (hb.mono HB18.out.size)))).mono ?_;rintro x w' ⟨g, rfl, h1, h2⟩;exact ⟨_, rfl, h1, hb.trans (h2.mono hb.size)⟩
     have HIS : Hid (∀ W v k G, Below w18.heap.size w18 W -> (k = nx /\ G = G8 \/ k = nx + 1 /\ G = G12) -> BoolsIs W v (tabB n G) -> Calls Tryz.prog 29 #[.pointer (some ⟨mb, 0, none⟩), .int .i64 k, v] W fun x w' => x = .returned (.bool true) /\ Below w18.heap.size w18 w') := Lib.hid fun W v k G hb hk hbs => by
      refine (is_any (HS.out _ (HB18.out.trans (hb.mono HB18.out.size))).1.sat (by omega) (k := k) (F := G) (by rcases hk with ⟨rfl, rfl⟩ | ⟨rfl, rfl⟩ <;> simp) hbs).mono ?_;rintro x w' ⟨b, rfl, h1, h2⟩;obtain rfl := h1.2 (by first | rfl | trivial);exact ⟨rfl, hb.trans (h2.mono hb.size)⟩
     rw [HG8.out, HG12.out] at HIS;have hbd := below_draw w18 1;have hs18 := HSS.out _ hbd;clear hoi hcell hll hb18 HOR HW17 HS HBA y1 y2 y3 y4 y5;go_upto_region 24 with fail;refine wp_region_mix (fun W : World => W.cell? ⟨wA.heap.size + 1, 0, none⟩ = some (.int .i64 (tn : Nat)) /\ W.cell? ⟨wA.heap.size + 1 + 1, 0, none⟩ = some (.int .i64 (j : Nat)) /\ W.cell? ⟨b13, 0, none⟩ = some (.int .i64 nx) /\ W.cell? ⟨b16, 0, none⟩ = some (.int .i64 (nx + 1)) /\ W.cell? ⟨ob, of + j, none⟩ = some (.int .i64 (tn : Nat))) false 36
      [(0, true), (1, false), (2, false), (3, false), (4, false), (5, false), (6, false), (7, false), (8, false), (9, false), (10, false), (11, false), (12, false), (13, false), (14, false), (15, false), (16, false), (17, false), (18, false), (19, false), (20, false), (21, false), (22, false), (23, false), (24, true), (25, true), (26, false), (27, false), (28, false), (29, false), (30, false), (31, false), (32, true), (33, true), (34, false), (35, false)] (by kernel_rfl) (by kernel_rfl) hs18 ?_
     simp only [planned, plnLz];refine mix_callR (R := fun v w' => v = .bool true /\ Below w18.heap.size w18 w') rfl (by go_simp) ((lives13b w18.drew).mono (fun e w' he => ?_)) ?_
     ·
      obtain ⟨rfl, hb⟩ := he;have hb' := hbd.trans (hb.mono hbd.size);exact ⟨_, rfl, HSS.out _ hb', rfl, hb'⟩
     rintro v w19 - ⟨rfl, hb19⟩;simp only [putLz]
     iterate 1
      refine mix_readE rfl ?_;apply Exists.intro;refine ⟨fun w' hw => ?_, ?_⟩
      ·
       obtain ⟨h1, h2, h3, h4, h5⟩ := hw;go_simp;rfl
      simp only [putLz]
     iterate 2
      refine mix_readGE true (by go_simp) ?_;apply Exists.intro;refine ⟨fun hgd w' hw => ?_, ?_⟩
      ·
       obtain ⟨h1, h2, h3, h4, h5⟩ := hw;go_simp;rfl
      simp only [putLz]
     iterate 2
      refine mix_readE rfl ?_;apply Exists.intro;refine ⟨fun w' hw => ?_, ?_⟩
      ·
       obtain ⟨h1, h2, h3, h4, h5⟩ := hw;go_simp;rfl
      simp only [putLz]
     iterate 4
      refine mix_readGE true (by go_simp) ?_;apply Exists.intro;refine ⟨fun hgd w' hw => ?_, ?_⟩
      ·
       obtain ⟨h1, h2, h3, h4, h5⟩ := hw;go_simp;rfl
      simp only [putLz]
     iterate 2
      refine mix_readE rfl ?_;apply Exists.intro;refine ⟨fun w' hw => ?_, ?_⟩
      ·
       obtain ⟨h1, h2, h3, h4, h5⟩ := hw;go_simp;rfl
      simp only [putLz]
     iterate 6
      refine mix_readGE true (by go_simp) ?_;apply Exists.intro;refine ⟨fun hgd w' hw => ?_, ?_⟩
      ·
       obtain ⟨h1, h2, h3, h4, h5⟩ := hw;go_simp;rfl
      simp only [putLz]
     iterate 2
      refine mix_readE rfl ?_;apply Exists.intro;refine ⟨fun w' hw => ?_, ?_⟩
      ·
       obtain ⟨h1, h2, h3, h4, h5⟩ := hw;go_simp;rfl
      simp only [putLz]
     iterate 4
      refine mix_readGE true (by go_simp) ?_;apply Exists.intro;refine ⟨fun hgd w' hw => ?_, ?_⟩
      ·
       obtain ⟨h1, h2, h3, h4, h5⟩ := hw;go_simp;rfl
      simp only [putLz]
     refine mix_callGR (R := fun v w' => BoolsIs w' v (tabB n (cofF F tn false)) /\ Below w18.heap.size w18 w') (by go_simp) (by go_simp) ((HCF.out _ false hb19).mono (fun e w' he => ?_)) ?_
     ·
      obtain ⟨v, rfl, h1, h2⟩ := he;exact ⟨_, rfl, HSS.out _ h2, h1, h2⟩
     rintro v w20 - ⟨hbs20, hb20⟩;have HI20 := Lib.hid (HIS.out w20 v _ _ hb20 (.inl ⟨rfl, rfl⟩) hbs20);clear hbs20 hb19;simp only [putLz];refine mix_callGR (R := fun v w' => v = .bool true /\ Below w18.heap.size w18 w') (by go_simp) (by go_simp) (HI20.out.mono (fun e w' he => ?_)) ?_
     ·
      obtain ⟨rfl, h2⟩ := he;exact ⟨_, rfl, HSS.out _ h2, rfl, h2⟩
     rintro v2 w21 - ⟨rfl, hb21⟩;simp only [putLz]
     iterate 2
      refine mix_readE rfl ?_;apply Exists.intro;refine ⟨fun w' hw => ?_, ?_⟩
      ·
       obtain ⟨h1, h2, h3, h4, h5⟩ := hw;go_simp;rfl
      simp only [putLz]
     iterate 4
      refine mix_readGE true (by go_simp) ?_;apply Exists.intro;refine ⟨fun hgd w' hw => ?_, ?_⟩
      ·
       obtain ⟨h1, h2, h3, h4, h5⟩ := hw;go_simp;rfl
      simp only [putLz]
     refine mix_callGR (R := fun v w' => BoolsIs w' v (tabB n (cofF F tn true)) /\ Below w18.heap.size w18 w') (by go_simp) (by go_simp) ((HCF.out _ true hb21).mono (fun e w' he => ?_)) ?_
     ·
      obtain ⟨v, rfl, h1, h2⟩ := he;exact ⟨_, rfl, HSS.out _ h2, h1, h2⟩
     rintro v3 w22 - ⟨hbs22, hb22⟩;have HI22 := Lib.hid (HIS.out w22 v3 _ _ hb22 (.inr ⟨rfl, rfl⟩) hbs22);clear hbs22 hb21 hb20;simp only [putLz];refine mix_callGR (R := fun v w' => v = .bool true /\ Below w18.heap.size w18 w') (by go_simp) (by go_simp) (HI22.out.mono (fun e w' he => ?_)) ?_
     ·
      obtain ⟨rfl, h2⟩ := he;exact ⟨_, rfl, HSS.out _ h2, rfl, h2⟩
     rintro v4 w23 - ⟨rfl, hb23⟩;simp only [putLz]
     iterate 2
      refine mix_readE rfl ?_;apply Exists.intro;refine ⟨fun w' hw => ?_, ?_⟩
      ·
       obtain ⟨h1, h2, h3, h4, h5⟩ := hw;go_simp;rfl
      simp only [putLz]
     refine mix_end ?_;have HFN := Lib.hid (HFB.out _ (HB18.out.trans (hb23.mono HB18.out.size)));clear hb22 hb23 hbd hs18;go_wp2_with fail;go_ret;exact ⟨rfl, HFN.out⟩
end Go.Proofs.YtchliiaknmknhaaGreat
