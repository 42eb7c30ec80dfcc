/- Several texts in one file: contracts of the program's functions and what follows from them. -/
import Derived.Test.YtmofaapnkidioaaGreatE2
import Derived.Deep.CutBlock
import Derived.RangeFuncNested
import Derived.RangeFuncBound
import Derived.RangeFuncCalls
import Derived.RangeFuncLeaves
import Derived.RangeFuncWrites
import Derived.Shelf.Abstract
import Derived.Shelf.RegionOpen
import Derived.OwnWalkIn
import Derived.TacticsInMore
import Derived.LoopNIn
import Derived.LoopIn
import Derived.Recover
import Derived.Defers
set_option linter.unusedSimpArgs false
set_option linter.unusedVariables false
set_option linter.unusedSectionVars false
set_option linter.unnecessarySimpa false
set_option maxRecDepth 100000
set_option maxHeartbeats 8000000
namespace Go.Proofs.YtmofaapnkidioaaGreat
open Go.RowKit
def Ze7 (o:Own) (w:World) (sb:Nat) (d:Zag) (V:Nat->BF) (v:Int) (lo hi:Nat) (e:Ending) (w':World):Prop :=
 (¬ (0<=v/\v<d.vars.length)/\e=.returned (.tuple #[.int .i64 0,.int .i64 9])/\Below w.heap.size w w') \/
 (0<=v/\v<d.vars.length/\(lvE d.vars.length (levN d) (Zab d) lo<=levN d v.toNat\/lvE d.vars.length (levN d) (Zab d) hi<=levN d v.toNat)/\e=.returned (.tuple #[.int .i64 0,.int .i64 10])/\Below w.heap.size w w') \/
 (d.pool.many=d.pool.room/\e=.returned (.tuple #[.int .i64 0,.int .i64 7])/\Below w.heap.size w w') \/
 (0<=v/\v<d.vars.length/\∃ r d' V' o',e=.returned (.tuple #[.int .i64 (r:Nat),.int .i64 0])/\Zax o' w' sb d'/\Zak o' w'/\Zan d' V'/\Ext d V d' V'/\okE (Zab d') r /\
  ef V' r=iteF v.toNat (ef V hi) (ef V lo)/\levN d v.toNat<=lvE d.vars.length (levN d') (Zab d') r/\d'.pool.many<=d.pool.many+1/\Chg Zas o o' w w')
theorem Zdy {o:Own} {w:World} {sb:Nat} {d:Zag} {s:Za5} {V:Nat->BF} (h:Zao o w sb d s) (hk:Zan d V) {f:Nat} (hf:okE (Zab d) f) {lv:Nat} (hl:lv<d.vars.length) :
 (decide (enode f=0)||(d.pool.tk (enode f)&&decide ((lv:Int)<d.levelOf (d.pool.has (enode f)).v)))=decide (lv<lvE d.vars.length (levN d) (Zab d) f):=by
 unfold lvE;rcases hf with h0|⟨b,hb⟩
 ·
  have e:enode f=0:=h0;rw[h0,hk.dag.none0,e];simp[hl]
 ·
  have hn:=Za7 (i:=enode f) hb;have e0:enode f≠0:=by have:=(h.tk_lt (i:=enode f) hb).1;omega
  rw[hb,hn.1];have hv:(d.pool.has (enode f)).v=b.v:=by rw[<- hn.2.2];rfl
  have hbv:=hk.dag.var _ _ hb;rw[hv];unfold Zag.levelOf;rw[if_pos (by rw[h.len];exact hbv)];simp[e0,levN]
theorem Zj9 {d:Zag} {f:Nat} (hf:okE (Zab d) f):(decide (enode f=0)||d.pool.tk (enode f))=true:=by
 rcases hf with h0|⟨b,hb⟩
 ·
  have e:enode f=0:=h0;simp[e]
 ·
  rw[(Za7 (i:=enode f) hb).1];simp
theorem Yak {o:Own} {w:World} {sb:Nat} {d:Zag} {s:Za5} {V:Nat->BF} (h:Zao o w sb d s) (hk:Zan d V) (v:Int) (lo hi:Nat) (hv:¬ (0<=v/\v<d.vars.length)) :
 Calls Tryz.prog 148 #[.pointer (some ⟨sb,0,none⟩),.int .i64 v,.int .i64 lo,.int .i64 hi] w (Ze7 o w sb d V v lo hi):=by
 have HLV:=Hd (Zhm h v (by rw[h.len];have:=hk.small;omega));have e:Zfy d v = -1:=by unfold Zfy;rw[if_neg (by rw[h.len];exact hv)]
 rw[e] at HLV;have HV:=Hd hv;clear h hk e hv
 go_enter Tryz.func148,Tryz.ntmps148
 go_wp2_with fail;refine HLV.out.mono ?_;rintro x w' ⟨rfl,rfl⟩;go_wp2_with fail
 go_ret2
 exact .inl ⟨HV.out,rfl,Below.refl _ _⟩
theorem Ya4 {o:Own} {w:World} {sb:Nat} {d:Zag} {s:Za5} {V:Nat->BF} (h:Zao o w sb d s) (hlt:Zak o w) (hk:Zan d V) (v lo hi:Nat) (hv:v<d.vars.length) (hlo:okE (Zab d) lo) (hhi:okE (Zab d) hi) (hbad:lvE d.vars.length (levN d) (Zab d) lo<=levN d v) :
 Calls Tryz.prog 148 #[.pointer (some ⟨sb,0,none⟩),.int .i64 v,.int .i64 lo,.int .i64 hi] w (Ze7 o w sb d V v lo hi):=by
 have hll:levN d v<d.vars.length:=hk.dag.lt v hv;have hlol:=h.edge_lt hlo;have hhil:=h.edge_lt hhi;have hlom:lo<eMax:=by unfold eMax;omega
 have hhim:hi<eMax:=by unfold eMax;omega
 have hlen:d.level.length<1000000:=by rw[h.len];have:=hk.small;omega
 have HLV:Hid (∀ W:World,Below w.heap.size w W->Calls Tryz.prog 83 #[.pointer (some ⟨sb,0,none⟩),.int .i64 v] W fun x w'=>x=.returned (.int .i64 (levN d v:Nat))/\W=w'):=fun W hb=>by
  have h1:=Zca (h.below hlt hb) v hlen;unfold Zag.levelOf at h1;rw[if_pos (by rw[h.len];exact hv)] at h1;exact h1
 have HISL:Hid (∀ W:World,Below w.heap.size w W->Calls Tryz.prog 146 #[.pointer (some ⟨sb,0,none⟩),.int .i64 lo] W fun x w'=>x=.returned (.bool true)/\Below W.heap.size W w'):=fun W hb=>by
  have h1:=Zbj (h.below hlt hb) (hlt.mono hb.size) lo hlom;rw[Zj9 hlo] at h1;exact h1
 have HISH:Hid (∀ W:World,Below w.heap.size w W->Calls Tryz.prog 146 #[.pointer (some ⟨sb,0,none⟩),.int .i64 hi] W fun x w'=>x=.returned (.bool true)/\Below W.heap.size W w'):=fun W hb=>by
  have h1:=Zbj (h.below hlt hb) (hlt.mono hb.size) hi hhim;rw[Zj9 hhi] at h1;exact h1
 have HUL:Hid (∀ W:World,Below w.heap.size w W->Calls Tryz.prog 202 #[.pointer (some ⟨sb,0,none⟩),.int .i64 lo,.int .i64 (levN d v:Nat)] W fun x w'=>x=.returned (.bool (decide (levN d v<lvE d.vars.length (levN d) (Zab d) lo)))/\Below W.heap.size W w'):=fun W hb=>by
  have h1:=Zbl (h.below hlt hb) (hlt.mono hb.size) lo hlom (levN d v:Nat) hlen;rw[Zdy h hk hlo hll] at h1;exact h1
 have HUH:Hid (∀ W:World,Below w.heap.size w W->Calls Tryz.prog 202 #[.pointer (some ⟨sb,0,none⟩),.int .i64 hi,.int .i64 (levN d v:Nat)] W fun x w'=>x=.returned (.bool (decide (levN d v<lvE d.vars.length (levN d) (Zab d) hi)))/\Below W.heap.size W w'):=fun W hb=>by
  have h1:=Zbl (h.below hlt hb) (hlt.mono hb.size) hi hhim (levN d v:Nat) hlen;rw[Zdy h hk hhi hll] at h1;exact h1
 have HPOST:Hid (∀ W,Below w.heap.size w W->Ze7 o w sb d V v lo hi (.returned (.tuple #[.int .i64 0,.int .i64 10])) W):=fun W hb=>.inr (.inl ⟨by omega,by omega,.inl hbad,rfl,hb⟩)
 rw[decide_eq_false (by omega)] at HUL;obtain⟨l,hl⟩:∃ l,l=levN d v:=⟨_,rfl⟩;rw[<- hl] at HLV HUL HUH;have hl0:¬ ((l:Nat):Int)<0:=by omega
 clear h hlt hk hv hlo hhi hbad hll hlol hhil hlom hhim hlen hl
 go_enter Tryz.func148,Tryz.ntmps148
 go_wp2_with fail;refine(HLV.out _ (Below.refl _ _)).mono ?_;rintro x w' ⟨rfl,rfl⟩;go_wp2_with fail;refine(HISL.out _ (Below.refl _ _)).mono ?_;rintro x w1 ⟨rfl,hb1⟩;have HB1:=Hd hb1;clear hb1;go_wp2_with fail;refine(HISH.out _ HB1.out).mono ?_;rintro x w2 ⟨rfl,hb2⟩;have HB2:=Hd (HB1.out.trans (hb2.mono HB1.out.size));clear hb2;go_wp2_with fail;refine(HLV.out _ HB2.out).mono ?_;rintro x w' ⟨rfl,rfl⟩;go_wp2_with fail;refine(HUL.out _ HB2.out).mono ?_;rintro x w3 ⟨rfl,hb3⟩;have HB3:=Hd (HB2.out.trans (hb3.mono HB2.out.size));clear hb3;go_wp2_with fail
 go_ret2
 exact HPOST.out _ HB3.out
theorem Ya3 {o:Own} {w:World} {sb:Nat} {d:Zag} {s:Za5} {V:Nat->BF} (h:Zao o w sb d s) (hlt:Zak o w) (hk:Zan d V) (v lo hi:Nat) (hv:v<d.vars.length) (hlo:okE (Zab d) lo) (hhi:okE (Zab d) hi) (hbad:lvE d.vars.length (levN d) (Zab d) hi<=levN d v) (hgood:levN d v<lvE d.vars.length (levN d) (Zab d) lo) :
 Calls Tryz.prog 148 #[.pointer (some ⟨sb,0,none⟩),.int .i64 v,.int .i64 lo,.int .i64 hi] w (Ze7 o w sb d V v lo hi):=by
 have hll:levN d v<d.vars.length:=hk.dag.lt v hv;have hlol:=h.edge_lt hlo;have hhil:=h.edge_lt hhi;have hlom:lo<eMax:=by unfold eMax;omega
 have hhim:hi<eMax:=by unfold eMax;omega
 have hlen:d.level.length<1000000:=by rw[h.len];have:=hk.small;omega
 have HLV:Hid (∀ W:World,Below w.heap.size w W->Calls Tryz.prog 83 #[.pointer (some ⟨sb,0,none⟩),.int .i64 v] W fun x w'=>x=.returned (.int .i64 (levN d v:Nat))/\W=w'):=fun W hb=>by
  have h1:=Zca (h.below hlt hb) v hlen;unfold Zag.levelOf at h1;rw[if_pos (by rw[h.len];exact hv)] at h1;exact h1
 have HISL:Hid (∀ W:World,Below w.heap.size w W->Calls Tryz.prog 146 #[.pointer (some ⟨sb,0,none⟩),.int .i64 lo] W fun x w'=>x=.returned (.bool true)/\Below W.heap.size W w'):=fun W hb=>by
  have h1:=Zbj (h.below hlt hb) (hlt.mono hb.size) lo hlom;rw[Zj9 hlo] at h1;exact h1
 have HISH:Hid (∀ W:World,Below w.heap.size w W->Calls Tryz.prog 146 #[.pointer (some ⟨sb,0,none⟩),.int .i64 hi] W fun x w'=>x=.returned (.bool true)/\Below W.heap.size W w'):=fun W hb=>by
  have h1:=Zbj (h.below hlt hb) (hlt.mono hb.size) hi hhim;rw[Zj9 hhi] at h1;exact h1
 have HUL:Hid (∀ W:World,Below w.heap.size w W->Calls Tryz.prog 202 #[.pointer (some ⟨sb,0,none⟩),.int .i64 lo,.int .i64 (levN d v:Nat)] W fun x w'=>x=.returned (.bool (decide (levN d v<lvE d.vars.length (levN d) (Zab d) lo)))/\Below W.heap.size W w'):=fun W hb=>by
  have h1:=Zbl (h.below hlt hb) (hlt.mono hb.size) lo hlom (levN d v:Nat) hlen;rw[Zdy h hk hlo hll] at h1;exact h1
 have HUH:Hid (∀ W:World,Below w.heap.size w W->Calls Tryz.prog 202 #[.pointer (some ⟨sb,0,none⟩),.int .i64 hi,.int .i64 (levN d v:Nat)] W fun x w'=>x=.returned (.bool (decide (levN d v<lvE d.vars.length (levN d) (Zab d) hi)))/\Below W.heap.size W w'):=fun W hb=>by
  have h1:=Zbl (h.below hlt hb) (hlt.mono hb.size) hi hhim (levN d v:Nat) hlen;rw[Zdy h hk hhi hll] at h1;exact h1
 have HPOST:Hid (∀ W,Below w.heap.size w W->Ze7 o w sb d V v lo hi (.returned (.tuple #[.int .i64 0,.int .i64 10])) W):=fun W hb=>.inr (.inl ⟨by omega,by omega,.inr hbad,rfl,hb⟩)
 rw[decide_eq_true hgood] at HUL;rw[decide_eq_false (by omega)] at HUH;obtain⟨l,hl⟩:∃ l,l=levN d v:=⟨_,rfl⟩;rw[<- hl] at HLV HUL HUH;have hl0:¬ ((l:Nat):Int)<0:=by omega
 clear h hlt hk hv hlo hhi hbad hll hlol hhil hlom hhim hlen hl hgood
 go_enter Tryz.func148,Tryz.ntmps148
 go_wp2_with fail;refine(HLV.out _ (Below.refl _ _)).mono ?_;rintro x w' ⟨rfl,rfl⟩;go_wp2_with fail;refine(HISL.out _ (Below.refl _ _)).mono ?_;rintro x w1 ⟨rfl,hb1⟩;have HB1:=Hd hb1;clear hb1;go_wp2_with fail;refine(HISH.out _ HB1.out).mono ?_;rintro x w2 ⟨rfl,hb2⟩;have HB2:=Hd (HB1.out.trans (hb2.mono HB1.out.size));clear hb2;go_wp2_with fail;refine(HLV.out _ HB2.out).mono ?_;rintro x w' ⟨rfl,rfl⟩;go_wp2_with fail;refine(HUL.out _ HB2.out).mono ?_;rintro x w3 ⟨rfl,hb3⟩;have HB3:=Hd (HB2.out.trans (hb3.mono HB2.out.size));clear hb3;go_wp2_with fail;refine(HLV.out _ HB3.out).mono ?_;rintro x w' ⟨rfl,rfl⟩;go_wp2_with fail;refine(HUH.out _ HB3.out).mono ?_;rintro x w4 ⟨rfl,hb4⟩;have HB4:=Hd (HB3.out.trans (hb4.mono HB3.out.size));clear hb4;go_wp2_with fail
 go_ret2
 exact HPOST.out _ HB4.out
theorem Ya2 {o:Own} {w:World} {sb:Nat} {d:Zag} {s:Za5} {V:Nat->BF} (h:Zao o w sb d s) (hlt:Zak o w) (hk:Zan d V) (v lo hi:Nat) (hv:v<d.vars.length) (hlo:okE (Zab d) lo) (hhi:okE (Zab d) hi) (hgl:levN d v<lvE d.vars.length (levN d) (Zab d) lo) (hgh:levN d v<lvE d.vars.length (levN d) (Zab d) hi) (he:lo=hi) :
 Calls Tryz.prog 148 #[.pointer (some ⟨sb,0,none⟩),.int .i64 v,.int .i64 lo,.int .i64 hi] w (Ze7 o w sb d V v lo hi):=by
 have hll:levN d v<d.vars.length:=hk.dag.lt v hv;have hlol:=h.edge_lt hlo;have hhil:=h.edge_lt hhi;have hlom:lo<eMax:=by unfold eMax;omega
 have hhim:hi<eMax:=by unfold eMax;omega
 have hlen:d.level.length<1000000:=by rw[h.len];have:=hk.small;omega
 have HLV:Hid (∀ W:World,Below w.heap.size w W->Calls Tryz.prog 83 #[.pointer (some ⟨sb,0,none⟩),.int .i64 v] W fun x w'=>x=.returned (.int .i64 (levN d v:Nat))/\W=w'):=fun W hb=>by
  have h1:=Zca (h.below hlt hb) v hlen;unfold Zag.levelOf at h1;rw[if_pos (by rw[h.len];exact hv)] at h1;exact h1
 have HISL:Hid (∀ W:World,Below w.heap.size w W->Calls Tryz.prog 146 #[.pointer (some ⟨sb,0,none⟩),.int .i64 lo] W fun x w'=>x=.returned (.bool true)/\Below W.heap.size W w'):=fun W hb=>by
  have h1:=Zbj (h.below hlt hb) (hlt.mono hb.size) lo hlom;rw[Zj9 hlo] at h1;exact h1
 have HISH:Hid (∀ W:World,Below w.heap.size w W->Calls Tryz.prog 146 #[.pointer (some ⟨sb,0,none⟩),.int .i64 hi] W fun x w'=>x=.returned (.bool true)/\Below W.heap.size W w'):=fun W hb=>by
  have h1:=Zbj (h.below hlt hb) (hlt.mono hb.size) hi hhim;rw[Zj9 hhi] at h1;exact h1
 have HUL:Hid (∀ W:World,Below w.heap.size w W->Calls Tryz.prog 202 #[.pointer (some ⟨sb,0,none⟩),.int .i64 lo,.int .i64 (levN d v:Nat)] W fun x w'=>x=.returned (.bool (decide (levN d v<lvE d.vars.length (levN d) (Zab d) lo)))/\Below W.heap.size W w'):=fun W hb=>by
  have h1:=Zbl (h.below hlt hb) (hlt.mono hb.size) lo hlom (levN d v:Nat) hlen;rw[Zdy h hk hlo hll] at h1;exact h1
 have HUH:Hid (∀ W:World,Below w.heap.size w W->Calls Tryz.prog 202 #[.pointer (some ⟨sb,0,none⟩),.int .i64 hi,.int .i64 (levN d v:Nat)] W fun x w'=>x=.returned (.bool (decide (levN d v<lvE d.vars.length (levN d) (Zab d) hi)))/\Below W.heap.size W w'):=fun W hb=>by
  have h1:=Zbl (h.below hlt hb) (hlt.mono hb.size) hi hhim (levN d v:Nat) hlen;rw[Zdy h hk hhi hll] at h1;exact h1
 subst he
 have HPOST:Hid (∀ W,Below w.heap.size w W->Ze7 o w sb d V v lo lo (.returned (.tuple #[.int .i64 (lo:Nat),.int .i64 0])) W):=fun W hb=>.inr (.inr (.inr ⟨by omega,by omega,lo,d,V,o,rfl,⟨s,h.below hlt hb⟩,hlt.mono hb.size,hk,Ext.refl d V,hlo,by
  funext ρ;simp[iteF],Nat.le_of_lt hgl,by omega,Chg.of_below hb _ _⟩))
 rw[decide_eq_true hgl] at HUL;rw[decide_eq_true hgh] at HUH;obtain⟨l,hl⟩:∃ l,l=levN d v:=⟨_,rfl⟩;rw[<- hl] at HLV HUL HUH;have hl0:¬ ((l:Nat):Int)<0:=by omega
 clear h hlt hk hv hlo hhi hll hlol hhil hlom hhim hlen hl hgl hgh
 go_enter Tryz.func148,Tryz.ntmps148
 go_wp2_with fail;refine(HLV.out _ (Below.refl _ _)).mono ?_;rintro x w' ⟨rfl,rfl⟩;go_wp2_with fail;refine(HISL.out _ (Below.refl _ _)).mono ?_;rintro x w1 ⟨rfl,hb1⟩;have HB1:=Hd hb1;clear hb1;go_wp2_with fail;refine(HISH.out _ HB1.out).mono ?_;rintro x w2 ⟨rfl,hb2⟩;have HB2:=Hd (HB1.out.trans (hb2.mono HB1.out.size));clear hb2;go_wp2_with fail;refine(HLV.out _ HB2.out).mono ?_;rintro x w' ⟨rfl,rfl⟩;go_wp2_with fail;refine(HUL.out _ HB2.out).mono ?_;rintro x w3 ⟨rfl,hb3⟩;have HB3:=Hd (HB2.out.trans (hb3.mono HB2.out.size));clear hb3;go_wp2_with fail;refine(HLV.out _ HB3.out).mono ?_;rintro x w' ⟨rfl,rfl⟩;go_wp2_with fail;refine(HUH.out _ HB3.out).mono ?_;rintro x w4 ⟨rfl,hb4⟩;have HB4:=Hd (HB3.out.trans (hb4.mono HB3.out.size));clear hb4;go_wp2_with fail
 go_ret2
 exact HPOST.out _ HB4.out
def Zx2 (w:World) (r:Nat) (e:Ending) (w':World):Prop:=e=.returned (.tuple #[.int .i64 (r:Nat),.int .i64 0])/\Below w.heap.size w w'
theorem Zu0 {o:Own} {w:World} {sb:Nat} {d:Zag} {s:Za5} {V:Nat->BF} (h:Zao o w sb d s) (hlt:Zak o w) (hk:Zan d V) (v lo hi:Nat) (hv:v<d.vars.length) (hlo:okE (Zab d) lo) (hhi:okE (Zab d) hi) (hgl:levN d v<lvE d.vars.length (levN d) (Zab d) lo) (hgh:levN d v<lvE d.vars.length (levN d) (Zab d) hi) (he:lo≠hi) (id:Nat) (hid:d.tab v (eflip lo (eneg hi),eflip hi (eneg hi))=some id) :
 Calls Tryz.prog 148 #[.pointer (some ⟨sb,0,none⟩),.int .i64 v,.int .i64 lo,.int .i64 hi] w (Zx2 w (eflip (2*id) (eneg hi))):=by
 have hll:levN d v<d.vars.length:=hk.dag.lt v hv;have hlol:=h.edge_lt hlo;have hhil:=h.edge_lt hhi;have hlom:lo<eMax:=by unfold eMax;omega
 have hhim:hi<eMax:=by unfold eMax;omega
 have hlen:d.level.length<1000000:=by rw[h.len];have:=hk.small;omega
 have HLV:Hid (∀ W:World,Below w.heap.size w W->Calls Tryz.prog 83 #[.pointer (some ⟨sb,0,none⟩),.int .i64 v] W fun x w'=>x=.returned (.int .i64 (levN d v:Nat))/\W=w'):=fun W hb=>by
  have h1:=Zca (h.below hlt hb) v hlen;unfold Zag.levelOf at h1;rw[if_pos (by rw[h.len];exact hv)] at h1;exact h1
 have HISL:Hid (∀ W:World,Below w.heap.size w W->Calls Tryz.prog 146 #[.pointer (some ⟨sb,0,none⟩),.int .i64 lo] W fun x w'=>x=.returned (.bool true)/\Below W.heap.size W w'):=fun W hb=>by
  have h1:=Zbj (h.below hlt hb) (hlt.mono hb.size) lo hlom;rw[Zj9 hlo] at h1;exact h1
 have HISH:Hid (∀ W:World,Below w.heap.size w W->Calls Tryz.prog 146 #[.pointer (some ⟨sb,0,none⟩),.int .i64 hi] W fun x w'=>x=.returned (.bool true)/\Below W.heap.size W w'):=fun W hb=>by
  have h1:=Zbj (h.below hlt hb) (hlt.mono hb.size) hi hhim;rw[Zj9 hhi] at h1;exact h1
 have HUL:Hid (∀ W:World,Below w.heap.size w W->Calls Tryz.prog 202 #[.pointer (some ⟨sb,0,none⟩),.int .i64 lo,.int .i64 (levN d v:Nat)] W fun x w'=>x=.returned (.bool (decide (levN d v<lvE d.vars.length (levN d) (Zab d) lo)))/\Below W.heap.size W w'):=fun W hb=>by
  have h1:=Zbl (h.below hlt hb) (hlt.mono hb.size) lo hlom (levN d v:Nat) hlen;rw[Zdy h hk hlo hll] at h1;exact h1
 have HUH:Hid (∀ W:World,Below w.heap.size w W->Calls Tryz.prog 202 #[.pointer (some ⟨sb,0,none⟩),.int .i64 hi,.int .i64 (levN d v:Nat)] W fun x w'=>x=.returned (.bool (decide (levN d v<lvE d.vars.length (levN d) (Zab d) hi)))/\Below W.heap.size W w'):=fun W hb=>by
  have h1:=Zbl (h.below hlt hb) (hlt.mono hb.size) hi hhim (levN d v:Nat) hlen;rw[Zdy h hk hhi hll] at h1;exact h1
 have hnode:=(hk.tab v hv _ _ id).1 hid;have hidl:=(h.tk_lt hnode).2;have HPOST:Hid (∀ W,Below w.heap.size w W->Zx2 w (eflip (2*id) (eneg hi)) (.returned (.tuple #[.int .i64 (eflip (2*id) (eneg hi):Nat),.int .i64 0])) W):=fun W hb=>⟨rfl,hb⟩
 have HOF:=Hd (fun W=>Zqp id (eneg hi) W (by omega));rw[decide_eq_true hgl] at HUL;rw[decide_eq_true hgh] at HUH;obtain⟨l,hl⟩:∃ l,l=levN d v:=⟨_,rfl⟩;rw[<- hl] at HLV HUL HUH;have hl0:¬ ((l:Nat):Int)<0:=by omega
 have hnei:((lo:Int) == hi)=false:=by simp;omega
 have HNORM:=Hd (fun W=>Zjo lo hi W hlom hhim);have HH:=Hd h;have HLT:=Hd hlt;have HV:=Hd hv;have HF:=Hd (fun W (hb:Below w.heap.size w W)=>Zmd o v (s.ts.getD v 0) (d.tab v) (eflip lo (eneg hi)) (eflip hi (eneg hi)) id W ((h.below hlt hb).tab v (by rw[h.tlen];exact hv)) hid);obtain⟨lo2,hlo2⟩:∃ x,x=eflip lo (eneg hi):=⟨_,rfl⟩;obtain⟨hi2,hhi2⟩:∃ x,x=eflip hi (eneg hi):=⟨_,rfl⟩;obtain⟨ng,hng⟩:∃ x,x=eneg hi:=⟨_,rfl⟩;rw[<- hlo2,<- hhi2] at HNORM HF;rw[<- hng] at HNORM HOF HPOST ⊢;clear h hlt hk hv hlo hhi hll hlol hhil hlom hhim hlen hl hgl hgh he hid hnode hidl hlo2 hhi2 hng
 go_enter Tryz.func148,Tryz.ntmps148
 go_wp2_with fail;refine(HLV.out _ (Below.refl _ _)).mono ?_;rintro x w' ⟨rfl,rfl⟩;go_wp2_with fail;refine(HISL.out _ (Below.refl _ _)).mono ?_;rintro x w1 ⟨rfl,hb1⟩;have HB1:=Hd hb1;clear hb1;go_wp2_with fail;refine(HISH.out _ HB1.out).mono ?_;rintro x w2 ⟨rfl,hb2⟩;have HB2:=Hd (HB1.out.trans (hb2.mono HB1.out.size));clear hb2;go_wp2_with fail;refine(HLV.out _ HB2.out).mono ?_;rintro x w' ⟨rfl,rfl⟩;go_wp2_with fail;refine(HUL.out _ HB2.out).mono ?_;rintro x w3 ⟨rfl,hb3⟩;have HB3:=Hd (HB2.out.trans (hb3.mono HB2.out.size));clear hb3;go_wp2_with fail;refine(HLV.out _ HB3.out).mono ?_;rintro x w' ⟨rfl,rfl⟩;go_wp2_with fail;refine(HUH.out _ HB3.out).mono ?_;rintro x w4 ⟨rfl,hb4⟩;have HB4:=Hd (HB3.out.trans (hb4.mono HB3.out.size));clear hb4;go_wp2_with fail;obtain⟨gt,ct,hvt,cellv,hvl,htl⟩:=(HH.out.below HLT.out HB4.out).tabAt HV.out;obtain⟨c0,c1,c2,c3,c4,f0⟩:=cells5 (HH.out.below HLT.out HB4.out).blk;rw[hvt] at c2;have hvl':(v:Int)<s.ts.length:=by omega
 have hti:=(HH.out.below HLT.out HB4.out).tab v hvl;clear hvt;refine(HNORM.out _).mono ?_;rintro x w' ⟨rfl,rfl⟩;have hf:=HF.out _ HB4.out;clear hti;obtain⟨tv,htv⟩:∃ t,t=s.ts.getD v 0:=⟨_,rfl⟩;rw[<- htv] at cellv hf;have HFD:=Hd hf;clear htv hf;go_wp2_with fail;refine HFD.out.mono ?_;rintro x w' ⟨rfl,rfl⟩;go_wp2_with fail;refine(HOF.out _).mono ?_;rintro x w' ⟨rfl,rfl⟩;go_wp2_with fail
 go_ret2
 exact HPOST.out _ HB4.out
theorem Zw0 {o:Own} {w:World} {sb:Nat} {d:Zag} {s:Za5} {V:Nat->BF} (h:Zao o w sb d s) (hlt:Zak o w) (hk:Zan d V) (v lo hi:Nat) (hv:v<d.vars.length) (hlo:okE (Zab d) lo) (hhi:okE (Zab d) hi) (hgl:levN d v<lvE d.vars.length (levN d) (Zab d) lo) (hgh:levN d v<lvE d.vars.length (levN d) (Zab d) hi) (he:lo≠hi) (id:Nat) (hid:d.tab v (eflip lo (eneg hi),eflip hi (eneg hi))=some id) :
 Calls Tryz.prog 148 #[.pointer (some ⟨sb,0,none⟩),.int .i64 v,.int .i64 lo,.int .i64 hi] w (Ze7 o w sb d V v lo hi):=by
 have hnode:=(hk.tab v hv _ _ id).1 hid;have hidl:=(h.tk_lt hnode).2;refine(Zu0 h hlt hk v lo hi hv hlo hhi hgl hgh he id hid).mono ?_;rintro e w' ⟨rfl,hb⟩
 exact .inr (.inr (.inr ⟨by omega,by omega,_,d,V,o,rfl,⟨s,h.below hlt hb⟩,hlt.mono hb.size,hk,Ext.refl d V,Zd3 (Zgf hnode),
  Zu5 hk hnode,by rw[Zd2];unfold lvE;rw[show 2*id/2=id from by omega,hnode];exact Nat.le_refl _,by omega,Chg.of_below hb _ _⟩))
theorem Yaj {o:Own} {w:World} {sb:Nat} {d:Zag} {s:Za5} {V:Nat->BF} (h:Zao o w sb d s) (hlt:Zak o w) (hk:Zan d V) (v lo hi:Nat) (hv:v<d.vars.length) (hlo:okE (Zab d) lo) (hhi:okE (Zab d) hi) (hgl:levN d v<lvE d.vars.length (levN d) (Zab d) lo) (hgh:levN d v<lvE d.vars.length (levN d) (Zab d) hi) (he:lo≠hi) (hid:d.tab v (eflip lo (eneg hi),eflip hi (eneg hi))=none) :
 Calls Tryz.prog 148 #[.pointer (some ⟨sb,0,none⟩),.int .i64 v,.int .i64 lo,.int .i64 hi] w (Ze7 o w sb d V v lo hi):=by
 have hll:levN d v<d.vars.length:=hk.dag.lt v hv;have hlol:=h.edge_lt hlo;have hhil:=h.edge_lt hhi;have hlom:lo<eMax:=by unfold eMax;omega
 have hhim:hi<eMax:=by unfold eMax;omega
 have hlen:d.level.length<1000000:=by rw[h.len];have:=hk.small;omega
 have HLV:Hid (∀ W:World,Below w.heap.size w W->Calls Tryz.prog 83 #[.pointer (some ⟨sb,0,none⟩),.int .i64 v] W fun x w'=>x=.returned (.int .i64 (levN d v:Nat))/\W=w'):=fun W hb=>by
  have h1:=Zca (h.below hlt hb) v hlen;unfold Zag.levelOf at h1;rw[if_pos (by rw[h.len];exact hv)] at h1;exact h1
 have HISL:Hid (∀ W:World,Below w.heap.size w W->Calls Tryz.prog 146 #[.pointer (some ⟨sb,0,none⟩),.int .i64 lo] W fun x w'=>x=.returned (.bool true)/\Below W.heap.size W w'):=fun W hb=>by
  have h1:=Zbj (h.below hlt hb) (hlt.mono hb.size) lo hlom;rw[Zj9 hlo] at h1;exact h1
 have HISH:Hid (∀ W:World,Below w.heap.size w W->Calls Tryz.prog 146 #[.pointer (some ⟨sb,0,none⟩),.int .i64 hi] W fun x w'=>x=.returned (.bool true)/\Below W.heap.size W w'):=fun W hb=>by
  have h1:=Zbj (h.below hlt hb) (hlt.mono hb.size) hi hhim;rw[Zj9 hhi] at h1;exact h1
 have HUL:Hid (∀ W:World,Below w.heap.size w W->Calls Tryz.prog 202 #[.pointer (some ⟨sb,0,none⟩),.int .i64 lo,.int .i64 (levN d v:Nat)] W fun x w'=>x=.returned (.bool (decide (levN d v<lvE d.vars.length (levN d) (Zab d) lo)))/\Below W.heap.size W w'):=fun W hb=>by
  have h1:=Zbl (h.below hlt hb) (hlt.mono hb.size) lo hlom (levN d v:Nat) hlen;rw[Zdy h hk hlo hll] at h1;exact h1
 have HUH:Hid (∀ W:World,Below w.heap.size w W->Calls Tryz.prog 202 #[.pointer (some ⟨sb,0,none⟩),.int .i64 hi,.int .i64 (levN d v:Nat)] W fun x w'=>x=.returned (.bool (decide (levN d v<lvE d.vars.length (levN d) (Zab d) hi)))/\Below W.heap.size W w'):=fun W hb=>by
  have h1:=Zbl (h.below hlt hb) (hlt.mono hb.size) hi hhim (levN d v:Nat) hlen;rw[Zdy h hk hhi hll] at h1;exact h1
 have HADD:=Hd (fun W (hb:Below w.heap.size w W)=>Zjd (h.below hlt hb) (hlt.mono hb.size) hk.live (fun i b hb=>⟨hk.dag.okLo i b hb,hk.dag.okHi i b hb⟩) v (eflip lo (eneg hi)) (eflip hi (eneg hi)) hv hid hk.clen);have HFULL:Hid (∀ W,Below w.heap.size w W->d.pool.many=d.pool.room->Ze7 o w sb d V v lo hi (.returned (.tuple #[.int .i64 0,.int .i64 7])) W):=fun W hb hm=>.inr (.inr (.inl ⟨hm,rfl,hb⟩))
 have HPOST:Hid (∀ W W' id d' o',Below w.heap.size w W->Zax o' W' sb d'->Zak o' W'->Zjs d d' id v (eflip lo (eneg hi)) (eflip hi (eneg hi))->Chg Zas o o' W W'->Ze7 o w sb d V v lo hi (.returned (.tuple #[.int .i64 (eflip (2*id) (eneg hi):Nat),.int .i64 0])) W'):=fun W W' id d' o' hb hs hl hr hc=>by
  obtain⟨h1,h2⟩:=Ztd hk hr hv (Zd3 hlo) (Zd3 hhi) (by rw[Zd2];exact hgl) (by rw[Zd2];exact hgh) (Zlj hi) (Zjk he) hid;have hnode:Zab d' id=some ⟨v,eflip lo (eneg hi),eflip hi (eneg hi)⟩:=by rw[hr.nodes,Zby]
  refine .inr (.inr (.inr ⟨by omega,by omega,_,d',_,o',rfl,hs,hl,h1,h2,Zd3 (Zgf hnode),?_,?_,by rw[hr.many];omega,(Chg.of_below hb _ _).trans hc⟩))
  ·
   rw[Zu5 h1 hnode,h2.ef hlo,h2.ef hhi];rfl
  ·
   rw[Zd2,h2.lev];unfold lvE;rw[show 2*id/2=id from by omega,hnode];exact Nat.le_refl _
 have HOF:=Hd (fun id W (hh:id<2305843009213693952)=>Zqp id (eneg hi) W hh);rw[decide_eq_true hgl] at HUL;rw[decide_eq_true hgh] at HUH;obtain⟨l,hl⟩:∃ l,l=levN d v:=⟨_,rfl⟩;rw[<- hl] at HLV HUL HUH;have hl0:¬ ((l:Nat):Int)<0:=by omega
 have hnei:((lo:Int) == hi)=false:=by simp;omega
 have HNORM:=Hd (fun W=>Zjo lo hi W hlom hhim);have HH:=Hd h;have HLT:=Hd hlt;have HV:=Hd hv;have HF:=Hd (fun W (hb:Below w.heap.size w W)=>Zps o v (s.ts.getD v 0) (d.tab v) (eflip lo (eneg hi)) (eflip hi (eneg hi)) W ((h.below hlt hb).tab v (by rw[h.tlen];exact hv)) hid);obtain⟨lo2,hlo2⟩:∃ x,x=eflip lo (eneg hi):=⟨_,rfl⟩;obtain⟨hi2,hhi2⟩:∃ x,x=eflip hi (eneg hi):=⟨_,rfl⟩;obtain⟨ng,hng⟩:∃ x,x=eneg hi:=⟨_,rfl⟩;rw[<- hlo2,<- hhi2] at HNORM HF HADD HPOST;rw[<- hng] at HNORM HOF HPOST;clear h hlt hk hv hlo hhi hll hlol hhil hlom hhim hlen hl hgl hgh he hid hlo2 hhi2 hng
 go_enter Tryz.func148,Tryz.ntmps148
 go_wp2_with fail;refine(HLV.out _ (Below.refl _ _)).mono ?_;rintro x w' ⟨rfl,rfl⟩;go_wp2_with fail;refine(HISL.out _ (Below.refl _ _)).mono ?_;rintro x w1 ⟨rfl,hb1⟩;have HB1:=Hd hb1;clear hb1;go_wp2_with fail;refine(HISH.out _ HB1.out).mono ?_;rintro x w2 ⟨rfl,hb2⟩;have HB2:=Hd (HB1.out.trans (hb2.mono HB1.out.size));clear hb2;go_wp2_with fail;refine(HLV.out _ HB2.out).mono ?_;rintro x w' ⟨rfl,rfl⟩;go_wp2_with fail;refine(HUL.out _ HB2.out).mono ?_;rintro x w3 ⟨rfl,hb3⟩;have HB3:=Hd (HB2.out.trans (hb3.mono HB2.out.size));clear hb3;go_wp2_with fail;refine(HLV.out _ HB3.out).mono ?_;rintro x w' ⟨rfl,rfl⟩;go_wp2_with fail;refine(HUH.out _ HB3.out).mono ?_;rintro x w4 ⟨rfl,hb4⟩;have HB4:=Hd (HB3.out.trans (hb4.mono HB3.out.size));clear hb4;go_wp2_with fail;obtain⟨gt,ct,hvt,cellv,hvl,htl⟩:=(HH.out.below HLT.out HB4.out).tabAt HV.out;obtain⟨c0,c1,c2,c3,c4,f0⟩:=cells5 (HH.out.below HLT.out HB4.out).blk;rw[hvt] at c2;have hvl':(v:Int)<s.ts.length:=by omega
 have hti:=(HH.out.below HLT.out HB4.out).tab v hvl;clear hvt;refine(HNORM.out _).mono ?_;rintro x w' ⟨rfl,rfl⟩;have hf:=HF.out _ HB4.out;clear hti;obtain⟨tv,htv⟩:∃ t,t=s.ts.getD v 0:=⟨_,rfl⟩;rw[<- htv] at cellv hf;have HFD:=Hd hf;clear htv hf;go_wp2_with fail;refine HFD.out.mono ?_;rintro x w' ⟨rfl,rfl⟩;go_wp2_with fail;refine(HADD.out _ HB4.out).mono ?_;rintro x w6 (⟨hm,rfl,hb6⟩|⟨id,d',o',rfl,hs,hl6,hr,hc⟩)
 ·
  have HB6:=Hd (HB4.out.trans (hb6.mono HB4.out.size));have HM:=Hd hm;clear hm hb6 c0 c1 c2 c3 c4 f0 cellv;go_wp2_with fail
  go_ret2
  exact HFULL.out _ HB6.out HM.out
 ·
  have HS:=Hd hs;have HL6:=Hd hl6;have HR:=Hd hr;have HC:=Hd hc;have hidl:id<2305843009213693952:=by
   obtain⟨s',hs'⟩:=hs;have:=hs'.tk_lt (i:=id) (b:=⟨v,lo2,hi2⟩) (by rw[hr.nodes,Zby]);omega
  clear hs hl6 hr hc c0 c1 c2 c3 c4 f0 cellv;go_wp2_with fail;refine(HOF.out _ _ hidl).mono ?_;rintro x w' ⟨rfl,rfl⟩;go_wp2_with fail
  go_ret2
  exact HPOST.out _ _ id d' o' HB4.out HS.out HL6.out HR.out HC.out
theorem Zp9 {o:Own} {w:World} {sb:Nat} {d:Zag} {V:Nat->BF} (h:Zax o w sb d) (hlt:Zak o w) (hk:Zan d V) (v:Int) (lo hi:Nat) (hlo:okE (Zab d) lo) (hhi:okE (Zab d) hi) :
 Calls Tryz.prog 148 #[.pointer (some ⟨sb,0,none⟩),.int .i64 v,.int .i64 lo,.int .i64 hi] w (Ze7 o w sb d V v lo hi):=by
 obtain⟨s,h⟩:=h
 by_cases hv:0<=v/\v<d.vars.length
 ·
  obtain⟨n,rfl⟩:=Int.eq_ofNat_of_zero_le hv.1;have hn:n<d.vars.length:=by omega
  by_cases h1:levN d n<lvE d.vars.length (levN d) (Zab d) lo
  ·
   by_cases h2:levN d n<lvE d.vars.length (levN d) (Zab d) hi
   ·
    by_cases h3:lo=hi
    ·
     exact Ya2 h hlt hk n lo hi hn hlo hhi h1 h2 h3
    ·
     cases h4:d.tab n (eflip lo (eneg hi),eflip hi (eneg hi)) with
     | none=>exact Yaj h hlt hk n lo hi hn hlo hhi h1 h2 h3 h4
     | some id=>exact Zw0 h hlt hk n lo hi hn hlo hhi h1 h2 h3 id h4
   ·
    exact Ya3 h hlt hk n lo hi hn hlo hhi (by omega) h1
  ·
   exact Ya4 h hlt hk n lo hi hn hlo hhi (by omega)
 ·
  exact Yak h hk v lo hi hv
open Go.RowKit
theorem Zsl {o:Own} {w w':World} {v:Value} {zs:List Int} (h:OwnI w' w.heap.size v zs) (hb:Below w.heap.size w w') (hlt:Zak o w) (r:Role) :
 ∃ o',RowR o' w' r 3 1 v zs.length (Zbh zs)/\Chg (· = r) o o' w w'/\Zak o' w':=by
 obtain⟨hl,h2⟩:=h;rcases h2 with ⟨h1,h0⟩|⟨g,cap,cur,h1,h2,h3,h4,h5,h6,h7⟩
 ·
  exact⟨o,⟨hl,.inl ⟨h1,h0⟩⟩,Chg.of_below hb _ _,hlt.mono hb.size⟩
 ·
  have hg:g<w'.heap.size:=(Array.getElem?_eq_some_iff.1 h3).1;refine⟨Zcp o g r,⟨hl,.inr ⟨g,cap,cur,h1,Zbf _ _ _,h3,h4,h5,by omega,h7⟩⟩,⟨hb.os,hb.tape,hb.output,hb.size,fun k hk _=>hb.block k hk,fun k q hq=>Zc8 hlt h2 hq,fun k hk=>?_⟩,fun k q hq=>?_⟩
  ·
   by_cases e:k=g
   ·
    subst e;exact⟨h2,r,Zbf _ _ _,rfl⟩
   ·
    exact absurd (by simp[Zcp,e]) hk
  ·
   by_cases e:k=g
   ·
    subst e;exact hg
   ·
    simp only[Zcp,if_neg e] at hq;have:=hlt k q hq;have:=hb.size;omega
theorem Zn8 (o:Own) (n:Nat) (hn:n<=64) (r:Role) (w:World) (hlt:Zak o w) :
 Calls Tryz.prog 194 #[.int .i64 n] w fun e w'=>∃ v o',e=.returned v/\RowR o' w' r 3 1 v n ((List.range n).map nat64)/\Chg (· = r) o o' w w'/\Zak o' w' :=
 (Zmq n w).mono fun e w' ⟨v,h1,h2,h3⟩=>by
  obtain⟨o',a,b,c⟩:=Zsl h2 h3 hlt r;have e1:Zn7 n=iota n:=by unfold Zn7;congr 1;omega
  have e2:Zbh (iota n)=(List.range n).map nat64:=by simp[Zbh,iota,nat64]
  rw[e1,Zfm,e2] at a;exact⟨v,o',h1,a,b,c⟩
def store0 (n room:Nat):Zag:=⟨List.range n,List.range n,pool0 room,fun _ _=>none,[],0⟩
structure NewS (o:Own) (w:World) (n room sb:Nat) (s:Za5) (j:Nat) (o1:Own) (wx:World):Prop where
 own:o1 sb=some .store
 ownl:o1 s.lb=some .levels
 blk:wx.heap[sb]?=some (.cells #[.pointer (some ⟨s.lb,0,none⟩),.pointer (some ⟨s.pb,0,none⟩),s.vt,.slice none 0 0,.int .i64 0] 188 (0,0))
 lev:wx.heap[s.lb]?=some (.cells #[s.vv,s.vl] 196 (0,0))
 vars:RowR o1 wx .vars 3 1 s.vv n ((List.range n).map nat64)
 level:RowR o1 wx .level 3 1 s.vl n ((List.range n).map nat64)
 pool:Zau o1 wx s.pb (pool0 room)
 tabs:RowR o1 wx .tabs 216 1 s.vt j (s.ts.map ptrV)
 tl:s.ts.length=j
 tab:∀ v,v<j->Zde o1 wx v (s.ts.getD v 0) (fun _=>none)
 chg:Chg Zas o o1 w wx
 lt:Zak o1 wx
 ge:w.heap.size<=sb
theorem NewS.done {o o1:Own} {w wx:World} {n room sb:Nat} {s:Za5} (h:NewS o w n room sb s n o1 wx):Zax o1 wx sb (store0 n room) :=
 ⟨{ s with vc:=.slice none 0 0 },h.own,h.ownl,h.blk,h.lev,by simpa [store0] using h.vars,by simpa [store0] using h.level,h.pool,by rw[h.tl];exact h.tabs,fun v hv=>h.tab v (by rw[<- h.tl];exact hv),RowR.nil _ _ _ _ _,rfl,by simp[store0,h.tl]⟩
theorem NewS.grown {o o1 o2 o3:Own} {w wx wy wz:World} {n room sb:Nat} {s:Za5} {j t g cap:Nat} (h:NewS o w n room sb s j o1 wx) (ht:Zde o2 wy j t (fun _=>none)) (hc:Chg (fun r=>r=.tab j\/r=.tmap j) o1 o2 wx wy) (hl:Zak o2 wy)
 (hr:RowR o3 wz .tabs 216 1 (.slice (some ⟨g,0,none⟩) (j+1) cap) (j+1) (s.ts.map ptrV++[ptrV t])) (hc2:Chg (· = .tabs) o2 o3 wy wz) (hl2:Zak o3 wz) :
 NewS o w n room sb { s with vt:=.slice (some ⟨g,0,none⟩) (j+1) cap,ts:=s.ts++[t] } (j+1) o3 (wz.setCell ⟨sb,2,none⟩ (.slice (some ⟨g,0,none⟩) (j+1) cap)):=by
 have hc':Chg (fun r=>r=.tab j\/r=.tmap j\/r=.tabs) o1 o3 wx wz:=(hc.mono fun r e=>by rcases e with e|e;exact .inl e;exact .inr (.inl e)).trans (hc2.mono fun r e=>.inr (.inr e));have hos:=hc'.ext _ _ h.own;have ne:∀ {a r},o3 a=some r->r ≠ .store->a≠sb:=fun ha hr e=>by subst e;rw[ha] at hos;cases hos;exact hr rfl
 have hol:=hc'.ext _ _ h.ownl;have row:∀ {r e k v m xs},RowR o1 wx r e k v m xs->r ≠ .store->¬ (r=.tab j\/r=.tmap j\/r=.tabs)->RowR o3 (wz.setCell ⟨sb,2,none⟩ (.slice (some ⟨g,0,none⟩) (j+1) cap)) r e k v m xs:=fun hr h1 h2 =>
  (hr.chg hc' h.lt h2).setCell_other (p:=⟨sb,2,none⟩) (by rw[hos];intro e;cases e;exact h1 rfl) _
 have ctab:∀ v t f,Zde o3 wz v t f->Zde o3 (wz.setCell ⟨sb,2,none⟩ (.slice (some ⟨g,0,none⟩) (j+1) cap)) v t f:=fun v t f hT =>
  hT.keep (fun q r hq hr'=>Zaf (ne hq (by rintro rfl;rcases hr' with e|e<;>cases e)) _) (fun _ _ h=>h)
 refine⟨hos,hol,Zae ((hc'.same h.lt h.own (by simp)).trans h.blk) _,(Zaf (ne hol (by simp)) _).trans ((hc'.same h.lt h.ownl (by simp)).trans h.lev),row h.vars (by simp) (by simp),row h.level (by simp) (by simp),?_,?_,by simp[h.tl],fun v hv=>?_,?_,hl2.mono (by simp[World.setCell]),h.ge⟩
 ·
  have hp:=h.pool.chg hc' h.lt (by simp) (by simp) (by simp) (by simp);exact hp.keep (fun q r hq hr'=>Zaf (ne hq (by rintro rfl;rcases hr' with e|e|e|e<;>cases e)) _) (fun _ _ h=>h)
 ·
  have:=hr.setCell_other (p:=⟨sb,2,none⟩) (by rw[hos];simp) (.slice (some ⟨g,0,none⟩) (j+1) cap);simpa using this
 ·
  dsimp only;refine ctab _ _ _ ?_
  by_cases e:v=j
  ·
   subst e;have e2:(s.ts++[t]).getD v 0=t:=by simp[List.getD,h.tl]
   rw[e2];exact ht.chg hc2 hl (by simp) (by simp)
  ·
   have e2:(s.ts++[t]).getD v 0=s.ts.getD v 0:=by
    have:=h.tl;simp[List.getD,List.getElem?_append_left (show v<s.ts.length by omega)]
   rw[e2];exact(h.tab v (by omega)).chg hc' h.lt (by simp[e]) (by simp[e])
 ·
  exact(h.chg.trans (hc'.mono fun r e=>by rcases e with rfl|rfl|rfl<;>simp[Zas])).setCell (p:=⟨sb,2,none⟩) hos (by simp[Zas]) _
theorem Zr4:(Tryz.prog.info? 216).map (fun i=>(i.zero,i.size,i.bytes))=some (some (.pointer none),1,8):=by kernel_rfl
theorem Zu4 (o:Own) (n room:Nat) (w:World) (hlt:Zak o w) (hn:n<=64) (h1:1<=room) (h2:room<=1048576) :
 Calls Tryz.prog 135 #[.int .i64 n,.int .i64 room] w fun x w'=>∃ sb o',x=.returned (.tuple #[.pointer (some ⟨sb,0,none⟩),.int .i64 0])/\Zax o' w' sb (store0 n room)/\Chg Zas o o' w w'/\Zak o' w'/\w.heap.size<=sb:=by
 have hn':(n:Int)<=64:=by omega
 have hn0:(0:Int)<=n:=by omega
 have HP:=Hd (Zw2 o room w hlt h1 h2);clear hlt h1 h2
 go_enter Tryz.func135,Tryz.ntmps135
 go_wp2_with fail;refine HP.out.mono ?_;rintro x w1 ⟨pb,o1,rfl,hp1,hc1,hl1,hpb⟩;have HI1:=Hd (Zn8 o1 n hn .vars w1 hl1);have HL1:=Hd hl1;have HP1:=Hd hp1;have HC1:=Hd hc1;clear hp1 hc1 hl1;go_wp2_with fail;refine HI1.out.mono ?_;rintro x w2 ⟨vv,o2,rfl,hr2,hc2,hl2⟩;have HI2:=Hd (Zn8 o2 n hn .level w2 hl2);have HR2:=Hd hr2;have HC2:=Hd hc2;have HL2:=Hd hl2;clear hr2 hc2 hl2;go_wp2_with fail;refine HI2.out.mono ?_;rintro x w3 ⟨vl,o3,rfl,hr3,hc3,hl3⟩;obtain⟨av,cv,rfl,_⟩:=HR2.out.slice;obtain⟨al,cl,rfl,_⟩:=hr3.slice;have HR3:=Hd hr3;have HC3:=Hd hc3;have HL3:=Hd hl3;clear hr3 hc3 hl3;go_upto_region 7 with fail;obtain⟨wl,hwl⟩:∃ wl,wl=w3.alloc (.cells #[.slice av n cv,.slice al n cl] 196):=⟨_,rfl⟩;obtain⟨ws,hws⟩:∃ ws,ws=wl.alloc (.cells #[.pointer (some ⟨w3.heap.size,0,none⟩),.pointer (some ⟨pb,0,none⟩),.slice none 0 0,.slice none 0 0,.int .i64 0] 188):=⟨_,rfl⟩;have hz1:wl.heap.size=w3.heap.size+1:=by rw[hwl];simp
 have hS0:NewS o w n room (w3.heap.size+1) ⟨w3.heap.size,pb,.slice av n cv,.slice al n cl,.slice none 0 0,.slice none 0 0,[]⟩ 0 (Zcp (Zcp o3 w3.heap.size .levels) (w3.heap.size+1) .store) ws:=by
  have c1:=(Chg.refl Zas o3 w3).allocR (r:=.levels) HL3.out (.cells #[.slice av n cv,.slice al n cl] 196) (by simp[Zas]);have l1:=HL3.out.allocR (.cells #[.slice av n cv,.slice al n cl] 196) .levels;rw[<- hwl] at c1 l1;have c2:=c1.allocR (r:=.store) l1 (.cells #[.pointer (some ⟨w3.heap.size,0,none⟩),.pointer (some ⟨pb,0,none⟩),.slice none 0 0,.slice none 0 0,.int .i64 0] 188) (by simp[Zas]);have l2:=l1.allocR (.cells #[.pointer (some ⟨w3.heap.size,0,none⟩),.pointer (some ⟨pb,0,none⟩),.slice none 0 0,.slice none 0 0,.int .i64 0] 188) .store;rw[<- hws,hz1] at c2 l2;have hb:Below w3.heap.size w3 ws:=by rw[hws,hwl];exact(Zad w3 _).alloc (by simp) _
  have hr2:=((HR2.out.chg HC3.out HL2.out (by simp)).below HL3.out hb).keep (o':=Zcp (Zcp o3 w3.heap.size .levels) (w3.heap.size+1) .store) (fun _ _=>rfl) (fun g hg=>c2.ext g _ hg);have hr3:=(HR3.out.below HL3.out hb).keep (o':=Zcp (Zcp o3 w3.heap.size .levels) (w3.heap.size+1) .store) (fun _ _=>rfl) (fun g hg=>c2.ext g _ hg);have hcc:=(HC1.out.mono (R':=Zas) (fun r hr=>by rcases hr with rfl|rfl|rfl<;>simp[Zas,Ze2])).trans ((HC2.out.mono (R':=Zas) (fun r hr=>by subst hr;simp[Zas])).trans ((HC3.out.mono (R':=Zas) (fun r hr=>by subst hr;simp[Zas])).trans c2));have hp3:=(HP1.out.chg (HC2.out) HL1.out (by simp) (by simp) (by simp) (by simp)).chg HC3.out HL2.out (by simp) (by simp) (by simp) (by simp);have hp:=(hp3.below hb HL3.out).keep (o':=Zcp (Zcp o3 w3.heap.size .levels) (w3.heap.size+1) .store) (fun _ _ _ _=>rfl) (fun g r hg=>c2.ext g r hg);refine⟨Zbf _ _ _,Zc8 l1 (by omega) (Zbf _ _ _),?_,?_,hr2,hr3,hp,RowR.nil _ _ _ _ _,rfl,fun v hv=>absurd hv (by omega),hcc,l2,?_⟩
  ·
   rw[hws,<- hz1];exact heap_alloc_new wl _
  ·
   rw[hws];exact(Go.heap_alloc_old wl _ (show w3.heap.size<wl.heap.size by omega)).trans (by rw[hwl];exact heap_alloc_new w3 _)
  ·
   show w.heap.size<=w3.heap.size+1
   exact Nat.le_succ_of_le (Nat.le_trans HC1.out.size (Nat.le_trans HC2.out.size HC3.out.size))
 rw[<- hwl,<- hws];have HS0:=Hd hS0;clear hS0 hws hwl hz1 HR2 HR3 HC1 HC2 HC3 HL1 HL2 HL3 HP1 HI1 HI2 HP;go_wp2_with fail
 go_loopw [31] (fun i wr=>∃ (j:Nat) (s:Za5) (o1:Own),j<=n/\i=.int .i64 j/\NewS o w n room (w3.heap.size+1) s j o1 wr) (fun i _=>n-(intOf i).toNat)
 case atStart=>exact⟨0,_,_,by omega,rfl,HS0.out⟩
 case round =>
  obtain⟨j,s,o1,hj,rfl,hS⟩:=hrel;clear HS0
  by_cases hlt:j<n
  ·
   obtain⟨c0,c1,c2,c3,c4,f0⟩:=cells5 hS.blk;obtain⟨av,cv,hvt,_⟩:=hS.tabs.slice;rw[hvt] at c2;have hlt':(j:Int)<n:=by omega
   have HJ:(j:Int)+1<=64:=by omega
   have HS:=Hd hS;have HTR:Hid (RowR o1 wr .tabs 216 1 (.slice av j cv) j (s.ts.map ptrV)):=by show RowR _ _ _ _ _ _ _ _;rw[<- hvt];exact hS.tabs
   have HNU:=Hd (Zw3 o1 j wr.drew hS.lt);have HJ64:j<=64:=by omega
   have HVT:=Hd hvt;clear hvt hS;go_upto_region 9 with fail;refine Zap (fun W:World=>W.cell? ⟨w3.heap.size+1,2,none⟩=some (.slice av j cv)/\W.frozen? ⟨w3.heap.size+1,2,none⟩=false) true 10
    [(0,false),(1,false),(2,false),(3,false),(4,false),(5,true),(6,true),(7,true),(8,false),(9,false),(10,true)] (by kernel_rfl) (by kernel_rfl) ⟨c2,f0 2⟩ ?_
   simp only[planned,Zdl]
   iterate 5
    refine Zar rfl ?_;apply Exists.intro;refine⟨fun w' hw=>?_,?_⟩
    ·
     obtain⟨h1,h2⟩:=hw;go_simp;rfl
    simp only[Zah]
   refine Zb1 (R:=fun v w'=>∃ t o2,v=.pointer (some ⟨t,0,none⟩)/\Zde o2 w' j t (fun _=>none)/\Chg (fun r=>r=.tab j\/r=.tmap j) o1 o2 wr w'/\Zak o2 w') rfl (by go_simp) (HNU.out.mono (fun e w' he=>?_)) ?_
   ·
    obtain⟨t,o2,rfl,a1,a2,a3,a4⟩:=he;obtain⟨_,_,q2,_,_,q0⟩:=cells5 ((a2.same (by exact HS.out.lt) HS.out.own (by simp)).trans HS.out.blk);exact⟨_,rfl,⟨by rw[<- HVT.out];exact q2,q0 2⟩,t,o2,rfl,a1,⟨a2.os,a2.tape,a2.output,a2.size,a2.block,a2.ext,a2.new⟩,a3⟩
   rintro v wy-⟨t,o2,rfl,ht,hcy,hly⟩;simp only[Zah];have hsy:=(hcy.same HS.out.lt HS.out.own (by simp)).trans HS.out.blk;have hly2:w3.heap.size+1<wy.heap.size:=(Array.getElem?_eq_some_iff.1 hsy).1;have HCY:=Hd hcy;have HTY:=Hd ht;have HLY:=Hd hly;have HTR2:=HTR.out.chg hcy HS.out.lt (by simp);obtain⟨wb,hwb⟩:∃ wb,wb=wy.alloc (.cells #[.pointer (some ⟨t,0,none⟩)] 216):=⟨_,rfl⟩;obtain⟨_,_,p2,_,_,p0⟩:=cells5 (show wb.heap[w3.heap.size+1]?=_ from by rw[hwb];exact(Go.heap_alloc_old _ _ hly2).trans hsy);refine Zh2 (v:=.slice (some ⟨wy.heap.size,0,none⟩) 1 1) (w':=wb) rfl (by rw[hwb];go_simp) ⟨by rw[<- HVT.out];exact p2,p0 2⟩ ?_;simp only[Zah];obtain⟨g,cap,wz,o3,happ,hrz,hcz,hlz⟩:=Ziw 186 216 186 1 8 (.pointer none) Tryz.underlying186 Zr4 rfl (by decide) #[.pointer (some ⟨t,0,none⟩)] rfl (fun u hu=>by simp at hu;subst hu;rfl) HTR2 hly (by omega) (by decide);rw[<- hwb] at happ;obtain⟨_,_,r2,_,_,r0⟩:=cells5 ((hcz.same hly (hcy.ext _ _ HS.out.own) (by simp)).trans hsy);refine Zh2 (v:=.slice (some ⟨g,0,none⟩) (j+1) cap) (w':=wz) rfl (Zj6 rfl rfl rfl happ) ⟨by rw[<- HVT.out];exact r2,r0 2⟩ ?_;simp only[Zah];have HG:=Hd (HS.out.grown ht hcy hly hrz hcz hlz);clear hsy hly2 hcy ht hly HTR2 hwb p2 p0 happ hrz hcz hlz
   iterate 2
    refine Zar rfl ?_;apply Exists.intro;refine⟨fun w' hw=>?_,?_⟩
    ·
     obtain⟨h1,h2⟩:=hw;go_simp;rfl
    simp only[Zah]
   refine Zdb rfl (fun K hK=>?_);unfold Oper.wp;go_simp;refine hK _ _ (Zbr ?_);go_wp2_with fail;go_roundw
   case rel=>exact⟨j+1,_,_,by omega,by simp,HG.out⟩
   case measure=>simp[intOf];omega
  ·
   obtain rfl:j=n:=by omega
   have HS:=Hd hS;clear hS;go_wp2_with fail
   go_ret2
   exact⟨_,_,rfl,HS.out.done,HS.out.chg,HS.out.lt,HS.out.ge⟩
open Go.RowKit
structure Ev where
 after:Int
 kind:Int
 level:Int
def evL (e:Ev):List Value:=[.int .i64 e.after,.int .i64 e.kind,.int .i64 e.level]
def evA (e:Ev):Value:=.agg #[.int .i64 e.after,.int .i64 e.kind,.int .i64 e.level]
structure Zbx (o:Own) (w:World) (v:Value) (ws:List Ev):Prop where
 ex:(v=.slice none 0 0/\ws=[])\/∃ g off cap cur,v=.slice (some ⟨g,off,none⟩) ws.length cap/\o g=some .waits/\w.heap[g]?=some (.cells cur 103 (0,0))/\ws.length<=cap/\cap<=maxLen /\
  off+cap*3<=cur.size/\(cur.toList.drop off).take (ws.length*3)=ws.flatMap evL
theorem Zbx.keep {o o':Own} {w w':World} {v:Value} {ws:List Ev} (h:Zbx o w v ws) (hk:∀ g,o g=some .waits->w'.heap[g]?=w.heap[g]?) (ho:∀ g,o g=some .waits->o' g=some .waits):Zbx o' w' v ws:=by
 refine⟨h.ex.imp id ?_⟩;rintro⟨g,off,cap,cur,h1,h2,h3,rest⟩;exact⟨g,off,cap,cur,h1,ho g h2,(hk g h2).trans h3,rest⟩
theorem Zbx.chg {R:Role->Prop} {o o':Own} {w w':World} {v:Value} {ws:List Ev} (h:Zbx o w v ws) (hc:Chg R o o' w w') (hlt:Zak o w) (hr:¬ R .waits):Zbx o' w' v ws :=
 h.keep (fun g hg=>hc.same hlt hg hr) (fun g hg=>hc.ext g _ hg)
theorem Zbx.nil (o:Own) (w:World):Zbx o w (.slice none 0 0) []:=⟨.inl ⟨rfl,rfl⟩⟩
theorem Zbx.slice {o:Own} {w:World} {v:Value} {ws:List Ev} (h:Zbx o w v ws):∃ a cap,v=.slice a ws.length cap/\(a=none->cap=0):=by
 rcases h.ex with ⟨h1,h0⟩|⟨g,off,cap,cur,h1,_⟩
 ·
  exact⟨none,0,by rw[h1,h0];rfl,fun _=>rfl⟩
 ·
  exact⟨_,cap,h1,by simp⟩
theorem Zc1 (ws:List Ev):(ws.flatMap evL).length=ws.length*3:=Zbi evL 3 (fun _=>rfl) ws
theorem Zbx.first {o:Own} {w:World} {v:Value} {ev:Ev} {ws:List Ev} (h:Zbx o w v (ev::ws)):∃ g off cap,v=.slice (some ⟨g,off,none⟩) (ws.length+1) cap/\o g=some .waits/\ws.length+1<=cap/\cap<=maxLen /\
 w.cell? ⟨g,off,none⟩=some (.int .i64 ev.after)/\w.cell? ⟨g,off+1,none⟩=some (.int .i64 ev.kind)/\w.cell? ⟨g,off+2,none⟩=some (.int .i64 ev.level)/\Zbx o w (.slice (if cap=1 then some ⟨g,off,none⟩ else some ⟨g,off+3,none⟩) ws.length (cap-1)) ws:=by
 rcases h.ex with ⟨h1,h0⟩|⟨g,off,cap,cur,h1,h2,h3,h4,h5,h6,h7⟩
 ·
  cases h0
 ·
  simp only[List.length_cons] at h1 h4 h7;have hc:∀ j u,(evL ev++ws.flatMap evL)[j]?=some u->w.cell? ⟨g,off+j,none⟩=some u:=by
   intro j u hj;have hl:=(List.getElem?_eq_some_iff.1 hj).1;have hl':j<(ws.length+1)*3:=by
    have e1:(evL ev++ws.flatMap evL).length=3+ws.length*3:=by rw[List.length_append,Zc1];rfl
    omega
   rw[cell_of_row w g (off+j) cur _ (0,0) h3];have e2:(evL ev++ws.flatMap evL)[j]?=((cur.toList.drop off).take ((ws.length+1)*3))[j]?:=by rw[h7];rfl
   rw[e2,List.getElem?_take,if_pos hl',List.getElem?_drop] at hj;simpa using hj
  refine⟨g,off,cap,h1,h2,h4,h5,hc 0 _ rfl,hc 1 _ rfl,hc 2 _ rfl,⟨.inr ?_⟩⟩
  by_cases e1:cap=1
  ·
   have e2:ws=[]:=List.eq_nil_of_length_eq_zero (by omega);subst e2;exact⟨g,off,cap-1,cur,by rw[if_pos e1],h2,h3,by simp,by omega,by omega,by simp⟩
  ·
   refine⟨g,off+3,cap-1,cur,by rw[if_neg e1],h2,h3,by omega,by omega,by omega,?_⟩;have e3:(cur.toList.drop (off+3)).take (ws.length*3)=((cur.toList.drop off).take ((ws.length+1)*3)).drop 3:=by
    rw[List.drop_take,List.drop_drop];congr 1;omega
   rw[e3,h7];rfl
structure ManD where
 d:Zag
 hs:List (Int×Nat)
 next:Int
 waits:List Ev
 calls:Int
structure ManW where
 sb:Nat
 me:Nat
 hb:Nat
 vw:Value
def encH (hs:List (Int×Nat)):List (Int×Value):=hs.map fun p=>(p.1,.int .i64 (p.2:Nat))
structure Zb4 (F:Phi) (o:Own) (w:World) (mb:Nat) (m:ManD) (s:ManW):Prop where
 own:o mb=some .man
 blk:w.heap[mb]?=some (.cells #[.pointer (some ⟨s.sb,0,none⟩),.pointer (some ⟨s.me,0,none⟩),.map (some s.hb),.int .i64 m.next,s.vw,.int .i64 m.calls] 128 (0,0))
 store:Zax o w s.sb m.d
 memo:Zcm o w s.me F
 ownh:o s.hb=some .handles
 map:Zco w s.hb (Value.int .i64) (encH m.hs)
 waits:Zbx o w s.vw m.waits
def Zc6 (F:Phi) (o:Own) (w:World) (mb:Nat) (m:ManD):Prop:=∃ s,Zb4 F o w mb m s
theorem cells6 {w:World} {g:Nat} {a b c d e f:Value} {T:TypeId} (h:w.heap[g]?=some (.cells #[a,b,c,d,e,f] T (0,0))):w.cell? ⟨g,0,none⟩=some a/\w.cell? ⟨g,1,none⟩=some b/\w.cell? ⟨g,2,none⟩=some c/\w.cell? ⟨g,3,none⟩=some d/\w.cell? ⟨g,4,none⟩=some e/\w.cell? ⟨g,5,none⟩=some f /\
 (∀ k,w.frozen? ⟨g,k,none⟩=false) :=
 ⟨by rw[cell_of_row w g 0 _ _ _ h];rfl,by rw[cell_of_row w g 1 _ _ _ h];rfl,by rw[cell_of_row w g 2 _ _ _ h];rfl,by rw[cell_of_row w g 3 _ _ _ h];rfl,by rw[cell_of_row w g 4 _ _ _ h];rfl,by rw[cell_of_row w g 5 _ _ _ h];rfl,fun k=>by simp[World.frozen?,h]⟩
section
variable {F:Phi} {o o':Own} {w w':World} {mb:Nat} {m:ManD} {s:ManW}
theorem Zco.keepB {w w':World} {b:Nat} {enc:Int->Value} {l:List (Int×Value)} (h:Zco w b enc l) (hk:w'.heap[b]?=w.heap[b]?):Zco w' b enc l:=by
 obtain⟨es,c,hb,rest⟩:=h.ex;exact⟨⟨es,c,hk.trans hb,rest⟩,h.nodup⟩
theorem Zax.keepR {sb:Nat} {d:Zag} (h:Zax o w sb d) (hk:∀ g r,o g=some r->Zas r->w'.heap[g]?=w.heap[g]?) (ho:∀ g r,o g=some r->o' g=some r):Zax o' w' sb d:=by
 obtain⟨s,h⟩:=h;have row:∀ {r e k v n xs},Zas r->RowR o w r e k v n xs->RowR o' w' r e k v n xs:=fun hr h=>h.keep (fun g hg=>hk g _ hg hr) (fun g hg=>ho g _ hg)
 refine⟨s,ho _ _ h.own,ho _ _ h.ownl,(hk _ _ h.own (by simp[Zas])).trans h.blk,(hk _ _ h.ownl (by simp[Zas])).trans h.lev,row (by simp[Zas]) h.vars,row (by simp[Zas]) h.level,
  h.pool.keep (fun g r hg hr=>hk g r hg (by rcases hr with rfl|rfl|rfl|rfl<;>simp[Zas,Ze2])) ho,row (by simp[Zas]) h.tabs,
  fun v hv=>(h.tab v hv).keep (fun g r hg hr=>hk g r hg (by rcases hr with rfl|rfl<;>simp[Zas])) ho,row (by simp[Zas]) h.counts,h.len,h.tlen⟩
theorem Zcm.mono {G:Phi} {me:Nat} (h:Zcm o w me F) (hF:∀ op a b c r,F op a b c r->G op a b c r):Zcm o w me G:=by
 obtain⟨ve,a,f,h1,h2⟩:=h.ex;refine⟨h.own,ve,a,f,h1,h2.imp id ?_⟩;rintro⟨ge,cap,l,e1,e2,e3,e4⟩;exact⟨ge,cap,l,e1,e2,e3,fun i hi=>hF _ _ _ _ _ (e4 i hi)⟩
theorem Zb4.keep (h:Zb4 F o w mb m s) (hk:∀ g r,o g=some r->w'.heap[g]?=w.heap[g]?) (ho:∀ g r,o g=some r->o' g=some r):Zb4 F o' w' mb m s :=
 ⟨ho _ _ h.own,(hk _ _ h.own).trans h.blk,h.store.keepR (fun g r hg _=>hk g r hg) ho,h.memo.keep (fun g r hg _=>hk g r hg) ho,ho _ _ h.ownh,h.map.keepB (hk _ _ h.ownh),h.waits.keep (fun g hg=>hk g _ hg) (fun g hg=>ho g _ hg)⟩
theorem Zb4.below (h:Zb4 F o w mb m s) (hlt:Zak o w) (hb:Below w.heap.size w w'):Zb4 F o w' mb m s:=h.keep (fun g r hg=>hb.block g (hlt g r hg)) (fun _ _ h=>h)
theorem Zb4.setStore {d':Zag} (h:Zb4 F o w mb m s) (hlt:Zak o w) (hs:Zax o' w' s.sb d') (hc:Chg Zas o o' w w'):Zb4 F o' w' mb { m with d:=d' } s :=
 ⟨hc.ext _ _ h.own,(hc.same hlt h.own (by simp[Zas,Ze2])).trans h.blk,hs,h.memo.chg hc hlt (by simp[Zas,Ze2]) (by simp[Zas,Ze2]),hc.ext _ _ h.ownh,h.map.keepB (hc.same hlt h.ownh (by simp[Zas,Ze2])),h.waits.chg hc hlt (by simp[Zas,Ze2])⟩
theorem Zb4.setMemo {G:Phi} (h:Zb4 F o w mb m s) (hlt:Zak o w) (hm:Zcm o' w' s.me G) (hc:Chg (fun r=>r=.memo\/r=.entries) o o' w w'):Zb4 G o' w' mb m s :=
 ⟨hc.ext _ _ h.own,(hc.same hlt h.own (by simp)).trans h.blk,h.store.keepR (fun g r hg hr=>hc.same hlt hg (by rintro(rfl|rfl)<;>simp[Zas,Ze2] at hr)) hc.ext,hm,hc.ext _ _ h.ownh,h.map.keepB (hc.same hlt h.ownh (by simp)),h.waits.chg hc hlt (by simp)⟩
theorem Zb4.mono {G:Phi} (h:Zb4 F o w mb m s) (hF:∀ op a b c r,F op a b c r->G op a b c r):Zb4 G o w mb m s:=⟨h.own,h.blk,h.store,h.memo.mono hF,h.ownh,h.map,h.waits⟩
theorem Zb4.field (h:Zb4 F o w mb m s) {k:Nat} {u:Value} {m':ManD} {s':ManW} (hd:m'.d=m.d) (hh:m'.hs=m.hs) (h1:s'.sb=s.sb) (h2:s'.me=s.me) (h3:s'.hb=s.hb) (hw:Zbx o w s'.vw m'.waits)
 (hb:(#[.pointer (some ⟨s.sb,0,none⟩),.pointer (some ⟨s.me,0,none⟩),.map (some s.hb),.int .i64 m.next,s.vw,.int .i64 m.calls]:Array Value).setIfInBounds k u=#[.pointer (some ⟨s.sb,0,none⟩),.pointer (some ⟨s.me,0,none⟩),.map (some s.hb),.int .i64 m'.next,s'.vw,.int .i64 m'.calls]) :
 Zb4 F o (w.setCell ⟨mb,k,none⟩ u) mb m' s':=by
 have ne:∀ {g r},o g=some r->r ≠ .man->g≠mb:=fun hg hr e=>by subst e;have:=h.own;rw[hg] at this;cases this;exact hr rfl
 refine⟨h.own,?_,?_,?_,by rw[h3];exact h.ownh,?_,hw.keep (fun g hg=>Zaf (ne hg (by simp)) _) (fun _ h=>h)⟩
 ·
  rw[h1,h2,h3,<- hb];exact Zae h.blk _
 ·
  rw[h1,hd];exact h.store.keepR (fun g r hg hr=>Zaf (ne hg (by rintro rfl;simp[Zas,Ze2] at hr)) _) (fun _ _ h=>h)
 ·
  rw[h2];exact h.memo.keep (fun g r hg hr=>Zaf (ne hg (by rintro rfl;rcases hr with e|e<;>cases e)) _) (fun _ _ h=>h)
 ·
  rw[h3,hh];exact h.map.keepB (Zaf (ne h.ownh (by simp)) _)
end
abbrev Law:=Zag->(Nat->BF)->Phi
def minL (d:Zag) (a b c:Nat):Nat:=min (lvE d.vars.length (levN d) (Zab d) a) (min (lvE d.vars.length (levN d) (Zab d) b) (lvE d.vars.length (levN d) (Zab d) c))
structure IteP (d:Zag) (V:Nat->BF) (a b c r:Nat):Prop where
 okA:okE (Zab d) a
 okB:okE (Zab d) b
 okC:okE (Zab d) c
 okR:okE (Zab d) r
 val:∀ ρ,ef V r ρ=if ef V a ρ then ef V b ρ else ef V c ρ
 lev:minL d a b c<=lvE d.vars.length (levN d) (Zab d) r
structure Zbp (K:Law):Prop where
 ite:∀ d V a b c r,K d V 1 a b c r↔IteP d V a b c r
 ext:∀ d V d' V' op a b c r,Zan d V->Zan d' V'->Ext d V d' V'->K d V op a b c r->K d' V' op a b c r
 same:∀ d d' V op a b c r,d'.vars=d.vars->d'.level=d.level->Zab d'=Zab d->K d V op a b c r->K d' V op a b c r
def Zb3 (hs:List (Int×Nat)) (i:Nat):Nat:=(hs.filter fun p=>decide (1<p.1)&&p.2/2 == i).length
structure Zb7 (m:ManD):Prop where
 nodup:(m.hs.map Prod.fst).Nodup
 zero:(0,1)∈m.hs
 one:(1,0)∈m.hs
 lt:∀ p∈m.hs,0<=p.1/\p.1<m.next
 next:2<=m.next
 ok:∀ p∈m.hs,okE (Zab m.d) p.2
 len:(m.hs.length:Int)<=m.next
 refs:∀ i b,Zab m.d i=some b->Za2 m.d i=Zb3 m.hs i
structure Zre (m:ManD) (V:Nat->BF):Prop where
 store:Zan m.d V
 handles:Zb7 m
structure Step (K:Law) (o:Own) (w:World) (mb:Nat) (m:ManD) (V:Nat->BF) (o':Own) (w':World) (m':ManD) (V':Nat->BF):Prop where
 is:Zc6 (K m'.d V') o' w' mb m'
 lt:Zak o' w'
 chg:Chg (fun _=>True) o o' w w'
 ok:Zan m'.d V'
 ext:Ext m.d V m'.d V'
 hs:m'.hs=m.hs
 next:m'.next=m.next
theorem Step.trans {K:Law} {o o' o'':Own} {w w' w'':World} {mb:Nat} {m m' m'':ManD} {V V' V'':Nat->BF} (h:Step K o w mb m V o' w' m' V') (h':Step K o' w' mb m' V' o'' w'' m'' V''):Step K o w mb m V o'' w'' m'' V'' :=
 ⟨h'.is,h'.lt,h.chg.trans h'.chg,h'.ok,h.ext.trans h'.ext,h'.hs.trans h.hs,h'.next.trans h.next⟩
structure Zdd (o:Own) (w:World) (xb mb:Nat):Prop where
 cell:w.cell? ⟨xb,0,none⟩=some (.pointer (some ⟨mb,0,none⟩))
 own:o xb=none
theorem Zdd.chg {R:Role->Prop} {o o':Own} {w w':World} {xb mb:Nat} (h:Zdd o w xb mb) (hc:Chg R o o' w w'):Zdd o' w' xb mb:=⟨hc.cell h.cell h.own,hc.alien' (World.block_lt_of_cell? w _ h.cell) h.own⟩
open Go.RowKit
def sw1 (f g:Nat):Nat:=if g=f then 0 else if g=enot f then 1 else g
def sw2 (f h:Nat):Nat:=if h=f then 1 else if h=enot f then 0 else h
theorem Yau {f g:Nat} (h:g<eMax):sw1 f g<eMax:=by unfold sw1;unfold eMax at *;split<;>(try split)<;>omega
theorem Yav {f g:Nat} (h:g<eMax):sw2 f g<eMax:=by unfold sw2;unfold eMax at *;split<;>(try split)<;>omega
theorem eqE2 (w:World) (a b c d:Nat):(Op.equalIn 10000 230 (.agg #[.int .i64 a,.int .i64 b]) (.agg #[.int .i64 c,.int .i64 d])).run Tryz.prog w=.ok (decide (a=c/\b=d)) w:=by
 have h:=eqE w (a,b) (c,d);unfold encE Op.equal at h;simp only[Prod.mk.injEq] at h;exact h
structure IteR where
 a:Nat
 b:Nat
 c:Nat
 n:Bool
 r:Nat
 dn:Bool
def iteV (x:IteR):Value:=.tuple #[.int .i64 x.a,.int .i64 x.b,.int .i64 x.c,.bool x.n,.int .i64 x.r,.bool x.dn]
def iteM (f g h:Nat):IteR:=if eneg f then ⟨enot f,eflip h (eneg h),eflip g (eneg h),eneg h,0,false⟩ else ⟨f,eflip g (eneg g),eflip h (eneg g),eneg g,0,false⟩
def iteK (f g h:Nat):IteR :=
 if f=0\/g=h then ⟨0,0,0,false,g,true⟩ else if f=1 then ⟨0,0,0,false,h,true⟩ else if g=0/\h=1 then ⟨0,0,0,false,f,true⟩ else if g=1/\h=0 then ⟨0,0,0,false,enot f,true⟩ else iteM f g h
def iteR (f g h:Nat):IteR:=iteK f (sw1 f g) (sw2 f h)
theorem Zcv {fn:Func} {t u v x y z:Tmp} (h:fn.results=#[.tmp t,.tmp u,.tmp v,.tmp x,.tmp y,.tmp z]) (tmps:Array Value) (P:Program) (w:World) :
 (results fn tmps).run P w=.ok (.tuple #[tmps.getD t undef,tmps.getD u undef,tmps.getD v undef,tmps.getD x undef,tmps.getD y undef,tmps.getD z undef]) w:=by
 simp[results,h]
theorem Zzd (f g h:Nat) (w:World) (hf:f<eMax) (hg:g<eMax) (hh:h<eMax) :
 Calls Tryz.prog 149 #[.int .i64 f,.int .i64 g,.int .i64 h] w fun x w'=>x=.returned (iteV (iteR f g h))/\w=w':=by
 have HN:=Hd (fun W:World=>Zhj f W hf);have HG':=Hd (Yau (f:=f) hg);have HH:=Hd hh;have HH':=Hd (Yav (f:=f) hh);have HFF:=Hd hf;clear hf hg hh
 go_enter Tryz.func149,Tryz.ntmps149
 go_upto_block 0 with fail
 go_cut [1] from 13 (fun s1 wx=>s1=.int .i64 (sw1 f g:Nat)/\wx=w)
 case first =>
  by_cases h1:g=f
  ·
   have HX:Hid ((sw1 f g:Nat)=0):=by show _=_;simp[sw1,h1]
   subst h1;go_wp2_with fail;go_meet;exact⟨by rw[HX.out];rfl,rfl⟩
  ·
   have H1:(g == f)=false:=by simp[h1]
   by_cases h2:g=enot f
   ·
    have HX:Hid ((sw1 f g:Nat)=1):=by show _=_;unfold sw1;rw[if_neg h1,if_pos h2]
    subst h2;clear h1;go_wp2_with (go_at_call 101;refine(HN.out _).mono ?_;rintro x w' ⟨rfl,rfl⟩);go_meet;exact⟨by rw[HX.out];rfl,rfl⟩
   ·
    have HX:Hid ((sw1 f g:Nat)=g):=by show _=_;unfold sw1;rw[if_neg h1,if_neg h2]
    have H2:(g == enot f)=false:=by simp[h2]
    clear h1 h2;go_wp2_with (go_at_call 101;refine(HN.out _).mono ?_;rintro x w' ⟨rfl,rfl⟩);go_meet;exact⟨by rw[HX.out],rfl⟩
 case rest =>
  obtain⟨rfl,rfl⟩:=hcut;have HX1:Hid (iteR f g h=iteK f (sw1 f g) (sw2 f h)):=by show _=_;rfl
  obtain⟨g',hg'⟩:∃ g',g'=sw1 f g:=⟨_,rfl⟩;rw[<- hg'] at HX1;rw[<- hg'] at HG' ⊢;clear hg'
  go_upto_block 1 with fail
  go_cut [2] from 13 (fun s2 wx=>s2=.int .i64 (sw2 f h:Nat)/\wx=wc)
  case first =>
   by_cases h1:h=f
   ·
    have HX:Hid ((sw2 f h:Nat)=1):=by show _=_;simp[sw2,h1]
    subst h1;go_wp2_with fail;go_meet;exact⟨by rw[HX.out];rfl,rfl⟩
   ·
    have H1:(h == f)=false:=by simp[h1]
    by_cases h2:h=enot f
    ·
     have HX:Hid ((sw2 f h:Nat)=0):=by show _=_;unfold sw2;rw[if_neg h1,if_pos h2]
     subst h2;clear h1;go_wp2_with (go_at_call 101;refine(HN.out _).mono ?_;rintro x w' ⟨rfl,rfl⟩);go_meet;exact⟨by rw[HX.out];rfl,rfl⟩
    ·
     have HX:Hid ((sw2 f h:Nat)=h):=by show _=_;unfold sw2;rw[if_neg h1,if_neg h2]
     have H2:(h == enot f)=false:=by simp[h2]
     clear h1 h2;go_wp2_with (go_at_call 101;refine(HN.out _).mono ?_;rintro x w' ⟨rfl,rfl⟩);go_meet;exact⟨by rw[HX.out],rfl⟩
  case rest =>
   obtain⟨rfl,rfl⟩:=hcut;obtain⟨h',hh'⟩:∃ h',h'=sw2 f h:=⟨_,rfl⟩;rw[<- hh'] at HX1 HH' ⊢;clear hh'
   rename World=>w
   have hq:=fun(a b c d:Nat)=>eqE2 w a b c d
   by_cases f0:f=0
   ·
    have HR:Hid (iteR f g h=⟨0,0,0,false,g',true⟩):=by show _=_;rw[HX1.out,iteK,if_pos (.inl f0)]
    subst f0;go_wp2_with fail;refine bodyPost_ret (Zcv rfl _ _ _) rfl ?_;exact⟨by rw[HR.out];rfl,rfl⟩
   ·
    have H0:((f:Int) == 0)=false:=by simp[f0]
    by_cases e1:g'=h'
    ·
     have HR:Hid (iteR f g h=⟨0,0,0,false,g',true⟩):=by show _=_;rw[HX1.out,iteK,if_pos (.inr e1)]
     subst e1;go_wp2_with fail;refine bodyPost_ret (Zcv rfl _ _ _) rfl ?_;exact⟨by rw[HR.out];rfl,rfl⟩
    ·
     have H1:(g' == h')=false:=by simp[e1]
     by_cases f1:f=1
     ·
      have HR:Hid (iteR f g h=⟨0,0,0,false,h',true⟩):=by show _=_;rw[HX1.out,iteK,if_neg (by simp[f0,e1]),if_pos f1]
      have HR:=HR;subst f1;clear f0 e1;go_wp2_with fail;refine bodyPost_ret (Zcv rfl _ _ _) rfl ?_;exact⟨by rw[HR.out];rfl,rfl⟩
     ·
      have H2:((f:Int) == 1)=false:=by simp;omega
      by_cases q1:g'=0/\h'=1
      ·
       have HR:Hid (iteR f g h=⟨0,0,0,false,f,true⟩):=by show _=_;rw[HX1.out,iteK,if_neg (by simp[f0,e1]),if_neg f1,if_pos q1]
       have hq1:(Op.equalIn 10000 230 (.agg #[.int .i64 g',.int .i64 h']) (.agg #[.int .i64 0,.int .i64 1])).run Tryz.prog w=.ok true w:=(hq g' h' 0 1).trans (by simp[q1]);clear f0 e1 f1 q1 hq;go_wp2_with fail;refine bodyPost_ret (Zcv rfl _ _ _) rfl ?_;exact⟨by rw[HR.out];rfl,rfl⟩
      ·
       have hq1:(Op.equalIn 10000 230 (.agg #[.int .i64 g',.int .i64 h']) (.agg #[.int .i64 0,.int .i64 1])).run Tryz.prog w=.ok false w:=(hq g' h' 0 1).trans (by simp[q1])
       by_cases q2:g'=1/\h'=0
       ·
        have HR:Hid (iteR f g h=⟨0,0,0,false,enot f,true⟩):=by show _=_;rw[HX1.out,iteK,if_neg (by simp[f0,e1]),if_neg f1,if_neg q1,if_pos q2]
        have hq2:(Op.equalIn 10000 230 (.agg #[.int .i64 g',.int .i64 h']) (.agg #[.int .i64 1,.int .i64 0])).run Tryz.prog w=.ok true w:=(hq g' h' 1 0).trans (by simp[q2]);clear f0 e1 f1 q1 hq q2;go_wp2_with (go_at_call 101;refine(HN.out _).mono ?_;rintro x w' ⟨rfl,rfl⟩);refine bodyPost_ret (Zcv rfl _ _ _) rfl ?_;exact⟨by rw[HR.out];rfl,rfl⟩
       ·
        have hq2:(Op.equalIn 10000 230 (.agg #[.int .i64 g',.int .i64 h']) (.agg #[.int .i64 1,.int .i64 0])).run Tryz.prog w=.ok false w:=(hq g' h' 1 0).trans (by simp[q2]);have HR0:Hid (iteR f g h=iteM f g' h'):=by show _=_;rw[HX1.out,iteK,if_neg (by simp[f0,e1]),if_neg f1,if_neg q1,if_neg q2]
        clear f0 e1 f1 q1 hq q2;have HNE:=Hd (fun W:World=>Zki f W HFF.out);cases hb:eneg f with
        | true =>
          have HR:Hid (iteR f g h=⟨enot f,eflip h' (eneg h'),eflip g' (eneg h'),eneg h',0,false⟩):=by show _=_;rw[HR0.out,iteM,if_pos hb]
          rw[hb] at HNE;clear hb;go_wp2_with fail;refine(HNE.out _).mono ?_;rintro x w' ⟨rfl,rfl⟩;go_wp2_with fail;refine(HN.out _).mono ?_;rintro x w' ⟨rfl,rfl⟩;go_wp2_with fail;refine(Zki h' _ HH'.out).mono ?_;rintro x w' ⟨rfl,rfl⟩;go_wp2_with fail;refine(Zda h' _ _ HH'.out).mono ?_;rintro x w' ⟨rfl,rfl⟩;go_wp2_with fail;refine(Zda g' _ _ HG'.out).mono ?_;rintro x w' ⟨rfl,rfl⟩;go_wp2_with fail;refine bodyPost_ret (Zcv rfl _ _ _) rfl ?_;exact⟨by rw[HR.out];rfl,rfl⟩
        | false =>
          have HR:Hid (iteR f g h=⟨f,eflip g' (eneg g'),eflip h' (eneg g'),eneg g',0,false⟩):=by show _=_;rw[HR0.out,iteM,if_neg (by simp[hb])]
          rw[hb] at HNE;clear hb;go_wp2_with fail;refine(HNE.out _).mono ?_;rintro x w' ⟨rfl,rfl⟩;go_wp2_with fail;refine(Zki g' _ HG'.out).mono ?_;rintro x w' ⟨rfl,rfl⟩;go_wp2_with fail;refine(Zda g' _ _ HG'.out).mono ?_;rintro x w' ⟨rfl,rfl⟩;go_wp2_with fail;refine(Zda h' _ _ HH'.out).mono ?_;rintro x w' ⟨rfl,rfl⟩;go_wp2_with fail;refine bodyPost_ret (Zcv rfl _ _ _) rfl ?_;exact⟨by rw[HR.out];rfl,rfl⟩
end Go.Proofs.YtmofaapnkidioaaGreat

namespace Go.Proofs.YtmofaapnkidioaaGreat
def Zd6 (e f g h:Nat):Prop:=e/2=0\/e/2=f/2\/e/2=g/2\/e/2=h/2
def iteB (a b c:Bool):Bool:=if a then b else c
section
variable {V:Nat->BF} (hV:∀ ρ,V 0 ρ=true)
theorem Zhg (hV:∀ ρ,V 0 ρ=true) (ρ:Nat->Bool):ef V 0 ρ=true:=by simp[ef,hV]
theorem Zj5 (hV:∀ ρ,V 0 ρ=true) (ρ:Nat->Bool):ef V 1 ρ=false:=by simp[ef,hV]
theorem Zyf (hV:∀ ρ,V 0 ρ=true) (f g:Nat) (h:Bool) (ρ:Nat->Bool):iteB (ef V f ρ) (ef V (sw1 f g) ρ) h=iteB (ef V f ρ) (ef V g ρ) h:=by
 unfold sw1
 by_cases e1:g=f
 ·
  subst e1;rw[if_pos rfl,Zhg hV];unfold iteB;cases ef V g ρ<;>rfl
 ·
  by_cases e2:g=enot f
  ·
   subst e2;rw[if_neg e1,if_pos rfl,Zhf,Zj5 hV];unfold iteB;cases ef V f ρ<;>rfl
  ·
   rw[if_neg e1,if_neg e2]
end
theorem Zyg {V:Nat->BF} (hV:∀ ρ,V 0 ρ=true) (f h:Nat) (g:Bool) (ρ:Nat->Bool):iteB (ef V f ρ) g (ef V (sw2 f h) ρ)=iteB (ef V f ρ) g (ef V h ρ):=by
 unfold sw2
 by_cases e1:h=f
 ·
  subst e1;rw[if_pos rfl,Zj5 hV];unfold iteB;cases ef V h ρ<;>rfl
 ·
  by_cases e2:h=enot f
  ·
   subst e2;rw[if_neg e1,if_pos rfl,Zhf,Zhg hV];unfold iteB;cases ef V f ρ<;>rfl
  ·
   rw[if_neg e1,if_neg e2]
theorem Zq4 (f g:Nat):sw1 f g/2=0\/sw1 f g/2=g/2:=by unfold sw1;split<;>(try split)<;>simp
theorem Zq5 (f g:Nat):sw2 f g/2=0\/sw2 f g/2=g/2:=by unfold sw2;split<;>(try split)<;>simp
theorem Zoa {f g h:Nat} (hd:(iteR f g h).dn=true):Zd6 (iteR f g h).r f g h/\∀ {V:Nat->BF},(∀ ρ,V 0 ρ=true)->∀ ρ,ef V (iteR f g h).r ρ=iteB (ef V f ρ) (ef V g ρ) (ef V h ρ):=by
 have q1:=Zq4 f g;have q2:=Zq5 f h;have key:∀ {V:Nat->BF},(∀ ρ,V 0 ρ=true)->∀ ρ,iteB (ef V f ρ) (ef V g ρ) (ef V h ρ)=iteB (ef V f ρ) (ef V (sw1 f g) ρ) (ef V (sw2 f h) ρ):=fun hV ρ=>by rw[Zyf hV,Zyg hV]
 unfold iteR at hd ⊢
 generalize sw1 f g=g' at *
 generalize sw2 f h=h' at *
 unfold iteK at hd ⊢
 by_cases e1:f=0\/g'=h'
 ·
  simp only[if_pos e1];refine⟨by unfold Zd6;omega,fun hV ρ=>?_⟩;rw[key hV];rcases e1 with e|e
  ·
   subst e;rw[Zhg hV];rfl
  ·
   subst e;unfold iteB;split<;>rfl
 ·
  simp only[if_neg e1] at hd ⊢
  by_cases e2:f=1
  ·
   simp only[if_pos e2];refine⟨by unfold Zd6;omega,fun hV ρ=>?_⟩;rw[key hV];subst e2;rw[Zj5 hV];rfl
  ·
   simp only[if_neg e2] at hd ⊢
   by_cases e3:g'=0/\h'=1
   ·
    simp only[if_pos e3];refine⟨by unfold Zd6;omega,fun hV ρ=>?_⟩;rw[key hV,e3.1,e3.2,Zj5 hV,Zhg hV];unfold iteB;cases ef _ f ρ<;>rfl
   ·
    simp only[if_neg e3] at hd ⊢
    by_cases e4:g'=1/\h'=0
    ·
     simp only[if_pos e4];have:=Zf5 f;refine⟨by unfold Zd6;omega,fun hV ρ=>?_⟩;rw[key hV,e4.1,e4.2,Zj5 hV,Zhg hV,Zhf];unfold iteB;cases ef _ f ρ<;>rfl
    ·
     simp only[if_neg e4] at hd;unfold iteM at hd;split at hd<;>cases hd
theorem Zuh {f g h:Nat} (hd:(iteR f g h).dn=false):Zd6 (iteR f g h).a f g h/\Zd6 (iteR f g h).b f g h/\Zd6 (iteR f g h).c f g h/\(iteR f g h).a/2≠0 /\
 ∀ {V:Nat->BF},(∀ ρ,V 0 ρ=true)->∀ ρ,iteB (ef V f ρ) (ef V g ρ) (ef V h ρ)=((iteR f g h).n != iteB (ef V (iteR f g h).a ρ) (ef V (iteR f g h).b ρ) (ef V (iteR f g h).c ρ)):=by
 have q1:=Zq4 f g;have q2:=Zq5 f h;have key:∀ {V:Nat->BF},(∀ ρ,V 0 ρ=true)->∀ ρ,iteB (ef V f ρ) (ef V g ρ) (ef V h ρ)=iteB (ef V f ρ) (ef V (sw1 f g) ρ) (ef V (sw2 f h) ρ):=fun hV ρ=>by rw[Zyf hV,Zyg hV]
 unfold iteR at hd ⊢
 generalize sw1 f g=g' at *
 generalize sw2 f h=h' at *
 unfold iteK at hd ⊢
 by_cases e1:f=0\/g'=h'
 ·
  simp[if_pos e1] at hd
 ·
  by_cases e2:f=1
  ·
   simp[if_neg e1,if_pos e2] at hd
  ·
   by_cases e3:g'=0/\h'=1
   ·
    simp[if_neg e1,if_neg e2,if_pos e3] at hd
   ·
    by_cases e4:g'=1/\h'=0
    ·
     simp[if_neg e1,if_neg e2,if_neg e3,if_pos e4] at hd
    ·
     simp only[if_neg e1,if_neg e2,if_neg e3,if_neg e4];unfold iteM
     by_cases e5:eneg f=true
     ·
      simp only[if_pos e5];have a1:=Zf5 f;have a2:=Zc0 h' (eneg h');have a3:=Zc0 g' (eneg h');refine⟨by unfold Zd6;omega,by unfold Zd6;omega,by unfold Zd6;omega,by omega,fun hV ρ=>?_⟩;rw[key hV,Zhf,Zc9,Zc9];unfold iteB;cases ef _ f ρ<;>cases eneg h'<;>simp
     ·
      simp only[if_neg e5];have a2:=Zc0 h' (eneg g');have a3:=Zc0 g' (eneg g');refine⟨by unfold Zd6;omega,by unfold Zd6;omega,by unfold Zd6;omega,by omega,fun hV ρ=>?_⟩;rw[key hV,Zc9,Zc9];unfold iteB;cases ef _ f ρ<;>cases eneg g'<;>simp
open Go.RowKit
def atV (d:Zag) (f:Nat):Value :=
 match Zab d (f/2) with
 | some b=>.tuple #[.int .i64 b.v,.int .i64 (eflip b.lo (eneg f):Nat),.int .i64 (eflip b.hi (eneg f):Nat),.bool true]
 | none=>.tuple #[.int .i64 (-1),.int .i64 0,.int .i64 0,.bool false]
theorem Zgw {o:Own} {w:World} {sb:Nat} {d:Zag} {V:Nat->BF} (h:Zax o w sb d) (hlt:Zak o w) (hk:Zan d V) (f:Nat) (hf:okE (Zab d) f) :
 Calls Tryz.prog 164 #[.pointer (some ⟨sb,0,none⟩),.int .i64 f] w fun x w'=>x=.returned (atV d f)/\Below w.heap.size w w':=by
 obtain⟨s,h⟩:=h;have lt:∀ e,okE (Zab d) e->e<eMax:=fun e he=>by have:=h.edge_lt he;unfold eMax;omega
 cases hb:Zab d (f/2) with
 | none =>
   have ht:d.pool.tk (enode f)=false:=Zge hb;have hz:d.pool.has (enode f)=rn0:=by unfold Zam.has;rw[ht];rfl
   refine(Zkq h hlt f (lt f hf) (by rw[hz];decide) (by rw[hz];decide)).mono ?_;rintro x w' ⟨rfl,hb'⟩;exact⟨by simp[ht,atV,hb],hb'⟩
 | some b =>
   have hn:=Za7 hb;have ht:d.pool.tk (enode f)=true:=hn.1;have hbn:bnOf (d.pool.has (enode f))=b:=hn.2.2;have e1:(d.pool.has (enode f)).v=b.v:=by rw[<- hbn];rfl
   have e2:(d.pool.has (enode f)).lo=b.lo:=by rw[<- hbn];rfl
   have e3:(d.pool.has (enode f)).hi=b.hi:=by rw[<- hbn];rfl
   refine(Zkq h hlt f (lt f hf) (by rw[e2];exact lt _ (hk.dag.okLo _ _ hb)) (by rw[e3];exact lt _ (hk.dag.okHi _ _ hb))).mono ?_;rintro x w' ⟨rfl,hb'⟩;exact⟨by simp[ht,atV,hb,e1,e2,e3],hb'⟩
theorem Zax.below {o:Own} {w w':World} {sb:Nat} {d:Zag} (h:Zax o w sb d) (hlt:Zak o w) (hb:Below w.heap.size w w'):Zax o w' sb d:=by
 obtain⟨s,h⟩:=h;exact⟨s,h.below hlt hb⟩
theorem Znp {F:Phi} {o:Own} {w:World} {xb mb:Nat} {m:ManD} {V:Nat->BF} (h:Zc6 F o w mb m) (hx:Zdd o w xb mb) (hk:Zan m.d V) (v:Int) :
 Calls Tryz.prog 208 #[.pointer (some ⟨xb,0,none⟩),.int .i64 v] w fun x w'=>x=.returned (.int .i64 (Zfy m.d v))/\w=w':=by
 obtain⟨s,h⟩:=h;obtain⟨st,hst⟩:=h.store;obtain⟨c0,c1,c2,c3,c4,c5,f0⟩:=cells6 h.blk;have HL:=Hd (Zhm hst v (by rw[hst.len];have:=hk.small;omega));have cx:=hx.cell;clear h hst hx hk
 go_enter Tryz.func208,Tryz.ntmps208
 go_wp2_with fail;refine HL.out.mono ?_;rintro x w' ⟨rfl,rfl⟩;go_wp2_with fail;go_ret;exact⟨rfl,rfl⟩
def cofs (d:Zag) (f:Nat) (v:Int):Nat×Nat :=
 match Zab d (f/2) with
 | some b=>if (b.v:Int)=v then (eflip b.lo (eneg f),eflip b.hi (eneg f)) else (f,f)
 | none=>(f,f)
theorem Znq {F:Phi} {o:Own} {w:World} {xb mb:Nat} {m:ManD} {V:Nat->BF} (h:Zc6 F o w mb m) (hlt:Zak o w) (hx:Zdd o w xb mb) (hk:Zan m.d V) (f:Nat) (hf:okE (Zab m.d) f) (v:Int) :
 Calls Tryz.prog 152 #[.pointer (some ⟨xb,0,none⟩),.int .i64 f,.int .i64 v] w fun x w'=>x=.returned (.tuple #[.int .i64 (cofs m.d f v).1,.int .i64 (cofs m.d f v).2])/\Below w.heap.size w w':=by
 obtain⟨s,h⟩:=h;obtain⟨c0,c1,c2,c3,c4,c5,f0⟩:=cells6 h.blk;have HA:=Hd (Zgw h.store hlt hk f hf);have cx:=hx.cell;clear h hx hk hlt hf;unfold atV at HA;unfold cofs;cases hb:Zab m.d (f/2) with
 | none =>
   rw[hb] at HA;clear hb
   go_enter Tryz.func152,Tryz.ntmps152
   go_wp2_with fail;refine HA.out.mono ?_;rintro x w' ⟨rfl,hb⟩;have HB:=Hd hb;clear hb;go_wp2_with fail
   go_ret2
   exact⟨rfl,HB.out⟩
 | some b =>
   rw[hb] at HA;clear hb
   by_cases e:(b.v:Int)=v
   ·
    subst e;have HE:Hid ((if (b.v:Int)=b.v then (eflip b.lo (eneg f),eflip b.hi (eneg f)) else (f,f))=(eflip b.lo (eneg f),eflip b.hi (eneg f))):=by show _=_;rw[if_pos rfl]
    go_enter Tryz.func152,Tryz.ntmps152
    go_wp2_with fail;refine HA.out.mono ?_;rintro x w' ⟨rfl,hb⟩;have HB:=Hd hb;clear hb;go_wp2_with fail
    go_ret2
    exact⟨by first|rfl|(rw[HE.out];rfl),HB.out⟩
   ·
    have HE:Hid ((if (b.v:Int)=v then (eflip b.lo (eneg f),eflip b.hi (eneg f)) else (f,f))=(f,f)):=by show _=_;rw[if_neg e]
    have H1:((b.v:Int) == v)=false:=by simpa using e
    go_enter Tryz.func152,Tryz.ntmps152
    go_wp2_with fail;refine HA.out.mono ?_;rintro x w' ⟨rfl,hb⟩;have HB:=Hd hb;clear hb;go_wp2_with fail
    go_ret2
    exact⟨by first|rfl|(rw[HE.out];rfl),HB.out⟩
def TopS (d:Zag) (zs:List Nat) (top least:Int):Prop :=
 (top = -1/\least=0/\∀ e∈zs,Zab d (e/2)=none) \/
 ∃ v:Nat,top=v/\least=(levN d v:Nat)/\v<d.vars.length/\(∃ e∈zs,∃ b,Zab d (e/2)=some b/\b.v=v)/\∀ e∈zs,levN d v<=lvE d.vars.length (levN d) (Zab d) e
theorem TopS.none {d:Zag} {zs:List Nat} {top least:Int} {e:Nat} (h:TopS d zs top least) (hl:∀ v,v<d.vars.length->levN d v<d.vars.length) (he:Zab d (e/2)=none):TopS d (zs++[e]) top least:=by
 rcases h with ⟨h1,h2,h3⟩|⟨v,h1,h2,h3,⟨e0,he0,hb⟩,h5⟩
 ·
  refine .inl ⟨h1,h2,fun x hx=>?_⟩;rcases List.mem_append.1 hx with hx|hx
  ·
   exact h3 x hx
  ·
   simp at hx;subst hx;exact he
 ·
  refine .inr ⟨v,h1,h2,h3,⟨e0,by simp[he0],hb⟩,fun x hx=>?_⟩;rcases List.mem_append.1 hx with hx|hx
  ·
   exact h5 x hx
  ·
   simp at hx;subst hx;unfold lvE;rw[he];exact Nat.le_of_lt (hl v h3)
theorem TopS.keep {d:Zag} {zs:List Nat} {v:Nat} {least:Int} {e:Nat} {b:BN} (h:TopS d zs v least) (he:Zab d (e/2)=some b) (hle:¬ ((levN d b.v:Nat):Int)<least):TopS d (zs++[e]) v least:=by
 rcases h with ⟨h1,h2,h3⟩|⟨u,h1,h2,h3,⟨e0,he0,hb⟩,h5⟩
 ·
  omega
 ·
  obtain rfl:v=u:=by omega
  refine .inr ⟨v,rfl,h2,h3,⟨e0,by simp[he0],hb⟩,fun x hx=>?_⟩;rcases List.mem_append.1 hx with hx|hx
  ·
   exact h5 x hx
  ·
   simp at hx;subst hx;unfold lvE;rw[he];dsimp only;omega
theorem TopS.take {d:Zag} {zs:List Nat} {top least:Int} {e:Nat} {b:BN} (h:TopS d zs top least) (hv:b.v<d.vars.length) (hl:∀ v,v<d.vars.length->levN d v<d.vars.length) (he:Zab d (e/2)=some b) (hle:top<0\/((levN d b.v:Nat):Int)<least):TopS d (zs++[e]) b.v (levN d b.v:Nat):=by
 refine .inr ⟨b.v,rfl,rfl,hv,⟨e,by simp,b,he,rfl⟩,fun x hx=>?_⟩;rcases List.mem_append.1 hx with hx|hx
 ·
  rcases h with ⟨h1,h2,h3⟩|⟨u,h1,h2,h3,⟨e0,he0,hb⟩,h5⟩
  ·
   unfold lvE;rw[h3 x hx];exact Nat.le_of_lt (hl _ hv)
  ·
   have:=h5 x hx;omega
 ·
  simp at hx;subst hx;unfold lvE;rw[he];exact Nat.le_refl _
theorem Zoe {d:Zag} {v:Nat} (h:v<d.level.length):Zfy d v=(levN d v:Nat):=by unfold Zfy;rw[if_pos ⟨by omega,by omega⟩];rfl
theorem Zrp {F:Phi} {o:Own} {w:World} {xb mb:Nat} {m:ManD} {V:Nat->BF} (h:Zc6 F o w mb m) (hlt:Zak o w) (hx:Zdd o w xb mb) (hk:Zan m.d V) (zs:List Nat) (hz:∀ e∈zs,okE (Zab m.d) e) (a:Option Addr) (c:Nat) (hzs:Za4 w a (zs.map Int.ofNat)) :
 Calls Tryz.prog 151 #[.pointer (some ⟨xb,0,none⟩),.slice a zs.length c] w fun x w'=>∃ top least,x=.returned (.int .i64 top)/\TopS m.d zs top least/\Below w.heap.size w w':=by
 obtain⟨s,h⟩:=h;obtain⟨st,hst⟩:=h.store;have hlen:m.d.level.length=m.d.vars.length:=hst.len;have HM:=Hd h;have HX:=Hd hx;have HLT:=Hd hlt;have HK:=Hd hk;have HZ:=Hd hz;have HZS:=Hd hzs;have hzl:=hzs.len;simp only[List.length_map] at hzl;clear h hst hx hlt hk hz hzs
 go_enter Tryz.func151,Tryz.ntmps151
 go_wp2_with fail
 go_loopw [5,6,15] (fun s5 s6 i wr=>∃ (k:Nat) (top least:Int),k<=zs.length/\i=.int .i64 k/\s5=.int .i64 top/\s6=.int .i64 least/\TopS m.d (zs.take k) top least/\Below w.heap.size w wr) (fun _ _ i _=>zs.length-(intOf i).toNat)
 case atStart=>exact⟨0,-1,0,by omega,rfl,rfl,rfl,.inl ⟨rfl,rfl,by simp⟩,Below.refl _ _⟩
 case round =>
  obtain⟨k,top,least,hk,rfl,rfl,rfl,hT,hB⟩:=hrel
  by_cases hkl:k<zs.length
  ·
   obtain⟨b0,off,ha,hcell⟩:=(HZS.out.below hB).cells k (by simpa using hkl);subst ha;have he:at0 (zs.map Int.ofNat) k=(zs[k]:Int):=by rw[Zcb (by simpa using hkl)];simp
   rw[he] at hcell;have hmem:zs[k]∈zs:=List.getElem_mem hkl;have htk:zs.take (k+1)=zs.take k++[zs[k]]:=by rw[List.take_add_one,List.getElem?_eq_getElem hkl];rfl
   have hok:=HZ.out _ hmem;obtain⟨f,hf⟩:∃ f,f=zs[k]:=⟨_,rfl⟩;rw[<- hf] at hcell hok htk;obtain⟨c0,c1,c2,c3,c4,c5,f0⟩:=cells6 ((HM.out.below HLT.out hB).blk);have cx:wr.cell? ⟨xb,0,none⟩=_:=(hB.cell (p:=⟨xb,0,none⟩) (Zaa HX.out.cell)).trans HX.out.cell;have HA:=Hd (Zgw ((HM.out.below HLT.out hB).store) (HLT.out.mono hB.size) HK.out f hok);have HTK:=Hd htk;have HT:=Hd hT;have HB:=Hd hB;have hkl':(k:Int)<zs.length:=by omega
   clear hf hmem he hT hB hok htk;unfold atV at HA;have HLV:Hid (∀ v,v<m.d.vars.length->levN m.d v<m.d.vars.length):=Hd HK.out.dag.lt;have HCL:=Hd (fun W hb v=>Znp ⟨s,HM.out.below HLT.out hb⟩ (o:=o) (w:=W) (xb:=xb) (mb:=mb) ⟨(hb.cell (p:=⟨xb,0,none⟩) (Zaa HX.out.cell)).trans HX.out.cell,HX.out.own⟩ HK.out v);cases hb:Zab m.d (f/2) with
   | none =>
     rw[hb] at HA;have HN:=Hd hb;clear hb;go_wp2_with fail;refine HA.out.mono ?_;rintro x w' ⟨rfl,hb2⟩;have HB2:=Hd (HB.out.trans (hb2.mono HB.out.size));clear hb2;go_wp2_with fail;go_roundw
     case rel=>exact⟨k+1,top,least,by omega,by simp,rfl,rfl,by rw[HTK.out];exact HT.out.none HLV.out HN.out,HB2.out⟩
     case measure=>simp[intOf];omega
   | some b =>
     rw[hb] at HA;have HN:=Hd hb;have hbv:=HK.out.dag.var _ _ hb;have hlz:Zfy m.d b.v=(levN m.d b.v:Nat):=Zoe (by rw[hlen];exact hbv);have HBV:=Hd hbv;have HCL2:=Hd (fun W hb=>HCL.out W hb b.v);rw[hlz] at HCL2;clear hb hbv hlz HCL
     by_cases ht:top<0
     ·
      have HTT:=Hd ht;go_wp2_with fail;refine HA.out.mono ?_;rintro x w' ⟨rfl,hb2⟩;have HB2:=Hd (HB.out.trans (hb2.mono HB.out.size));clear hb2;go_wp2_with fail;refine(HCL2.out _ HB2.out).mono ?_;rintro x w'' ⟨rfl,rfl⟩;go_wp2_with fail;go_roundw
      case rel=>exact⟨k+1,_,_,by omega,by simp,rfl,rfl,by rw[HTK.out];exact HT.out.take HBV.out HLV.out HN.out (.inl HTT.out),HB2.out⟩
      case measure=>simp[intOf];omega
     ·
      by_cases hle:((levN m.d b.v:Nat):Int)<least
      ·
       have HLE:=Hd hle;go_wp2_with fail;refine HA.out.mono ?_;rintro x w' ⟨rfl,hb2⟩;have HB2:=Hd (HB.out.trans (hb2.mono HB.out.size));clear hb2;go_wp2_with fail;refine(HCL2.out _ HB2.out).mono ?_;rintro x w'' ⟨rfl,rfl⟩;go_wp2_with fail;refine(HCL2.out _ HB2.out).mono ?_;rintro x w'' ⟨rfl,rfl⟩;go_wp2_with fail;go_roundw
       case rel=>exact⟨k+1,_,_,by omega,by simp,rfl,rfl,by rw[HTK.out];exact HT.out.take HBV.out HLV.out HN.out (.inr HLE.out),HB2.out⟩
       case measure=>simp[intOf];omega
      ·
       obtain⟨tn,htn⟩:∃ tn:Nat,top=tn:=⟨top.toNat,by omega⟩;subst htn;have HLE:=Hd hle;go_wp2_with fail;refine HA.out.mono ?_;rintro x w' ⟨rfl,hb2⟩;have HB2:=Hd (HB.out.trans (hb2.mono HB.out.size));clear hb2;go_wp2_with fail;refine(HCL2.out _ HB2.out).mono ?_;rintro x w'' ⟨rfl,rfl⟩;go_wp2_with fail;go_roundw
       case rel=>exact⟨k+1,_,_,by omega,by simp,rfl,rfl,by rw[HTK.out];exact HT.out.keep HN.out (by have:=HLE.out;omega),HB2.out⟩
       case measure=>simp[intOf];omega
  ·
   obtain rfl:k=zs.length:=by omega
   have HT:=Hd hT;have HB:=Hd hB;clear hT hB;go_wp2_with fail;go_ret;exact⟨top,least,rfl,by have:=HT.out;rwa [List.take_length] at this,HB.out⟩
open Go.RowKit
def Zb2 (er:Int) (event:Bool) (ev:Ev):Ending:=.panicked [{ v:=.iface 172 (.agg #[.int .i64 er,.bool event,.int .i64 ev.after,.int .i64 ev.kind,.int .i64 ev.level]),recovered:=false }]
def ev0:Ev:=⟨0,0,0⟩
def Zcq (c:Int):Int:=wrap64 (c+1)
def Znd (d:Zag) (v:Int) (lo hi:Nat) (er:Int):Prop :=
 (er=9/\¬ (0<=v/\v<d.vars.length)) \/
 (er=10/\0<=v/\v<d.vars.length/\(lvE d.vars.length (levN d) (Zab d) lo<=levN d v.toNat\/lvE d.vars.length (levN d) (Zab d) hi<=levN d v.toNat)) \/
 (er=7/\d.pool.many=d.pool.room)
def Zhp (K:Law) (o:Own) (w:World) (mb:Nat) (m:ManD) (V:Nat->BF) (v:Int) (lo hi:Nat) (e:Ending) (w':World):Prop :=
 ∃ o' m' V',Step K o w mb m V o' w' m' V' /\
  ((∃ ev,m.waits=ev::m'.waits/\ev.after<=Zcq m.calls/\m'.calls=0/\m'.d=m.d/\V'=V/\e=Zb2 0 true ev) \/
   (m'.waits=m.waits/\m'.calls=Zcq m.calls/\(∀ ev ws,m.waits=ev::ws->Zcq m.calls<ev.after) /\
    ((∃ er,Znd m.d v lo hi er/\m'.d=m.d/\V'=V/\e=Zb2 er false ev0) \/
     (0<=v/\v<m.d.vars.length/\∃ r:Nat,e=.returned (.int .i64 r)/\okE (Zab m'.d) r/\ef V' r=iteF v.toNat (ef V hi) (ef V lo) /\
      levN m.d v.toNat<=lvE m.d.vars.length (levN m'.d) (Zab m'.d) r/\m'.d.pool.many<=m.d.pool.many+1))))
theorem Chg.ofDrewN {R:Role->Prop} {o o':Own} {w w':World} {n:Nat} (h:Chg R o o' (w.drewN n) w'):Chg R o o' w w':=⟨h.os,h.tape,h.output,h.size,h.block,h.ext,h.new⟩
theorem Zha {w w':World} {n:Nat} (h:Below (w.drewN n).heap.size (w.drewN n) w'):Below w.heap.size w w':=⟨h.os,h.tape,h.output,h.size,h.block⟩
theorem Chg.any {R:Role->Prop} {o o':Own} {w w':World} (h:Chg R o o' w w'):Chg (fun _=>True) o o' w w':=h.mono fun _ _=>trivial
theorem Zwa {K:Law} {o:Own} {w:World} {xb mb:Nat} {m:ManD} {V:Nat->BF} (hK:Zbp K) (h:Zc6 (K m.d V) o w mb m) (hlt:Zak o w) (hx:Zdd o w xb mb) (hk:Zan m.d V) (v:Int) (lo hi:Nat) (hlo:okE (Zab m.d) lo) (hhi:okE (Zab m.d) hi)
 (hdue:∀ ev ws,m.waits=ev::ws->Zcq m.calls<ev.after) :
 Calls Tryz.prog 77 #[.pointer (some ⟨xb,0,none⟩),.int .i64 v,.int .i64 lo,.int .i64 hi] w (Zhp K o w mb m V v lo hi):=by
 obtain⟨s,h⟩:=h;obtain⟨c0,c1,c2,c3,c4,c5,f0⟩:=cells6 h.blk;have cx:=hx.cell;obtain⟨W,hW⟩:∃ W,W=w.setCell ⟨mb,5,none⟩ (.int .i64 (Zcq m.calls)):=⟨_,rfl⟩;have hMW:Zb4 (K m.d V) o W mb { m with calls:=Zcq m.calls } s:=by rw[hW];exact h.field rfl rfl rfl rfl rfl h.waits rfl
 have hCW:Chg (fun _=>True) o o w W:=by rw[hW];exact(Chg.refl _ o w).setCell (p:=⟨mb,5,none⟩) h.own trivial _
 have hLW:Zak o W:=hlt.mono hCW.size;have hXW:=hx.chg hCW;obtain⟨d0,d1,d2,d3,d4,d5,g0⟩:=cells6 hMW.blk;have dx:=hXW.cell;obtain⟨aw,cw,hvw,hnil⟩:=hMW.waits.slice;have hwl:(m.waits=[]/\True)\/∃ ev ws,m.waits=ev::ws:=by cases m.waits with
  | nil=>exact .inl ⟨rfl,trivial⟩
  | cons ev ws=>exact .inr ⟨ev,ws,rfl⟩
 have HK:=Hd hK;have HCW:=Hd hCW;have HLW:=Hd hLW;have HMW:=Hd hMW;have HOK:=Hd hk;have HMK:Hid (∀ n,Calls Tryz.prog 148 #[.pointer (some ⟨s.sb,0,none⟩),.int .i64 v,.int .i64 lo,.int .i64 hi] (W.drewN n) (Ze7 o (W.drewN n) s.sb m.d V v lo hi)) :=
  Hd fun n=>Zp9 (hMW.store.below hLW (Zai W n)) (hLW.mono (Zai W n).size) hk v lo hi hlo hhi
 have HDUE:=Hd hdue;have HW:Hid (w.setCell ⟨mb,5,none⟩ (.int .i64 (wrap64 (m.calls+1)))=W):=Hd hW.symm;have hneg:5≠4:=by decide
 clear h hlt hx hk hlo hhi hMW hCW hLW hXW hW hdue
 go_enter Tryz.func77,Tryz.ntmps77
 go_upto_region 3 with fail;rw[HW.out];obtain⟨cu,hcu⟩:∃ cu,cu=wrap64 (m.calls+1):=⟨_,rfl⟩;have d5':W.cell? ⟨mb,5,none⟩=some (.int .i64 cu):=by rw[hcu];exact d5
 have HCU:Hid (Zcq m.calls=cu):=Hd hcu.symm;rw[<- hcu];clear c0 c1 c2 c3 c4 c5 f0 cx hneg d5 hcu;have STE:Hid (∀ w',Below W.heap.size W w'->Step K o w mb m V o w' { m with calls:=Zcq m.calls } V) :=
  Hd fun w' hb=>⟨⟨s,HMW.out.below HLW.out hb⟩,HLW.out.mono hb.size,HCW.out.trans (Chg.of_below hb _ _),HOK.out,Ext.refl _ _,rfl,rfl⟩
 rcases hwl with ⟨hw0,_⟩|⟨ev,ws,hw1⟩
 ·
  rw[hvw] at d4;dsimp only at d4;rw[hw0] at d4;have d4':W.cell? ⟨mb,4,none⟩=some (.slice aw 0 cw):=d4;clear d4 hw0 hvw hnil
  go_quiet (fail)
  go_wp2_with fail;refine(HMK.out nq).mono ?_;rintro x w' (⟨q1,rfl,q2⟩|⟨q1,q2,q3,rfl,q4⟩|⟨q1,rfl,q2⟩|⟨q1,q2,r,d',V',o',rfl,q4,q5,q6,q7,q8,q9,q10,q11,q12⟩)
  ·
   have H1:=Hd (STE.out w' (Zha q2));have H2:Hid (Znd m.d v lo hi 9):=Hd (.inl ⟨rfl,q1⟩);clear q1 q2;go_wp2_with fail;refine⟨rfl,o,_,V,H1.out,.inr ⟨rfl,rfl,HDUE.out,.inl ⟨9,H2.out,rfl,rfl,rfl⟩⟩⟩
  ·
   have H1:=Hd (STE.out w' (Zha q4));have H2:Hid (Znd m.d v lo hi 10):=Hd (.inr (.inl ⟨rfl,q1,q2,q3⟩));clear q1 q2 q3 q4;go_wp2_with fail;refine⟨rfl,o,_,V,H1.out,.inr ⟨rfl,rfl,HDUE.out,.inl ⟨10,H2.out,rfl,rfl,rfl⟩⟩⟩
  ·
   have H1:=Hd (STE.out w' (Zha q2));have H2:Hid (Znd m.d v lo hi 7):=Hd (.inr (.inr ⟨rfl,q1⟩));clear q1 q2;go_wp2_with fail;refine⟨rfl,o,_,V,H1.out,.inr ⟨rfl,rfl,HDUE.out,.inl ⟨7,H2.out,rfl,rfl,rfl⟩⟩⟩
  ·
   have H1:Hid (Step K o w mb m V o' w' { m with calls:=Zcq m.calls,d:=d' } V'):=Hd ⟨⟨s,(HMW.out.setStore HLW.out q4 q12.ofDrewN).mono fun op a b c r h=>HK.out.ext _ _ _ _ _ _ _ _ _ HOK.out q6 q7 h⟩,q5,HCW.out.trans q12.ofDrewN.any,q6,q7,rfl,rfl⟩;have H2:Hid (_/\_/\_/\_/\_/\_):=Hd ⟨q1,q2,q8,q9,q10,q11⟩;clear q1 q2 q4 q5 q6 q7 q8 q9 q10 q11 q12;go_wp2_with fail;go_ret;obtain⟨a1,a2,a3,a4,a5,a6⟩:=H2.out;exact⟨o',_,V',H1.out,.inr ⟨rfl,rfl,HDUE.out,.inr ⟨a1,a2,r,rfl,a3,a4,a5,a6⟩⟩⟩
 ·
  have HWA:=HMW.out.waits;have e0:({ m with calls:=Zcq m.calls }:ManD).waits=ev::ws:=hw1;rw[e0] at HWA;obtain⟨g,off,cap,hvs,hog,hwc,hcm,k0,k1,k2,_⟩:=HWA.first
  have hlt:¬ ev.after<=cu:=by have:=HDUE.out ev ws hw1;rw[HCU.out] at this;omega
  rw[hvs] at d4;have hp:(0:Int)<((ws.length+1:Nat):Int):=by omega
  clear hvw hvs hnil HWA e0 hw1 hog
  go_quiet (fail)
  go_wp2_with fail;refine(HMK.out nq).mono ?_;rintro x w' (⟨q1,rfl,q2⟩|⟨q1,q2,q3,rfl,q4⟩|⟨q1,rfl,q2⟩|⟨q1,q2,r,d',V',o',rfl,q4,q5,q6,q7,q8,q9,q10,q11,q12⟩)
  ·
   have H1:=Hd (STE.out w' (Zha q2));have H2:Hid (Znd m.d v lo hi 9):=Hd (.inl ⟨rfl,q1⟩);clear q1 q2;go_wp2_with fail;refine⟨rfl,o,_,V,H1.out,.inr ⟨rfl,rfl,HDUE.out,.inl ⟨9,H2.out,rfl,rfl,rfl⟩⟩⟩
  ·
   have H1:=Hd (STE.out w' (Zha q4));have H2:Hid (Znd m.d v lo hi 10):=Hd (.inr (.inl ⟨rfl,q1,q2,q3⟩));clear q1 q2 q3 q4;go_wp2_with fail;refine⟨rfl,o,_,V,H1.out,.inr ⟨rfl,rfl,HDUE.out,.inl ⟨10,H2.out,rfl,rfl,rfl⟩⟩⟩
  ·
   have H1:=Hd (STE.out w' (Zha q2));have H2:Hid (Znd m.d v lo hi 7):=Hd (.inr (.inr ⟨rfl,q1⟩));clear q1 q2;go_wp2_with fail;refine⟨rfl,o,_,V,H1.out,.inr ⟨rfl,rfl,HDUE.out,.inl ⟨7,H2.out,rfl,rfl,rfl⟩⟩⟩
  ·
   have H1:Hid (Step K o w mb m V o' w' { m with calls:=Zcq m.calls,d:=d' } V'):=Hd ⟨⟨s,(HMW.out.setStore HLW.out q4 q12.ofDrewN).mono fun op a b c r h=>HK.out.ext _ _ _ _ _ _ _ _ _ HOK.out q6 q7 h⟩,q5,HCW.out.trans q12.ofDrewN.any,q6,q7,rfl,rfl⟩;have H2:Hid (_/\_/\_/\_/\_/\_):=Hd ⟨q1,q2,q8,q9,q10,q11⟩;clear q1 q2 q4 q5 q6 q7 q8 q9 q10 q11 q12;go_wp2_with fail;go_ret;obtain⟨a1,a2,a3,a4,a5,a6⟩:=H2.out;exact⟨o',_,V',H1.out,.inr ⟨rfl,rfl,HDUE.out,.inr ⟨a1,a2,r,rfl,a3,a4,a5,a6⟩⟩⟩
open Go.RowKit
theorem Zts {K:Law} {o:Own} {w:World} {xb mb:Nat} {m:ManD} {V:Nat->BF} (h:Zc6 (K m.d V) o w mb m) (hlt:Zak o w) (hx:Zdd o w xb mb) (hk:Zan m.d V) (v:Int) (lo hi:Nat) {ev:Ev} {ws:List Ev}
 (hw1:m.waits=ev::ws) (hdue:ev.after<=Zcq m.calls) :
 Calls Tryz.prog 77 #[.pointer (some ⟨xb,0,none⟩),.int .i64 v,.int .i64 lo,.int .i64 hi] w (Zhp K o w mb m V v lo hi):=by
 obtain⟨s,h⟩:=h;obtain⟨c0,c1,c2,c3,c4,c5,f0⟩:=cells6 h.blk;have cx:=hx.cell;obtain⟨W,hW⟩:∃ W,W=w.setCell ⟨mb,5,none⟩ (.int .i64 (Zcq m.calls)):=⟨_,rfl⟩;have hMW:Zb4 (K m.d V) o W mb { m with calls:=Zcq m.calls } s:=by rw[hW];exact h.field rfl rfl rfl rfl rfl h.waits rfl
 have hCW:Chg (fun _=>True) o o w W:=by rw[hW];exact(Chg.refl _ o w).setCell (p:=⟨mb,5,none⟩) h.own trivial _
 have hLW:Zak o W:=hlt.mono hCW.size;obtain⟨d0,d1,d2,d3,d4,d5,g0⟩:=cells6 hMW.blk;have hmb:mb<W.heap.size:=Zaa d0;have hWA:=hMW.waits;have e0:({ m with calls:=Zcq m.calls }:ManD).waits=ev::ws:=hw1;rw[e0] at hWA;obtain⟨g,off,cap,hvs,hog,hwc,hcm,k0,k1,k2,hrest⟩:=hWA.first
 rw[hvs] at d4;have hp:(0:Int)<((ws.length+1:Nat):Int):=by omega
 have HCW:=Hd hCW;have HLW:=Hd hLW;have HMW:=Hd hMW;have HOK:=Hd hk;have HRE:=Hd hrest;have HW1:=Hd hw1;have HD:=Hd hdue;have HW:Hid (w.setCell ⟨mb,5,none⟩ (.int .i64 (wrap64 (m.calls+1)))=W):=Hd hW.symm;clear h hlt hx hk hMW hCW hLW hW hrest hWA e0 hvs hog hw1
 go_enter Tryz.func77,Tryz.ntmps77
 go_upto_region 3 with fail;rw[HW.out];obtain⟨cu,hcu⟩:∃ cu,cu=wrap64 (m.calls+1):=⟨_,rfl⟩;have d5':W.cell? ⟨mb,5,none⟩=some (.int .i64 cu):=by rw[hcu];exact d5
 have hle:ev.after<=cu:=by rw[hcu];exact hdue
 rw[<- hcu];clear c0 c1 c2 c3 c4 c5 f0 cx d5 hcu hdue
 go_quiet (fail)
 obtain⟨W2,hW2⟩:∃ W2,W2=W.drewN nq:=⟨_,rfl⟩;have hb2:Below W.heap.size W W2:=by rw[hW2];exact Zai W nq
 rw[<- hW2];have HMW2:=Hd (HMW.out.below HLW.out hb2);have HLW2:=Hd (HLW.out.mono hb2.size);have HCW2:=Hd (HCW.out.trans (Chg.of_below hb2 _ _));have d4':W2.cell? ⟨mb,4,none⟩=_:=(hb2.cell (p:=⟨mb,4,none⟩) hmb).trans d4;have hgl:g<W.heap.size:=Zaa k0;have l0:W2.cell? ⟨g,off,none⟩=_:=(hb2.cell (p:=⟨g,off,none⟩) hgl).trans k0;have l1:W2.cell? ⟨g,off+1,none⟩=_:=(hb2.cell (p:=⟨g,off+1,none⟩) hgl).trans k1;have l2:W2.cell? ⟨g,off+2,none⟩=_:=(hb2.cell (p:=⟨g,off+2,none⟩) hgl).trans k2;have HRE2:=Hd (HRE.out.keep (w':=W2) (o':=o) (fun q hq=>hb2.block q (HLW.out q _ hq)) (fun _ h=>h));clear hW2 k0 k1 k2 d0 d1 d2 d3 d4 d5' g0 hb2 HMW HLW HCW HRE HW;obtain⟨d0,d1,d2,d3,_,d5,g0⟩:=cells6 HMW2.out.blk;have hmb:mb<W2.heap.size:=Zaa d0;have hgl:g<W2.heap.size:=Zaa l0;go_upto_region 5 with fail;obtain⟨bx,hbx⟩:∃ bx,bx=W2.heap.size:=⟨_,rfl⟩;obtain⟨W3,hW3⟩:∃ W3,W3=W2.alloc (.cells #[.int .i64 ev.after,.int .i64 ev.kind,.int .i64 ev.level] 103):=⟨_,rfl⟩;have hb3:Below W2.heap.size W2 W3:=by rw[hW3];exact Zad W2 _
 have hbo:o bx=none:=by rw[hbx];exact HLW2.out.none (Nat.le_refl _)
 have x3:W3.heap[bx]?=some (.cells #[.int .i64 ev.after,.int .i64 ev.kind,.int .i64 ev.level] 103 (0,0)):=by rw[hW3,hbx];exact heap_alloc_new W2 _
 rw[<- hW3,<- hbx];have HMW3:=Hd (HMW2.out.below HLW2.out hb3);have HLW3:=Hd (HLW2.out.mono hb3.size);have HCW3:=Hd (HCW2.out.trans (Chg.of_below hb3 _ _));have d4:W3.cell? ⟨mb,4,none⟩=_:=(hb3.cell (p:=⟨mb,4,none⟩) hmb).trans d4';have HRE3:=Hd (HRE2.out.keep (w':=W3) (o':=o) (fun q hq=>hb3.block q (HLW2.out q _ hq)) (fun _ h=>h));clear hW3 hbx l0 l1 l2 d0 d1 d2 d3 d4' d5 g0 hb3 HMW2 HLW2 HCW2 HRE2;obtain⟨d0,d1,d2,d3,_,d5,g0⟩:=cells6 HMW3.out.blk;have hne:bx≠mb:=by rintro rfl;rw[HMW3.out.own] at hbo;cases hbo
 obtain⟨W4,hW4⟩:∃ W4,W4=(W3.setCell ⟨mb,4,none⟩ (.slice (if cap=1 then some ⟨g,off,none⟩ else some ⟨g,off+3,none⟩) ws.length (cap-1))).setCell ⟨mb,5,none⟩ (.int .i64 0):=⟨_,rfl⟩;have hM4:Zb4 (K m.d V) o W4 mb { m with calls:=0,waits:=ws } { s with vw:=.slice (if cap=1 then some ⟨g,off,none⟩ else some ⟨g,off+3,none⟩) ws.length (cap-1) }:=by
  have a1:=HMW3.out.field (k:=4) (u:=.slice (if cap=1 then some ⟨g,off,none⟩ else some ⟨g,off+3,none⟩) ws.length (cap-1)) (m':={ m with calls:=Zcq m.calls,waits:=ws }) (s':={ s with vw:=.slice (if cap=1 then some ⟨g,off,none⟩ else some ⟨g,off+3,none⟩) ws.length (cap-1) }) rfl rfl rfl rfl rfl HRE3.out rfl;have a2:=a1.field (k:=5) (u:=.int .i64 0) (m':={ m with calls:=0,waits:=ws }) (s':={ s with vw:=.slice (if cap=1 then some ⟨g,off,none⟩ else some ⟨g,off+3,none⟩) ws.length (cap-1) }) rfl rfl rfl rfl rfl a1.waits rfl;rw[hW4];exact a2
 have hC4:Chg (fun _=>True) o o w W4:=by rw[hW4];exact(HCW3.out.setCell (p:=⟨mb,4,none⟩) HMW3.out.own trivial _).setCell (p:=⟨mb,5,none⟩) HMW3.out.own trivial _
 have hx4:W4.heap[bx]?=some (.cells #[.int .i64 ev.after,.int .i64 ev.kind,.int .i64 ev.level] 103 (0,0)):=by rw[hW4];exact(Zaf hne _).trans ((Zaf hne _).trans x3)
 have hst:Step K o w mb m V o W4 { m with calls:=0,waits:=ws } V:=⟨⟨_,hM4⟩,HLW3.out.mono (by rw[hW4];simp[World.setCell]),hC4,HOK.out,Ext.refl _ _,rfl,rfl⟩;have HST:=Hd hst;have y0:W4.cell? ⟨bx,0,none⟩=some (.int .i64 ev.after):=by rw[cell_of_row W4 bx 0 _ _ _ hx4];rfl
 have y1:W4.cell? ⟨bx,1,none⟩=some (.int .i64 ev.kind):=by rw[cell_of_row W4 bx 1 _ _ _ hx4];rfl
 have y2:W4.cell? ⟨bx,2,none⟩=some (.int .i64 ev.level):=by rw[cell_of_row W4 bx 2 _ _ _ hx4];rfl
 have HW4:=Hd hW4;clear hM4 hC4 hx4 hst hW4;go_upto_region 6 with fail;rw[<- HW4.out];clear HW4 d0 d1 d2 d3 d4 d5 g0 x3 HMW3 HLW3 HCW3 HRE3;go_wp2_with fail
 all_goals exact⟨rfl,o,_,V,HST.out,.inl ⟨ev,HW1.out,HD.out,rfl,rfl,rfl,rfl⟩⟩
theorem Zj3 {K:Law} {o:Own} {w:World} {xb mb:Nat} {m:ManD} {V:Nat->BF} (hK:Zbp K) (h:Zc6 (K m.d V) o w mb m) (hlt:Zak o w) (hx:Zdd o w xb mb) (hk:Zan m.d V) (v:Int) (lo hi:Nat) (hlo:okE (Zab m.d) lo) (hhi:okE (Zab m.d) hi) :
 Calls Tryz.prog 77 #[.pointer (some ⟨xb,0,none⟩),.int .i64 v,.int .i64 lo,.int .i64 hi] w (Zhp K o w mb m V v lo hi):=by
 by_cases hd:∀ ev ws,m.waits=ev::ws->Zcq m.calls<ev.after
 ·
  exact Zwa hK h hlt hx hk v lo hi hlo hhi hd
 ·
  cases hw:m.waits with
  | nil=>exact absurd (fun ev ws e=>by rw[hw] at e;cases e) hd
  | cons ev ws=>exact Zts h hlt hx hk v lo hi hw (Int.not_lt.1 fun hl=>hd fun ev' ws' e=>by rw[hw] at e;cases e;exact hl)
end Go.Proofs.YtmofaapnkidioaaGreat

namespace Go.Proofs.YtmofaapnkidioaaGreat
section
variable {d d':Zag} {V V':Nat->BF}
theorem Zgb (hk:Zan d V) {e:Nat} (h:e/2=0):lvE d.vars.length (levN d) (Zab d) e=d.vars.length:=by unfold lvE;rw[h,hk.dag.none0]
theorem Zgr {e f:Nat} (h:e/2=f/2):lvE d.vars.length (levN d) (Zab d) e=lvE d.vars.length (levN d) (Zab d) f:=by unfold lvE;rw[h]
theorem Zir {N:Nat->Option BN} {e f:Nat} (h:e/2=f/2) (hf:okE N f):okE N e:=by unfold okE;rw[h];exact hf
theorem Zfi (hk:Zan d V) {f v:Nat} (hf:okE (Zab d) f) (hv:v<d.vars.length) (hl:levN d v<=lvE d.vars.length (levN d) (Zab d) f) :
 okE (Zab d) (cofs d f v).1/\okE (Zab d) (cofs d f v).2/\levN d v<lvE d.vars.length (levN d) (Zab d) (cofs d f v).1/\levN d v<lvE d.vars.length (levN d) (Zab d) (cofs d f v).2 /\
  ∀ ρ,ef V f ρ=if ρ v then ef V (cofs d f v).2 ρ else ef V (cofs d f v).1 ρ:=by
 unfold cofs;cases hb:Zab d (f/2) with
 | none =>
   have hl':levN d v<lvE d.vars.length (levN d) (Zab d) f:=by unfold lvE;rw[hb];exact hk.dag.lt v hv
   exact⟨hf,hf,hl',hl',fun ρ=>by simp⟩
 | some b =>
   by_cases e:(b.v:Int)=v
   ·
    have e':b.v=v:=by omega
    simp only[if_pos e];refine⟨Zd3 (hk.dag.okLo _ _ hb),Zd3 (hk.dag.okHi _ _ hb),?_,?_,fun ρ=>?_⟩
    ·
     rw[Zd2,<- e'];exact hk.dag.lvLo _ _ hb
    ·
     rw[Zd2,<- e'];exact hk.dag.lvHi _ _ hb
    ·
     rw[Zc9,Zc9];have h1:=hk.dag.eqn _ _ hb;unfold eneg;have h2:ef V f ρ=((f%2 == 1) != V (f/2) ρ):=rfl;rw[h2,h1];simp only[iteF,e'];split<;>rfl
   ·
    simp only[if_neg e];have hl':levN d v<lvE d.vars.length (levN d) (Zab d) f:=by
     rcases Nat.lt_or_eq_of_le hl with h|h
     ·
      exact h
     ·
      exfalso;unfold lvE at h;rw[hb] at h;have:=hk.dag.inj _ _ hv (hk.dag.var _ _ hb) h;exact e (by omega)
    exact⟨hf,hf,hl',hl',fun ρ=>by simp⟩
theorem Zuz (hk:Zan d V) (f g h:Nat):minL d f g h<=d.vars.length:=by unfold minL;have:=hk.dag.lvE_le f;omega
theorem Zpv {k f g h:Nat} (h1:k<=lvE d.vars.length (levN d) (Zab d) f) (h2:k<=lvE d.vars.length (levN d) (Zab d) g) (h3:k<=lvE d.vars.length (levN d) (Zab d) h):k<=minL d f g h:=by unfold minL;omega
theorem Zd6.ok (hk:Zan d V) {e f g h:Nat} (hi:Zd6 e f g h) (hf:okE (Zab d) f) (hg:okE (Zab d) g) (hh:okE (Zab d) h) :
 okE (Zab d) e/\minL d f g h<=lvE d.vars.length (levN d) (Zab d) e:=by
 rcases hi with e0|e0|e0|e0
 ·
  exact⟨.inl e0,by rw[Zgb hk e0];exact Zuz hk f g h⟩
 ·
  exact⟨Zir e0 hf,by rw[Zgr e0];unfold minL;omega⟩
 ·
  exact⟨Zir e0 hg,by rw[Zgr e0];unfold minL;omega⟩
 ·
  exact⟨Zir e0 hh,by rw[Zgr e0];unfold minL;omega⟩
structure IteS (d:Zag) (V:Nat->BF) (f0 g0 h0:Nat) (f g h:Nat) (nt:Bool):Prop where
 okF:okE (Zab d) f
 okG:okE (Zab d) g
 okH:okE (Zab d) h
 lev:minL d f0 g0 h0<=minL d f g h
 val:∀ ρ,iteB (ef V f0 ρ) (ef V g0 ρ) (ef V h0 ρ)=(nt != iteB (ef V f ρ) (ef V g ρ) (ef V h ρ))
theorem IteS.start {f g h:Nat} (hf:okE (Zab d) f) (hg:okE (Zab d) g) (hh:okE (Zab d) h):IteS d V f g h f g h false:=⟨hf,hg,hh,Nat.le_refl _,fun ρ=>by simp⟩
theorem IteS.next {f0 g0 h0 f g h:Nat} {nt:Bool} (hk:Zan d V) (s:IteS d V f0 g0 h0 f g h nt) (hd:(iteR f g h).dn=false) :
 IteS d V f0 g0 h0 (iteR f g h).a (iteR f g h).b (iteR f g h).c (nt != (iteR f g h).n)/\(iteR f g h).a/2≠0:=by
 obtain⟨ha,hb,hc,hn,hv⟩:=Zuh hd;obtain⟨a1,a2⟩:=ha.ok hk s.okF s.okG s.okH;obtain⟨b1,b2⟩:=hb.ok hk s.okF s.okG s.okH;obtain⟨c1,c2⟩:=hc.ok hk s.okF s.okG s.okH;refine⟨⟨a1,b1,c1,Nat.le_trans s.lev (Zpv a2 b2 c2),fun ρ=>?_⟩,hn⟩;rw[s.val,hv hk.dag.one];cases nt<;>cases (iteR f g h).n<;>simp
theorem IteS.answer {f0 g0 h0 f g h r:Nat} {nt:Bool} (s:IteS d V f0 g0 h0 f g h nt) (h1:okE (Zab d) f0) (h2:okE (Zab d) g0) (h3:okE (Zab d) h0) (hr:okE (Zab d) r) (hl:minL d f g h<=lvE d.vars.length (levN d) (Zab d) r)
 (hv:∀ ρ,ef V r ρ=iteB (ef V f ρ) (ef V g ρ) (ef V h ρ)):IteP d V f0 g0 h0 (eflip r nt) :=
 ⟨h1,h2,h3,Zd3 hr,fun ρ=>by rw[Zc9,hv,<- s.val];rfl,by rw[Zd2];exact Nat.le_trans s.lev hl⟩
theorem IteS.done {f0 g0 h0 f g h:Nat} {nt:Bool} (hk:Zan d V) (s:IteS d V f0 g0 h0 f g h nt) (h1:okE (Zab d) f0) (h2:okE (Zab d) g0) (h3:okE (Zab d) h0) (hd:(iteR f g h).dn=true):IteP d V f0 g0 h0 (eflip (iteR f g h).r nt):=by
 obtain⟨hh,hv⟩:=Zoa hd;obtain⟨q1,q2⟩:=hh.ok hk s.okF s.okG s.okH;exact s.answer h1 h2 h3 q1 q2 (hv hk.dag.one)
theorem Ext.minL (x:Ext d V d' V') (hk:Zan d V) (hk':Zan d' V') {f g h:Nat} (hf:okE (Zab d) f) (hg:okE (Zab d) g) (hh:okE (Zab d) h):minL d' f g h=Go.Proofs.YtmofaapnkidioaaGreat.minL d f g h:=by
 unfold Go.Proofs.YtmofaapnkidioaaGreat.minL;rw[x.vars,x.lvE hf hk.dag.none0 hk'.dag.none0,x.lvE hg hk.dag.none0 hk'.dag.none0,x.lvE hh hk.dag.none0 hk'.dag.none0]
theorem IteS.ext {f0 g0 h0 f g h:Nat} {nt:Bool} (s:IteS d V f0 g0 h0 f g h nt) (x:Ext d V d' V') (hk:Zan d V) (hk':Zan d' V') (h1:okE (Zab d) f0) (h2:okE (Zab d) g0) (h3:okE (Zab d) h0):IteS d' V' f0 g0 h0 f g h nt :=
 ⟨x.ok s.okF,x.ok s.okG,x.ok s.okH,by rw[x.minL hk hk' h1 h2 h3,x.minL hk hk' s.okF s.okG s.okH];exact s.lev,fun ρ=>by rw[x.ef s.okF,x.ef s.okG,x.ef s.okH,x.ef h1,x.ef h2,x.ef h3];exact s.val ρ⟩
theorem IteP.ext {f g h r:Nat} (s:IteP d V f g h r) (x:Ext d V d' V') (hk:Zan d V) (hk':Zan d' V'):IteP d' V' f g h r :=
 ⟨x.ok s.okA,x.ok s.okB,x.ok s.okC,x.ok s.okR,fun ρ=>by rw[x.ef s.okA,x.ef s.okB,x.ef s.okC,x.ef s.okR];exact s.val ρ,
  by rw[x.minL hk hk' s.okA s.okB s.okC,x.vars,x.lvE s.okR hk.dag.none0 hk'.dag.none0];exact s.lev⟩
theorem Zws (hk:Zan d V) {f g h v lo hi r:Nat} (hf:okE (Zab d) f) (hg:okE (Zab d) g) (hh:okE (Zab d) h) (hv:v<d.vars.length) (hl:levN d v<=minL d f g h)
 (c1:∀ ρ,ef V lo ρ=iteB (ef V (cofs d f v).1 ρ) (ef V (cofs d g v).1 ρ) (ef V (cofs d h v).1 ρ)) (c2:∀ ρ,ef V hi ρ=iteB (ef V (cofs d f v).2 ρ) (ef V (cofs d g v).2 ρ) (ef V (cofs d h v).2 ρ))
 (hr:ef V r=iteF v (ef V hi) (ef V lo)) (ρ:Nat->Bool):ef V r ρ=iteB (ef V f ρ) (ef V g ρ) (ef V h ρ):=by
 have lf:=(Zfi hk hf hv (by unfold minL at hl;omega)).2.2.2.2 ρ;have lg:=(Zfi hk hg hv (by unfold minL at hl;omega)).2.2.2.2 ρ;have lh:=(Zfi hk hh hv (by unfold minL at hl;omega)).2.2.2.2 ρ;rw[hr,lf,lg,lh];simp only[iteF];cases ρ v
 ·
  simpa using c1 ρ
 ·
  simpa using c2 ρ
theorem Zgn (x:Ext d V d' V') (h0:Zab d 0=none) (h0':Zab d' 0=none) {f:Nat} (hf:okE (Zab d) f) (v:Int):cofs d' f v=cofs d f v:=by
 unfold cofs;rcases hf with h|⟨b,hb⟩
 ·
  rw[h,h0,h0']
 ·
  rw[hb,x.nodes _ _ hb]
end
open Go.RowKit
def Zs6 (K:Law) (k:Nat) (o:Own) (w:World) (mb:Nat) (m:ManD) (V:Nat->BF) (f g h:Nat) (e:Ending) (w':World):Prop :=
 ∃ o' m' V',Step K o w mb m V o' w' m' V' /\
  ((∃ r:Nat,e=.returned (.int .i64 r)/\IteP m'.d V' f g h r/\m'.waits=m.waits/\m'.d.pool.many+1<=m.d.pool.many+2^k) \/
   (e=Zb2 7 false ev0/\m'.waits=m.waits/\m'.d.pool.many=m'.d.pool.room/\m'.d.pool.many+2<=m.d.pool.many+2^k) \/
   (∃ ev,e=Zb2 0 true ev/\m.waits=ev::m'.waits))
def Zyl (K:Law) (k:Nat):Prop:=∀ (o:Own) (w:World) (xb mb:Nat) (m:ManD) (V:Nat->BF) (f g h:Nat),Zc6 (K m.d V) o w mb m->Zak o w->Zdd o w xb mb->Zan m.d V ->
 okE (Zab m.d) f->okE (Zab m.d) g->okE (Zab m.d) h->m.d.vars.length<=minL m.d f g h+k ->
 Calls Tryz.prog 79 #[.pointer (some ⟨xb,0,none⟩),.int .i64 f,.int .i64 g,.int .i64 h] w (Zs6 K k o w mb m V f g h)
theorem Zss {K:Law} {o:Own} {w w':World} {mb:Nat} {m:ManD} {V:Nat->BF} (hm:Zc6 (K m.d V) o w mb m) (hl:Zak o w) (hk:Zan m.d V) (hb:Below w.heap.size w w'):Step K o w mb m V o w' m V:=by
 obtain⟨s,h⟩:=hm;exact⟨⟨s,h.below hl hb⟩,hl.mono hb.size,Chg.of_below hb _ _,hk,Ext.refl _ _,rfl,rfl⟩
theorem Step.below {K:Law} {o o':Own} {w w' w'':World} {mb:Nat} {m m':ManD} {V V':Nat->BF} (h:Step K o w mb m V o' w' m' V') (hb:Below w'.heap.size w' w''):Step K o w mb m V o' w'' m' V':=h.trans (Zss h.is h.lt h.ok hb)
theorem top3 {d:Zag} {V:Nat->BF} (hk:Zan d V) {f g h:Nat} (hf:okE (Zab d) f) (hn:f/2≠0) {top least:Int} (ht:TopS d [f,g,h] top least) :
 ∃ v:Nat,top=v/\v<d.vars.length/\levN d v=minL d f g h/\levN d v<d.vars.length:=by
 rcases ht with ⟨_,_,h3⟩|⟨v,h1,_,h3,⟨e,he,b,hb,hbv⟩,h5⟩
 ·
  exfalso;rcases hf with h0|⟨b,hb⟩
  ·
   exact hn h0
  ·
   rw[h3 f (by simp)] at hb;cases hb
 ·
  refine⟨v,h1,h3,?_,hk.dag.lt v h3⟩;have e0:lvE d.vars.length (levN d) (Zab d) e=levN d v:=by unfold lvE;rw[hb,<- hbv]
  have a1:=h5 f (by simp);have a2:=h5 g (by simp);have a3:=h5 h (by simp);simp only[List.mem_cons,List.not_mem_nil,or_false] at he;unfold minL;rcases he with rfl|rfl|rfl<;>omega
theorem Zj2 {K:Law} (hK:Zbp K) (k:Nat) (IH:∀ k',k=k'+1->Zyl K k'):Zyl K k:=by
 intro o w xb mb m V f g h hm hlt hx hk hf hg hh hfuel;obtain⟨st0,hst0⟩:∃ s,Zao o w (Classical.choose hm).sb m.d s:=(Classical.choose_spec hm).store;have HLT:Hid (∀ e,okE (Zab m.d) e->e<eMax):=Hd fun e he=>by have:=hst0.edge_lt he;unfold eMax;omega
 have HK':=Hd hK;have HM:=Hd hm;have HOL:=Hd hlt;have HX:=Hd hx;have HK:=Hd hk;have HF:=Hd hf;have HG:=Hd hg;have HH:=Hd hh;have HFU:=Hd hfuel;have HST:Hid (IteS m.d V f g h f g h false):=Hd (IteS.start hf hg hh);clear hst0 hm hlt hx hk hf hg hh hfuel
 go_enter Tryz.func79,Tryz.ntmps79
 go_upto_block 0 with fail
 go_cut [1,2,3,9] from 27 (fun s1 s2 s3 s9 wx=>∃ (f' g' h':Nat) (nt:Bool),s1=.int .i64 f'/\s2=.int .i64 g'/\s3=.int .i64 h'/\s9=.bool nt/\IteS m.d V f g h f' g' h' nt/\f'/2≠0/\wx=w)
 case first =>
  go_wp2_with fail
  go_loopw [1,2,3,9,27] (fun s1 s2 s3 s9 i wr=>∃ (f' g' h':Nat) (nt:Bool) (j:Nat),s1=.int .i64 f'/\s2=.int .i64 g'/\s3=.int .i64 h'/\s9=.bool nt/\i=.int .i64 j/\j<=3/\IteS m.d V f g h f' g' h' nt/\(0<j->f'/2≠0)/\wr=w) (fun _ _ _ _ i _=>3-(intOf i).toNat)
  case atStart=>exact⟨f,g,h,false,0,rfl,rfl,rfl,rfl,rfl,by omega,HST.out,by omega,rfl⟩
  case round =>
   obtain⟨f',g',h',nt,j,rfl,rfl,rfl,rfl,rfl,hj,hS,hn,rfl⟩:=hrel;clear HST
   by_cases hlt:j<3
   ·
    have HI:=Hd (fun W:World=>Zzd f' g' h' W (HLT.out _ hS.okF) (HLT.out _ hS.okG) (HLT.out _ hS.okH));have hlr:(iteR f' g' h').dn=true->(iteR f' g' h').r<eMax:=fun e=>HLT.out _ (((Zoa e).1.ok HK.out hS.okF hS.okG hS.okH).1)
    have hNX:=fun e=>hS.next HK.out (f:=f') (g:=g') (h:=h') e
    have hDN:=fun e=>hS.done HK.out HF.out HG.out HH.out e
    have hlt':(j:Int)<3:=by omega
    unfold iteV at HI;obtain⟨R,hR⟩:∃ R,R=iteR f' g' h':=⟨_,rfl⟩;rw[<- hR] at HI hlr hNX hDN;clear hR hS hn;obtain⟨a,b,c,n,r,dn⟩:=R;dsimp only at HI hlr hNX hDN;cases dn with
    | true =>
      have HFL:=Hd (fun W:World=>Zda r nt W (hlr rfl));have HDN:=Hd (hDN rfl);clear hlr hNX hDN;go_wp2_with fail;refine(HI.out _).mono ?_;rintro x w' ⟨rfl,rfl⟩;go_wp2_with fail;refine(HFL.out _).mono ?_;rintro x w' ⟨rfl,rfl⟩;go_wp2_with fail;go_ret;exact⟨o,m,V,⟨HM.out,HOL.out,Chg.refl _ _ _,HK.out,Ext.refl _ _,rfl,rfl⟩,.inl ⟨_,rfl,HDN.out,rfl,by have:=Nat.one_le_two_pow (n:=k);omega⟩⟩
    | false =>
      have hbn:(nt != n)=(!nt == n):=by cases nt<;>cases n<;>rfl
      have HNX:=Hd (hNX rfl);rw[hbn] at HNX;clear hlr hNX hDN hbn
      by_cases hp1:a=f'
      ·
       subst hp1
       by_cases hp2:b=g'
       ·
        subst hp2
        by_cases hp3:c=h'
        ·
         subst hp3;go_wp2_with fail;refine(HI.out _).mono ?_;rintro x w' ⟨rfl,rfl⟩;go_wp2_with fail;go_meet;exact⟨_,_,_,_,rfl,rfl,rfl,rfl,HNX.out.1,HNX.out.2,by trivial⟩
        ·
         have H3:(c == h')=false:=by simp[hp3]
         go_wp2_with fail;refine(HI.out _).mono ?_;rintro x w' ⟨rfl,rfl⟩;go_wp2_with fail;go_roundw
         case rel=>exact⟨_,_,_,_,j+1,rfl,rfl,rfl,rfl,by simp,by omega,HNX.out.1,fun _=>HNX.out.2,by trivial⟩
         case measure=>simp[intOf];omega
       ·
        have H2:(b == g')=false:=by simp[hp2]
        go_wp2_with fail;refine(HI.out _).mono ?_;rintro x w' ⟨rfl,rfl⟩;go_wp2_with fail;go_roundw
        case rel=>exact⟨_,_,_,_,j+1,rfl,rfl,rfl,rfl,by simp,by omega,HNX.out.1,fun _=>HNX.out.2,by trivial⟩
        case measure=>simp[intOf];omega
      ·
       have H1:(a == f')=false:=by simp[hp1]
       go_wp2_with fail;refine(HI.out _).mono ?_;rintro x w' ⟨rfl,rfl⟩;go_wp2_with fail;go_roundw
       case rel=>exact⟨_,_,_,_,j+1,rfl,rfl,rfl,rfl,by simp,by omega,HNX.out.1,fun _=>HNX.out.2,by trivial⟩
       case measure=>simp[intOf];omega
   ·
    obtain rfl:j=3:=by omega
    have HS:=Hd hS;have HN:=Hd (hn (by omega));clear hS hn;go_wp2_with fail;go_meet;exact⟨f',g',h',nt,rfl,rfl,rfl,rfl,HS.out,HN.out,rfl⟩
 case rest =>
  obtain⟨f',g',h',nt,rfl,rfl,rfl,rfl,hS,hn,rfl⟩:=hcut
  rename World=>w
  clear HST;obtain⟨s,hms⟩:=HM.out;obtain⟨c0,c1,c2,c3,c4,c5,f0⟩:=cells6 hms.blk;have cx:=HX.out.cell;have HGET:=Hd (Zy9 o s.me (K m.d V) 1 f' g' h' w hms.memo HOL.out);have HMS:=Hd hms;have HS:=Hd hS;have HN:=Hd hn;clear hms hS hn;go_wp2_with fail;refine HGET.out.mono ?_;rintro x w1 ⟨hgs,hme,hc1,hl1⟩;have hM1:Zb4 (K m.d V) o w1 mb m s:=HMS.out.setMemo HOL.out hme (hc1.mono fun r e=>.inl e);have hX1:=HX.out.chg hc1;have HC1:=Hd hc1.any;have HM1:=Hd hM1;have HX1:=Hd hX1;have HL1:=Hd hl1;have hst1:Step K o w mb m V o w1 m V:=⟨⟨s,hM1⟩,hl1,hc1.any,HK.out,Ext.refl _ _,rfl,rfl⟩;have HST1:=Hd hst1;clear hme hc1 hl1 hM1 hX1 hst1;rcases hgs with rfl|⟨r,rfl,hkr⟩
  ·
   clear c0 c1 c2 c3 c4 c5 f0 cx;go_upto_region 14 with fail;obtain⟨w2,hw2⟩:∃ w2,w2=w1.alloc (.cells #[.int .i64 f',.int .i64 g',.int .i64 h'] 116):=⟨_,rfl⟩;have hb2:Below w1.heap.size w1 w2:=by rw[hw2];exact Zad w1 _
   have hz:w2.heap[w1.heap.size]?=some (.cells #[.int .i64 f',.int .i64 g',.int .i64 h'] 116 (0,0)):=by rw[hw2];exact heap_alloc_new w1 _
   have hints:Za4 w2 (some ⟨w1.heap.size,0,none⟩) ([f',g',h'].map Int.ofNat):=⟨by simp,fun j hj=>⟨w1.heap.size,0,rfl,by
    rw[cell_of_row w2 w1.heap.size (0+j) _ _ _ hz];simp at hj
    match j,hj with
    | 0,_=>rfl
    | 1,_=>rfl
    | 2,_=>rfl⟩⟩
   have hst2:=HST1.out.below hb2;have hX2:=HX.out.chg hst2.chg;have HTOP:Hid (Calls Tryz.prog 151 #[.pointer (some ⟨xb,0,none⟩),.slice (some ⟨w1.heap.size,0,none⟩) 3 3] w2 fun x w'=>∃ top least,x=.returned (.int .i64 top)/\TopS m.d [f',g',h'] top least/\Below w2.heap.size w2 w') :=
    Hd (Zrp hst2.is hst2.lt hX2 HK.out [f',g',h'] (by simp;exact⟨HS.out.okF,HS.out.okG,HS.out.okH⟩) (some ⟨w1.heap.size,0,none⟩) 3 hints)
   have HST2:=Hd hst2;have HW2:=Hd hw2;clear hb2 hz hints hst2 hX2 hw2;go_wp2_with fail;rw[<- HW2.out];refine HTOP.out.mono ?_;rintro x w3 ⟨top,least,rfl,htop,hb3⟩;obtain⟨v,rfl,hv,hlv,hvn⟩:=top3 HK.out HS.out.okF HN.out htop;have HST3:=Hd (HST2.out.below hb3);have HV:=Hd hv;have HLV:=Hd hlv;obtain⟨k',hk'⟩:∃ k',k=k'+1:=⟨k-1,by have h1:=HFU.out;have h2:=HS.out.lev;omega⟩;have HIH:=Hd (IH k' hk');have cf:=Zfi HK.out HS.out.okF hv (by rw[hlv];unfold minL;omega);have cg:=Zfi HK.out HS.out.okG hv (by rw[hlv];unfold minL;omega);have ch:=Zfi HK.out HS.out.okH hv (by rw[hlv];unfold minL;omega);have hl1:levN m.d v+1<=minL m.d (cofs m.d f' v).1 (cofs m.d g' v).1 (cofs m.d h' v).1:=Zpv cf.2.2.1 cg.2.2.1 ch.2.2.1;have hl2:levN m.d v+1<=minL m.d (cofs m.d f' v).2 (cofs m.d g' v).2 (cofs m.d h' v).2:=Zpv cf.2.2.2.1 cg.2.2.2.1 ch.2.2.2.1;have hfu:m.d.vars.length<=levN m.d v+1+k':=by have h1:=HFU.out;have h2:=HS.out.lev;omega
   have HCF:=Hd cf;have HCG:=Hd cg;have HCH:=Hd ch;have HL1':=Hd hl1;have HL2':=Hd hl2;have HFU':=Hd hfu;have HKK:=Hd hk';have HSP:Hid (∀ (W:World) (e:Nat),okE (Zab m.d) e->Step K o w mb m V o W m V->Calls Tryz.prog 152 #[.pointer (some ⟨xb,0,none⟩),.int .i64 e,.int .i64 v] W fun x w'=>x=.returned (.tuple #[.int .i64 (cofs m.d e v).1,.int .i64 (cofs m.d e v).2])/\Step K o w mb m V o w' m V) :=
    Hd fun W e he st=>(Znq st.is st.lt (HX.out.chg st.chg) HK.out e he v).mono fun x w' ⟨h1,h2⟩=>⟨h1,st.below h2⟩
   clear htop hb3 hv hlv hvn cf cg ch hl1 hl2 hfu hk' HTOP HW2 HST2;go_wp2_with fail;refine(HSP.out _ _ HS.out.okF HST3.out).mono ?_;rintro x w4 ⟨rfl,hst4⟩;have HST4:=Hd hst4;clear hst4;go_wp2_with fail;refine(HSP.out _ _ HS.out.okG HST4.out).mono ?_;rintro x w5 ⟨rfl,hst5⟩;have HST5:=Hd hst5;clear hst5;go_wp2_with fail;refine(HSP.out _ _ HS.out.okH HST5.out).mono ?_;rintro x w6 ⟨rfl,hst6⟩;have HST6:=Hd hst6;clear hst6;go_wp2_with fail;refine(HIH.out o w6 xb mb m V _ _ _ HST6.out.is HST6.out.lt (HX.out.chg HST6.out.chg) HK.out HCF.out.1 HCG.out.1 HCH.out.1 (by have h1:=HFU'.out;have h2:=HL1'.out;omega)).mono ?_;have HPW:Hid (2^k=2^k'+2^k'):=by show _=_;rw[HKK.out,Nat.pow_succ];omega
   have HP1:Hid (1<=2^k'):=Hd Nat.one_le_two_pow;rintro x w7 ⟨o7,m7,V7,st7,(⟨lo,rfl,hlo,hwt7,hmn7⟩|⟨rfl,hwt7,hrm7,hmn7⟩|⟨ev,rfl,hwt7⟩)⟩
   ·
    have HST7:=Hd (HST6.out.trans st7);have HK7:=Hd st7.ok;have HX7:=Hd st7.ext;have HLO:=Hd hlo;have HWT7:=Hd hwt7;have HMN7:=Hd hmn7;have hh7:m7.d.vars.length<=minL m7.d (cofs m.d f' v).2 (cofs m.d g' v).2 (cofs m.d h' v).2+k':=by
     rw[st7.ext.minL HK.out st7.ok HCF.out.2.1 HCG.out.2.1 HCH.out.2.1,st7.ext.vars];have h1:=HFU'.out;have h2:=HL2'.out;omega
    have HH7:=Hd hh7;clear st7 hlo hwt7 hmn7 hh7;go_wp2_with fail;refine(HIH.out o7 w7 xb mb m7 V7 _ _ _ HST7.out.is HST7.out.lt (HX.out.chg HST7.out.chg) HK7.out (HX7.out.ok HCF.out.2.1) (HX7.out.ok HCG.out.2.1) (HX7.out.ok HCH.out.2.1) HH7.out).mono ?_;rintro x w8 ⟨o8,m8,V8,st8,(⟨hi,rfl,hhi,hwt8,hmn8⟩|⟨rfl,hwt8,hrm8,hmn8⟩|⟨ev,rfl,hwt8⟩)⟩
    ·
     have HST8:=Hd (HST7.out.trans st8);have HK8:=Hd st8.ok;have HX8:=Hd st8.ext;have HHI:=Hd hhi;have HWT8:=Hd hwt8;have HMN8:=Hd hmn8;have hMk:=Zj3 HK'.out HST8.out.is HST8.out.lt (HX.out.chg HST8.out.chg) st8.ok v lo hi (st8.ext.ok HLO.out.okR) hhi.okR;have HMK:=Hd hMk;clear st8 hhi hwt8 hmn8 hMk;go_wp2_with fail;refine HMK.out.mono ?_;have hlo8:levN m8.d v<lvE m8.d.vars.length (levN m8.d) (Zab m8.d) lo:=by
      have e1:=HX8.out.lvE (n:=m8.d.vars.length) HLO.out.okR HK7.out.dag.none0 HK8.out.dag.none0;have e2:=HLO.out.lev;have e3:=HX7.out.minL HK.out HK7.out HCF.out.1 HCG.out.1 HCH.out.1;have e4:=HL1'.out;have e5:=HX7.out.lev;have e6:=HX8.out.lev;have e7:=HX8.out.vars;rw[e1,e6,e5,e7];rw[e5] at e2;omega
     have hhi8:levN m8.d v<lvE m8.d.vars.length (levN m8.d) (Zab m8.d) hi:=by
      have e2:=HHI.out.lev;have x78:=HX7.out.trans HX8.out;have e3:=x78.minL HK.out HK8.out HCF.out.2.1 HCG.out.2.1 HCH.out.2.1;have e4:=HL2'.out;have e5:=x78.lev;rw[e5] at e2 ⊢;omega
     have hv8:v<m8.d.vars.length:=by rw[(HX7.out.trans HX8.out).vars];exact HV.out
     have hbad:∀ er,Znd m8.d v lo hi er->er=7/\m8.d.pool.many=m8.d.pool.room:=by
      rintro er (⟨_,h1⟩|⟨_,_,_,h1⟩|h1)
      ·
       exact absurd ⟨by omega,by omega⟩ h1
      ·
       simp only[Int.toNat_natCast] at h1;omega
      ·
       exact h1
     have HLO8:=Hd hlo8;have HHI8:=Hd hhi8;have HV8:=Hd hv8;have HBAD:=Hd hbad;clear hlo8 hhi8 hv8 hbad;rintro x w9 ⟨o9,m9,V9,st9,(⟨ev,hw9,_,_,hd9,hV9,rfl⟩|⟨hwt9,_,_,(⟨er,her,hd9,hV9,rfl⟩|⟨_,_,r,rfl,hr9,hrv,hrl,hmn9⟩)⟩)⟩
     ·
      have HST9:=Hd (HST8.out.trans st9);have HW9:=Hd hw9;clear st9 hw9 hd9 hV9;unfold Zb2;go_wp2_with fail;exact⟨rfl,o9,m9,V9,HST9.out,.inr (.inr ⟨ev,rfl,by rw[<- HWT7.out,<- HWT8.out];exact HW9.out⟩)⟩
     ·
      have HST9:=Hd (HST8.out.trans st9);obtain⟨rfl,hfull⟩:=HBAD.out er her;have HFULL:=Hd hfull;have HD9:=Hd hd9;have HWT9:=Hd hwt9;clear st9 her hd9 hV9 hwt9 hfull;unfold Zb2;go_wp2_with fail;exact⟨rfl,o9,m9,V9,HST9.out,.inr (.inl ⟨rfl,by rw[HWT9.out,HWT8.out,HWT7.out],by rw[HD9.out];exact HFULL.out,by rw[HD9.out];have a1:=HMN7.out;have a2:=HMN8.out;have a3:=HPW.out;have a4:=HP1.out;omega⟩)⟩
     ·
      have hst9:=HST8.out.trans st9;have x09:=hst9.ext;have hk9:=st9.ok;have x79:=HX8.out.trans st9.ext;have a0:=HK.out.dag.none0;have a9:=hk9.dag.none0;have hip:IteP m9.d V9 f' g' h' r:=by
       refine⟨x09.ok HS.out.okF,x09.ok HS.out.okG,x09.ok HS.out.okH,hr9,fun ρ=>?_,?_⟩
       ·
        refine Zws (lo:=lo) (hi:=hi) (v:=v) hk9 (x09.ok HS.out.okF) (x09.ok HS.out.okG) (x09.ok HS.out.okH) (by rw[x09.vars];exact HV.out) (by rw[x09.lev,x09.minL HK.out hk9 HS.out.okF HS.out.okG HS.out.okH,HLV.out];exact Nat.le_refl _) ?_ ?_ ?_ ρ
        ·
         intro ρ;rw[Zgn x09 a0 a9 HS.out.okF,Zgn x09 a0 a9 HS.out.okG,Zgn x09 a0 a9 HS.out.okH];exact(HLO.out.ext x79 HK7.out hk9).val ρ
        ·
         intro ρ;rw[Zgn x09 a0 a9 HS.out.okF,Zgn x09 a0 a9 HS.out.okG,Zgn x09 a0 a9 HS.out.okH];exact(HHI.out.ext st9.ext HK8.out hk9).val ρ
        ·
         rw[hrv,st9.ext.ef HHI.out.okR,st9.ext.ef (HX8.out.ok HLO.out.okR)];rfl
       ·
        rw[x09.minL HK.out hk9 HS.out.okF HS.out.okG HS.out.okH,<- HLV.out];have e1:=(HX7.out.trans HX8.out).lev;have e2:=(HX7.out.trans HX8.out).vars;rw[e1,e2] at hrl;rw[x09.vars];exact hrl
      have HAN:=Hd ((HS.out.ext x09 HK.out hk9 HF.out HG.out HH.out).answer (x09.ok HF.out) (x09.ok HG.out) (x09.ok HH.out) hip.okR hip.lev hip.val);obtain⟨s9,hm9⟩:=hst9.is;have HPUT:=Hd (Zxc o9 s9.me (K m9.d V9) 1 f' g' h' r w9 hm9.memo hst9.lt ((HK'.out.ite _ _ _ _ _ _).2 hip));have hrlt:r<eMax:=by
       obtain⟨ss,hss⟩:=hm9.store;have:=hss.edge_lt hip.okR;unfold eMax;omega
      have HFL:=Hd (fun W:World=>Zda r nt W hrlt);obtain⟨c0,c1,c2,c3,c4,c5,f0⟩:=cells6 hm9.blk;have cx:=(HX.out.chg hst9.chg).cell;have HM9:=Hd hm9;have HST9:=Hd hst9;have HWT9:=Hd (hwt9.trans (HWT8.out.trans HWT7.out));have HMN9:Hid (m9.d.pool.many+1<=m.d.pool.many+2^k):=Hd (by have a1:=HMN7.out;have a2:=HMN8.out;have a3:=HPW.out;omega);clear st9 hst9 x09 hk9 x79 a0 a9 hip hm9 hrlt hwt9 hr9 hrv hrl hmn9;go_wp2_with fail;refine HPUT.out.mono ?_;rintro x w10 ⟨rfl,o10,hme,hc10,hl10⟩;have HSTF:Hid (Step K o w mb m V o10 w10 m9 V9):=Hd ⟨⟨s9,HM9.out.setMemo HST9.out.lt hme hc10⟩,hl10,HST9.out.chg.trans hc10.any,HST9.out.ok,HST9.out.ext,HST9.out.hs,HST9.out.next⟩;clear hme hc10 hl10 c0 c1 c2 c3 c4 c5 f0 cx;go_wp2_with fail;refine(HFL.out _).mono ?_;rintro x w' ⟨rfl,rfl⟩;go_wp2_with fail;go_ret;exact⟨o10,m9,V9,HSTF.out,.inl ⟨_,rfl,HAN.out,HWT9.out,HMN9.out⟩⟩
    ·
     have HST8:=Hd (HST7.out.trans st8);have HQ:Hid (m8.waits=m.waits/\m8.d.pool.many=m8.d.pool.room/\m8.d.pool.many+2<=m.d.pool.many+2^k):=Hd ⟨hwt8.trans HWT7.out,hrm8,by have a1:=HMN7.out;have a3:=HPW.out;have a4:=HP1.out;omega⟩;clear st8 hwt8 hrm8 hmn8;unfold Zb2;go_wp2_with fail;exact⟨rfl,o8,m8,V8,HST8.out,.inr (.inl ⟨rfl,HQ.out.1,HQ.out.2.1,HQ.out.2.2⟩)⟩
    ·
     have HST8:=Hd (HST7.out.trans st8);have HQ:=Hd hwt8;clear st8 hwt8;unfold Zb2;go_wp2_with fail;exact⟨rfl,o8,m8,V8,HST8.out,.inr (.inr ⟨ev,rfl,by rw[<- HWT7.out];exact HQ.out⟩)⟩
   ·
    have HST7:=Hd (HST6.out.trans st7);have HQ:Hid (m7.waits=m.waits/\m7.d.pool.many=m7.d.pool.room/\m7.d.pool.many+2<=m.d.pool.many+2^k):=Hd ⟨hwt7,hrm7,by have a3:=HPW.out;have a4:=HP1.out;omega⟩;clear st7 hwt7 hrm7 hmn7;unfold Zb2;go_wp2_with fail;exact⟨rfl,o7,m7,V7,HST7.out,.inr (.inl ⟨rfl,HQ.out.1,HQ.out.2.1,HQ.out.2.2⟩)⟩
   ·
    have HST7:=Hd (HST6.out.trans st7);have HQ:=Hd hwt7;clear st7 hwt7;unfold Zb2;go_wp2_with fail;exact⟨rfl,o7,m7,V7,HST7.out,.inr (.inr ⟨ev,rfl,HQ.out⟩)⟩
  ·
   have hip:IteP m.d V f' g' h' r:=(HK'.out.ite _ _ _ _ _ _).1 hkr;have HAN:=Hd (HS.out.answer HF.out HG.out HH.out hip.okR hip.lev hip.val);have HFL:=Hd (fun W:World=>Zda r nt W (HLT.out _ hip.okR));clear hkr hip c0 c1 c2 c3 c4 c5 f0 cx;go_wp2_with fail;refine(HFL.out _).mono ?_;rintro x w' ⟨rfl,rfl⟩;go_wp2_with fail;go_ret;exact⟨o,m,V,HST1.out,.inl ⟨_,rfl,HAN.out,rfl,by have:=Nat.one_le_two_pow (n:=k);omega⟩⟩
theorem Zlh {K:Law} (hK:Zbp K):∀ k,Zyl K k:=by
 intro k
 induction k with
 | zero=>exact Zj2 hK 0 (fun k' e=>absurd e (by omega))
 | succ k ih =>
   refine Zj2 hK (k+1) (fun k' e=>?_);have e2:k'=k:=by omega
   rw[e2];exact ih
end Go.Proofs.YtmofaapnkidioaaGreat

namespace Go.Proofs.YtmofaapnkidioaaGreat
open Go.RowKit Go.Shelf
structure Wr (M:Nat->Prop) (w w':World):Prop where
 os:w'.os=w.os
 tape:w'.tape=w.tape
 output:w'.output=w.output
 size:w.heap.size<=w'.heap.size
 keep:∀ k,k<w.heap.size->¬ M k->w'.heap[k]?=w.heap[k]?
theorem Wr.refl (M:Nat->Prop) (w:World):Wr M w w:=⟨rfl,rfl,rfl,Nat.le_refl _,fun _ _ _=>rfl⟩
theorem Wr.trans {M M' N:Nat->Prop} {w w' w'':World} (h:Wr M w w') (h':Wr M' w' w'') (hM:∀ k,k<w.heap.size->M k->N k) (hM':∀ k,k<w.heap.size->M' k->N k):Wr N w w'' :=
 ⟨h'.os.trans h.os,h'.tape.trans h.tape,h'.output.trans h.output,Nat.le_trans h.size h'.size,fun k hk hn=>(h'.keep k (Nat.lt_of_lt_of_le hk h.size) (fun e=>hn (hM' k hk e))).trans (h.keep k hk (fun e=>hn (hM k hk e)))⟩
theorem Wr.mono {M N:Nat->Prop} {w w':World} (h:Wr M w w') (hM:∀ k,M k->N k):Wr N w w':=⟨h.os,h.tape,h.output,h.size,fun k hk hn=>h.keep k hk (fun e=>hn (hM k e))⟩
theorem Wr.drew {M:Nat->Prop} {w w':World} (h:Wr M w w'):Wr M w w'.drew:=⟨h.os,h.tape,h.output,h.size,h.keep⟩
theorem Wr.alloc {M:Nat->Prop} {w w':World} (h:Wr M w w') (o:Obj):Wr M w (w'.alloc o) :=
 ⟨h.os,h.tape,h.output,by simp;have:=h.size;omega,fun k hk hn=>(Below.heap_alloc w' o k (Nat.lt_of_lt_of_le hk h.size)).trans (h.keep k hk hn)⟩
theorem Wr.setCell {M:Nat->Prop} {w w':World} (h:Wr M w w') {p:Addr} (hp:M p.block\/w.heap.size<=p.block) (u:Value):Wr M w (w'.setCell p u) :=
 ⟨h.os,h.tape,h.output,by simp[World.setCell];exact h.size,fun k hk hn=>(Below.heap_setCell _ _ _ _ (by rintro rfl;rcases hp with hp|hp;exact hn hp;omega)).trans (h.keep k hk hn)⟩
theorem Wr.putObj {M:Nat->Prop} {w w':World} (h:Wr M w w') {l:Nat} (hl:M l\/w.heap.size<=l) (o:Obj):Wr M w (w'.putObj l o) :=
 ⟨h.os,h.tape,h.output,by simp;exact h.size,fun k hk hn=>(World.putObj_heap_other (by rintro rfl;rcases hl with hl|hl;exact hn hl;omega)).trans (h.keep k hk hn)⟩
theorem Wr.of_below {w w':World} (h:Below w.heap.size w w') (M:Nat->Prop):Wr M w w':=⟨h.os,h.tape,h.output,h.size,fun k hk _=>h.block k hk⟩
theorem Wr.below {M:Nat->Prop} {n₀:Nat} {w w':World} (h:Wr M w w') (hM:∀ k,M k->n₀<=k) (hn:n₀<=w.heap.size):Below n₀ w w' :=
 ⟨h.os,h.tape,h.output,h.size,fun k hk=>h.keep k (by omega) (fun e=>by have:=hM k e;omega)⟩
section
variable {F:Fence} {n:Nat} {P:Program} {α:Type}
def Zqe (n₀:Nat) (J:List α->(Nat->Prop)->World->Prop):Prop:=∀ pre M W,J pre M W->∀ k,M k->n₀<=k/\k<W.heap.size
def Minds (n₀:Nat) (J:List α->(Nat->Prop)->World->Prop):Prop:=∀ pre M W W',J pre M W->Wr (fun k=>n₀<=k/\¬ M k) W W'->J pre M W'
def Gives (F:Fence) (n d:Nat) (P:Program) (g:Nat) (lb:Array Value) (encs:α->Array Value) (n₀:Nat) (Bx:Nat->Prop) (xs:List α) (w:World):Prop :=
 ∀ (l:Nat) (J:List α->(Nat->Prop)->World->Prop) (M:Nat->Prop) (W:World),Zqe n₀ J->Minds n₀ J->Wr (fun k=>n₀<=k/\¬ Bx k) w W->(∀ k,Bx k->¬ M k) ->
  (∀ pre x M W1,J pre M W1->(∃ suf,pre++x::suf=xs)->YieldAt F (n-1-d) P l (encs x) W1 fun e W' =>
   e=.returned (.bool true)/\∃ M',J (pre++[x]) M' W'/\Wr M W1 W'/\∀ k,M' k->M k\/W1.heap.size<=k) ->
  J [] M W ->
  CallsIn F n P g (#[.func (.yield l) #[] #[]]++lb) W fun e W'=>(∃ v,e=.returned v)/\∃ M',J xs M' W'/\Wr (fun k=>n₀<=k) W W'/\∀ k,M' k->M k\/W.heap.size<=k
theorem Zq9 {g:Operand} {ps:Array Tmp} {assign body:Code} {Q:Exit->Act->World->Prop} {a:Act} {w:World} (hro:F.round=none) (h1:1<=n) {gf:Nat} {lb:Array Value} (hg:a.eval g=.func (.func gf) #[] lb)
 (hFg:F.fn gf) (eg:∀ args w,(callFunc gf args).run P w=.ok (.enter gf args) w) {encs:α->Array Value} {n₀:Nat} {Bx:Nat->Prop} {xs:List α} {d:Nat} (hseq:Gives F (n-1) d P gf lb encs n₀ Bx xs w) (hn0:n₀<=w.heap.size)
 (hBx:∀ k,Bx k->k<w.heap.size) (hps:∀ x,(encs x).size=ps.size) (I:List α->(Nat->Prop)->World->Prop) (hOw:Zqe n₀ I) (hMi:Minds n₀ I) (M0:Nat->Prop) (hM0:∀ k,Bx k->¬ M0 k) (h0:I [] M0 w)
 (Ax:α->Act->World->World->Prop) (hAx:∀ x a' W W1 W2 l,l<W.heap.size->Ax x a' W W1->Wr (· = l) W1 W2->Ax x a' W W2)
 (hassign:∀ (l:Nat) (pre:List α) (x:α) (M:Nat->Prop) (W:World) (K:Act->World->Prop),I pre M W->(∀ a' W',Wr (fun _=>False) W W'->Ax x a' W W'->K a' W') ->
  assign.wpIn (F.inRound l) (n-1-1-d) P (Exit.then K (fun _ _ _=>False)) { tmps:=(ps.zip (encs x)).foldl (fun t (p,v)=>t.setIfInBounds p v) a.tmps,defers:=[] } W)
 (hbody:∀ (l:Nat) (pre:List α) (x:α) (a':Act) (M:Nat->Prop) (W0 W:World),I pre M W->Ax x a' W0 W->W0.heap.size<=W.heap.size->w.heap.size<=W0.heap.size->(∃ suf,pre++x::suf=xs)->body.wpIn (F.inRound l) (n-1-1-d) P
  (fun e _ W'=>match e with|.normal=>∃ M',I (pre++[x]) M' W'/\Wr (fun k=>M k\/W0.heap.size<=k) W W'/\(∀ k,M' k->M k\/W0.heap.size<=k)|_=>False) a' W)
 (hdone:∀ (D:Nat) (M:Nat->Prop) (W:World),w.heap.size<=D->¬ M D->I xs M W->(∀ k,M k->M0 k\/w.heap.size<=k)->Wr (fun k=>n₀<=k) w W->W.heap[D]?=some (.deferred (some []))->Q .normal { a with defers:={ target:=.collected D,args:=#[] }::a.defers } W) :
 (Code.rangeFunc g ps assign body).wpIn F n P Q a w:=by
 refine wpIn_rangeFunc ?_;intro fn hfn;rw[hro]
 let rec0:LoopState->Loop:=fun st=>{ state:=st,pending:=none,fn,tmps:=a.tmps,params:=ps,assign,body,defers:=w.heap.size }
 obtain⟨W1,hW1⟩:∃ W1,W1=(w.alloc (.deferred (some []))).alloc (.loop (rec0 .ready)):=⟨_,rfl⟩;have hL1:W1.heap[w.heap.size+1]?=some (.loop (rec0 .ready)):=by
  rw[hW1];have:=World.alloc_heap_new (w.alloc (.deferred (some []))) (.loop (rec0 .ready))
  rwa [World.size_alloc] at this
 have hD1:W1.heap[w.heap.size]?=some (.deferred (some [])):=by
  rw[hW1];exact(Below.heap_alloc _ _ _ (by simp)).trans (World.alloc_heap_new w _)
 have hw1:∀ N:Nat->Prop,Wr N w W1:=fun N=>by rw[hW1];exact((Wr.refl N w).alloc _).alloc _
 have hM0lt:=hOw [] M0 w h0;have hI1:I [] M0 W1:=hMi _ _ _ _ h0 (hw1 _)
 refine⟨w.heap.size+1,[{ target:=.collected w.heap.size,args:=#[] }],W1,{ target:=.fn (.func gf) lb,args:=#[.func (.yield (w.heap.size+1)) #[] #[]] },W1,gf,
  #[.func (.yield (w.heap.size+1)) #[] #[]]++lb,W1,?_,?_,?_,?_,fun _=>h1,?_⟩
 ·
  rw[hW1];exact run_enterLoop_outer _ _ _ _ _
 ·
  simp only[resolve,hg];simp[go_sem]
 ·
  intro f' hf';simp[Target.leads] at hf';subst hf';exact hFg
 ·
  simp[invoke,go_sem,eg]
 refine(hseq (w.heap.size+1)
  (fun pre N W=>∃ M,I pre M W/\(∀ k,N k↔(M k\/k=w.heap.size+1\/k=w.heap.size))/\¬ M (w.heap.size+1)/\¬ M w.heap.size/\(∀ k,M k->M0 k\/w.heap.size<=k) /\
   W.heap[w.heap.size+1]?=some (.loop (rec0 .ready))/\W.heap[w.heap.size]?=some (.deferred (some [])))
  (fun k=>M0 k\/k=w.heap.size+1\/k=w.heap.size) W1 ?_ ?_ (hw1 _) ?_ ?_ ?_).mono ?_
 ·
  rintro pre N W ⟨M,hi,hN,_,_,_,hl,hd⟩ k hk;rcases(hN k).1 hk with hk|hk|hk
  ·
   exact hOw _ _ _ hi k hk
  ·
   subst hk;exact⟨by omega,(Array.getElem?_eq_some_iff.1 hl).1⟩
  ·
   subst hk;exact⟨hn0,(Array.getElem?_eq_some_iff.1 hd).1⟩
 ·
  rintro pre N W W' ⟨M,hi,hN,h2,h3,h4,hl,hd⟩ hw;refine⟨M,hMi _ _ _ _ hi ?_,hN,h2,h3,h4,?_,?_⟩
  ·
   exact⟨hw.os,hw.tape,hw.output,hw.size,fun k hk hn=>hw.keep k hk (fun⟨a,b⟩=>hn ⟨a,fun e=>b ((hN k).2 (.inl e))⟩)⟩
  ·
   exact(hw.keep _ (Array.getElem?_eq_some_iff.1 hl).1 (fun⟨_,b⟩=>b ((hN _).2 (.inr (.inl rfl))))).trans hl
  ·
   exact(hw.keep _ (Array.getElem?_eq_some_iff.1 hd).1 (fun⟨_,b⟩=>b ((hN _).2 (.inr (.inr rfl))))).trans hd
 ·
  intro k hk hm;have:=hBx k hk;rcases hm with hm|hm|hm
  ·
   exact hM0 k hk hm
  ·
   omega
  ·
   omega
 ·
  rintro pre x N W ⟨M,hi,hN,h2,h3,h4,hl,hd⟩ hsuf;have hlt:w.heap.size+1<W.heap.size:=(Array.getElem?_eq_some_iff.1 hl).1;have hy:=run_yield (P:=P) (args:=encs x) hl (hps x);refine⟨fn,_,assign,body,hy,roundIn_of_wpIn hfn (hassign _ pre x M W _ hi ?_)⟩;intro a' Wa hwa hax;have hla:=(hwa.keep _ hlt (fun h=>h)).trans hl;have hda:=(hwa.keep _ (by omega) (fun h=>h)).trans hd;have hlta:w.heap.size+1<Wa.heap.size:=by have:=hwa.size;omega
  refine⟨_,run_beginRound hla rfl,?_⟩;have hia:I pre M Wa:=hMi _ _ _ _ hi (hwa.mono (fun _ h=>h.elim));have hwb:Wr (· = w.heap.size+1) Wa (Wa.putObj (w.heap.size+1) (.loop { rec0 .ready with state:=.busy })):=(Wr.refl (· = w.heap.size+1) Wa).putObj (l:=w.heap.size+1) (.inl rfl) _;have hib:I pre M (Wa.putObj (w.heap.size+1) (.loop { rec0 .ready with state:=.busy })):=hMi _ _ _ _ hia (hwb.mono (fun k e=>by have e':k=w.heap.size+1:=e;subst e';exact⟨by omega,h2⟩));have hlb:(Wa.putObj (w.heap.size+1) (.loop { rec0 .ready with state:=.busy })).heap[w.heap.size+1]?=some (.loop { rec0 .ready with state:=.busy }):=World.putObj_heap_same hlta;have hdb:(Wa.putObj (w.heap.size+1) (.loop { rec0 .ready with state:=.busy })).heap[w.heap.size]?=some (.deferred (some [])):=(World.putObj_heap_other (by omega)).trans hda;refine wpIn_mono (hbody _ pre x a' M W _ hib (hAx _ _ _ _ _ _ hlt hax hwb) (by simp;exact hwa.size) (by omega) hsuf) ?_;intro e a3 W3 hp;cases e with
  | normal =>
    obtain⟨M',hi3,hw3,hM'⟩:=hp;have hl3:=(hw3.keep _ (by simp;exact hlta) (fun e=>by rcases e with e|e;exact h2 e;omega)).trans hlb;have hd3:=(hw3.keep _ (by simp;omega) (fun e=>by rcases e with e|e;exact h3 e;omega)).trans hdb;have hlt3:=(Array.getElem?_eq_some_iff.1 hl3).1;have hm2:¬ M' (w.heap.size+1):=fun e=>by rcases hM' _ e with h|h;exact h2 h;omega
    have hm3:¬ M' w.heap.size:=fun e=>by rcases hM' _ e with h|h;exact h3 h;omega
    refine⟨_,_,run_endRound (P:=P) none hl3,rfl,fun k=>M' k\/k=w.heap.size+1\/k=w.heap.size,⟨M',?_,fun k=>Iff.rfl,hm2,hm3,?_,World.putObj_heap_same hlt3,(World.putObj_heap_other (by omega)).trans hd3⟩,?_,?_⟩
    ·
     exact hMi _ _ _ _ hi3 ((Wr.refl _ _).putObj (.inl ⟨by omega,hm2⟩) _)
    ·
     intro k hk;rcases hM' k hk with h|h
     ·
      exact h4 k h
     ·
      right;omega
    ·
     refine((((hwa.mono (N:=N) (fun _ h=>h.elim)).putObj (l:=w.heap.size+1) (.inl ((hN _).2 (.inr (.inl rfl)))) _).trans (N:=N) hw3 (fun k _ h=>h) (fun k hk h=>?_)).putObj (l:=w.heap.size+1) (.inl ((hN _).2 (.inr (.inl rfl)))) _);rcases h with h|h
     ·
      exact(hN k).2 (.inl h)
     ·
      omega
    ·
     rintro k (hk|hk)
     ·
      rcases hM' k hk with h|h
      ·
       exact .inl ((hN k).2 (.inl h))
      ·
       exact .inr h
     ·
      exact .inl ((hN k).2 (.inr hk))
  | ret=>exact hp.elim
  | exit id=>exact hp.elim
  | goto t=>exact hp.elim
  | panic ch=>exact hp.elim
  | outgrown=>exact hp.elim
 ·
  exact⟨M0,hI1,fun k=>Iff.rfl,fun e=>by have:=(hM0lt _ e).2;omega,fun e=>by have:=(hM0lt _ e).2;omega,fun k h=>.inl h,hL1,hD1⟩
 ·
  rintro e W2 ⟨⟨v,rfl⟩,N,⟨M,hi,hN,h2,h3,h4,hl,hd⟩,hw2,_⟩;refine⟨none,_,run_endLoop (P:=P) hl (by simp[rec0]),hdone _ M _ (Nat.le_refl _) h3 ?_ h4 ?_ ((World.putObj_heap_other (by omega)).trans hd)⟩
  ·
   exact hMi _ _ _ _ hi ((Wr.refl _ _).putObj (.inl ⟨by omega,h2⟩) _)
  ·
   exact((hw1 (fun k=>n₀<=k)).trans hw2 (fun _ _ h=>h) (fun _ _ h=>h)).putObj (.inl (by omega)) _
end
open Go.RowKit
structure Caught (sb:Nat) (er:Int) (evt:Bool) (ev:Ev) (w w':World):Prop where
 size:w.heap.size<=w'.heap.size
 os:w'.os=w.os
 tape:w'.tape=w.tape
 output:w'.output=w.output
 keep:∀ k,k<w.heap.size->k≠sb->w'.heap[k]?=w.heap[k]?
 blk:w'.heap[sb]?=some (.cells #[.int .i64 er,.bool evt,.int .i64 ev.after,.int .i64 ev.kind,.int .i64 ev.level] 172 (0,0))
theorem Znj {sb:Nat} {er:Int} {evt:Bool} {ev:Ev} {w:World} {a0 a1 a2 a3 a4:Value} (hs:w.heap[sb]?=some (.cells #[a0,a1,a2,a3,a4] 172 (0,0))) (ob:Obj) :
 Caught sb er evt ev w ((((((w.setCell ⟨sb,0,none⟩ (.int .i64 er)).setCell ⟨sb,1,none⟩ (.bool evt)).setCell ⟨sb,2,none⟩ (.int .i64 ev.after)).setCell ⟨sb,3,none⟩ (.int .i64 ev.kind)).setCell ⟨sb,4,none⟩ (.int .i64 ev.level)).alloc ob):=by
 have w1:=(Wr.refl (· = sb) w).setCell (p:=⟨sb,0,none⟩) (.inl rfl) (.int .i64 er);have h1:(w.setCell ⟨sb,0,none⟩ (.int .i64 er)).heap[sb]?=some (.cells #[.int .i64 er,a1,a2,a3,a4] 172 (0,0)):=Zae hs _
 generalize w.setCell ⟨sb,0,none⟩ (.int .i64 er)=W1 at *
 have w2:=w1.setCell (p:=⟨sb,1,none⟩) (.inl rfl) (.bool evt);have h2:(W1.setCell ⟨sb,1,none⟩ (.bool evt)).heap[sb]?=some (.cells #[.int .i64 er,.bool evt,a2,a3,a4] 172 (0,0)):=Zae h1 _
 generalize W1.setCell ⟨sb,1,none⟩ (.bool evt)=W2 at *
 have w3:=w2.setCell (p:=⟨sb,2,none⟩) (.inl rfl) (.int .i64 ev.after);have h3:(W2.setCell ⟨sb,2,none⟩ (.int .i64 ev.after)).heap[sb]?=some (.cells #[.int .i64 er,.bool evt,.int .i64 ev.after,a3,a4] 172 (0,0)):=Zae h2 _
 generalize W2.setCell ⟨sb,2,none⟩ (.int .i64 ev.after)=W3 at *
 have w4:=w3.setCell (p:=⟨sb,3,none⟩) (.inl rfl) (.int .i64 ev.kind);have h4:(W3.setCell ⟨sb,3,none⟩ (.int .i64 ev.kind)).heap[sb]?=some (.cells #[.int .i64 er,.bool evt,.int .i64 ev.after,.int .i64 ev.kind,a4] 172 (0,0)):=Zae h3 _
 generalize W3.setCell ⟨sb,3,none⟩ (.int .i64 ev.kind)=W4 at *
 have w5:=w4.setCell (p:=⟨sb,4,none⟩) (.inl rfl) (.int .i64 ev.level);have h5:(W4.setCell ⟨sb,4,none⟩ (.int .i64 ev.level)).heap[sb]?=some (.cells #[.int .i64 er,.bool evt,.int .i64 ev.after,.int .i64 ev.kind,.int .i64 ev.level] 172 (0,0)):=Zae h4 _
 generalize W4.setCell ⟨sb,4,none⟩ (.int .i64 ev.level)=W5 at *
 have w6:=w5.alloc ob;exact⟨w6.size,w6.os,w6.tape,w6.output,fun k hk hne=>w6.keep k hk hne,(Go.heap_alloc_old _ _ (Array.getElem?_eq_some_iff.1 h5).1).trans h5⟩
theorem Zk5 (v:Value) (w:World):(Instr.typeAssert (.iface 172 v) 20 172 true).run Tryz.prog w=.ok (.tuple #[v,.bool true]) w:=by
 simp[Instr.typeAssert,run_underlying Tryz.underlying172,go_sem,Result.andThen]
theorem Zrn (dn st:Addr) (w:World) (hd:w.cell? dn=some (.bool true)) :
 CallsD Tryz.prog 222 #[.pointer (some dn),.pointer (some st)] .returning w fun e u' w'=>e=.returned (.tuple #[])/\u'=.returning/\w'=w:=by
 refine callsD_of_wpS Tryz.func222 rfl fun c₀ cs hu=>?_
 apply wpS_seq;apply wpS_seq;apply wpS_region;simp[wpOpsS,go_sem,hd,Tryz.ntmps222,Exit.thenS];refine wpS_cond (t:=true) (by simp[Act.eval,Array.replicate]) ?_;simp only[if_true];refine wpS_of_wp (wp_ret ?_);cases c₀
 simp_all [Exit.thenS,bodyPostS,results,Tryz.results222]
theorem Zj0 (dn sb:Nat) (er:Int) (evt:Bool) (ev:Ev) (older:List PanicEntry) (w:World) (a0 a1 a2 a3 a4:Value) (hd:w.cell? ⟨dn,0,none⟩=some (.bool false)) (hs:w.heap[sb]?=some (.cells #[a0,a1,a2,a3,a4] 172 (0,0))) :
 CallsD Tryz.prog 222 #[.pointer (some ⟨dn,0,none⟩),.pointer (some ⟨sb,0,none⟩)] (.panicking ({ v:=.iface 172 (.agg #[.int .i64 er,.bool evt,.int .i64 ev.after,.int .i64 ev.kind,.int .i64 ev.level]),recovered:=false }::older)) w fun e u' w' =>
  e=.returned (.tuple #[])/\u'=.panicking ({ v:=.iface 172 (.agg #[.int .i64 er,.bool evt,.int .i64 ev.after,.int .i64 ev.kind,.int .i64 ev.level]),recovered:=true }::older) /\
  Caught sb er evt ev w w':=by
 refine callsD_of_wpS Tryz.func222 rfl fun c₀ cs hu=>?_
 simp only[Tryz.ntmps222,List.size_toArray,List.length_cons,List.length_nil,Nat.reduceAdd,Nat.reduceSub,Array.replicate_succ,Array.replicate_zero,List.push_toArray,List.append_toArray,List.nil_append,List.cons_append];apply wpS_seq;apply wpS_seq;apply wpS_region;simp[wpOpsS,go_sem,hd,Exit.thenS];refine wpS_cond (t:=false) (by simp[Act.eval]) ?_;simp only[Bool.false_eq_true,if_false];refine wpS_of_wp (wp_skip ?_);simp only[Exit.thenS];apply wpS_seq;apply wpS_region;simp[wpOpsS,go_sem,recoverD,hu,Exit.thenS];have lsb:sb<w.heap.size:=(Array.getElem?_eq_some_iff.1 hs).1;obtain⟨c0,c1,c2,c3,c4,f0⟩:=cells5 hs;refine wpS_of_wp (wp_mono (Q:=fun e a' w'=>e=.normal/\a'.defers=[]/\Caught sb er evt ev w w') ?_ ?_)
 ·
  have HS:=Hd hs;have hta:=fun v=>Zk5 v w
  clear hs;go_wp2_with fail
  first|exact⟨rfl,rfl,Znj HS.out _⟩|exact Znj HS.out _
 ·
  rintro e a' w' ⟨rfl,h1,h2⟩;refine⟨h1,_,rfl,_,results_none rfl _ _ _,?_⟩;exact⟨rfl,rfl,h2⟩
open Go.RowKit
abbrev Stop:=Int×Bool×Ev
def Zzv (r:Option Stop):Value :=
 match r with
 | some (er,evt,ev)=>.agg #[.int .i64 er,.bool evt,.int .i64 ev.after,.int .i64 ev.kind,.int .i64 ev.level]
 | none=>.agg #[.int .i64 0,.bool false,.int .i64 0,.int .i64 0,.int .i64 0]
def tryW (mb:Nat) (w:World):World :=
 ((w.alloc (.cells #[.int .i64 0,.bool false,.int .i64 0,.int .i64 0,.int .i64 0] 172)).alloc (.cells #[.bool false] 4)).alloc (.cells #[.pointer (some ⟨mb,0,none⟩)] 170)
def Zyn (w:World) (R:Option Stop->World->Prop) (x:Ending) (w':World):Prop :=
 ∃ r W',R r W'/\Wr (fun k=>k=w.heap.size\/k=w.heap.size+1) W' w'/\x=.returned (.tuple #[Zzv r,.bool r.isNone])
def Zta (gf:Nat) (lb:Array Value) (mb:Nat) (w:World) (R:Option Stop->World->Prop):Prop :=
 Calls Tryz.prog gf (#[.pointer (some ⟨w.heap.size+2,0,none⟩)]++lb) (tryW mb w) fun e W' =>
  (tryW mb w).heap.size<=W'.heap.size/\W'.heap[w.heap.size]?=(tryW mb w).heap[w.heap.size]?/\W'.heap[w.heap.size+1]?=(tryW mb w).heap[w.heap.size+1]? /\
   ((e=.returned (.tuple #[])/\R none W')\/∃ er evt ev,e=Zb2 er evt ev/\R (some (er,evt,ev)) W')
theorem Zrq {s:Nat} {W:World} (h0:W.heap[s]?=some (.cells #[.int .i64 0,.bool false,.int .i64 0,.int .i64 0,.int .i64 0] 172 (0,0))) (h1:W.heap[s+1]?=some (.cells #[.bool false] 4 (0,0))) {W2:World}
 (hW:W2=(((((W.setCell ⟨s,0,none⟩ (.int .i64 0)).setCell ⟨s,1,none⟩ (.bool false)).setCell ⟨s,2,none⟩ (.int .i64 0)).setCell ⟨s,3,none⟩ (.int .i64 0)).setCell ⟨s,4,none⟩ (.int .i64 0)).setCell ⟨s+1,0,none⟩ (.bool true)) :
 Wr (fun k=>k=s\/k=s+1) W W2/\W2.heap[s]?=some (.cells #[.int .i64 0,.bool false,.int .i64 0,.int .i64 0,.int .i64 0] 172 (0,0))/\W2.heap[s+1]?=some (.cells #[.bool true] 4 (0,0)):=by
 have n1:s+1≠s:=by omega
 have w1:=(Wr.refl (fun k=>k=s\/k=s+1) W).setCell (p:=⟨s,0,none⟩) (.inl (.inl rfl)) (.int .i64 0);have a1:(W.setCell ⟨s,0,none⟩ (.int .i64 0)).heap[s]?=some (.cells #[.int .i64 0,.bool false,.int .i64 0,.int .i64 0,.int .i64 0] 172 (0,0)):=Zae h0 _;have b1:=(Zaf (p:=⟨s,0,none⟩) (w:=W) n1 (.int .i64 0)).trans h1
 generalize W.setCell ⟨s,0,none⟩ (.int .i64 0)=W1 at *
 have w2:=w1.setCell (p:=⟨s,1,none⟩) (.inl (.inl rfl)) (.bool false);have a2:(W1.setCell ⟨s,1,none⟩ (.bool false)).heap[s]?=some (.cells #[.int .i64 0,.bool false,.int .i64 0,.int .i64 0,.int .i64 0] 172 (0,0)):=Zae a1 _;have b2:=(Zaf (p:=⟨s,1,none⟩) (w:=W1) n1 (.bool false)).trans b1
 generalize W1.setCell ⟨s,1,none⟩ (.bool false)=W3 at *
 have w3:=w2.setCell (p:=⟨s,2,none⟩) (.inl (.inl rfl)) (.int .i64 0);have a3:(W3.setCell ⟨s,2,none⟩ (.int .i64 0)).heap[s]?=some (.cells #[.int .i64 0,.bool false,.int .i64 0,.int .i64 0,.int .i64 0] 172 (0,0)):=Zae a2 _;have b3:=(Zaf (p:=⟨s,2,none⟩) (w:=W3) n1 (.int .i64 0)).trans b2
 generalize W3.setCell ⟨s,2,none⟩ (.int .i64 0)=W4 at *
 have w4:=w3.setCell (p:=⟨s,3,none⟩) (.inl (.inl rfl)) (.int .i64 0);have a4:(W4.setCell ⟨s,3,none⟩ (.int .i64 0)).heap[s]?=some (.cells #[.int .i64 0,.bool false,.int .i64 0,.int .i64 0,.int .i64 0] 172 (0,0)):=Zae a3 _;have b4:=(Zaf (p:=⟨s,3,none⟩) (w:=W4) n1 (.int .i64 0)).trans b3
 generalize W4.setCell ⟨s,3,none⟩ (.int .i64 0)=W5 at *
 have w5:=w4.setCell (p:=⟨s,4,none⟩) (.inl (.inl rfl)) (.int .i64 0);have a5:(W5.setCell ⟨s,4,none⟩ (.int .i64 0)).heap[s]?=some (.cells #[.int .i64 0,.bool false,.int .i64 0,.int .i64 0,.int .i64 0] 172 (0,0)):=Zae a4 _;have b5:=(Zaf (p:=⟨s,4,none⟩) (w:=W5) n1 (.int .i64 0)).trans b4
 generalize W5.setCell ⟨s,4,none⟩ (.int .i64 0)=W6 at *
 subst hW;exact⟨w5.setCell (p:=⟨s+1,0,none⟩) (.inl (.inr rfl)) _,(Zaf (Ne.symm n1) _).trans a5,Zae b5 _⟩
theorem Zzx (mb gf:Nat) (lb:Array Value) (w:World) (R:Option Stop->World->Prop) (eg:∀ args w,(callFunc gf args).run Tryz.prog w=.ok (.enter gf args) w) (hop:Zta gf lb mb w R) :
 Calls Tryz.prog 198 #[.pointer (some ⟨mb,0,none⟩),.func (.func gf) #[] lb] w (Zyn w R):=by
 have hmf:∀ (fn:Fn) (first cap:Array Value) (w:World),(Instr.makeFunc fn first cap).run Tryz.prog w=.ok (.func fn first cap) w:=fun _ _ _ _=>rfl
 unfold Zta at hop;obtain⟨W,hW⟩:∃ W,W=tryW mb w:=⟨_,rfl⟩;have HW:Hid (_=W):=Hd hW.symm;rw[<- hW] at hop;have HOP:=Hd hop;clear hop hW
 go_enter_defers Tryz.func198,Tryz.ntmps198
 go_wp2_with fail
 change Calls _ _ _ (tryW mb w) _
 have hT0:(tryW mb w).heap[w.heap.size]?=some (.cells #[.int .i64 0,.bool false,.int .i64 0,.int .i64 0,.int .i64 0] 172 (0,0)):=by
  unfold tryW;exact(Go.heap_alloc_old _ _ (by simp;omega)).trans ((Go.heap_alloc_old _ _ (by simp)).trans (heap_alloc_new w _))
 have hT1:(tryW mb w).heap[w.heap.size+1]?=some (.cells #[.bool false] 4 (0,0)):=by
  unfold tryW;refine(Go.heap_alloc_old _ _ (by simp)).trans ?_;have:=heap_alloc_new (w.alloc (.cells #[.int .i64 0,.bool false,.int .i64 0,.int .i64 0,.int .i64 0] 172)) (.cells #[.bool false] 4)
  rwa [World.size_alloc] at this
 rw[HW.out] at hT0 hT1 ⊢;have hsz0:W.heap.size=w.heap.size+3:=by rw[<- HW.out];simp[tryW]
 refine HOP.out.mono ?_;rintro e W' ⟨hsz,hk1,hk2,hcase⟩;have hb0:=hk1.trans hT0;have hb1:=hk2.trans hT1;obtain⟨c0,c1,c2,c3,c4,f0⟩:=cells5 hb0;have c5:W'.cell? ⟨w.heap.size+1,0,none⟩=some (.bool false):=by rw[cell_of_row W' _ 0 _ _ _ hb1];rfl
 have f1:∀ k,W'.frozen? ⟨w.heap.size+1,k,none⟩=false:=fun k=>by simp[World.frozen?,hb1]
 obtain⟨s,hs⟩:∃ s,s=w.heap.size:=⟨_,rfl⟩;rw[<- hs] at hb0 hb1 c0 c1 c2 c3 c4 f0 c5 f1 ⊢;have hs1:s<W'.heap.size:=by omega
 have hs2:s+1<W'.heap.size:=by omega
 have HB0:=Hd hb0;have HB1:=Hd hb1;have HS:=Hd hs;clear hT0 hT1 hk1 hk2 hb0 hb1 hs hsz0 hsz HOP HW;rcases hcase with ⟨rfl,hr⟩|⟨er,evt,ev,rfl,hr⟩
 ·
  have HR:=Hd hr;clear hr;go_wp2_with fail;obtain⟨W2,hW2⟩:∃ W2,W2=(((((W'.setCell ⟨s,0,none⟩ (.int .i64 0)).setCell ⟨s,1,none⟩ (.bool false)).setCell ⟨s,2,none⟩ (.int .i64 0)).setCell ⟨s,3,none⟩ (.int .i64 0)).setCell ⟨s,4,none⟩ (.int .i64 0)).setCell ⟨s+1,0,none⟩ (.bool true):=⟨_,rfl⟩;obtain⟨q1,q2,q3⟩:=Zrq HB0.out HB1.out hW2;rw[<- hW2];clear hW2 c0 c1 c2 c3 c4 f0 c5 f1;obtain⟨c0,c1,c2,c3,c4,f0⟩:=cells5 q2;have c5:W2.cell? ⟨s+1,0,none⟩=some (.bool true):=by rw[cell_of_row W2 _ 0 _ _ _ q3];rfl
  refine leaves_cons (f:=222) (args:=#[.pointer (some ⟨s+1,0,none⟩),.pointer (some ⟨s,0,none⟩)]) (by simp) (by simp[go_sem]) ?_;refine(Zrn ⟨s+1,0,none⟩ ⟨s,0,none⟩ _ c5).mono ?_;rintro e u' w'' ⟨rfl,rfl,rfl⟩;simp[Leaves,settle,results,Tryz.results198,go_sem,c0,c1,c2,c3,c4,c5];exact⟨none,W',HR.out,by rw[<- HS.out];exact q1,rfl⟩
 ·
  have HR:=Hd hr;clear hr;unfold Zb2;go_wp2_with fail;refine leaves_cons (f:=222) (args:=#[.pointer (some ⟨s+1,0,none⟩),.pointer (some ⟨s,0,none⟩)]) (by simp) (by simp[go_sem]) ?_;refine(Zj0 (s+1) s er evt ev [] _ _ _ _ _ _ c5 HB0.out).mono ?_;rintro e u' w'' ⟨rfl,rfl,hc⟩;have q3:=(hc.keep (s+1) hs2 (by omega)).trans HB1.out;clear c0 c1 c2 c3 c4 f0 c5 f1;obtain⟨c0,c1,c2,c3,c4,f0⟩:=cells5 hc.blk;have c5:w''.cell? ⟨s+1,0,none⟩=some (.bool false):=by rw[cell_of_row w'' _ 0 _ _ _ q3];rfl
  simp[Leaves,settle,results,Tryz.results198,go_sem,c0,c1,c2,c3,c4,c5];exact⟨some (er,evt,ev),W',HR.out,⟨hc.os,hc.tape,hc.output,hc.size,fun k hk hn=>hc.keep k hk (fun e=>hn (.inl (e.trans HS.out)))⟩,rfl⟩
open Go.RowKit
abbrev Ali (s:Nat) (W W':World):Prop:=Wr (fun k=>k=s\/k=s+1) W W'
structure Yay (gf:Nat) (lb:Array Value) (mb:Nat) (I:Nat->Bool->World->Prop) (Fin:Int->World->Prop) (n:Nat) (room:Bool) (W:World) (R:Option Stop->World->Prop):Prop where
 op:Zta gf lb mb W R
 fin:∀ W1 W2,R none W1->Ali W.heap.size W1 W2->Fin 0 W2
 event:∀ er ev W1 W2,R (some (er,true,ev)) W1->Ali W.heap.size W1 W2->Calls Tryz.prog 199 #[.pointer (some ⟨mb,0,none⟩),evA ev] W2 fun x w'=>x=.returned (.tuple #[])/\∃ n',n'<n/\I n' false w'
 full:∀ ev W1 W2,R (some (7,false,ev)) W1->Ali W.heap.size W1 W2->room=false->Calls Tryz.prog 200 #[.pointer (some ⟨mb,0,none⟩)] W2 fun x w'=>(∃ v,x=.returned v)/\I n true w'
 err:∀ er ev W1 W2,R (some (er,false,ev)) W1->Ali W.heap.size W1 W2->¬ (er=7/\room=false)->Fin er W2
theorem Zvl (mb gf:Nat) (lb:Array Value) (w:World) (eg:∀ args w,(callFunc gf args).run Tryz.prog w=.ok (.enter gf args) w) (I:Nat->Bool->World->Prop) (Fin:Int->World->Prop)
 (hI:∀ n room W,I n room W->∃ R,Yay gf lb mb I Fin n room W R) (n0:Nat) (h0:I n0 false w) :
 Calls Tryz.prog 144 #[.pointer (some ⟨mb,0,none⟩),.func (.func gf) #[] lb] w fun x w'=>∃ er,x=.returned (.int .i64 er)/\Fin er w':=by
 have HI:=Hd hI;clear hI
 go_enter Tryz.func144,Tryz.ntmps144
 go_wp2_with fail
 go_loopg [5] (2*n0+1) (fun gk s5 wx=>∃ (n:Nat) (room:Bool),s5=.bool room/\I n room wx/\gk=2*n+(if room then 0 else 1))
 case atStart=>exact⟨n0,false,rfl,h0,rfl⟩
 case round =>
  obtain⟨n,room,rfl,hi,hgk⟩:=hrel;obtain⟨R,hR⟩:=HI.out n room wr hi;have HTRY:=Hd (Zzx mb gf lb wr R eg hR.op);have HR:=Hd hR;have HGK:=Hd hgk;clear hi hR hgk h0;go_wp2_with fail;refine HTRY.out.mono ?_;rintro x w2 ⟨r,W1,hr,hw,rfl⟩;obtain⟨bx,hbx⟩:∃ bx,bx=w2.heap.size:=⟨_,rfl⟩;cases r with
  | none =>
    have HF:=Hd fun W2 (h:Wr (fun _=>False) w2 W2)=>HR.out.fin W1 W2 hr (hw.trans h (fun _ _ e=>e) (fun _ _ e=>e.elim))
    clear hr hw;unfold Zzv;go_wp2_with fail;go_ret;exact⟨0,rfl,HF.out _ ((Wr.refl _ w2).alloc _)⟩
  | some st =>
    obtain⟨er,evt,ev⟩:=st;unfold Zzv;cases evt with
    | true =>
      have HF:=Hd fun W2 (h:Wr (fun _=>False) w2 W2)=>HR.out.event er ev W1 W2 hr (hw.trans h (fun _ _ e=>e) (fun _ _ e=>e.elim))
      clear hr hw;go_wp2_with fail;refine(HF.out _ ((Wr.refl _ w2).alloc _)).mono ?_;rintro x w3 ⟨rfl,n',hn',hi'⟩;have HN':=Hd hn';have HI':=Hd hi';clear hn' hi';go_wp2_with fail
      go_roundg (2*n'+1)
      case rel=>exact⟨n',false,rfl,HI'.out,rfl⟩
      case measure=>have h1:=HN'.out;have h2:=HGK.out;omega
    | false =>
      have HW:=Hd fun W2 (h:Wr (fun _=>False) w2 W2)=>hw.trans h (N:=fun k=>k=wr.heap.size\/k=wr.heap.size+1) (fun _ _ e=>e) (fun _ _ e=>e.elim)
      have HRR:=Hd hr;clear hr hw
      by_cases h7:er=7
      ·
       subst h7;cases room with
       | false =>
         have HF:=Hd fun W2 (h:Wr (fun _=>False) w2 W2)=>HR.out.full ev W1 W2 HRR.out (HW.out W2 h) rfl
         go_wp2_with fail;refine(HF.out _ ((Wr.refl _ w2).alloc _)).mono ?_;rintro x w3 ⟨⟨vv,rfl⟩,hi'⟩;have HI':=Hd hi';clear hi';go_wp2_with fail
         go_roundg (2*n)
         case rel=>exact⟨n,true,rfl,HI'.out,rfl⟩
         case measure=>have h2:=HGK.out;simp at h2;omega
       | true =>
         have HF:=Hd fun W2 (h:Wr (fun _=>False) w2 W2)=>HR.out.err 7 ev W1 W2 HRR.out (HW.out W2 h) (by simp)
         go_wp2_with fail;go_ret;exact⟨_,rfl,HF.out _ ((Wr.refl _ w2).alloc _)⟩
      ·
       have H7:((er:Int) == 7)=false:=by simpa using h7
       have HF:=Hd fun W2 (h:Wr (fun _=>False) w2 W2)=>HR.out.err er ev W1 W2 HRR.out (HW.out W2 h) (fun e=>h7 e.1)
       go_wp2_with fail;go_ret;exact⟨_,rfl,HF.out _ ((Wr.refl _ w2).alloc _)⟩
open Go.RowKit
theorem Zx6 {d:Zag} {V:Nat->BF} (hk:Zan d V):Acy (Zab d) (fun i=>d.vars.length-lvE d.vars.length (levN d) (Zab d) (2*i)):=by
 have e2:∀ i:Nat,2*i/2=i:=fun i=>by omega
 have hl:∀ i b,Zab d i=some b->lvE d.vars.length (levN d) (Zab d) (2*i)=levN d b.v:=fun i b h=>by unfold lvE;rw[e2,h]
 have hh:∀ e,lvE d.vars.length (levN d) (Zab d) (2*(e/2))=lvE d.vars.length (levN d) (Zab d) e:=fun e=>Zgr (e2 _)
 refine⟨hk.dag.none0,hk.dag.okLo,hk.dag.okHi,fun i b c h1 h2=>?_,fun i b c h1 h2=>?_⟩
 ·
  have a1:=hk.dag.lvLo _ _ h1;have a2:=hk.dag.lt _ (hk.dag.var _ _ h1);have a3:=hh b.lo;rw[hl i b h1];omega
 ·
  have a1:=hk.dag.lvHi _ _ h1;have a2:=hk.dag.lt _ (hk.dag.var _ _ h1);have a3:=hh b.hi;rw[hl i b h1];omega
theorem Zzb {o:Own} {w:World} {sb:Nat} {d:Zag} {V:Nat->BF} (h:Zax o w sb d) (hlt:Zak o w) (hk:Zan d V) (f:Nat) (hf:okE (Zab d) f) (htop:∀ y b,Zab d y=some b->Za2 d y<1099511627776) :
 Calls Tryz.prog 201 #[.pointer (some ⟨sb,0,none⟩),.int .i64 f] w fun x w'=>x=.returned (.int .i64 0)/\∃ d',Zax o w' sb d'/\Zak o w'/\Zf0 d d' f 1/\Chg Zas o o w w':=by
 obtain⟨s,h⟩:=h;have hlt':=h.edge_lt hf;rcases hf with h0|⟨b,hb⟩
 ·
  refine(Zk9 h hlt hk.live f (by unfold eMax;omega) h0).mono ?_;rintro e w' ⟨d',h1,h2,h3,h4,h5⟩;exact⟨h1,d',⟨s,h2⟩,h3,h4,h5⟩
 ·
  refine(Zk8 h hlt hk.live (Zx6 hk) f (b:=b) hb htop).mono ?_;rintro e w' ⟨d',h1,h2,h3,h4,h5⟩;exact⟨h1,d',⟨s,h2⟩,h3,h4,h5⟩
theorem Zf0.ok {d d':Zag} {V:Nat->BF} {f:Nat} {sg:Int} (r:Zf0 d d' f sg) (hk:Zan d V):Zan d' V:=by
 have hl:levN d'=levN d:=by funext v;unfold levN;rw[r.level]
 exact⟨by rw[r.vars,hl,r.nodes];exact hk.dag,r.live,by rw[r.vars,r.nodes,r.tab];exact hk.tab,by rw[r.clen];exact hk.clen,by rw[r.vars];exact hk.small,by rw[r.vars,hl];exact hk.inv,by rw[r.vars,hl];exact hk.vlt⟩
theorem Zmt (hs:List (Int×Nat)) (n:Int) (f i:Nat) (hn:1<n):Zb3 (hs++[(n,f)]) i=Zb3 hs i+(if f/2=i then 1 else 0):=by
 unfold Zb3;rw[List.filter_append,List.length_append];congr 1
 by_cases e:f/2=i
 ·
  simp[e,hn]
 ·
  have:(f/2 == i)=false:=by simp[e]
  simp[e,this,List.filter]
theorem Zvf (hs:List (Int×Nat)) (i:Nat):Zb3 hs i<=hs.length:=List.length_filter_le _ _
structure Gave (K:Law) (o:Own) (w:World) (mb:Nat) (m:ManD) (V:Nat->BF) (f:Nat) (o':Own) (w':World) (m':ManD):Prop where
 is:Zc6 (K m'.d V) o' w' mb m'
 lt:Zak o' w'
 chg:Chg (fun _=>True) o o' w w'
 ok:Zre m' V
 hs:m'.hs=m.hs++[(m.next,f)]
 next:m'.next=m.next+1
 waits:m'.waits=m.waits
 calls:m'.calls=m.calls
 nodes:Zab m'.d=Zab m.d
 vars:m'.d.vars=m.d.vars
 level:m'.d.level=m.d.level
 room:m'.d.pool.room=m.d.pool.room
 many:m'.d.pool.many=m.d.pool.many
theorem Zn5 {m:ManD} {d':Zag} {f:Nat} (h:Zb7 m) (r:Zf0 m.d d' f 1) (hf:okE (Zab m.d) f) (h0:Zab m.d 0=none):Zb7 { m with d:=d',hs:=m.hs++[(m.next,f)],next:=m.next+1 }:=by
 have hn:=h.next
 refine⟨?_,by simp[h.zero],by simp[h.one],?_,by dsimp only;omega,?_,?_,?_⟩
 ·
  dsimp only;rw[List.map_append,List.nodup_append];refine⟨h.nodup,by simp,fun a ha b hb=>?_⟩;simp at hb;subst hb;rintro rfl;obtain⟨p,hp,e⟩:=List.mem_map.1 ha;have:=(h.lt p hp).2;omega
 ·
  intro p hp;rcases List.mem_append.1 hp with hp|hp
  ·
   have:=h.lt p hp;dsimp only;omega
  ·
   simp at hp;subst hp;dsimp only;omega
 ·
  intro p hp;dsimp only;rw[r.nodes];rcases List.mem_append.1 hp with hp|hp
  ·
   exact h.ok p hp
  ·
   simp at hp;subst hp;exact hf
 ·
  have:=h.len;simp;omega
 ·
  intro i b hb;dsimp only at hb ⊢;rw[r.nodes] at hb;have hi:i≠0:=by rintro rfl;rw[h0] at hb;cases hb
  rw[r.ext i hi,h.refs i b hb,Zmt _ _ _ _ (by omega)];unfold toE;split<;>simp
theorem Zxb {k:Int} {v:Value} {l:List (Int×Value)} (h:∀ p∈l,p.1≠k):putL k v l=l++[(k,v)]:=by
 have h1:=Zej.2 h;unfold getL at h1;unfold putL;cases e:Zdj k l 0 with
 | none=>rfl
 | some p=>rw[e] at h1;cases h1
theorem Zb4.setMap {F:Phi} {o:Own} {w w':World} {mb:Nat} {m:ManD} {s:ManW} (h:Zb4 F o w mb m s) (hlt:Zak o w) {hs':List (Int×Nat)} (hm:Zco w' s.hb (Value.int .i64) (encH hs')) (hg:w.grownBy w' (some s.hb)):Zb4 F o w' mb { m with hs:=hs' } s:=by
 have k:∀ {g r},o g=some r->r ≠ .handles->w'.heap[g]?=w.heap[g]?:=fun hq hr=>hg.block _ (hlt _ _ hq) (fun e=>by cases e;have:=h.ownh;rw[hq] at this;cases this;exact hr rfl)
 exact⟨h.own,(k h.own (by simp)).trans h.blk,h.store.keepR (fun g r hq hr=>k hq (by rintro rfl;simp[Zas,Ze2] at hr)) (fun _ _ h=>h),h.memo.keep (fun g r hq hr=>k hq (by rintro rfl;rcases hr with e|e<;>cases e)) (fun _ _ h=>h),h.ownh,hm,
  h.waits.keep (fun g hq=>k hq (by simp)) (fun _ h=>h)⟩
theorem kI:Znb Tryz.prog 3 (Value.int .i64):=Zuk Tryz.underlying3
theorem Zmg {K:Law} (hK:Zbp K) {o:Own} {w:World} {mb:Nat} {m:ManD} {V:Nat->BF} (hm:Zc6 (K m.d V) o w mb m) (hlt:Zak o w) (hk:Zre m V) (f:Nat) (hf:okE (Zab m.d) f) (hb:m.next<1099511627776) :
 Calls Tryz.prog 147 #[.pointer (some ⟨mb,0,none⟩),.int .i64 f] w fun x w'=>x=.returned (.int .i64 m.next)/\∃ o' m',Gave K o w mb m V f o' w' m':=by
 obtain⟨s,hm⟩:=hm;obtain⟨c0,c1,c2,c3,c4,c5,f0⟩:=cells6 hm.blk
 have HHO:=Hd (Zzb hm.store hlt hk.store f hf (fun y b hy=>by
  rw[hk.handles.refs y b hy];have h1:=Zvf m.hs y;have h2:=hk.handles.len;omega))
 have hn2:=hk.handles.next
 have HM:=Hd hm;have HL:=Hd hlt;have HK:=Hd hk;have HF:=Hd hf;have HLAW:=Hd hK;clear hm hlt hk hf hK
 go_enter Tryz.func147,Tryz.ntmps147
 go_wp2_with fail;refine HHO.out.mono ?_;rintro x w1 ⟨rfl,d',hst,hl1,hr,hc1⟩;have hM1:=HM.out.setStore HL.out hst hc1;have hfresh:∀ p∈encH m.hs,p.1≠m.next:=by
  intro p hp e0;obtain⟨q,hq,rfl⟩:=List.mem_map.1 hp;have h1:=HK.out.handles.lt q hq;have h2:q.1<m.next:=h1.2
  have h3:q.1=m.next:=e0
  omega
 have HFR:=Hd hfresh;have HM1:=Hd hM1;have HL1:=Hd hl1;have HR:=Hd hr;have HC1:=Hd hc1;clear hst hl1 hr hc1 hfresh c0 c1 c2 c3 c4 c5 f0;obtain⟨c0,c1,c2,c3,c4,c5,f0⟩:=cells6 hM1.blk;clear hM1;go_upto_region 3 with fail
 go_wp2_with (refine Zg8 (l := encH m.hs) rfl _ _ _ rfl kI Tryz.underlying126 m.next (.int .i64 (f : Nat)) rfl rfl rfl HM1.out.map ?_
              intro w2 hm2 hg2;have hl2:Zak o w2:=HL1.out.mono hg2.size;rw[Zxb HFR.out] at hm2;have hM2:=HM1.out.setMap HL1.out (hs':=m.hs++[(m.next,f)]) (by simpa [encH] using hm2) hg2;have hc2:Chg (fun _=>True) o o w w2:=HC1.out.any.grown hg2 (fun g hg=>by cases hg;exact⟨_,HM1.out.ownh,trivial⟩);have HM2:=Hd hM2;have HL2:=Hd hl2;have HC2:=Hd hc2;clear c0 c1 c2 c3 c4 c5 f0 hm2 hg2 hl2 hc2;obtain⟨c0,c1,c2,c3,c4,c5,f0⟩:=cells6 hM2.blk;clear hM2)
 go_ret;have hr:=HR.out;have hM3:Zb4 (K m.d V) o (w2.setCell ⟨mb,3,none⟩ (.int .i64 (m.next+1))) mb { m with d:=d',hs:=m.hs++[(m.next,f)],next:=m.next+1 } s:=HM2.out.field rfl rfl rfl rfl rfl HM2.out.waits rfl;refine⟨rfl,o,_,⟨⟨s,hM3.mono fun op a b c r h=>HLAW.out.same _ _ _ _ _ _ _ _ hr.vars hr.level hr.nodes h⟩,HL2.out.mono (by simp[World.setCell]),HC2.out.setCell (p:=⟨mb,3,none⟩) HM2.out.own trivial _,⟨hr.ok HK.out.store,Zn5 HK.out.handles hr HF.out HK.out.store.dag.none0⟩,rfl,rfl,rfl,rfl,hr.nodes,hr.vars,hr.level,hr.room,hr.many⟩⟩
open Go.RowKit
def doW (gop:Nat) (lop:Array Value) (w:World):World:=(w.alloc (.cells #[.func (.func gop) #[] lop] 123)).alloc (.cells #[.int .i64 0] 116)
theorem Zrt:∀ args w,(callFunc 145 args).run Tryz.prog w=.ok (.enter 145 args) w:=enters_of Tryz.func145 (by kernel_rfl) rfl
theorem Zz8 (w:World) (g:Fn) (fs cs:Array Value):(binOp .eql 123 (.func g fs cs) .nilFunc).run Tryz.prog w=.ok (.bool false) w:=by
 have hd:Op.maxDepth=9999+1:=rfl;have h:(Op.equal 123 (.func g fs cs) .nilFunc).run Tryz.prog w=.ok false w:=by
  unfold Op.equal;rw[hd];unfold Op.equalIn;simp only[Sem.run_bind,run_underlying Tryz.underlying123,Result.andThen_ok];simp
 simp only[binOp];simp[h]
open Go.RowKit
def varF (v:Nat):BF:=fun ρ=>ρ v
theorem Zpr:∀ args w,(callFunc 84 args).run Tryz.prog w=.ok (.enter 84 args) w:=enters_of Tryz.func84 (by kernel_rfl) rfl
open Go.RowKit
theorem Zxy (w:World):(zeroValue 116).run Tryz.prog w=.ok (.int .i64 0) w:=by
 have s:(Tryz.prog.info? 116).map (fun i=>i.zero)=some (some (.int .i64 0)):=by kernel_rfl
 cases hi:Tryz.prog.info? 116 with
 | none=>rw[hi] at s;cases s
 | some i =>
   rw[hi] at s;simp only[Option.map_some,Option.some.injEq] at s;simp[zeroValue,typeInfo,hi,s]
theorem Zeg {hs:List (Int×Nat)} (h:(hs.map Prod.fst).Nodup):((encH hs).map Prod.fst).Nodup:=by
 have:(encH hs).map Prod.fst=hs.map Prod.fst:=by simp[encH]
 rw[this];exact h
section
variable {F:Phi} {o:Own} {w:World} {mb:Nat} {m:ManD} {s:ManW}
theorem Zfn (h:Zb4 F o w mb m s) (hn:(m.hs.map Prod.fst).Nodup) {k:Int} {f:Nat} (hk:(k,f)∈m.hs) :
 (Instr.lookup 126 (.map (some s.hb)) (.int .i64 k) true).run Tryz.prog w=.ok (.tuple #[.int .i64 f,.bool true]) w:=by
 have h1:=h.map.lookup kI Tryz.underlying126 Zxy k true;have h2:getL (encH m.hs) k=some (.int .i64 (f:Nat)):=Zdf (Zeg hn) (List.mem_map.2 ⟨(k,f),hk,rfl⟩);rw[h1,h2];rfl
end
theorem Zcs {F:Phi} {o:Own} {w:World} {xb mb:Nat} {m:ManD} (h:Zc6 F o w mb m) (hx:Zdd o w xb mb) (hn:(m.hs.map Prod.fst).Nodup) {k:Int} {f:Nat} (hk:(k,f)∈m.hs) :
 Calls Tryz.prog 81 #[.pointer (some ⟨xb,0,none⟩),.int .i64 k] w fun x w'=>x=.returned (.int .i64 f)/\w=w':=by
 obtain⟨s,h⟩:=h;obtain⟨c0,c1,c2,c3,c4,c5,f0⟩:=cells6 h.blk;have cx:=hx.cell;have hl:=Zfn h hn hk;clear h hx hn hk
 go_enter Tryz.func81,Tryz.ntmps81
 go_wp2_with fail;go_ret;exact⟨rfl,rfl⟩
theorem Zxh {F:Phi} {o:Own} {w:World} {mb:Nat} {m:ManD} (h:Zc6 F o w mb m) (hn:(m.hs.map Prod.fst).Nodup) {k l:Int} {f g:Nat} (hk:(k,f)∈m.hs) (hl:(l,g)∈m.hs) :
 Calls Tryz.prog 22 #[.pointer (some ⟨mb,0,none⟩),.int .i64 k,.int .i64 l] w fun x w'=>x=.returned (.tuple #[.bool (f == g),.int .i64 0])/\w=w':=by
 obtain⟨s,h⟩:=h;obtain⟨c0,c1,c2,c3,c4,c5,f0⟩:=cells6 h.blk;have h1:=Zfn h hn hk;have h2:=Zfn h hn hl;have HE:Hid (((f:Int) == (g:Int))=(f == g)):=by
  show ((f:Int) == (g:Int))=(f == g)
  by_cases e:f=g
  ·
   subst e;rw[beq_self_eq_true,beq_self_eq_true]
  ·
   rw[beq_eq_false_iff_ne.2 (show (f:Int)≠g by omega),beq_eq_false_iff_ne.2 e]
 clear h hn hk hl
 go_enter Tryz.func22,Tryz.ntmps22
 go_wp2_with fail
 go_ret2
 exact⟨by rw[<- HE.out];rfl,rfl⟩
theorem Zza {F:Phi} {o:Own} {w:World} {mb:Nat} {m:ManD} (h:Zc6 F o w mb m) :
 Calls Tryz.prog 61 #[.pointer (some ⟨mb,0,none⟩)] w fun x w'=>x=.returned (.int .i64 m.hs.length)/\w=w':=by
 obtain⟨s,h⟩:=h;obtain⟨c0,c1,c2,c3,c4,c5,f0⟩:=cells6 h.blk;have hl:=h.map.size (P:=Tryz.prog) Tryz.underlying126 3;have e:(encH m.hs).length=m.hs.length:=by simp[encH]
 rw[e] at hl;clear h e
 go_enter Tryz.func61,Tryz.ntmps61
 go_wp2_with fail;go_ret;exact⟨rfl,rfl⟩
open Go.RowKit
end Go.Proofs.YtmofaapnkidioaaGreat

namespace Go.Proofs.YtmofaapnkidioaaGreat
open Go.RowKit
theorem Zpq:∀ args w,(callFunc 85 args).run Tryz.prog w=.ok (.enter 85 args) w:=enters_of Tryz.func85 (by kernel_rfl) rfl
def box3 (a b c:Int) (w:World):World:=((w.alloc (.cells #[.int .i64 a] 3)).alloc (.cells #[.int .i64 b] 3)).alloc (.cells #[.int .i64 c] 3)
theorem Zyt (a b c:Int) (w:World):Below w.heap.size w (box3 a b c w)/\(box3 a b c w).cell? ⟨w.heap.size,0,none⟩=some (.int .i64 a)/\(box3 a b c w).cell? ⟨w.heap.size+1,0,none⟩=some (.int .i64 b)/\(box3 a b c w).cell? ⟨w.heap.size+2,0,none⟩=some (.int .i64 c):=by
 have h0:=heap_alloc_new w (.cells #[.int .i64 a] 3);have h1:=heap_alloc_new (w.alloc (.cells #[.int .i64 a] 3)) (.cells #[.int .i64 b] 3);have h2:=heap_alloc_new ((w.alloc (.cells #[.int .i64 a] 3)).alloc (.cells #[.int .i64 b] 3)) (.cells #[.int .i64 c] 3);rw[World.size_alloc] at h1;rw[World.size_alloc,World.size_alloc] at h2;have a0:(box3 a b c w).heap[w.heap.size]?=some (.cells #[.int .i64 a] 3 (0,0)):=(Go.heap_alloc_old _ _ (by simp;omega)).trans ((Go.heap_alloc_old _ _ (by simp)).trans h0);have a1:(box3 a b c w).heap[w.heap.size+1]?=some (.cells #[.int .i64 b] 3 (0,0)):=(Go.heap_alloc_old _ _ (by simp)).trans h1;have a2:(box3 a b c w).heap[w.heap.size+2]?=some (.cells #[.int .i64 c] 3 (0,0)):=h2;exact⟨((Zad w _).alloc (by simp) _).alloc (by simp;omega) _,by rw[cell_of_row _ _ 0 _ _ _ a0];rfl,by rw[cell_of_row _ _ 0 _ _ _ a1];rfl,by rw[cell_of_row _ _ 0 _ _ _ a2];rfl⟩
open Go.RowKit
def man0 (n room:Nat):ManD:=⟨store0 n room,[(0,1),(1,0)],2,[],0⟩
theorem nodes0 (n room:Nat):Zab (store0 n room)=fun _=>none:=by
 funext i;have ht:(pool0 room).tk i=false:=by
  unfold Zam.tk pool0;cases i with
  | zero=>rfl
  | succ i=>rfl
 unfold Zab store0 Zam.get;simp[ht]
theorem Ziu (n v:Nat) (h:v<n):(List.range n).getD v 0=v:=by simp[List.getD,h]
theorem Zvr (n room:Nat) (hn:n<=64):Zan (store0 n room) (fun _ _=>true):=by
 have hl:∀ v,v<n->levN (store0 n room) v=v:=fun v hv=>Ziu n v hv
 have hlen:(store0 n room).vars.length=n:=by simp[store0]
 have hno:∀ i b,Zab (store0 n room) i=some b->False:=fun i b h=>by rw[nodes0] at h;cases h
 refine⟨⟨fun _=>rfl,by rw[nodes0],fun i b h=>(hno i b h).elim,fun u v hu hv e=>?_,fun v hv=>?_,fun i b h=>(hno i b h).elim,fun i b h=>(hno i b h).elim,fun i b h=>(hno i b h).elim,fun i b h=>(hno i b h).elim,fun i b h=>(hno i b h).elim,fun i b h=>(hno i b h).elim,fun i j b h=>(hno i b h).elim,fun i b h=>(hno i b h).elim⟩,
  ?_,fun v hv lo hi id=>⟨fun h=>absurd (show (none:Option Nat)=some id from h) (by simp),fun h=>(hno _ _ h).elim⟩,by simp[store0],by rw[hlen];exact hn,fun v hv=>?_,fun i hi=>?_⟩
 ·
  rw[hlen] at hu hv;rw[hl u hu,hl v hv] at e;exact e
 ·
  rw[hlen] at hv ⊢;rw[hl v hv];exact hv
 ·
  refine⟨⟨fun i b h=>(hno i b h).elim,fun i b h=>(hno i b h).elim⟩,?_,fun i b h=>(hno i b h).elim⟩;have h1:Zeb (store0 n room).pool.at_.length (Zab (store0 n room)) (Za0 (store0 n room))=Zay (store0 n room).pool.at_.length (dead1 (Zab (store0 n room)) (Za0 (store0 n room))):=rfl;rw[h1,nodes0];have h2:dead1 (fun _=>none) (Za0 (store0 n room)) 0=0:=rfl
  show (0:Int)=Zay 1 _
  simp[Zay,h2]
 ·
  rw[hlen] at hv;rw[hl v hv];exact Ziu n v hv
 ·
  rw[hlen] at hi ⊢;have e:(store0 n room).vars.getD i 0=i:=Ziu n i hi;rw[e];exact⟨hi,hl i hi⟩
theorem Zzl (n room:Nat) (hn:n<=64):Zre (man0 n room) (fun _ _=>true) :=
 ⟨Zvr n room hn,⟨by simp[man0],by simp[man0],by simp[man0],by simp[man0],by simp[man0],fun p hp=>by simp[man0] at hp;rcases hp with rfl|rfl<;>exact .inl rfl,by simp[man0],fun i b h=>by rw[show (man0 n room).d=store0 n room from rfl,nodes0] at h;cases h⟩⟩
def Zhy:Law:=fun d V op a b c r=>op=1->IteP d V a b c r
theorem Zek:Zbp Zhy:=⟨fun d V a b c r=>⟨fun h=>h rfl,fun h _=>h⟩,fun d V d' V' op a b c r hk hk' x h e=>(h e).ext x hk hk',fun d d' V op a b c r h1 h2 h3 h e=>by
 have q:=h e;have hl:levN d'=levN d:=by funext v;unfold levN;rw[h2]
 have hm:minL d' a b c=minL d a b c:=by unfold minL;rw[h1,hl,h3]
 exact⟨by rw[h3];exact q.okA,by rw[h3];exact q.okB,by rw[h3];exact q.okC,by rw[h3];exact q.okR,q.val,by rw[hm,h1,hl,h3];exact q.lev⟩⟩
theorem Zzn {F:Phi} (o:Own) (n room:Nat) (w:World) (hlt:Zak o w) (hn:n<=64) (h1:1<=room) (h2:room<=1048576) :
 Calls Tryz.prog 67 #[.int .i64 n,.int .i64 room] w fun x w'=>∃ mb o',x=.returned (.tuple #[.pointer (some ⟨mb,0,none⟩),.int .i64 0])/\Zc6 F o' w' mb (man0 n room)/\Chg (fun _=>True) o o' w w'/\Zak o' w'/\w.heap.size<=mb:=by
 have HS:=Hd (Zu4 o n room w hlt hn h1 h2);clear hlt hn h1 h2
 go_enter Tryz.func67,Tryz.ntmps67
 go_wp2_with fail;refine HS.out.mono ?_;rintro x w1 ⟨sb,o1,rfl,hst,hc1,hl1,hsb⟩;have HST:=Hd hst;have HC1:=Hd hc1;have HL1:=Hd hl1;clear hst hc1 hl1;have hmk:=Zhi (P:=Tryz.prog) w1 126;obtain⟨wA,hrA,hmA,hgA⟩:=(Zoh w1 (Value.int .i64)).update (P:=Tryz.prog) kI Tryz.underlying126 0 (.int .i64 1);obtain⟨wB,hrB,hmB,hgB⟩:=hmA.update (P:=Tryz.prog) kI Tryz.underlying126 1 (.int .i64 0);have hl0:=HL1.out.allocR (.map #[] 0) .handles;have hcB:Chg (fun _=>True) o (Zcp o1 w1.heap.size .handles) w wB :=
  ((HC1.out.any.allocR (r:=.handles) HL1.out (.map #[] 0) trivial).grown hgA (fun g hg=>by cases hg;exact⟨_,Zbf _ _ _,trivial⟩)).grown hgB (fun g hg=>by cases hg;exact⟨_,Zbf _ _ _,trivial⟩)
 have hlB:Zak (Zcp o1 w1.heap.size .handles) wB:=hl0.mono (Nat.le_trans hgA.size hgB.size);have hne:∀ g r,o1 g=some r->g≠w1.heap.size:=fun g r hg e=>by have:=HL1.out g r hg;omega
 have hkeep:∀ g r,o1 g=some r->wB.heap[g]?=w1.heap[g]?:=fun g r hg=>by
  have a0:=HL1.out g r hg;have a1:g<(w1.alloc (.map #[] 0)).heap.size:=by simp;omega
  rw[hgB.block g (Nat.lt_of_lt_of_le a1 hgA.size) (by intro e;cases e;exact hne _ _ hg rfl),hgA.block g a1 (by intro e;cases e;exact hne _ _ hg rfl)];exact Go.heap_alloc_old _ _ a0
 have HSB:=Hd (HST.out.keepR (o':=Zcp o1 w1.heap.size .handles) (fun g r hg _=>hkeep g r hg) (fun g r hg=>Zc8 HL1.out (Nat.le_refl _) hg));have HMB:Hid (Zco wB w1.heap.size (Value.int .i64) [(0,.int .i64 1),(1,.int .i64 0)]):=Hd hmB;have HCB:=Hd hcB;have HLB:=Hd hlB;have HME:=Hd (Zw1 (Zcp o1 w1.heap.size .handles) F wB hlB);have hgs:w1.heap.size<wB.heap.size:=hmB.lt;clear hmA hgA hmB hgB hl0 hcB hlB hne hkeep;go_wp2_with fail;refine HME.out.mono ?_;rintro x w2 ⟨me,o2,rfl,hme,hc2,hl2,hge⟩;have hst2:=HSB.out.keepR (o':=o2) (w':=w2) (fun g r hg hr=>hc2.same HLB.out hg (by rintro rfl;simp[Zas,Ze2] at hr)) hc2.ext;have hmap2:=HMB.out.keepB (hc2.same HLB.out (Zbf o1 w1.heap.size .handles) (by simp));have hoh:=hc2.ext _ _ (Zbf o1 w1.heap.size .handles);have HF:Hid (∀ w3,w3=w2.alloc (.cells #[.pointer (some ⟨sb,0,none⟩),.pointer (some ⟨me,0,none⟩),.map (some w1.heap.size),.int .i64 2,.slice none 0 0,.int .i64 0] 128)->Zc6 F (Zcp o2 w2.heap.size .man) w3 w2.heap.size (man0 n room)/\Chg (fun _=>True) o (Zcp o2 w2.heap.size .man) w w3/\Zak (Zcp o2 w2.heap.size .man) w3/\w.heap.size<=w2.heap.size):=by
  refine Hd ?_;rintro w3 rfl;have hk3:∀ g r,o2 g=some r->(w2.alloc (.cells #[.pointer (some ⟨sb,0,none⟩),.pointer (some ⟨me,0,none⟩),.map (some w1.heap.size),.int .i64 2,.slice none 0 0,.int .i64 0] 128)).heap[g]?=w2.heap[g]?:=fun g r hg=>Go.heap_alloc_old _ _ (hl2 g r hg)
  have ho3:∀ g r,o2 g=some r->Zcp o2 w2.heap.size .man g=some r:=fun g r hg=>Zc8 hl2 (Nat.le_refl _) hg
  exact⟨⟨⟨sb,me,w1.heap.size,.slice none 0 0⟩,Zbf _ _ _,heap_alloc_new w2 _,hst2.keepR (fun g r hg _=>hk3 g r hg) ho3,hme.keep (fun g r hg _=>hk3 g r hg) ho3,ho3 _ _ hoh,hmap2.keepB (hk3 _ _ hoh),Zbx.nil _ _⟩,
   (HCB.out.trans hc2.any).allocR hl2 _ trivial,hl2.allocR _ _,(HCB.out.trans hc2.any).size⟩
 clear hst2 hmap2 hoh hme hc2 hl2;go_wp2_with fail
 go_ret2
 obtain⟨a1,a2,a3,a4⟩:=HF.out _ rfl;exact⟨_,_,rfl,a1,a2,a3,a4⟩
open Go.RowKit
section
variable {F:Phi} {o:Own} {w:World} {sb mb:Nat} {d:Zag} {m:ManD}
theorem Zm7 (h:Zax o w sb d):Calls Tryz.prog 143 #[.pointer (some ⟨sb,0,none⟩)] w fun x w'=>x=.returned (.int .i64 d.vars.length)/\w=w':=by
 obtain⟨s,h⟩:=h;obtain⟨c0,c1,c2,c3,c4,f0⟩:=cells5 h.blk;obtain⟨d0,d1,_⟩:=cells2 h.lev;obtain⟨a,cap,hv,_⟩:=h.vars.slice;rw[hv] at d0;clear h hv
 go_enter Tryz.func143,Tryz.ntmps143
 go_wp2_with fail;go_ret;exact⟨rfl,rfl⟩
theorem Zkc (h:Zc6 F o w mb m):Calls Tryz.prog 74 #[.pointer (some ⟨mb,0,none⟩)] w fun x w'=>x=.returned (.int .i64 m.d.vars.length)/\w=w':=by
 obtain⟨s,h⟩:=h;obtain⟨c0,c1,c2,c3,c4,c5,f0⟩:=cells6 h.blk;have HP:=Hd (Zm7 h.store);clear h
 go_enter Tryz.func74,Tryz.ntmps74
 go_wp2_with fail;refine HP.out.mono ?_;rintro x w' ⟨rfl,rfl⟩;go_wp2_with fail;go_ret;exact⟨rfl,rfl⟩
end
open Go.RowKit
structure Zfz (w:World) (a:Option Addr) (bs:List Bool):Prop where
 len:bs.length<=1000000
 cells:∀ k,k<bs.length->∃ b off,a=some ⟨b,off,none⟩/\w.cell? ⟨b,off+k,none⟩=some (.bool (bs.getD k false))
theorem Zfz.below {w w':World} {a:Option Addr} {bs:List Bool} (h:Zfz w a bs) (hb:Below w.heap.size w w'):Zfz w' a bs :=
 ⟨h.len,fun k hk=>by
  obtain⟨b,off,rfl,hc⟩:=h.cells k hk;exact⟨b,off,rfl,(hb.cell (p:=⟨b,off+k,none⟩) (Zaa hc)).trans hc⟩⟩
def Zc7 (bs:List Bool):Nat->Bool:=fun v=>bs.getD v false
theorem Zwf {F:Phi} {o:Own} {w:World} {mb:Nat} {m:ManD} {V:Nat->BF} (h:Zc6 F o w mb m) (hlt:Zak o w) (hk:Zre m V) {k:Int} {f:Nat} (hkf:(k,f)∈m.hs) (a:Option Addr) (c:Nat) (bs:List Bool) (hbs:Zfz w a bs) :
 Calls Tryz.prog 96 #[.pointer (some ⟨mb,0,none⟩),.int .i64 k,.slice a bs.length c] w fun x w'=>x=.returned (.tuple #[.bool (ef V f (Zc7 bs)),.int .i64 0])/\Below w.heap.size w w':=by
 obtain⟨s,h⟩:=h;obtain⟨c0,c1,c2,c3,c4,c5,f0⟩:=cells6 h.blk;have hlk:=Zfn h hk.handles.nodup hkf;have HM:=Hd h;have HLT:=Hd hlt;have HK:=Hd hk.store;have HOKF:=Hd (hk.handles.ok _ hkf);have HBS:=Hd hbs;have hbl:=hbs.len;clear h hlt hk hkf hbs
 go_enter Tryz.func96,Tryz.ntmps96
 go_wp2_with fail
 go_loopg [8] (m.d.vars.length-lvE m.d.vars.length (levN m.d) (Zab m.d) f) (fun gk s8 wx=>∃ e:Nat,s8=.int .i64 e/\okE (Zab m.d) e/\ef V e (Zc7 bs)=ef V f (Zc7 bs)/\Below w.heap.size w wx/\gk=m.d.vars.length-lvE m.d.vars.length (levN m.d) (Zab m.d) e)
 case atStart=>exact⟨f,rfl,HOKF.out,rfl,Below.refl _ _,rfl⟩
 case round =>
  obtain⟨e,rfl,hok,hev,hB,hgk⟩:=hrel;clear c0 c1 c2 c3 c4 c5 f0 hlk;have hm:=HM.out.below HLT.out hB;obtain⟨c0,c1,c2,c3,c4,c5,f0⟩:=cells6 hm.blk;have hel:e<eMax:=by
   obtain⟨ss,hss⟩:=hm.store;have:=hss.edge_lt hok;unfold eMax;omega
  have HC:=Hd (fun W=>Ztr e W hel);have HA:=Hd (Zgw hm.store (HLT.out.mono hB.size) HK.out e hok);have HEV:=Hd hev;have HB:=Hd hB;have HGK:=Hd hgk;clear hm hel hev hB hgk;cases hb:Zab m.d (e/2) with
  | none =>
    have h0:e/2=0:=by
     rcases hok with h|⟨b,hb'⟩
     ·
      exact h
     ·
      rw[hb] at hb';cases hb'
    have he:decide (enode e=0)=true:=by simp[enode,h0]
    rw[he] at HC;have HR:Hid (ef V f (Zc7 bs)=((e:Int) == 0)):=by
     show _=_
     rw[<- HEV.out];have h1:=HK.out.dag.one (Zc7 bs);have h2:e=0\/e=1:=by omega
     rcases h2 with rfl|rfl<;>simp[ef,h1]
    clear hok hb h0 he;go_wp2_with fail;refine(HC.out _).mono ?_;rintro x w' ⟨rfl,rfl⟩;go_wp2_with fail
    go_ret2
    exact⟨by rw[HR.out];rfl,HB.out⟩
  | some b =>
    have hbv:=HK.out.dag.var _ _ hb;have hlv:lvE m.d.vars.length (levN m.d) (Zab m.d) e=levN m.d b.v:=by unfold lvE;rw[hb]
    have hco:=Zfi HK.out hok hbv (by rw[hlv];exact Nat.le_refl _);have hcf:cofs m.d e b.v=(eflip b.lo (eneg e),eflip b.hi (eneg e)):=by unfold cofs;rw[hb];simp
    rw[hcf] at hco;obtain⟨k1,k2,k3,k4,k5⟩:=hco;have k5:=k5 (Zc7 bs);dsimp only at k1 k2 k3 k4 k5;have hlt2:=HK.out.dag.lt _ hbv;have hne:decide (enode e=0)=false:=by
     have:enode e≠0:=by rintro h0;have h1:e/2=0:=h0;rw[h1,HK.out.dag.none0] at hb;cases hb
     simp[this]
    rw[hne] at HC;unfold atV at HA;rw[hb] at HA;obtain⟨L,hL⟩:∃ L,L=eflip b.lo (eneg e):=⟨_,rfl⟩;obtain⟨H,hH⟩:∃ H,H=eflip b.hi (eneg e):=⟨_,rfl⟩;rw[<- hL,<- hH] at k5;rw[<- hL] at k1 k3;rw[<- hH] at k2 k4;dsimp only at HA;rw[<- hL,<- hH] at HA;rw[hlv] at HGK;have HK1:=Hd k1;have HK2:=Hd k2;have HK3:=Hd k3;have HK4:=Hd k4;have HK5:=Hd k5;have HL2:=Hd hlt2;clear hok hb hbv hlv hcf k1 k2 k3 k4 k5 hlt2 hne hL hH;go_wp2_with fail;refine(HC.out _).mono ?_;rintro x w' ⟨rfl,rfl⟩;go_wp2_with fail;refine HA.out.mono ?_;rintro x w2 ⟨rfl,hb2⟩;have HB2:=Hd (HB.out.trans (hb2.mono HB.out.size));clear hb2 c0 c1 c2 c3 c4 c5 f0
    by_cases hv:b.v<bs.length
    ·
     obtain⟨b0,off,ha,hcell⟩:=(HBS.out.below HB2.out).cells b.v hv;subst ha;have hv':(b.v:Int)<bs.length:=by omega
     have hx:Zc7 bs b.v=bs.getD b.v false:=rfl;rw[<- hx] at hcell;cases hxx:Zc7 bs b.v with
     | true =>
       rw[hxx] at hcell HK5;clear hxx hx;go_wp2_with fail
       go_roundg (m.d.vars.length-lvE m.d.vars.length (levN m.d) (Zab m.d) H)
       case rel=>exact⟨H,rfl,HK2.out,by rw[<- HEV.out,HK5.out];rfl,HB2.out,rfl⟩
       case measure=>have h1:=HGK.out;have h2:=HK4.out;have h3:=HL2.out;omega
     | false =>
       rw[hxx] at hcell HK5;clear hxx hx;go_wp2_with fail
       go_roundg (m.d.vars.length-lvE m.d.vars.length (levN m.d) (Zab m.d) L)
       case rel=>exact⟨L,rfl,HK1.out,by rw[<- HEV.out,HK5.out];rfl,HB2.out,rfl⟩
       case measure=>have h1:=HGK.out;have h2:=HK3.out;have h3:=HL2.out;omega
    ·
     have hv':¬ (b.v:Int)<bs.length:=by omega
     have hx:Zc7 bs b.v=false:=by unfold Zc7;simp[List.getD,List.getElem?_eq_none (Nat.le_of_not_lt hv)]
     rw[hx] at HK5;clear hx;go_wp2_with fail
     go_roundg (m.d.vars.length-lvE m.d.vars.length (levN m.d) (Zab m.d) L)
     case rel=>exact⟨L,rfl,HK1.out,by rw[<- HEV.out,HK5.out];rfl,HB2.out,rfl⟩
     case measure=>have h1:=HGK.out;have h2:=HK3.out;have h3:=HL2.out;omega
open Go.RowKit
structure Zrc (T ST:TypeId) (z:Value) (b:Nat):Prop where
 under:Tryz.prog.underlying ST=some (.slice T)
 info:(Tryz.prog.info? T).map (fun i=>(i.zero,i.size,i.bytes))=some (some z,1,b)
 one:z.cells=#[z]
 small:b<=100
theorem Zl9:Zrc 3 22 (.int .i64 0) 8:=⟨Tryz.underlying22,by kernel_rfl,rfl,by omega⟩
theorem Zhu:Zrc 4 34 (.bool false) 1:=⟨Tryz.underlying34,by kernel_rfl,rfl,by omega⟩
theorem Zy2:Zrc 34 31 (.slice none 0 0) 24:=⟨Tryz.underlying31,by kernel_rfl,rfl,by omega⟩
def OwnC (T:TypeId) (w:World) (base:Nat) (v:Value) (xs:List Value):Prop:=w.ownsRow base T 1 v xs.length xs
section
variable {T ST:TypeId} {z:Value} {b:Nat} {w w':World} {base:Nat} {v:Value} {xs:List Value}
theorem OwnC.alloc (h:OwnC T w base v xs) (o:Obj):OwnC T (w.alloc o) base v xs:=World.ownsRow.alloc h o
theorem OwnC.lt (h:OwnC T w base v xs):∀ k,v.ownBlock=some k->base<=k/\k<w.heap.size:=World.ownsRow.lt h
theorem OwnC.same (h:OwnC T w base v xs) (hk:∀ k,v.ownBlock=some k->w'.heap[k]?=w.heap[k]?):OwnC T w' base v xs:=by
 refine⟨h.1,?_⟩;rcases h.2 with hn|⟨g,cap,cur,rfl,hb,hgg,rest⟩
 ·
  exact .inl hn
 ·
  refine .inr ⟨g,cap,cur,rfl,hb,?_,rest⟩;rw[hk g rfl];exact hgg
theorem OwnC.below (h:OwnC T w base v xs) (hb:Below w.heap.size w w'):OwnC T w' base v xs:=h.same fun k hk=>hb.block k (h.lt k hk).2
theorem OwnC.shape (h:OwnC T w base v xs) (hp:0<xs.length):∃ g cap,v=.slice (some ⟨g,0,none⟩) xs.length cap/\base<=g/\g<w.heap.size:=by
 rcases h.2 with ⟨_,h0⟩|⟨g,cap,cur,hv,hg,hh,_⟩
 ·
  omega
 ·
  exact⟨g,cap,hv,hg,(Array.getElem?_eq_some_iff.1 hh).1⟩
theorem OwnC.slice (h:OwnC T w base v xs):∃ a cap,v=.slice a xs.length cap/\(a=none->cap=0):=by
 rcases h.2 with ⟨hv,h0⟩|⟨g,cap,cur,hv,hg,hh,_⟩
 ·
  exact⟨none,0,by rw[hv,h0],fun _=>rfl⟩
 ·
  exact⟨_,cap,hv,by simp⟩
theorem OwnC.cell {g cap n:Nat} (h:OwnC T w base (.slice (some ⟨g,0,none⟩) n cap) xs) (k:Nat) (hk:k<xs.length):w.cell? ⟨g,k,none⟩=xs[k]?:=by
 have hn:n=xs.length:=by
  rcases h.2 with ⟨hv,_⟩|⟨_,_,_,hv,_⟩
  ·
   cases hv
  ·
   cases hv;rfl
 subst hn;exact World.ownsRow.cellAt h k (by omega)
theorem OwnC.frozen {g cap n:Nat} (h:OwnC T w base (.slice (some ⟨g,0,none⟩) n cap) xs) (k:Nat):w.frozen? ⟨g,k,none⟩=false:=by
 rcases h.2 with ⟨hv,_⟩|⟨_,_,_,hv,_⟩
 ·
  cases hv
 ·
  cases hv;exact World.ownsRow.frozenAt h k
theorem OwnC.stored {g cap n:Nat} (h:OwnC T w base (.slice (some ⟨g,0,none⟩) n cap) xs) (k:Nat) (y:Value):OwnC T (w.setCell ⟨g,k,none⟩ y) base (.slice (some ⟨g,0,none⟩) n cap) (xs.set k y):=by
 rcases h.2 with ⟨hv,_⟩|⟨_,_,_,hv,_⟩
 ·
  cases hv
 ·
  cases hv;have:=(World.ownsRow.stored h k y).1;unfold OwnC;rw[List.length_set];exact this
theorem OwnC.typed (h:OwnC T w base v xs):∀ k,v.ownBlock=some k->∃ cur,w.heap[k]?=some (.cells cur T (0,0)):=by
 intro k hk;rcases h.2 with ⟨rfl,_⟩|⟨g,cap,cur,rfl,_,hg,_⟩
 ·
  cases hk
 ·
  cases hk;exact⟨cur,hg⟩
theorem Zfr (T:TypeId) (w:World) (base:Nat) (hb:base<=w.heap.size):OwnC T (w.alloc (.cells #[] T)) base (.slice (some ⟨w.heap.size,0,none⟩) 0 0) [] :=
 World.ownsRow_made w #[] 0 hb (by unfold maxLen;omega) (by simp)
theorem Zqu (T:TypeId) (w:World) (base:Nat):OwnC T w base (.slice none 0 0) []:=World.ownsRow_nil w base T 1
theorem Zcx (E:Zrc T ST z b) (wr:World) {ops:Array Oper} {rest:List Oper} {o:Oper} {a:Act} {Q:Exit->Act->World->Prop} {W:World} (hgd:o.guard=none) (s x:Operand)
 (ho:o.op=.call { callee:=.builtin .append,args:=#[s,x],argTypes:=#[ST,ST] })
 (base:Nat) (v:Value) (xs:List Value) (y:Value) (hs:a.eval s=v) {N:Nat} (hx:a.eval x=.slice (some ⟨N,0,none⟩) 1 1)
 (hW:W=wr.alloc (.cells #[y] T)) (hN:N=wr.heap.size) (hy:y.oneCell'=true)
 (hown:OwnC T wr base v xs) (hlen:xs.length<1099511627776) (hbase:base<=wr.heap.size)
 (h:∀ v' w',OwnC T w' base v' (xs++[y])->w'.os=wr.os->w'.tape=wr.tape->w'.output=wr.output->wr.heap.size<=w'.heap.size->Zdv v v' wr w'->wpList Tryz.prog ops Q rest (a.put o.dst v') w') :
 wpList Tryz.prog ops Q (o::rest) a W:=by
 obtain⟨i,hi,hz,hsz,hby⟩:=info_parts E.info;subst hN;subst hW
 have hsm:=E.small;refine wpList_append_own_at (w:=wr.alloc (.cells #[y] T)) hgd s x ST ho base T i z 1 b E.under hi hz hsz hby (by rw[E.one];rfl) (by decide)
  v xs.length xs hs (hown.alloc _) ⟨wr.heap.size,0,none⟩ 1 1 [y] hx rfl (cell_one_new _ _ _) (by intro u hu;simp at hu;subst hu;exact hy) (by unfold maxLen;omega) (by
   have h1:(xs.length+1)*b<=1099511627776*100:=Nat.mul_le_mul (by omega) hsm;omega) (by simp;omega) ?_
 intro v' w' h1 h2 _ hloc;refine h v' w' ?_ h2.os h2.tape h2.output ?_ ⟨Zd5 h2,hloc.imp id fun e=>⟨_,e,by simp⟩⟩
 ·
  unfold OwnC;rw[List.length_append];exact h1
 ·
  have:=h2.size;simp at this;omega
theorem Zhq {w0 wr w':World} {v':Value} (hb:Below base w0 wr) (hown:OwnC T wr base v xs) (h1:w'.os=wr.os) (h2:w'.tape=wr.tape) (h3:w'.output=wr.output) (h4:wr.heap.size<=w'.heap.size) (hk:Zdv v v' wr w') (hbase:base<=wr.heap.size):Below base w0 w' :=
 ⟨h1.trans hb.os,h2.trans hb.tape,h3.trans hb.output,Nat.le_trans hb.size h4,fun k hkb=>(hk.keep k (by omega) (fun e=>by have:=(hown.lt k e.symm).1;omega)).trans (hb.block k hkb)⟩
theorem Zpb (E:Zrc T ST z b) {ops:Array Oper} {rest:List Oper} {o:Oper} {a:Act} {Q:Exit->Act->World->Prop} {wr:World} (hgd:o.guard=none) (l c:Operand)
 (ho:o.op=.makeSlice ST l c) (base:Nat) (w0:World) (L:Int) (n:Nat) (hl:a.eval l=.int .i64 L) (hc:a.eval c=.int .i64 L) (hL:L=n) (hn:n<1099511627776)
 (hbase:base<=wr.heap.size) (hb:Below base w0 wr)
 (h:∀ g w',OwnC T w' base (.slice (some ⟨g,0,none⟩) n n) (List.replicate n z)->Below base w0 w'->base<=w'.heap.size->Ze1 none wr w'->base<=g->g=wr.heap.size ->
  wpList Tryz.prog ops Q rest (a.put o.dst (.slice (some ⟨g,0,none⟩) n n)) w') :
 wpList Tryz.prog ops Q (o::rest) a wr:=by
 obtain⟨i,hi,hz,hsz,hby⟩:=info_parts E.info;have hsm:=E.small
 refine wpList_make_full wr hgd l c ST ho base T i z 1 E.under hi hz hsz .i64 .i64 L L n hl hc hL hL (by
  have h1:i.bytes*n<=100*1099511627776:=Nat.mul_le_mul (by omega) (by omega);omega) (by unfold maxLen;omega) hbase ?_
 intro w' h1 h2;refine h wr.heap.size w' ?_ (hb.grown h2 hbase (by simp)) (by have:=h2.size;omega) (Zc3 h2) hbase rfl;unfold OwnC;have e1:List.replicate n z=(madeCells z.cells (n*1)).toList:=by
  rw[E.one];simp[madeCells];apply List.ext_getElem
  ·
   simp
  ·
   intro j h3 h4;simp[Nat.mod_one]
 rw[List.length_replicate,e1];exact h1
end
def Zbz (bs:List Bool):List Value:=bs.map Value.bool
theorem Zea (bs:List Bool):(Zbz bs).length=bs.length:=by simp[Zbz]
theorem getElem?_boolsV {bs:List Bool} {k:Nat} (h:k<bs.length):(Zbz bs)[k]?=some (.bool (bs.getD k false)):=by
 simp[Zbz,List.getD,h]
abbrev OwnB (w:World) (base:Nat) (v:Value) (bs:List Bool):Prop:=OwnC 4 w base v (Zbz bs)
def Ze0 (w:World) (v:Value) (bs:List Bool):Prop:=∃ a c,v=.slice a bs.length c/\Zfz w a bs/\(a=none->c=0)
theorem Ze0.same {w w':World} {v:Value} {bs:List Bool} (h:Ze0 w v bs) (hk:∀ k,v.ownBlock=some k->w'.heap[k]?=w.heap[k]?):Ze0 w' v bs:=by
 obtain⟨a,c,rfl,h1,h2⟩:=h;refine⟨a,c,rfl,⟨h1.len,fun k hlt=>?_⟩,h2⟩;obtain⟨g,off,rfl,hc⟩:=h1.cells k hlt;exact⟨g,off,rfl,(World.cell?_of_block (w:=w) (a:=⟨g,off+k,none⟩) (hk g rfl)).trans hc⟩
theorem OwnC.boolsIs {w:World} {base:Nat} {v:Value} {bs:List Bool} (h:OwnB w base v bs) (hl:bs.length<=1000000):Ze0 w v bs:=by
 obtain⟨a,c,hv,hn⟩:=h.slice;have hv0:=hv;rw[Zea] at hv0;refine⟨a,c,hv0,⟨hl,fun k hk=>?_⟩,hn⟩;obtain⟨g,cap,hv2,hb,hg⟩:=h.shape (by rw[Zea];omega);have ea:a=some ⟨g,0,none⟩:=by rw[hv] at hv2;injection hv2
 subst ea;refine⟨g,0,rfl,?_⟩;subst hv;rw[Nat.zero_add,h.cell k (by rw[Zea];exact hk),getElem?_boolsV hk]
theorem OwnC.setB {w:World} {base g cap n:Nat} {bs:List Bool} (h:OwnB w base (.slice (some ⟨g,0,none⟩) n cap) bs) (k:Nat) (y:Bool):OwnB (w.setCell ⟨g,k,none⟩ (.bool y)) base (.slice (some ⟨g,0,none⟩) n cap) (bs.set k y):=by
 have:=h.stored k (.bool y);unfold OwnB;rw[show Zbz (bs.set k y)=(Zbz bs).set k (.bool y) by simp[Zbz,List.map_set]];exact this
theorem OwnC.cellB {w:World} {base g cap n:Nat} {bs:List Bool} (h:OwnB w base (.slice (some ⟨g,0,none⟩) n cap) bs) (k:Nat) (hk:k<bs.length):w.cell? ⟨g,k,none⟩=some (.bool (bs.getD k false)):=by
 rw[h.cell k (by rw[Zea];exact hk),getElem?_boolsV hk]
open Go.RowKit
def bitB (i v:Nat):Bool:=decide (i/2^v%2=1)
def Zdz (i n:Nat):List Bool:=(List.range n).map (bitB i)
def tabB (n:Nat) (F:BF):List Bool:=(List.range (2^n)).map fun i=>F (Zc7 (Zdz i n))
theorem Zew (i n:Nat):(Zdz i n).length=n:=by simp[Zdz]
theorem Zeo (n:Nat) (F:BF):(tabB n F).length=2^n:=by simp[tabB]
theorem Zq6 {n:Nat} {F:BF} {i:Nat} (hi:i<2^n):(tabB n F).getD i false=F (Zc7 (Zdz i n)):=by simp[tabB,List.getD,hi]
theorem Zzw {bs:List Bool} {n:Nat} {F:BF} (hl:bs.length=2^n) (h:∀ i,i<2^n->bs.getD i false=F (Zc7 (Zdz i n))):bs=tabB n F:=by
 refine List.ext_getElem (by rw[hl,Zeo]) fun i h1 h2=>?_
 have:=h i (by omega);have e:(tabB n F).getD i false=F (Zc7 (Zdz i n)):=Zq6 (by omega);rw[<- this] at e;simpa [List.getD,h1,h2] using e.symm
theorem Zh9 {k:Nat} (h:k<=20):2^k<=1048576:=Nat.pow_le_pow_right (by omega) h
theorem Zyr (v:Nat) (hv:v<=20) (w:World):Calls Tryz.prog 166 #[.int .i64 v] w fun x w'=>x=.returned (.int .i64 (2^v:Nat))/\w=w':=by
 have HS:Hid (∀ k,k<=v->2^k<=1048576):=Hd fun k hk=>Zh9 (by omega)
 go_enter Tryz.func166,Tryz.ntmps166
 go_wp2_with fail
 go_loopw [3,4] (fun s3 s4 wr=>∃ k p:Nat,k<=v/\s3=.int .i64 p/\s4=.int .i64 k/\w=wr/\Hid (2^k=p)) (fun _ s4 _=>v-(intOf s4).toNat)
 case atStart=>exact⟨0,1,Nat.zero_le _,rfl,rfl,rfl,Hd rfl⟩
 case round =>
  obtain⟨k,p,hk,rfl,rfl,rfl,HP⟩:=hrel
  by_cases hlt:k<v
  ·
   have hp:p<=1048576:=by rw[<- HP.out];exact HS.out k hk
   go_wp2_with fail;go_roundw
   case rel=>exact⟨k+1,2*p,by omega,by go_num,by go_num,by simp,Hd (by rw[Nat.pow_succ,HP.out];omega)⟩
   case measure=>simp[intOf];omega
  ·
   have he:k=v:=by omega
   have HE:Hid (2^v=p):=by rw[<- he];exact HP
   clear he;go_wp2_with fail;go_ret;exact⟨by rw[HE.out];rfl,rfl⟩
theorem Zm1 {α:Type} (a b:α) (k n:Nat) (h:k<n):(List.replicate k a++List.replicate (n-k) b).set k a=List.replicate (k+1) a++List.replicate (n-(k+1)) b:=by
 have e:n-k=(n-(k+1))+1:=by omega
 rw[e,List.replicate_succ,List.set_append_right _ _ (by simp),List.length_replicate,Nat.sub_self,List.set_cons_zero,List.replicate_succ',List.append_assoc];rfl
theorem Zot (b:Bool) (n:Nat) (hn:n<=16) (w:World):Calls Tryz.prog 72 #[.bool b,.int .i64 n] w fun x w'=>∃ g,x=.returned (.slice (some ⟨g,0,none⟩) (2^n) (2^n))/\OwnB w' w.heap.size (.slice (some ⟨g,0,none⟩) (2^n) (2^n)) (List.replicate (2^n) b)/\Below w.heap.size w w':=by
 have HS:Hid (∀ k,k<=n->2^k<=1048576):=Hd fun k hk=>Zh9 (by omega)
 obtain⟨L,hL⟩:∃ L,L=2^n:=⟨_,rfl⟩;have HL:=Hd hL;have hLs:L<=1048576:=by rw[hL];exact Zh9 (by omega)
 rw[<- hL];clear hL
 go_enter Tryz.func72,Tryz.ntmps72
 go_wp2_with fail
 go_loopw [5,6] (fun s5 s6 wr=>∃ k p:Nat,k<=n/\s5=.int .i64 p/\s6=.int .i64 k/\w=wr/\Hid (2^k=p)) (fun _ s6 _=>n-(intOf s6).toNat)
 case atStart=>exact⟨0,1,Nat.zero_le _,rfl,rfl,rfl,Hd rfl⟩
 case round =>
  obtain⟨k,p,hk,rfl,rfl,rfl,HP⟩:=hrel
  by_cases hlt:k<n
  ·
   have hp:p<=1048576:=by rw[<- HP.out];exact HS.out k hk
   go_wp2_with fail;go_roundw
   case rel=>exact⟨k+1,2*p,by omega,by go_num,by go_num,by simp,Hd (by rw[Nat.pow_succ,HP.out];omega)⟩
   case measure=>simp[intOf];omega
  ·
   have he:k=n:=by omega
   have hp:p=L:=by rw[<- HP.out,he,HL.out]
   subst hp;clear he;go_wp2_with (at_make;refine Zpb Zhu rfl _ _ rfl w.heap.size w _ p rfl rfl rfl (by omega) (Nat.le_refl _) (Below.refl _ _) ?_;intro g w1 hown1 hb1 hs1 hk1 hg1 hgx;clear hgx)
   go_loopw [8] (fun i wr=>∃ j:Nat,j<=p/\i=.int .i64 j/\OwnB wr w.heap.size (.slice (some ⟨g,0,none⟩) p p) (List.replicate j b++List.replicate (p-j) false)/\Below w.heap.size w wr) (fun i _=>p-(intOf i).toNat)
   case atStart=>exact⟨0,by omega,rfl,by unfold OwnB;rw[show Zbz (List.replicate 0 b++List.replicate (p-0) false)=List.replicate p (Value.bool false) by simp[Zbz]];exact hown1,hb1⟩
   case round =>
    obtain⟨j,hj,rfl,hown,hbel⟩:=hrel
    by_cases hlt:j<p
    ·
     have q0:=hown.cellB j (by simp;omega);have p0:=hown.frozen j;go_wp2_with fail;go_roundw
     case rel=>exact⟨j+1,by omega,by go_num,by rw[<- Zm1 b false j p hlt];exact hown.setB j b,hbel.setCell hg1 _⟩
     case measure=>simp[intOf];omega
    ·
     obtain rfl:j=p:=by omega
     go_wp2_with fail;go_ret;exact⟨_,rfl,by simpa using hown,hbel⟩
theorem Zr1 (n:Nat) (hn:n<=64) (w:World):Calls Tryz.prog 165 #[.int .i64 n,.int .i64 0,.int .i64 64] w fun x w'=>x=.returned (.int .i64 n)/\w=w':=by
 go_enter Tryz.func165,Tryz.ntmps165
 go_wp2_with fail;go_ret;exact⟨rfl,rfl⟩
theorem Zlf (i n:Nat):Zdz i (n+1)=Zdz i n++[bitB i n]:=by simp[Zdz,List.range_succ]
theorem Zve (i n:Nat) (hi:i<=1048576) (hn:n<=16) (w:World):Calls Tryz.prog 97 #[.int .u64 i,.int .i64 n] w fun x w'=>∃ v,x=.returned v/\OwnB w' w.heap.size v (Zdz i n)/\Below w.heap.size w w':=by
 have HH:Hid (∀ W,Calls Tryz.prog 165 #[.int .i64 (n:Nat),.int .i64 0,.int .i64 64] W fun x w'=>x=.returned (.int .i64 (n:Nat))/\W=w'):=Hd fun W=>Zr1 n (by omega) W
 go_enter Tryz.func97,Tryz.ntmps97
 go_wp2_with fail
 go_loopw [0,5,6] (fun s0 s5 s6 wr=>∃ j q:Nat,j<=n/\q<=1048576/\s6=.int .i64 j/\s0=.int .u64 q/\Hid (i/2^j=q)/\OwnB wr w.heap.size s5 (Zdz i j)/\w.heap.size<=wr.heap.size/\Below w.heap.size w wr) (fun _ _ s6 _=>n-(intOf s6).toNat)
 case atStart=>exact⟨0,i,Nat.zero_le _,hi,rfl,rfl,Hd (by simp),Zfr _ w _ (Nat.le_refl _),by simp,Zad w _⟩
 case round =>
  obtain⟨j,q,hj,hq,rfl,rfl,HQ,hown,hsz,hbel⟩:=hrel
  by_cases hlt:j<n
  ·
   have HB:Hid (((q:Int).tmod 2 == 1)=bitB i j):=by
    refine Hd ?_
    show ((q:Int).tmod 2 == 1)=bitB i j
    unfold bitB;rw[HQ.out];have e1:Int.tmod (q:Int) 2=((q%2:Nat):Int):=by rw[Int.tmod_eq_emod_of_nonneg (by omega)];rfl
    rw[e1]
    by_cases h:q%2=1
    ·
     rw[h];rfl
    ·
     have:((q%2:Nat):Int)≠1:=by omega
     rw[beq_eq_false_iff_ne.2 this,decide_eq_false h]
   have HOWN:=Hd hown;have HBEL:=Hd hbel;clear hown hbel;go_wp2_with fail;refine(HH.out _).mono ?_;rintro x w2 ⟨rfl,rfl⟩;go_wp2_with (at_builtin;refine Zcx Zhu _ rfl _ _ rfl w.heap.size _ (Zbz (Zdz i j)) _ rfl rfl rfl rfl rfl (by exact HOWN.out) (by simp[Zbz,Zew];omega) hsz ?_;intro v1 w1 hown1 e1 e2 e3 e4 hk1);go_roundw
   case rel =>
    refine⟨j+1,q/2,by omega,by omega,by go_num,rfl,Hd ?_,?_,by omega,Zhq HBEL.out HOWN.out e1 e2 e3 e4 hk1 hsz⟩
    ·
     rw[Nat.pow_succ,<- Nat.div_div_eq_div_mul,HQ.out]
    ·
     rw[Zlf];have e5:Zbz (Zdz i j++[bitB i j])=Zbz (Zdz i j)++[.bool (bitB i j)]:=by simp[Zbz]
     unfold OwnB;rw[e5,<- HB.out];exact hown1
   case measure=>simp[intOf];omega
  ·
   have he:j=n:=by omega
   subst he;have HOWN:=Hd hown;have HBEL:=Hd hbel;clear hown hbel;go_wp2_with fail;refine(HH.out _).mono ?_;rintro x w2 ⟨rfl,rfl⟩;go_wp2_with fail;go_ret;exact⟨_,rfl,HOWN.out,HBEL.out⟩
open Go.RowKit
end Go.Proofs.YtmofaapnkidioaaGreat

namespace Go.Proofs.YtmofaapnkidioaaGreat
open Go.RowKit
theorem Zr6 {o:Own} {w:World} {r:Role} {a:Option Addr} {cap:Nat} {xs:List Nat} (h:RowR o w r 3 1 (.slice a xs.length cap) xs.length (xs.map nat64)) (hl:xs.length<=1000000):Za4 w a (xs.map Int.ofNat):=by
 refine⟨by simp;omega,fun k hk=>?_⟩;simp only[List.length_map] at hk;obtain⟨g,cap',he,_⟩:=h.shape (by omega);cases he;refine⟨g,0,rfl,?_⟩;have h1:=h.cell k (by simpa using hk);rw[Nat.zero_add,h1,Zcb (by simpa using hk)];simp[nat64,hk]
theorem Zg6 {o:Own} {w:World} {sb:Nat} {d:Zag} (h:Zax o w sb d) (hlt:Zak o w) (hl:d.vars.length<=64) :
 Calls Tryz.prog 111 #[.pointer (some ⟨sb,0,none⟩)] w fun x w'=>∃ v,x=.returned v/\OwnI w' w.heap.size v (d.vars.map Int.ofNat)/\Below w.heap.size w w':=by
 obtain⟨s,h⟩:=h;obtain⟨c0,c1,c2,c3,c4,f0⟩:=cells5 h.blk;obtain⟨d0,d1,_⟩:=cells2 h.lev;have lsb:sb<w.heap.size:=Zaa c0;have llb:s.lb<w.heap.size:=Zaa d0;obtain⟨a,cap,hv,_,_,hnil,_⟩:=h.vars.slice;have hrow:=h.vars;rw[hv] at d0 hrow;have HI:=Hd (Zr6 hrow (by omega));have HN:=Hd hnil;have e:d.vars.length=(d.vars.map Int.ofNat).length:=by simp
 rw[e] at d0;have hl':(d.vars.map Int.ofNat).length<=64:=by rw[<- e];exact hl
 generalize d.vars.map Int.ofNat=zs at *
 clear h hv hrow e hnil hl
 go_enter Tryz.func111,Tryz.ntmps111
 go_wp2_with (at_builtin;refine Zfv rfl _ _ rfl w.heap.size w _ [] zs _ _ rfl rfl (Zjp w w.heap.size (Nat.le_refl _)) (HI.out.below (Zad _ _)) (by simp;omega) (by simp) (Zad _ _) HN.out ?_;intro v1 w1 hown1 hbel1 hsz1 hkb1);go_ret;exact⟨_,rfl,by simpa using hown1,hbel1⟩
theorem Zog {F:Phi} {o:Own} {w:World} {mb:Nat} {m:ManD} (h:Zc6 F o w mb m) (hlt:Zak o w) (hl:m.d.vars.length<=64) :
 Calls Tryz.prog 45 #[.pointer (some ⟨mb,0,none⟩)] w fun x w'=>∃ v,x=.returned v/\OwnI w' w.heap.size v (m.d.vars.map Int.ofNat)/\Below w.heap.size w w':=by
 obtain⟨s,h⟩:=h;obtain⟨c0,c1,c2,c3,c4,c5,f0⟩:=cells6 h.blk;have HP:=Hd (Zg6 h.store hlt hl);clear h hlt hl
 go_enter Tryz.func45,Tryz.ntmps45
 go_wp2_with fail;refine HP.out.mono ?_;rintro x w' ⟨v,rfl,h1,h2⟩;have H1:=Hd h1;have H2:=Hd h2;clear h1 h2;go_wp2_with fail;go_ret;exact⟨v,rfl,H1.out,H2.out⟩
open Go.RowKit
section
variable {n room:Nat} {w0 w:World} {mb:Nat} {fs:List (Int×BF)} {many:Nat}
end
end Go.Proofs.YtmofaapnkidioaaGreat

namespace Go.Proofs.YtmofaapnkidioaaGreat
open Go.RowKit Go.Shelf
attribute [local go_sem] Oper.semAt_some
def Zd8 (p:Zam) (k:Nat):List Nat:=(List.range k).filter p.tk
def Zdt (p:Zam):List Nat:=Zd8 p p.at_.length
theorem Zix {p:Zam} {k:Nat} (h:p.tk k=true):Zd8 p (k+1)=Zd8 p k++[k]:=by
 unfold Zd8;rw[List.range_succ,List.filter_append];simp[h]
theorem Zo7 {p:Zam} {k:Nat} (h:p.tk k=false):Zd8 p (k+1)=Zd8 p k:=by
 unfold Zd8;rw[List.range_succ,List.filter_append];simp[h]
theorem Zst (p:Zam) {k m:Nat}:k<=m->∃ suf,Zd8 p k++suf=Zd8 p m:=by
 induction m with
 | zero => intro h; obtain rfl : k = 0 := by omega
           exact⟨[],by simp⟩
 | succ m ih =>
   intro h
   by_cases e:k=m+1
   ·
    subst e;exact⟨[],by simp⟩
   ·
    obtain⟨suf,hs⟩:=ih (by omega);cases h2:p.tk m with
    | false=>exact⟨suf,by rw[Zo7 h2];exact hs⟩
    | true=>exact⟨suf++[m],by rw[Zix h2,<- hs,List.append_assoc]⟩
theorem Zsu {p:Zam} {k:Nat} (h:p.tk k=true) (hk:k<p.at_.length):∃ suf,Zd8 p k++k::suf=Zdt p:=by
 obtain⟨suf,hs⟩:=Zst p (k:=k+1) (m:=p.at_.length) (by omega);rw[Zix h,List.append_assoc] at hs;exact⟨suf,hs⟩
theorem Zlp {p:Zam} {pre suf:List Nat} {x:Nat} (h:pre++x::suf=Zdt p):p.tk x=true:=by
 have:x∈Zdt p:=by rw[<- h];simp
 exact(List.mem_filter.1 this).2
structure ItS (n₀:Nat) (o:Own) (w0:World) (pb:Nat) (p:Zam) (Bp:Nat) (M0 M:Nat->Prop) (W0 W:World):Prop where
 low:Below n₀ w0 W
 box:W.cell? ⟨Bp,0,none⟩=some (.pointer (some ⟨pb,0,none⟩))
 wr:Wr (fun k=>n₀<=k) W0 W
 sub:∀ k,M k->M0 k\/W0.heap.size<=k
 nb:¬ M Bp
theorem ItS.go {n₀:Nat} {o:Own} {w0:World} {pb:Nat} {p:Zam} {Bp:Nat} {M0 M M':Nat->Prop} {W0 W W':World} (h:ItS n₀ o w0 pb p Bp M0 M W0 W) (hn:n₀<=W0.heap.size) (hge:∀ k,M k->n₀<=k) (hw:Wr M W W')
 (hM:∀ k,M' k->M k\/W.heap.size<=k):ItS n₀ o w0 pb p Bp M0 M' W0 W':=by
 have hs:=h.wr.size;have hb:=Zaa h.box;refine⟨h.low.trans (hw.below hge (by omega)),?_,h.wr.trans hw (fun _ _ h=>h) (fun k _ hk=>hge k hk),fun k hk=>?_,fun e=>?_⟩
 ·
  exact(World.cell?_of_block (w:=W) (a:=⟨Bp,0,none⟩) (hw.keep Bp hb h.nb)).trans h.box
 ·
  rcases hM k hk with h1|h1
  ·
   exact h.sub k h1
  ·
   right;omega
 ·
  rcases hM Bp e with h1|h1
  ·
   exact h.nb h1
  ·
   have hb':Bp<W.heap.size:=hb;omega
theorem Zr3 (F:Fence) (n:Nat) (hF:F.fn 244) (hro:F.round=none) (hn:1<=n) (Bp n₀ pb:Nat) {o:Own} {w0:World} {p:Zam} (hp:Zau o w0 pb p) (hlt:Zak o w0) (h0:w0.heap.size<=n₀) (w:World)
 (hw:Below n₀ w0 w) (hn0:n₀<=w.heap.size) (hBp:w.cell? ⟨Bp,0,none⟩=some (.pointer (some ⟨pb,0,none⟩))) :
 Gives F n 0 Tryz.prog 244 #[.pointer (some ⟨Bp,0,none⟩)] (fun i:Nat=>#[.int .i64 i]) n₀ (· = Bp) (Zdt p) w:=by
 intro l J M W hOw hMi hWr hBM hY hJ;have hb0:=Zaa hBp;have hS0:ItS n₀ o w0 pb p Bp M M W W:=⟨hw.trans (hWr.below (fun k h=>h.1) hn0),(World.cell?_of_block (w:=w) (a:=⟨Bp,0,none⟩) (hWr.keep Bp hb0 (fun h=>h.2 rfl))).trans hBp,Wr.refl _ _,fun k h=>.inl h,hBM Bp rfl⟩;have hnW:n₀<=W.heap.size:=Nat.le_trans hn0 hWr.size;have HP:∀ W',Below n₀ w0 W'->Zau o W' pb p:=fun W' hb=>hp.below (hb.mono h0) hlt
 obtain⟨vs,vt,vf,c0,c1,c2,c3,c4,hs,ht,_⟩:=(HP W hS0.low).cells;have hbx:=hS0.box;have hpos:=hp.pos;obtain⟨gs,cs,rfl,_⟩:=hs.shape hpos;have hlen:=hp.len;have htop:=hp.top;have hroom:=hp.room;have HPH:=Hd HP;have HYH:=Hd hY;have HSH:=Hd hS0;have HOW:=Hd hOw;clear HP hY hs ht hp hlt h0 hS0 hOw hMi hWr hBM hw hn0 hBp hb0;refine callsIn_of_wp Tryz.func244 rfl hF ?_ hro;simp only[Tryz.ntmps244,List.size_toArray,List.length_cons,List.length_nil,Nat.reduceAdd,Nat.reduceSub,Array.replicate_succ,Array.replicate_zero,List.push_toArray,List.append_toArray,List.nil_append,List.cons_append]
 gi_wp2
 gi_loopw [11] (fun i wr=>∃ (k:Nat) (M1:Nat->Prop),k<=p.at_.length/\i=.int .i64 k/\J (Zd8 p k) M1 wr/\ItS n₀ o w0 pb p Bp M M1 W wr) (fun i _=>p.at_.length-(intOf i).toNat)
 case atStart=>exact⟨0,M,Nat.zero_le _,rfl,hJ,HSH.out⟩
 case round =>
  obtain⟨k,M1,hk,rfl,hJs,hS⟩:=hrel
  by_cases hlt:k<p.at_.length
  ·
   obtain⟨vs,vt,vf,d0,d1,d2,d3,d4,hs,ht,_⟩:=(HPH.out wr hS.low).cells;have hbx:=hS.box;obtain⟨gt,ct,rfl,_⟩:=ht.shape (by rw[hlen];exact hpos);have hcf:=Zau.flag ht (k:=k) (by omega);rw[hlen] at d2;have hlt':(k:Int)<p.at_.length:=by omega
   have HS:=Hd hS;cases hB:p.tk k with
   | false =>
     rw[hB] at hcf;have HJS:Hid (J (Zd8 p (k+1)) M1 wr):=by show J _ _ _;rw[Zo7 hB];exact hJs
     clear hB hs ht hS hJs hJ
     gi_wp2
     refine⟨fun _ h=>(by cases h),?_⟩
     gi_wp2
     go_roundw
     case rel=>exact⟨k+1,M1,by omega,by simp,HJS.out,HS.out⟩
     case measure=>simp[intOf];omega
   | true =>
     rw[hB] at hcf;have HGE:=Hd (fun q (hq:M1 q)=>(HOW.out _ _ _ hJs q hq).1);obtain⟨fn,tmps,assign,body,hy,hR⟩:=HYH.out _ k M1 wr hJs (Zsu hB hlt);have HU:=Hd (Zix hB);have HR:=Hd hR;clear hs ht hS hJs hR hB hJ
     gi_wp2
     refine HR.out.mono ?_;rintro e W3 ⟨rfl,M3,hJ3,hw3,hM3⟩;have HJ3:=Hd hJ3;have HK3:=Hd (HS.out.go hnW HGE.out hw3 hM3);clear hJ3 hw3 hM3
     gi_wp2
     go_roundw
     case rel=>exact⟨k+1,M3,by omega,by simp,by rw[HU.out];exact HJ3.out,HK3.out⟩
     case measure=>simp[intOf];omega
  ·
   obtain rfl:k=p.at_.length:=by omega
   have HJS:=Hd hJs;have HS:=Hd hS;clear hJs hS hJ
   gi_wp2
   go_end0;exact⟨⟨_,rfl⟩,M1,HJS.out,HS.out.wr,HS.out.sub⟩
theorem Yae (F:Fence) (n:Nat) (hF:F.fn 237) (hro:F.round=none) (pb:Nat) (w:World) :
 CallsIn F n Tryz.prog 237 #[.pointer (some ⟨pb,0,none⟩)] w fun e w'=>e=.returned (.func (.func 244) #[] #[.pointer (some ⟨w.heap.size,0,none⟩)])/\w'=w.alloc (.cells #[.pointer (some ⟨pb,0,none⟩)] 185):=by
 refine callsIn_of_wp Tryz.func237 rfl hF ?_ hro;simp only[Tryz.ntmps237,List.size_toArray,List.length_cons,List.length_nil,Nat.reduceAdd,Nat.reduceSub,Array.replicate_succ,Array.replicate_zero,List.push_toArray,List.append_toArray,List.nil_append,List.cons_append]
 gi_wp2
 go_ret;exact⟨rfl,rfl⟩
theorem Zy1 (F:Fence) (n:Nat) (hF:F.fn 226) (hro:F.round=none) (pb:Nat) (w:World) :
 CallsIn F n Tryz.prog 226 #[.pointer (some ⟨pb,0,none⟩)] w fun e w'=>e=.returned (.func (.func 236) #[] #[.pointer (some ⟨w.heap.size,0,none⟩)])/\w'=w.alloc (.cells #[.pointer (some ⟨pb,0,none⟩)] 185):=by
 refine callsIn_of_wp Tryz.func226 rfl hF ?_ hro;simp only[Tryz.ntmps226,List.size_toArray,List.length_cons,List.length_nil,Nat.reduceAdd,Nat.reduceSub,Array.replicate_succ,Array.replicate_zero,List.push_toArray,List.append_toArray,List.nil_append,List.cons_append]
 gi_wp2
 go_ret;exact⟨rfl,rfl⟩
end Go.Proofs.YtmofaapnkidioaaGreat

namespace Go.Proofs.YtmofaapnkidioaaGreat
open Go.RowKit Go.Shelf
attribute [local go_sem] Oper.semAt_some
structure EaS (n₀:Nat) (o:Own) (w0:World) (pb:Nat) (p:Zam) (Bp By l:Nat) (M0 M:Nat->Prop) (W0 W:World):Prop where
 it:ItS n₀ o w0 pb p Bp M0 M W0 W
 boxy:W.cell? ⟨By,0,none⟩=some (.func (.yield l) #[] #[])
 ny:¬ M By
 ge:∀ k,M k->n₀<=k
theorem Zl4 {M:Nat->Prop} {W W':World} {b k:Nat} {v:Value} (h:Wr M W W') (hc:W.cell? ⟨b,k,none⟩=some v) (hn:¬ M b):W'.cell? ⟨b,k,none⟩=some v :=
 (World.cell?_of_block (w:=W) (a:=⟨b,k,none⟩) (h.keep b (Zaa hc) hn)).trans hc
theorem EaS.go {n₀:Nat} {o:Own} {w0:World} {pb:Nat} {p:Zam} {Bp By l:Nat} {M0 M M':Nat->Prop} {W0 W W':World} (h:EaS n₀ o w0 pb p Bp By l M0 M W0 W) (hn:n₀<=W0.heap.size) (hw:Wr M W W')
 (hM:∀ k,M' k->M k\/W.heap.size<=k):EaS n₀ o w0 pb p Bp By l M0 M' W0 W':=by
 have hs:=h.it.wr.size;have hb:By<W.heap.size:=Zaa h.boxy;refine⟨h.it.go hn h.ge hw hM,Zl4 hw h.boxy h.ny,fun e=>?_,fun k hk=>?_⟩
 ·
  rcases hM By e with h1|h1
  ·
   exact h.ny h1
  ·
   omega
 ·
  rcases hM k hk with h1|h1
  ·
   exact h.ge k h1
  ·
   omega
theorem Zpo (F:Fence) (n:Nat) (hF1:F.fn 236) (hF2:F.fn 237) (hF3:F.fn 244) (hro:F.round=none) (hn:4<=n) (Bp n₀ pb:Nat) {o:Own} {w0:World} {p:Zam} (hp:Zau o w0 pb p) (hlt:Zak o w0) (h0:w0.heap.size<=n₀) (w:World)
 (hw:Below n₀ w0 w) (hn0:n₀<=w.heap.size) (hBn:n₀<=Bp) (hBp:w.cell? ⟨Bp,0,none⟩=some (.pointer (some ⟨pb,0,none⟩))) :
 Gives F n 2 Tryz.prog 236 #[.pointer (some ⟨Bp,0,none⟩)] (fun i:Nat=>#[Za3 (p.nd i)]) n₀ (· = Bp) (Zdt p) w:=by
 intro l J M W hOw hMi hWr hBM hY hJ;have hb0:Bp<w.heap.size:=Zaa hBp;have hBW:Bp<W.heap.size:=Nat.lt_of_lt_of_le hb0 hWr.size;have hnW:n₀<=W.heap.size:=Nat.le_trans hn0 hWr.size;have hbW:W.cell? ⟨Bp,0,none⟩=some (.pointer (some ⟨pb,0,none⟩)):=Zl4 hWr hBp (fun h=>h.2 rfl);have hlW:Below n₀ w0 W:=hw.trans (hWr.below (fun k h=>h.1) hn0);obtain⟨V,hV⟩:∃ V,V=(W.alloc (.cells #[.func (.yield l) #[] #[]] 268)).alloc (.cells #[.pointer (some ⟨pb,0,none⟩)] 185):=⟨_,rfl⟩;have hWV:∀ N,Wr N W V:=fun N=>by rw[hV];exact((Wr.refl N W).alloc _).alloc _
 have hJV:J [] M V:=hMi _ _ _ _ hJ (hWV _);have hMlt:=hOw _ _ _ hJ;have hyV:V.cell? ⟨W.heap.size,0,none⟩=some (.func (.yield l) #[] #[]):=by rw[hV];simp
 have hpV:V.cell? ⟨W.heap.size+1,0,none⟩=some (.pointer (some ⟨pb,0,none⟩)):=by rw[hV];simp
 have hBV:V.cell? ⟨Bp,0,none⟩=some (.pointer (some ⟨pb,0,none⟩)):=Zl4 (hWV (fun _=>False)) hbW (fun h=>h);have hlowV:Below n₀ w0 V:=hlW.trans ((hWV (fun k=>n₀<=k)).below (fun _ h=>h) hnW);have hVs:V.heap.size=W.heap.size+2:=by rw[hV];simp
 have hEa:EaS n₀ o w0 pb p Bp W.heap.size l M M V V:=⟨⟨hlowV,hBV,Wr.refl _ _,fun k h=>.inl h,hBM Bp rfl⟩,hyV,fun e=>by have:=(hMlt _ e).2;omega,fun k h=>(hMlt k h).1⟩;have HP:∀ W',Below n₀ w0 W'->Zau o W' pb p:=fun W' hb=>hp.below (hb.mono h0) hlt
 have HG:=Hd (Zr3 F (n-1) hF3 hro (by omega) (W.heap.size+1) n₀ pb hp hlt h0 V hlowV (by omega) hpV);have HPH:=Hd HP;have HYH:=Hd hY;have HEA:=Hd hEa;have HOW:=Hd hOw;have HMlt:=Hd hMlt;have HMI:=Hd hMi;have HJV:=Hd hJV;have HWV:=Hd hWV;have hlen:=hp.len;have hpos:=hp.pos;have htop:=hp.top;have hroom:=hp.room;have h1:1<=n:=by omega
 have hbA:(W.alloc (.cells #[.func (.yield l) #[] #[]] 268)).cell? ⟨Bp,0,none⟩=some (.pointer (some ⟨pb,0,none⟩)):=Zl4 ((Wr.refl (fun _=>False) W).alloc _) hbW (fun h=>h);refine callsIn_of_wp_marks Tryz.func236 rfl hF1 ?_ hro;simp only[Tryz.ntmps236,List.size_toArray,List.length_cons,List.length_nil,Nat.reduceAdd,Nat.reduceSub,Array.replicate_succ,Array.replicate_zero,List.push_toArray,List.append_toArray,List.nil_append,List.cons_append];clear hOw hMi hWr hBM hY hJ hJV hMlt hyV hpV hBV hlowV hEa HP hp hlt h0 hw hBp hlW hWV hVs
 gi_wp2_with (gi_at_call 237;refine(Yae F (n-1) hF2 hro _ _).mono ?_;rintro e w' ⟨rfl,rfl⟩)
 rw[<- hV];have hVs:V.heap.size=W.heap.size+2:=by rw[hV];simp
 clear hV;have hmx:Tryz.prog.follows .mixedOrders=true:=by kernel_rfl
 refine Zq9 hro h1 (gf:=244) (lb:=#[.pointer (some ⟨W.heap.size+1,0,none⟩)]) rfl hF3 (enters_of Tryz.func244 (by kernel_rfl) rfl) HG.out
  (by omega) (by rintro k rfl;omega) (fun x=>rfl)
  (fun pre N V'=>∃ M1,(∀ k,N k↔M1 k\/k=W.heap.size\/k=Bp)/\J pre M1 V'/\EaS n₀ o w0 pb p Bp W.heap.size l M M1 V V')
  ?_ ?_ (fun k=>M k\/k=W.heap.size\/k=Bp) ?_ ⟨M,fun k=>Iff.rfl,HJV.out,HEA.out⟩
  (fun x a' _ _=>a'={
   tmps :=
    #[Value.func (Fn.yield l) #[] #[],Value.pointer (some { block:=Bp,off:=0 }),
     Value.pointer (some { block:=W.heap.size,off:=0 }),Value.int IntKind.i64 ↑x,
     Value.pointer (some { block:=pb,off:=0 }),
     Value.func (Fn.func 244) #[] #[Value.pointer (some { block:=W.heap.size+1,off:=0 })],
     Value.int IntKind.i64 ↑x,undef,undef,undef,undef,undef,undef,undef,undef,undef,undef],
   defers:=[] }) ?_ ?_ ?_ ?_
 ·
  rintro pre N V' ⟨M1,hN,hj,hE⟩ k hk;rcases(hN k).1 hk with h|h|h
  ·
   exact HOW.out _ _ _ hj k h
  ·
   subst h;exact⟨hnW,Zaa hE.boxy⟩
  ·
   subst h;exact⟨hBn,Zaa hE.it.box⟩
 ·
  rintro pre N V' V'' ⟨M1,hN,hj,hE⟩ hw
  have hkeep:∀ k,k<V'.heap.size->(k<n₀\/N k)->V''.heap[k]?=V'.heap[k]?:=fun k hk hn=>hw.keep k hk (fun⟨a,b⟩=>by
   rcases hn with h|h
   ·
    omega
   ·
    exact b h)
  refine⟨M1,hN,HMI.out _ _ _ _ hj (hw.mono fun k ⟨a,b⟩=>⟨a,fun h=>b ((hN k).2 (.inl h))⟩),⟨⟨?_,?_,?_,hE.it.sub,hE.it.nb⟩,?_,hE.ny,hE.ge⟩⟩
  ·
   exact hE.it.low.trans (hw.below (fun k h=>h.1) (by have:=hE.it.wr.size;omega))
  ·
   exact(World.cell?_of_block (w:=V') (a:=⟨Bp,0,none⟩) (hkeep _ (Zaa hE.it.box) (.inr ((hN _).2 (.inr (.inr rfl)))))).trans hE.it.box
  ·
   exact hE.it.wr.trans hw (fun _ _ h=>h) (fun k _ h=>h.1)
  ·
   exact(World.cell?_of_block (w:=V') (a:=⟨W.heap.size,0,none⟩) (hkeep _ (Zaa hE.boxy) (.inr ((hN _).2 (.inr (.inl rfl)))))).trans hE.boxy
 ·
  rintro k rfl h;have hM1:W.heap.size+1<W.heap.size\/W.heap.size+1=W.heap.size\/W.heap.size+1=Bp:=by
   rcases h with h|h
   ·
    left;exact(HMlt.out _ h).2
   ·
    right;exact h
  omega
 ·
  intro x a' W' W1 W2 l' _ h _;exact h
 ·
  intro l' pre x N V' K hI hK
  gi_wp2
  exact hK _ _ (Wr.refl _ _) rfl
 ·
  rintro l' pre x a' N W0 W1 ⟨M1,hN,hj,hE⟩ rfl hs0 hs1 hsuf;obtain⟨suf,hsuf⟩:=hsuf;have hx:p.tk x=true:=Zlp hsuf;obtain⟨vs,vt,vf,d0,d1,d2,d3,d4,hs,ht,_⟩:=(HPH.out W1 hE.it.low).cells;have hbx:=hE.it.box;have hby:=hE.boxy;obtain⟨gs,cs,rfl,hsl⟩:=hs.shape hpos;have hxl:=((HPH.out W1 hE.it.low).tk_lt hx).2;have hcn:=Zau.node hs (k:=x) hxl;have hxi:(x:Int)<p.at_.length:=by omega
  obtain⟨fn,tmps,assign,body,hy,hR⟩:=HYH.out _ x M1 W1.drew (HMI.out _ _ _ _ hj ((Wr.refl _ W1).drew)) ⟨suf,hsuf⟩;simp only[Za3] at hy;have HR:=Hd hR;have HE:=Hd hE;have HN:=Hd hN;clear hs hE hj hR hN hsuf hsl
  gi_wp2
  gi_region_with_o (refine⟨fun _=>by omega,HR.out.mono ?_⟩;rintro e W3 ⟨rfl,M3,hJ3,hw3,hM3⟩)
  all_goals gi_wp2
  all_goals exact⟨fun k=>M3 k\/k=W.heap.size\/k=Bp,⟨M3,fun k=>Iff.rfl,hJ3,HE.out.go (by omega) (Wr.trans ((Wr.refl M1 W1).drew) hw3 (fun _ _ h=>h) (fun _ _ h=>h)) hM3⟩,
   Wr.trans ((Wr.refl M1 W1).drew) hw3 (fun k _ h=>.inl ((HN.out k).2 (.inl h))) (fun k _ h=>.inl ((HN.out k).2 (.inl h))),
   fun k hk=>by
    rcases hk with hk|hk
    ·
     rcases hM3 k hk with h|h
     ·
      exact .inl ((HN.out k).2 (.inl h))
     ·
      right;have:W1.heap.size<=k:=h;omega
    ·
     exact .inl ((HN.out k).2 (.inr hk))⟩
 ·
  rintro D N W2 hD1 hD2 ⟨M1,hN,hj,hE⟩ hN2 hw2 hD3
  gi_wp2
  refine⟨by simp,.inl ⟨_,_,rfl,run_takeDeferred hD3,?_⟩⟩;have hDb:n₀<=D:=by omega
  refine⟨_,results_none rfl _ _ _,⟨_,rfl⟩,M1,?_,?_,?_⟩
  ·
   exact HMI.out _ _ _ _ hj ((Wr.refl _ _).putObj (.inl ⟨hDb,fun h=>hD2 ((hN D).2 (.inl h))⟩) _)
  ·
   exact((HWV.out (fun k=>n₀<=k)).trans hw2 (fun _ _ h=>h) (fun _ _ h=>h)).putObj (.inl hDb) _
  ·
   intro k hk;rcases hE.it.sub k hk with h|h
   ·
    exact .inl h
   ·
    right;omega
end Go.Proofs.YtmofaapnkidioaaGreat
