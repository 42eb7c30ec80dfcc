/- Several texts in one file: contracts of the program's functions and what follows from them. -/
import Derived.Test.YtkbegdkpboklpaaGreatN2
import Derived.Deep.CutBlock
import Derived.RangeFuncNested
import Derived.RangeFuncBound
import Derived.RangeFuncCalls
import Derived.RangeFuncLeaves
import Derived.RangeFuncWrites
import Derived.Shelf.Abstract
import Derived.Shelf.RegionOpen
import Derived.OwnWalkIn
import Derived.TacticsInMore
import Derived.LoopNIn
import Derived.LoopIn
import Derived.Recover
import Derived.Defers
set_option linter.unusedSimpArgs false
set_option linter.unusedVariables false
set_option linter.unusedSectionVars false
set_option linter.unnecessarySimpa false
set_option maxRecDepth 100000
set_option maxHeartbeats 8000000
namespace Go.Proofs.YtkbegdkpboklpaaGreat
open Go.Proofs.Tryz
open Go.RowKit
def Zfq (o:Own)(w:World)(sb:Nat)(d:Zag)(V:Nat->BF)(v:Int)(lo hi:Nat)(e:Ending)(w':World):Prop :=
 (¬ (0<=v/\v<d.vars.length)/\e=.returned (.tuple #[.int .i64 0,.int .i64 9])/\Below w.heap.size w w') \/
 (0<=v/\v<d.vars.length/\(lvE d.vars.length (levN d) (Zab d) lo<=levN d v.toNat\/lvE d.vars.length (levN d) (Zab d) hi<=levN d v.toNat)/\e=.returned (.tuple #[.int .i64 0,.int .i64 10])/\Below w.heap.size w w') \/
 (d.pool.many=d.pool.room/\e=.returned (.tuple #[.int .i64 0,.int .i64 7])/\Below w.heap.size w w') \/
 (0<=v/\v<d.vars.length/\∃ r d' V' o',e=.returned (.tuple #[.int .i64 (r:Nat),.int .i64 0])/\Zax o' w' sb d'/\Zal o' w'/\Zaq d' V'/\Ext d V d' V'/\okE (Zab d') r /\
  ef V' r=iteF v.toNat (ef V hi) (ef V lo)/\levN d v.toNat<=lvE d.vars.length (levN d') (Zab d') r/\d'.pool.many<=d.pool.many+1/\Chg Zar o o' w w')
theorem Zd4 {o:Own}{w:World}{sb:Nat}{d:Zag}{s:Za7}{V:Nat->BF}(h:Zap o w sb d s)(hk:Zaq d V){f:Nat}(hf:okE (Zab d) f){lv:Nat}(hl:lv<d.vars.length) :
 (decide (enode f=0)||(d.pool.tk (enode f)&&decide ((lv:Int)<d.levelOf (d.pool.has (enode f)).v)))=decide (lv<lvE d.vars.length (levN d) (Zab d) f):=by
 unfold lvE;rcases hf with h0|⟨b,hb⟩
 . have e:enode f=0:=h0;rw[h0,hk.dag.none0,e];simp[hl]
 .
  have hn:=Za9 (i:=enode f) hb;have e0:enode f≠0:=by have:=(h.tk_lt (i:=enode f) hb).1;omega
  rw[hb,hn.1];have hv:(d.pool.has (enode f)).v=b.v:=by rw[<- hn.2.2];rfl
  have g0:=hk.dag.var _ _ hb;rw[hv];unfold Zag.levelOf;rw[if_pos (by rw[h.len];exact g0)];simp[e0,levN]
theorem Zkz {d:Zag}{f:Nat}(hf:okE (Zab d) f):(decide (enode f=0)||d.pool.tk (enode f))=true:=by
 rcases hf with h0|⟨b,hb⟩
 . have e:enode f=0:=h0;simp[e]
 . rw[(Za9 (i:=enode f) hb).1];simp
theorem Ybp {o:Own}{w:World}{sb:Nat}{d:Zag}{s:Za7}{V:Nat->BF}(h:Zap o w sb d s)(hk:Zaq d V)(v:Int)(lo hi:Nat)(hv:¬ (0<=v/\v<d.vars.length)) :
 Calls prog 189 #[.pointer (some ⟨sb,0,none⟩),.int .i64 v,.int .i64 lo,.int .i64 hi] w (Zfq o w sb d V v lo hi):=by
 have g0:=Hd (Zic h v (by rw[h.len];have:=hk.small;omega));have e:Zgl d v = -1:=by unfold Zgl;rw[if_neg (by rw[h.len];exact hv)]
 rw[e] at g0;have HV:=Hd hv;clear h hk e hv
 go_enter func189,ntmps189
 go_wp2_with fail;refine g0.out.mono ?_;rintro x w' ⟨rfl,rfl⟩;go_wp2_with fail
 go_ret2
 exact .inl ⟨HV.out,rfl,Below.refl _ _⟩
theorem Ybz {o:Own}{w:World}{sb:Nat}{d:Zag}{s:Za7}{V:Nat->BF}(h:Zap o w sb d s)(hlt:Zal o w)(hk:Zaq d V)(v lo hi:Nat)(hv:v<d.vars.length)(hlo:okE (Zab d) lo)(hhi:okE (Zab d) hi)(hbad:lvE d.vars.length (levN d) (Zab d) lo<=levN d v) :
 Calls prog 189 #[.pointer (some ⟨sb,0,none⟩),.int .i64 v,.int .i64 lo,.int .i64 hi] w (Zfq o w sb d V v lo hi):=by
 have g3:levN d v<d.vars.length:=hk.dag.lt v hv;have gc:=h.edge_lt hlo;have gd:=h.edge_lt hhi;have g1:lo<eMax:=by unfold eMax;omega
 have g2:hi<eMax:=by unfold eMax;omega
 have g0:d.level.length<1000000:=by rw[h.len];have:=hk.small;omega
 have g5:Hid (∀ W:World,Below w.heap.size w W->Calls prog 136 #[.pointer (some ⟨sb,0,none⟩),.int .i64 v] W fun x w'=>x=.returned (.int .i64 (levN d v:Nat))/\W=w'):=fun W hb=>by
  have h1:=Zcf (h.below hlt hb) v g0;unfold Zag.levelOf at h1;rw[if_pos (by rw[h.len];exact hv)] at h1;exact h1
 have ge:Hid (∀ W:World,Below w.heap.size w W->Calls prog 188 #[.pointer (some ⟨sb,0,none⟩),.int .i64 lo] W fun x w'=>x=.returned (.bool true)/\Below W.heap.size W w'):=fun W hb=>by
  have h1:=Zbl (h.below hlt hb) (hlt.mono hb.size) lo g1;rw[Zkz hlo] at h1;exact h1
 have gf:Hid (∀ W:World,Below w.heap.size w W->Calls prog 188 #[.pointer (some ⟨sb,0,none⟩),.int .i64 hi] W fun x w'=>x=.returned (.bool true)/\Below W.heap.size W w'):=fun W hb=>by
  have h1:=Zbl (h.below hlt hb) (hlt.mono hb.size) hi g2;rw[Zkz hhi] at h1;exact h1
 have g4:Hid (∀ W:World,Below w.heap.size w W->Calls prog 224 #[.pointer (some ⟨sb,0,none⟩),.int .i64 lo,.int .i64 (levN d v:Nat)] W fun x w'=>x=.returned (.bool (decide (levN d v<lvE d.vars.length (levN d) (Zab d) lo)))/\Below W.heap.size W w'):=fun W hb=>by
  have h1:=Zbo (h.below hlt hb) (hlt.mono hb.size) lo g1 (levN d v:Nat) g0;rw[Zd4 h hk hlo g3] at h1;exact h1
 have gg:Hid (∀ W:World,Below w.heap.size w W->Calls prog 224 #[.pointer (some ⟨sb,0,none⟩),.int .i64 hi,.int .i64 (levN d v:Nat)] W fun x w'=>x=.returned (.bool (decide (levN d v<lvE d.vars.length (levN d) (Zab d) hi)))/\Below W.heap.size W w'):=fun W hb=>by
  have h1:=Zbo (h.below hlt hb) (hlt.mono hb.size) hi g2 (levN d v:Nat) g0;rw[Zd4 h hk hhi g3] at h1;exact h1
 have g7:Hid (∀ W,Below w.heap.size w W->Zfq o w sb d V v lo hi (.returned (.tuple #[.int .i64 0,.int .i64 10])) W):=fun W hb=>.inr (.inl ⟨by omega,by omega,.inl hbad,rfl,hb⟩)
 rw[decide_eq_false (by omega)] at g4;obtain⟨l,hl⟩:∃ l,l=levN d v:=⟨_,rfl⟩;rw[<- hl] at g5 g4 gg;have gi:¬ ((l:Nat):Int)<0:=by omega
 clear h hlt hk hv hlo hhi hbad g3 gc gd g1 g2 g0 hl
 go_enter func189,ntmps189
 go_wp2_with fail;refine(g5.out _ (Below.refl _ _)).mono ?_;rintro x w' ⟨rfl,rfl⟩;go_wp2_with fail;refine(ge.out _ (Below.refl _ _)).mono ?_;rintro x w1 ⟨rfl,ga⟩;have g6:=Hd ga;clear ga;go_wp2_with fail;refine(gf.out _ g6.out).mono ?_;rintro x w2 ⟨rfl,g9⟩;have HB2:=Hd (g6.out.trans (g9.mono g6.out.size));clear g9;go_wp2_with fail;refine(g5.out _ HB2.out).mono ?_;rintro x w' ⟨rfl,rfl⟩;go_wp2_with fail;refine(g4.out _ HB2.out).mono ?_;rintro x w3 ⟨rfl,g8⟩;have gh:=Hd (HB2.out.trans (g8.mono HB2.out.size));clear g8;go_wp2_with fail
 go_ret2
 exact g7.out _ gh.out
theorem Yby {o:Own}{w:World}{sb:Nat}{d:Zag}{s:Za7}{V:Nat->BF}(h:Zap o w sb d s)(hlt:Zal o w)(hk:Zaq d V)(v lo hi:Nat)(hv:v<d.vars.length)(hlo:okE (Zab d) lo)(hhi:okE (Zab d) hi)(hbad:lvE d.vars.length (levN d) (Zab d) hi<=levN d v)(hgood:levN d v<lvE d.vars.length (levN d) (Zab d) lo) :
 Calls prog 189 #[.pointer (some ⟨sb,0,none⟩),.int .i64 v,.int .i64 lo,.int .i64 hi] w (Zfq o w sb d V v lo hi):=by
 have g5:levN d v<d.vars.length:=hk.dag.lt v hv;have gf:=h.edge_lt hlo;have gg:=h.edge_lt hhi;have g1:lo<eMax:=by unfold eMax;omega
 have g2:hi<eMax:=by unfold eMax;omega
 have g0:d.level.length<1000000:=by rw[h.len];have:=hk.small;omega
 have g3:Hid (∀ W:World,Below w.heap.size w W->Calls prog 136 #[.pointer (some ⟨sb,0,none⟩),.int .i64 v] W fun x w'=>x=.returned (.int .i64 (levN d v:Nat))/\W=w'):=fun W hb=>by
  have h1:=Zcf (h.below hlt hb) v g0;unfold Zag.levelOf at h1;rw[if_pos (by rw[h.len];exact hv)] at h1;exact h1
 have gh:Hid (∀ W:World,Below w.heap.size w W->Calls prog 188 #[.pointer (some ⟨sb,0,none⟩),.int .i64 lo] W fun x w'=>x=.returned (.bool true)/\Below W.heap.size W w'):=fun W hb=>by
  have h1:=Zbl (h.below hlt hb) (hlt.mono hb.size) lo g1;rw[Zkz hlo] at h1;exact h1
 have gi:Hid (∀ W:World,Below w.heap.size w W->Calls prog 188 #[.pointer (some ⟨sb,0,none⟩),.int .i64 hi] W fun x w'=>x=.returned (.bool true)/\Below W.heap.size W w'):=fun W hb=>by
  have h1:=Zbl (h.below hlt hb) (hlt.mono hb.size) hi g2;rw[Zkz hhi] at h1;exact h1
 have g6:Hid (∀ W:World,Below w.heap.size w W->Calls prog 224 #[.pointer (some ⟨sb,0,none⟩),.int .i64 lo,.int .i64 (levN d v:Nat)] W fun x w'=>x=.returned (.bool (decide (levN d v<lvE d.vars.length (levN d) (Zab d) lo)))/\Below W.heap.size W w'):=fun W hb=>by
  have h1:=Zbo (h.below hlt hb) (hlt.mono hb.size) lo g1 (levN d v:Nat) g0;rw[Zd4 h hk hlo g5] at h1;exact h1
 have g7:Hid (∀ W:World,Below w.heap.size w W->Calls prog 224 #[.pointer (some ⟨sb,0,none⟩),.int .i64 hi,.int .i64 (levN d v:Nat)] W fun x w'=>x=.returned (.bool (decide (levN d v<lvE d.vars.length (levN d) (Zab d) hi)))/\Below W.heap.size W w'):=fun W hb=>by
  have h1:=Zbo (h.below hlt hb) (hlt.mono hb.size) hi g2 (levN d v:Nat) g0;rw[Zd4 h hk hhi g5] at h1;exact h1
 have g9:Hid (∀ W,Below w.heap.size w W->Zfq o w sb d V v lo hi (.returned (.tuple #[.int .i64 0,.int .i64 10])) W):=fun W hb=>.inr (.inl ⟨by omega,by omega,.inr hbad,rfl,hb⟩)
 rw[decide_eq_true hgood] at g6;rw[decide_eq_false (by omega)] at g7;obtain⟨l,hl⟩:∃ l,l=levN d v:=⟨_,rfl⟩;rw[<- hl] at g3 g6 g7;have gk:¬ ((l:Nat):Int)<0:=by omega
 clear h hlt hk hv hlo hhi hbad g5 gf gg g1 g2 g0 hl hgood
 go_enter func189,ntmps189
 go_wp2_with fail;refine(g3.out _ (Below.refl _ _)).mono ?_;rintro x w' ⟨rfl,rfl⟩;go_wp2_with fail;refine(gh.out _ (Below.refl _ _)).mono ?_;rintro x w1 ⟨rfl,ge⟩;have g8:=Hd ge;clear ge;go_wp2_with fail;refine(gi.out _ g8.out).mono ?_;rintro x w2 ⟨rfl,gd⟩;have HB2:=Hd (g8.out.trans (gd.mono g8.out.size));clear gd;go_wp2_with fail;refine(g3.out _ HB2.out).mono ?_;rintro x w' ⟨rfl,rfl⟩;go_wp2_with fail;refine(g6.out _ HB2.out).mono ?_;rintro x w3 ⟨rfl,gc⟩;have g4:=Hd (HB2.out.trans (gc.mono HB2.out.size));clear gc;go_wp2_with fail;refine(g3.out _ g4.out).mono ?_;rintro x w' ⟨rfl,rfl⟩;go_wp2_with fail;refine(g7.out _ g4.out).mono ?_;rintro x w4 ⟨rfl,ga⟩;have gj:=Hd (g4.out.trans (ga.mono g4.out.size));clear ga;go_wp2_with fail
 go_ret2
 exact g9.out _ gj.out
theorem Ybx {o:Own}{w:World}{sb:Nat}{d:Zag}{s:Za7}{V:Nat->BF}(h:Zap o w sb d s)(hlt:Zal o w)(hk:Zaq d V)(v lo hi:Nat)(hv:v<d.vars.length)(hlo:okE (Zab d) lo)(hhi:okE (Zab d) hi)(hgl:levN d v<lvE d.vars.length (levN d) (Zab d) lo)(hgh:levN d v<lvE d.vars.length (levN d) (Zab d) hi)(he:lo=hi) :
 Calls prog 189 #[.pointer (some ⟨sb,0,none⟩),.int .i64 v,.int .i64 lo,.int .i64 hi] w (Zfq o w sb d V v lo hi):=by
 have g5:levN d v<d.vars.length:=hk.dag.lt v hv;have gf:=h.edge_lt hlo;have gg:=h.edge_lt hhi;have g1:lo<eMax:=by unfold eMax;omega
 have g2:hi<eMax:=by unfold eMax;omega
 have g0:d.level.length<1000000:=by rw[h.len];have:=hk.small;omega
 have g3:Hid (∀ W:World,Below w.heap.size w W->Calls prog 136 #[.pointer (some ⟨sb,0,none⟩),.int .i64 v] W fun x w'=>x=.returned (.int .i64 (levN d v:Nat))/\W=w'):=fun W hb=>by
  have h1:=Zcf (h.below hlt hb) v g0;unfold Zag.levelOf at h1;rw[if_pos (by rw[h.len];exact hv)] at h1;exact h1
 have gh:Hid (∀ W:World,Below w.heap.size w W->Calls prog 188 #[.pointer (some ⟨sb,0,none⟩),.int .i64 lo] W fun x w'=>x=.returned (.bool true)/\Below W.heap.size W w'):=fun W hb=>by
  have h1:=Zbl (h.below hlt hb) (hlt.mono hb.size) lo g1;rw[Zkz hlo] at h1;exact h1
 have gi:Hid (∀ W:World,Below w.heap.size w W->Calls prog 188 #[.pointer (some ⟨sb,0,none⟩),.int .i64 hi] W fun x w'=>x=.returned (.bool true)/\Below W.heap.size W w'):=fun W hb=>by
  have h1:=Zbl (h.below hlt hb) (hlt.mono hb.size) hi g2;rw[Zkz hhi] at h1;exact h1
 have g6:Hid (∀ W:World,Below w.heap.size w W->Calls prog 224 #[.pointer (some ⟨sb,0,none⟩),.int .i64 lo,.int .i64 (levN d v:Nat)] W fun x w'=>x=.returned (.bool (decide (levN d v<lvE d.vars.length (levN d) (Zab d) lo)))/\Below W.heap.size W w'):=fun W hb=>by
  have h1:=Zbo (h.below hlt hb) (hlt.mono hb.size) lo g1 (levN d v:Nat) g0;rw[Zd4 h hk hlo g5] at h1;exact h1
 have g7:Hid (∀ W:World,Below w.heap.size w W->Calls prog 224 #[.pointer (some ⟨sb,0,none⟩),.int .i64 hi,.int .i64 (levN d v:Nat)] W fun x w'=>x=.returned (.bool (decide (levN d v<lvE d.vars.length (levN d) (Zab d) hi)))/\Below W.heap.size W w'):=fun W hb=>by
  have h1:=Zbo (h.below hlt hb) (hlt.mono hb.size) hi g2 (levN d v:Nat) g0;rw[Zd4 h hk hhi g5] at h1;exact h1
 subst he
 have g9:Hid (∀ W,Below w.heap.size w W->Zfq o w sb d V v lo lo (.returned (.tuple #[.int .i64 (lo:Nat),.int .i64 0])) W):=fun W hb=>.inr (.inr (.inr ⟨by omega,by omega,lo,d,V,o,rfl,⟨s,h.below hlt hb⟩,hlt.mono hb.size,hk,Ext.refl d V,hlo,by
  funext ρ;simp[iteF],Nat.le_of_lt hgl,by omega,Chg.of_below hb _ _⟩))
 rw[decide_eq_true hgl] at g6;rw[decide_eq_true hgh] at g7;obtain⟨l,hl⟩:∃ l,l=levN d v:=⟨_,rfl⟩;rw[<- hl] at g3 g6 g7;have gk:¬ ((l:Nat):Int)<0:=by omega
 clear h hlt hk hv hlo hhi g5 gf gg g1 g2 g0 hl hgl hgh
 go_enter func189,ntmps189
 go_wp2_with fail;refine(g3.out _ (Below.refl _ _)).mono ?_;rintro x w' ⟨rfl,rfl⟩;go_wp2_with fail;refine(gh.out _ (Below.refl _ _)).mono ?_;rintro x w1 ⟨rfl,ge⟩;have g8:=Hd ge;clear ge;go_wp2_with fail;refine(gi.out _ g8.out).mono ?_;rintro x w2 ⟨rfl,gd⟩;have HB2:=Hd (g8.out.trans (gd.mono g8.out.size));clear gd;go_wp2_with fail;refine(g3.out _ HB2.out).mono ?_;rintro x w' ⟨rfl,rfl⟩;go_wp2_with fail;refine(g6.out _ HB2.out).mono ?_;rintro x w3 ⟨rfl,gc⟩;have g4:=Hd (HB2.out.trans (gc.mono HB2.out.size));clear gc;go_wp2_with fail;refine(g3.out _ g4.out).mono ?_;rintro x w' ⟨rfl,rfl⟩;go_wp2_with fail;refine(g7.out _ g4.out).mono ?_;rintro x w4 ⟨rfl,ga⟩;have gj:=Hd (g4.out.trans (ga.mono g4.out.size));clear ga;go_wp2_with fail
 go_ret2
 exact g9.out _ gj.out
def Zza (w:World)(r:Nat)(e:Ending)(w':World):Prop:=e=.returned (.tuple #[.int .i64 (r:Nat),.int .i64 0])/\Below w.heap.size w w'
theorem Zwe {o:Own}{w:World}{sb:Nat}{d:Zag}{s:Za7}{V:Nat->BF}(h:Zap o w sb d s)(hlt:Zal o w)(hk:Zaq d V)(v lo hi:Nat)(hv:v<d.vars.length)(hlo:okE (Zab d) lo)(hhi:okE (Zab d) hi)(hgl:levN d v<lvE d.vars.length (levN d) (Zab d) lo)(hgh:levN d v<lvE d.vars.length (levN d) (Zab d) hi)(he:lo≠hi)(id:Nat)(hid:d.tab v (eflip lo (eneg hi),eflip hi (eneg hi))=some id) :
 Calls prog 189 #[.pointer (some ⟨sb,0,none⟩),.int .i64 v,.int .i64 lo,.int .i64 hi] w (Zza w (eflip (2*id) (eneg hi))):=by
 have ga:levN d v<d.vars.length:=hk.dag.lt v hv;have gp:=h.edge_lt hlo;have gr:=h.edge_lt hhi;have g0:lo<eMax:=by unfold eMax;omega
 have g2:hi<eMax:=by unfold eMax;omega
 have g1:d.level.length<1000000:=by rw[h.len];have:=hk.small;omega
 have g7:Hid (∀ W:World,Below w.heap.size w W->Calls prog 136 #[.pointer (some ⟨sb,0,none⟩),.int .i64 v] W fun x w'=>x=.returned (.int .i64 (levN d v:Nat))/\W=w'):=fun W hb=>by
  have h1:=Zcf (h.below hlt hb) v g1;unfold Zag.levelOf at h1;rw[if_pos (by rw[h.len];exact hv)] at h1;exact h1
 have gu:Hid (∀ W:World,Below w.heap.size w W->Calls prog 188 #[.pointer (some ⟨sb,0,none⟩),.int .i64 lo] W fun x w'=>x=.returned (.bool true)/\Below W.heap.size W w'):=fun W hb=>by
  have h1:=Zbl (h.below hlt hb) (hlt.mono hb.size) lo g0;rw[Zkz hlo] at h1;exact h1
 have gv:Hid (∀ W:World,Below w.heap.size w W->Calls prog 188 #[.pointer (some ⟨sb,0,none⟩),.int .i64 hi] W fun x w'=>x=.returned (.bool true)/\Below W.heap.size W w'):=fun W hb=>by
  have h1:=Zbl (h.below hlt hb) (hlt.mono hb.size) hi g2;rw[Zkz hhi] at h1;exact h1
 have gd:Hid (∀ W:World,Below w.heap.size w W->Calls prog 224 #[.pointer (some ⟨sb,0,none⟩),.int .i64 lo,.int .i64 (levN d v:Nat)] W fun x w'=>x=.returned (.bool (decide (levN d v<lvE d.vars.length (levN d) (Zab d) lo)))/\Below W.heap.size W w'):=fun W hb=>by
  have h1:=Zbo (h.below hlt hb) (hlt.mono hb.size) lo g0 (levN d v:Nat) g1;rw[Zd4 h hk hlo ga] at h1;exact h1
 have ge:Hid (∀ W:World,Below w.heap.size w W->Calls prog 224 #[.pointer (some ⟨sb,0,none⟩),.int .i64 hi,.int .i64 (levN d v:Nat)] W fun x w'=>x=.returned (.bool (decide (levN d v<lvE d.vars.length (levN d) (Zab d) hi)))/\Below W.heap.size W w'):=fun W hb=>by
  have h1:=Zbo (h.below hlt hb) (hlt.mono hb.size) hi g2 (levN d v:Nat) g1;rw[Zd4 h hk hhi ga] at h1;exact h1
 have g5:=(hk.tab v hv _ _ id).1 hid;have gq:=(h.tk_lt g5).2;have g6:Hid (∀ W,Below w.heap.size w W->Zza w (eflip (2*id) (eneg hi)) (.returned (.tuple #[.int .i64 (eflip (2*id) (eneg hi):Nat),.int .i64 0])) W):=fun W hb=>⟨rfl,hb⟩
 have go:=Hd (fun W=>Zr9 id (eneg hi) W (by omega));rw[decide_eq_true hgl] at gd;rw[decide_eq_true hgh] at ge;obtain⟨l,hl⟩:∃ l,l=levN d v:=⟨_,rfl⟩;rw[<- hl] at g7 gd ge;have gC:¬ ((l:Nat):Int)<0:=by omega
 have gA:((lo:Int) == hi)=false:=by simp;omega
 have g3:=Hd (fun W=>Zkc lo hi W g0 g2);have HH:=Hd h;have gf:=Hd hlt;have HV:=Hd hv;have HF:=Hd (fun W (hb:Below w.heap.size w W)=>Znc o v (s.ts.getD v 0) (d.tab v) (eflip lo (eneg hi)) (eflip hi (eneg hi)) id W ((h.below hlt hb).tab v (by rw[h.tlen];exact hv)) hid);obtain⟨lo2,g9⟩:∃ x,x=eflip lo (eneg hi):=⟨_,rfl⟩;obtain⟨gD,gc⟩:∃ x,x=eflip hi (eneg hi):=⟨_,rfl⟩;obtain⟨ng,gj⟩:∃ x,x=eneg hi:=⟨_,rfl⟩;rw[<- g9,<- gc] at g3 HF;rw[<- gj] at g3 go g6 ⊢;clear h hlt hk hv hlo hhi ga gp gr g0 g2 g1 hl hgl hgh he hid g5 gq g9 gc gj
 go_enter func189,ntmps189
 go_wp2_with fail;refine(g7.out _ (Below.refl _ _)).mono ?_;rintro x w' ⟨rfl,rfl⟩;go_wp2_with fail;refine(gu.out _ (Below.refl _ _)).mono ?_;rintro x w1 ⟨rfl,gn⟩;have gg:=Hd gn;clear gn;go_wp2_with fail;refine(gv.out _ gg.out).mono ?_;rintro x w2 ⟨rfl,gm⟩;have HB2:=Hd (gg.out.trans (gm.mono gg.out.size));clear gm;go_wp2_with fail;refine(g7.out _ HB2.out).mono ?_;rintro x w' ⟨rfl,rfl⟩;go_wp2_with fail;refine(gd.out _ HB2.out).mono ?_;rintro x w3 ⟨rfl,gl⟩;have g8:=Hd (HB2.out.trans (gl.mono HB2.out.size));clear gl;go_wp2_with fail;refine(g7.out _ g8.out).mono ?_;rintro x w' ⟨rfl,rfl⟩;go_wp2_with fail;refine(ge.out _ g8.out).mono ?_;rintro x w4 ⟨rfl,gk⟩;have g4:=Hd (g8.out.trans (gk.mono g8.out.size));clear gk;go_wp2_with fail;obtain⟨gt,ct,gh,cellv,gw,gB⟩:=(HH.out.below gf.out g4.out).tabAt HV.out;obtain⟨c0,c1,c2,c3,c4,f0⟩:=cells5 (HH.out.below gf.out g4.out).blk;rw[gh] at c2;have gz:(v:Int)<s.ts.length:=by omega
 have gx:=(HH.out.below gf.out g4.out).tab v gw;clear gh;refine(g3.out _).mono ?_;rintro x w' ⟨rfl,rfl⟩;have hf:=HF.out _ g4.out;clear gx;obtain⟨tv,gi⟩:∃ t,t=s.ts.getD v 0:=⟨_,rfl⟩;rw[<- gi] at cellv hf;have gy:=Hd hf;clear gi hf;go_wp2_with fail;refine gy.out.mono ?_;rintro x w' ⟨rfl,rfl⟩;go_wp2_with fail;refine(go.out _).mono ?_;rintro x w' ⟨rfl,rfl⟩;go_wp2_with fail
 go_ret2
 exact g6.out _ g4.out
theorem Zyc {o:Own}{w:World}{sb:Nat}{d:Zag}{s:Za7}{V:Nat->BF}(h:Zap o w sb d s)(hlt:Zal o w)(hk:Zaq d V)(v lo hi:Nat)(hv:v<d.vars.length)(hlo:okE (Zab d) lo)(hhi:okE (Zab d) hi)(hgl:levN d v<lvE d.vars.length (levN d) (Zab d) lo)(hgh:levN d v<lvE d.vars.length (levN d) (Zab d) hi)(he:lo≠hi)(id:Nat)(hid:d.tab v (eflip lo (eneg hi),eflip hi (eneg hi))=some id) :
 Calls prog 189 #[.pointer (some ⟨sb,0,none⟩),.int .i64 v,.int .i64 lo,.int .i64 hi] w (Zfq o w sb d V v lo hi):=by
 have g0:=(hk.tab v hv _ _ id).1 hid;have g1:=(h.tk_lt g0).2;refine(Zwe h hlt hk v lo hi hv hlo hhi hgl hgh he id hid).mono ?_;rintro e w' ⟨rfl,hb⟩
 exact .inr (.inr (.inr ⟨by omega,by omega,_,d,V,o,rfl,⟨s,h.below hlt hb⟩,hlt.mono hb.size,hk,Ext.refl d V,Zea (Zg4 g0),
  Zwk hk g0,by rw[Zd7];unfold lvE;rw[show 2*id/2=id from by omega,g0];exact Nat.le_refl _,by omega,Chg.of_below hb _ _⟩))
theorem Ybo {o:Own}{w:World}{sb:Nat}{d:Zag}{s:Za7}{V:Nat->BF}(h:Zap o w sb d s)(hlt:Zal o w)(hk:Zaq d V)(v lo hi:Nat)(hv:v<d.vars.length)(hlo:okE (Zab d) lo)(hhi:okE (Zab d) hi)(hgl:levN d v<lvE d.vars.length (levN d) (Zab d) lo)(hgh:levN d v<lvE d.vars.length (levN d) (Zab d) hi)(he:lo≠hi)(hid:d.tab v (eflip lo (eneg hi),eflip hi (eneg hi))=none) :
 Calls prog 189 #[.pointer (some ⟨sb,0,none⟩),.int .i64 v,.int .i64 lo,.int .i64 hi] w (Zfq o w sb d V v lo hi):=by
 have ga:levN d v<d.vars.length:=hk.dag.lt v hv;have gv:=h.edge_lt hlo;have gx:=h.edge_lt hhi;have g2:lo<eMax:=by unfold eMax;omega
 have g4:hi<eMax:=by unfold eMax;omega
 have g3:d.level.length<1000000:=by rw[h.len];have:=hk.small;omega
 have g7:Hid (∀ W:World,Below w.heap.size w W->Calls prog 136 #[.pointer (some ⟨sb,0,none⟩),.int .i64 v] W fun x w'=>x=.returned (.int .i64 (levN d v:Nat))/\W=w'):=fun W hb=>by
  have h1:=Zcf (h.below hlt hb) v g3;unfold Zag.levelOf at h1;rw[if_pos (by rw[h.len];exact hv)] at h1;exact h1
 have gy:Hid (∀ W:World,Below w.heap.size w W->Calls prog 188 #[.pointer (some ⟨sb,0,none⟩),.int .i64 lo] W fun x w'=>x=.returned (.bool true)/\Below W.heap.size W w'):=fun W hb=>by
  have h1:=Zbl (h.below hlt hb) (hlt.mono hb.size) lo g2;rw[Zkz hlo] at h1;exact h1
 have gz:Hid (∀ W:World,Below w.heap.size w W->Calls prog 188 #[.pointer (some ⟨sb,0,none⟩),.int .i64 hi] W fun x w'=>x=.returned (.bool true)/\Below W.heap.size W w'):=fun W hb=>by
  have h1:=Zbl (h.below hlt hb) (hlt.mono hb.size) hi g4;rw[Zkz hhi] at h1;exact h1
 have gd:Hid (∀ W:World,Below w.heap.size w W->Calls prog 224 #[.pointer (some ⟨sb,0,none⟩),.int .i64 lo,.int .i64 (levN d v:Nat)] W fun x w'=>x=.returned (.bool (decide (levN d v<lvE d.vars.length (levN d) (Zab d) lo)))/\Below W.heap.size W w'):=fun W hb=>by
  have h1:=Zbo (h.below hlt hb) (hlt.mono hb.size) lo g2 (levN d v:Nat) g3;rw[Zd4 h hk hlo ga] at h1;exact h1
 have ge:Hid (∀ W:World,Below w.heap.size w W->Calls prog 224 #[.pointer (some ⟨sb,0,none⟩),.int .i64 hi,.int .i64 (levN d v:Nat)] W fun x w'=>x=.returned (.bool (decide (levN d v<lvE d.vars.length (levN d) (Zab d) hi)))/\Below W.heap.size W w'):=fun W hb=>by
  have h1:=Zbo (h.below hlt hb) (hlt.mono hb.size) hi g4 (levN d v:Nat) g3;rw[Zd4 h hk hhi ga] at h1;exact h1
 have gh:=Hd (fun W (hb:Below w.heap.size w W)=>Zju (h.below hlt hb) (hlt.mono hb.size) hk.live (fun i b hb=>⟨hk.dag.okLo i b hb,hk.dag.okHi i b hb⟩) v (eflip lo (eneg hi)) (eflip hi (eneg hi)) hv hid hk.clen);have gi:Hid (∀ W,Below w.heap.size w W->d.pool.many=d.pool.room->Zfq o w sb d V v lo hi (.returned (.tuple #[.int .i64 0,.int .i64 7])) W):=fun W hb hm=>.inr (.inr (.inl ⟨hm,rfl,hb⟩))
 have g5:Hid (∀ W W' id d' o',Below w.heap.size w W->Zax o' W' sb d'->Zal o' W'->Zkh d d' id v (eflip lo (eneg hi)) (eflip hi (eneg hi))->Chg Zar o o' W W'->Zfq o w sb d V v lo hi (.returned (.tuple #[.int .i64 (eflip (2*id) (eneg hi):Nat),.int .i64 0])) W'):=fun W W' id d' o' hb hs hl hr hc=>by
  obtain⟨h1,h2⟩:=Zuu hk hr hv (Zea hlo) (Zea hhi) (by rw[Zd7];exact hgl) (by rw[Zd7];exact hgh) (Zmg hi) (Zj6 he) hid;have g1:Zab d' id=some ⟨v,eflip lo (eneg hi),eflip hi (eneg hi)⟩:=by rw[hr.nodes,Zb4]
  refine .inr (.inr (.inr ⟨by omega,by omega,_,d',_,o',rfl,hs,hl,h1,h2,Zea (Zg4 g1),?_,?_,by rw[hr.many];omega,(Chg.of_below hb _ _).trans hc⟩))
  . rw[Zwk h1 g1,h2.ef hlo,h2.ef hhi];rfl
  . rw[Zd7,h2.lev];unfold lvE;rw[show 2*id/2=id from by omega,g1];exact Nat.le_refl _
 have gu:=Hd (fun id W (hh:id<2305843009213693952)=>Zr9 id (eneg hi) W hh);rw[decide_eq_true hgl] at gd;rw[decide_eq_true hgh] at ge;obtain⟨l,hl⟩:∃ l,l=levN d v:=⟨_,rfl⟩;rw[<- hl] at g7 gd ge;have gJ:¬ ((l:Nat):Int)<0:=by omega
 have gH:((lo:Int) == hi)=false:=by simp;omega
 have g6:=Hd (fun W=>Zkc lo hi W g2 g4);have HH:=Hd h;have gf:=Hd hlt;have HV:=Hd hv;have HF:=Hd (fun W (hb:Below w.heap.size w W)=>Zq3 o v (s.ts.getD v 0) (d.tab v) (eflip lo (eneg hi)) (eflip hi (eneg hi)) W ((h.below hlt hb).tab v (by rw[h.tlen];exact hv)) hid);obtain⟨lo2,g9⟩:∃ x,x=eflip lo (eneg hi):=⟨_,rfl⟩;obtain⟨gC,gc⟩:∃ x,x=eflip hi (eneg hi):=⟨_,rfl⟩;obtain⟨ng,gl⟩:∃ x,x=eneg hi:=⟨_,rfl⟩;rw[<- g9,<- gc] at g6 HF gh g5;rw[<- gl] at g6 gu g5;clear h hlt hk hv hlo hhi ga gv gx g2 g4 g3 hl hgl hgh he hid g9 gc gl
 go_enter func189,ntmps189
 go_wp2_with fail;refine(g7.out _ (Below.refl _ _)).mono ?_;rintro x w' ⟨rfl,rfl⟩;go_wp2_with fail;refine(gy.out _ (Below.refl _ _)).mono ?_;rintro x w1 ⟨rfl,gr⟩;have gg:=Hd gr;clear gr;go_wp2_with fail;refine(gz.out _ gg.out).mono ?_;rintro x w2 ⟨rfl,gq⟩;have HB2:=Hd (gg.out.trans (gq.mono gg.out.size));clear gq;go_wp2_with fail;refine(g7.out _ HB2.out).mono ?_;rintro x w' ⟨rfl,rfl⟩;go_wp2_with fail;refine(gd.out _ HB2.out).mono ?_;rintro x w3 ⟨rfl,gp⟩;have g8:=Hd (HB2.out.trans (gp.mono HB2.out.size));clear gp;go_wp2_with fail;refine(g7.out _ g8.out).mono ?_;rintro x w' ⟨rfl,rfl⟩;go_wp2_with fail;refine(ge.out _ g8.out).mono ?_;rintro x w4 ⟨rfl,go⟩;have g0:=Hd (g8.out.trans (go.mono g8.out.size));clear go;go_wp2_with fail;obtain⟨gt,ct,gj,cellv,gA,gI⟩:=(HH.out.below gf.out g0.out).tabAt HV.out;obtain⟨c0,c1,c2,c3,c4,f0⟩:=cells5 (HH.out.below gf.out g0.out).blk;rw[gj] at c2;have gG:(v:Int)<s.ts.length:=by omega
 have gB:=(HH.out.below gf.out g0.out).tab v gA;clear gj;refine(g6.out _).mono ?_;rintro x w' ⟨rfl,rfl⟩;have hf:=HF.out _ g0.out;clear gB;obtain⟨tv,gk⟩:∃ t,t=s.ts.getD v 0:=⟨_,rfl⟩;rw[<- gk] at cellv hf;have gE:=Hd hf;clear gk hf;go_wp2_with fail;refine gE.out.mono ?_;rintro x w' ⟨rfl,rfl⟩;go_wp2_with fail;refine(gh.out _ g0.out).mono ?_;rintro x w6 (⟨hm,rfl,gn⟩|⟨id,d',o',rfl,hs,gm,hr,hc⟩)
 .
  have gF:=Hd (g0.out.trans (gn.mono g0.out.size));have HM:=Hd hm;clear hm gn c0 c1 c2 c3 c4 f0 cellv;go_wp2_with fail
  go_ret2
  exact gi.out _ gF.out HM.out
 .
  have HS:=Hd hs;have gD:=Hd gm;have HR:=Hd hr;have HC:=Hd hc;have gw:id<2305843009213693952:=by
   obtain⟨s',hs'⟩:=hs;have:=hs'.tk_lt (i:=id) (b:=⟨v,lo2,gC⟩) (by rw[hr.nodes,Zb4]);omega
  clear hs gm hr hc c0 c1 c2 c3 c4 f0 cellv;go_wp2_with fail;refine(gu.out _ _ gw).mono ?_;rintro x w' ⟨rfl,rfl⟩;go_wp2_with fail
  go_ret2
  exact g5.out _ _ id d' o' g0.out HS.out gD.out HR.out HC.out
theorem Zrk {o:Own}{w:World}{sb:Nat}{d:Zag}{V:Nat->BF}(h:Zax o w sb d)(hlt:Zal o w)(hk:Zaq d V)(v:Int)(lo hi:Nat)(hlo:okE (Zab d) lo)(hhi:okE (Zab d) hi) :
 Calls prog 189 #[.pointer (some ⟨sb,0,none⟩),.int .i64 v,.int .i64 lo,.int .i64 hi] w (Zfq o w sb d V v lo hi):=by
 obtain⟨s,h⟩:=h
 by_cases hv:0<=v/\v<d.vars.length
 .
  obtain⟨n,rfl⟩:=Int.eq_ofNat_of_zero_le hv.1;have hn:n<d.vars.length:=by omega
  by_cases h1:levN d n<lvE d.vars.length (levN d) (Zab d) lo
  .
   by_cases h2:levN d n<lvE d.vars.length (levN d) (Zab d) hi
   .
    by_cases h3:lo=hi
    . exact Ybx h hlt hk n lo hi hn hlo hhi h1 h2 h3
    .
     cases h4:d.tab n (eflip lo (eneg hi),eflip hi (eneg hi)) with
     | none=>exact Ybo h hlt hk n lo hi hn hlo hhi h1 h2 h3 h4
     | some id=>exact Zyc h hlt hk n lo hi hn hlo hhi h1 h2 h3 id h4
   . exact Yby h hlt hk n lo hi hn hlo hhi (by omega) h1
  . exact Ybz h hlt hk n lo hi hn hlo hhi (by omega)
 . exact Ybp h hk v lo hi hv
open Go.RowKit
theorem Zt3 {o:Own}{w w':World}{v:Value}{zs:List Int}(h:OwnI w' w.heap.size v zs)(hb:Below w.heap.size w w')(hlt:Zal o w)(r:Role) :
 ∃ o',RowR o' w' r 3 1 v zs.length (Zbh zs)/\Chg (· = r) o o' w w'/\Zal o' w':=by
 obtain⟨hl,h2⟩:=h;rcases h2 with ⟨h1,h0⟩|⟨g,cap,cur,h1,h2,h3,h4,h5,h6,h7⟩
 . exact⟨o,⟨hl,.inl ⟨h1,h0⟩⟩,Chg.of_below hb _ _,hlt.mono hb.size⟩
 .
  have hg:g<w'.heap.size:=(Array.getElem?_eq_some_iff.1 h3).1;refine⟨Zcx o g r,⟨hl,.inr ⟨g,cap,cur,h1,Zbg _ _ _,h3,h4,h5,by omega,h7⟩⟩,⟨hb.os,hb.tape,hb.output,hb.size,fun k hk _=>hb.block k hk,fun k q hq=>Zdd hlt h2 hq,fun k hk=>?_⟩,fun k q hq=>?_⟩
  .
   by_cases e:k=g
   . subst e;exact⟨h2,r,Zbg _ _ _,rfl⟩
   . exact absurd (by simp[Zcx,e]) hk
  .
   by_cases e:k=g
   . subst e;exact hg
   . simp only[Zcx,if_neg e] at hq;have:=hlt k q hq;have:=hb.size;omega
theorem Zpb (o:Own)(n:Nat)(hn:n<=64)(r:Role)(w:World)(hlt:Zal o w) :
 Calls prog 156 #[.int .i64 n] w fun e w'=>∃ v o',e=.returned v/\RowR o' w' r 3 1 v n ((List.range n).map nat64)/\Chg (· = r) o o' w w'/\Zal o' w' :=
 (Znt n w).mono fun e w' ⟨v,h1,h2,h3⟩=>by
  obtain⟨o',a,b,c⟩:=Zt3 h2 h3 hlt r;have e1:Zpa n=iota n:=by unfold Zpa;congr 1;omega
  have e2:Zbh (iota n)=(List.range n).map nat64:=by simp[Zbh,iota,nat64]
  rw[e1,Zcz,e2] at a;exact⟨v,o',h1,a,b,c⟩
def store0 (n room:Nat):Zag:=⟨List.range n,List.range n,pool0 room,fun _ _=>none,[],0⟩
structure NewS (o:Own)(w:World)(n room sb:Nat)(s:Za7)(j:Nat)(o1:Own)(wx:World):Prop where
 own:o1 sb=some .store
 ownl:o1 s.lb=some .levels
 blk:wx.heap[sb]?=some (.cells #[.pointer (some ⟨s.lb,0,none⟩),.pointer (some ⟨s.pb,0,none⟩),s.vt,.slice none 0 0,.int .i64 0] 193 (0,0))
 lev:wx.heap[s.lb]?=some (.cells #[s.vv,s.vl] 195 (0,0))
 vars:RowR o1 wx .vars 3 1 s.vv n ((List.range n).map nat64)
 level:RowR o1 wx .level 3 1 s.vl n ((List.range n).map nat64)
 pool:Zat o1 wx s.pb (pool0 room)
 tabs:RowR o1 wx .tabs 217 1 s.vt j (s.ts.map ptrV)
 tl:s.ts.length=j
 tab:∀ v,v<j->Zdk o1 wx v (s.ts.getD v 0) (fun _=>none)
 chg:Chg Zar o o1 w wx
 lt:Zal o1 wx
 ge:w.heap.size<=sb
theorem NewS.done {o o1:Own}{w wx:World}{n room sb:Nat}{s:Za7}(h:NewS o w n room sb s n o1 wx):Zax o1 wx sb (store0 n room) :=
 ⟨{ s with vc:=.slice none 0 0 },h.own,h.ownl,h.blk,h.lev,by simpa [store0] using h.vars,by simpa [store0] using h.level,h.pool,by rw[h.tl];exact h.tabs,fun v hv=>h.tab v (by rw[<- h.tl];exact hv),RowR.nil _ _ _ _ _,rfl,by simp[store0,h.tl]⟩
theorem NewS.grown {o o1 o2 o3:Own}{w wx wy wz:World}{n room sb:Nat}{s:Za7}{j t g cap:Nat}(h:NewS o w n room sb s j o1 wx)(ht:Zdk o2 wy j t (fun _=>none))(hc:Chg (fun r=>r=.tab j\/r=.tmap j) o1 o2 wx wy)(hl:Zal o2 wy)
 (hr:RowR o3 wz .tabs 217 1 (.slice (some ⟨g,0,none⟩) (j+1) cap) (j+1) (s.ts.map ptrV++[ptrV t])) (hc2:Chg (· = .tabs) o2 o3 wy wz) (hl2:Zal o3 wz) :
 NewS o w n room sb { s with vt:=.slice (some ⟨g,0,none⟩) (j+1) cap,ts:=s.ts++[t] } (j+1) o3 (wz.setCell ⟨sb,2,none⟩ (.slice (some ⟨g,0,none⟩) (j+1) cap)):=by
 have g0:Chg (fun r=>r=.tab j\/r=.tmap j\/r=.tabs) o1 o3 wx wz:=(hc.mono fun r e=>by rcases e with e|e;exact .inl e;exact .inr (.inl e)).trans (hc2.mono fun r e=>.inr (.inr e));have g1:=g0.ext _ _ h.own;have ne:∀ {a r},o3 a=some r->r ≠ .store->a≠sb:=fun ha hr e=>by subst e;rw[ha] at g1;cases g1;exact hr rfl
 have g3:=g0.ext _ _ h.ownl;have row:∀ {r e k v m xs},RowR o1 wx r e k v m xs->r ≠ .store->¬ (r=.tab j\/r=.tmap j\/r=.tabs)->RowR o3 (wz.setCell ⟨sb,2,none⟩ (.slice (some ⟨g,0,none⟩) (j+1) cap)) r e k v m xs:=fun hr h1 h2 =>
  (hr.chg g0 h.lt h2).setCell_other (p:=⟨sb,2,none⟩) (by rw[g1];intro e;cases e;exact h1 rfl) _
 have ctab:∀ v t f,Zdk o3 wz v t f->Zdk o3 (wz.setCell ⟨sb,2,none⟩ (.slice (some ⟨g,0,none⟩) (j+1) cap)) v t f:=fun v t f hT =>
  hT.keep (fun q r hq g2=>Zai (ne hq (by rintro rfl;rcases g2 with e|e<;>cases e)) _) (fun _ _ h=>h)
 refine⟨g1,g3,Zah ((g0.same h.lt h.own (by simp)).trans h.blk) _,(Zai (ne g3 (by simp)) _).trans ((g0.same h.lt h.ownl (by simp)).trans h.lev),row h.vars (by simp) (by simp),row h.level (by simp) (by simp),?_,?_,by simp[h.tl],fun v hv=>?_,?_,hl2.mono (by simp[World.setCell]),h.ge⟩
 . have hp:=h.pool.chg g0 h.lt (by simp) (by simp) (by simp) (by simp);exact hp.keep (fun q r hq g2=>Zai (ne hq (by rintro rfl;rcases g2 with e|e|e|e<;>cases e)) _) (fun _ _ h=>h)
 . have:=hr.setCell_other (p:=⟨sb,2,none⟩) (by rw[g1];simp) (.slice (some ⟨g,0,none⟩) (j+1) cap);simpa using this
 .
  dsimp only;refine ctab _ _ _ ?_
  by_cases e:v=j
  .
   subst e;have e2:(s.ts++[t]).getD v 0=t:=by simp[List.getD,h.tl]
   rw[e2];exact ht.chg hc2 hl (by simp) (by simp)
  .
   have e2:(s.ts++[t]).getD v 0=s.ts.getD v 0:=by
    have:=h.tl;simp[List.getD,List.getElem?_append_left (show v<s.ts.length by omega)]
   rw[e2];exact(h.tab v (by omega)).chg g0 h.lt (by simp[e]) (by simp[e])
 . exact(h.chg.trans (g0.mono fun r e=>by rcases e with rfl|rfl|rfl<;>simp[Zar])).setCell (p:=⟨sb,2,none⟩) g1 (by simp[Zar]) _
theorem Zte:(prog.info? 217).map (fun i=>(i.zero,i.size,i.bytes))=some (some (.pointer none),1,8):=by kernel_rfl
theorem Zwj (o:Own)(n room:Nat)(w:World)(hlt:Zal o w)(hn:n<=64)(h1:1<=room)(h2:room<=1048576) :
 Calls prog 104 #[.int .i64 n,.int .i64 room] w fun x w'=>∃ sb o',x=.returned (.tuple #[.pointer (some ⟨sb,0,none⟩),.int .i64 0])/\Zax o' w' sb (store0 n room)/\Chg Zar o o' w w'/\Zal o' w'/\w.heap.size<=sb:=by
 have gM:(n:Int)<=64:=by omega
 have gL:(0:Int)<=n:=by omega
 have HP:=Hd (Zye o room w hlt h1 h2);clear hlt h1 h2
 go_enter func104,ntmps104
 go_wp2_with fail;refine HP.out.mono ?_;rintro x w1 ⟨pb,o1,rfl,gq,gw,gi,gK⟩;have gD:=Hd (Zpb o1 n hn .vars w1 gi);have gB:=Hd gi;have gA:=Hd gq;have go:=Hd gw;clear gq gw gi;go_wp2_with fail;refine gD.out.mono ?_;rintro x w2 ⟨vv,o2,rfl,gc,gv,gh⟩;have gC:=Hd (Zpb o2 n hn .level w2 gh);have gm:=Hd gc;have gd:=Hd gv;have gn:=Hd gh;clear gc gv gh;go_wp2_with fail;refine gC.out.mono ?_;rintro x w3 ⟨vl,o3,rfl,g4,gu,gt⟩;obtain⟨av,cv,rfl,_⟩:=gm.out.slice;obtain⟨al,cl,rfl,_⟩:=g4.slice;have gz:=Hd g4;have g6:=Hd gu;have g3:=Hd gt;clear g4 gu gt;go_upto_region 7 with fail;obtain⟨wl,g1⟩:∃ wl,wl=w3.alloc (.cells #[.slice av n cv,.slice al n cl] 195):=⟨_,rfl⟩;obtain⟨ws,g0⟩:∃ ws,ws=wl.alloc (.cells #[.pointer (some ⟨w3.heap.size,0,none⟩),.pointer (some ⟨pb,0,none⟩),.slice none 0 0,.slice none 0 0,.int .i64 0] 193):=⟨_,rfl⟩;have gf:wl.heap.size=w3.heap.size+1:=by rw[g1];simp
 have gx:NewS o w n room (w3.heap.size+1) ⟨w3.heap.size,pb,.slice av n cv,.slice al n cl,.slice none 0 0,.slice none 0 0,[]⟩ 0 (Zcx (Zcx o3 w3.heap.size .levels) (w3.heap.size+1) .store) ws:=by
  have c1:=(Chg.refl Zar o3 w3).allocR (r:=.levels) g3.out (.cells #[.slice av n cv,.slice al n cl] 195) (by simp[Zar]);have l1:=g3.out.allocR (.cells #[.slice av n cv,.slice al n cl] 195) .levels;rw[<- g1] at c1 l1;have c2:=c1.allocR (r:=.store) l1 (.cells #[.pointer (some ⟨w3.heap.size,0,none⟩),.pointer (some ⟨pb,0,none⟩),.slice none 0 0,.slice none 0 0,.int .i64 0] 193) (by simp[Zar]);have l2:=l1.allocR (.cells #[.pointer (some ⟨w3.heap.size,0,none⟩),.pointer (some ⟨pb,0,none⟩),.slice none 0 0,.slice none 0 0,.int .i64 0] 193) .store;rw[<- g0,gf] at c2 l2;have hb:Below w3.heap.size w3 ws:=by rw[g0,g1];exact(Zad w3 _).alloc (by simp) _
  have gc:=((gm.out.chg g6.out gn.out (by simp)).below g3.out hb).keep (o':=Zcx (Zcx o3 w3.heap.size .levels) (w3.heap.size+1) .store) (fun _ _=>rfl) (fun g hg=>c2.ext g _ hg);have g4:=(gz.out.below g3.out hb).keep (o':=Zcx (Zcx o3 w3.heap.size .levels) (w3.heap.size+1) .store) (fun _ _=>rfl) (fun g hg=>c2.ext g _ hg);have gF:=(go.out.mono (R':=Zar) (fun r hr=>by rcases hr with rfl|rfl|rfl<;>simp[Zar,Zfi])).trans ((gd.out.mono (R':=Zar) (fun r hr=>by subst hr;simp[Zar])).trans ((g6.out.mono (R':=Zar) (fun r hr=>by subst hr;simp[Zar])).trans c2));have gE:=(gA.out.chg (gd.out) gB.out (by simp) (by simp) (by simp) (by simp)).chg g6.out gn.out (by simp) (by simp) (by simp) (by simp);have hp:=(gE.below hb g3.out).keep (o':=Zcx (Zcx o3 w3.heap.size .levels) (w3.heap.size+1) .store) (fun _ _ _ _=>rfl) (fun g r hg=>c2.ext g r hg);refine⟨Zbg _ _ _,Zdd l1 (by omega) (Zbg _ _ _),?_,?_,gc,g4,hp,RowR.nil _ _ _ _ _,rfl,fun v hv=>absurd hv (by omega),gF,l2,?_⟩
  . rw[g0,<- gf];exact heap_alloc_new wl _
  . rw[g0];exact(Go.heap_alloc_old wl _ (show w3.heap.size<wl.heap.size by omega)).trans (by rw[g1];exact heap_alloc_new w3 _)
  .
   show w.heap.size<=w3.heap.size+1
   exact Nat.le_succ_of_le (Nat.le_trans go.out.size (Nat.le_trans gd.out.size g6.out.size))
 rw[<- g1,<- g0];have gy:=Hd gx;clear gx g0 g1 gf gm gz go gd g6 gB gn g3 gA gD gC HP;go_wp2_with fail
 go_loopw [31] (fun i wr=>∃ (j:Nat) (s:Za7) (o1:Own),j<=n/\i=.int .i64 j/\NewS o w n room (w3.heap.size+1) s j o1 wr) (fun i _=>n-(intOf i).toNat)
 case atStart=>exact⟨0,_,_,by omega,rfl,gy.out⟩
 case round =>
  obtain⟨j,s,o1,hj,rfl,hS⟩:=hrel;clear gy
  by_cases hlt:j<n
  .
   obtain⟨c0,c1,c2,c3,c4,f0⟩:=cells5 hS.blk;obtain⟨av,cv,g9,_⟩:=hS.tabs.slice;rw[g9] at c2;have gI:(j:Int)<n:=by omega
   have HJ:(j:Int)+1<=64:=by omega
   have HS:=Hd hS;have gG:Hid (RowR o1 wr .tabs 217 1 (.slice av j cv) j (s.ts.map ptrV)):=by show RowR _ _ _ _ _ _ _ _;rw[<- g9];exact hS.tabs
   have gH:=Hd (Zyh o1 j wr.drew hS.lt);have gJ:j<=64:=by omega
   have gk:=Hd g9;clear g9 hS;go_upto_region 9 with fail;refine Zam (fun W:World=>W.cell? ⟨w3.heap.size+1,2,none⟩=some (.slice av j cv)/\W.frozen? ⟨w3.heap.size+1,2,none⟩=false) true 10
    [(0,false),(1,false),(2,false),(3,false),(4,false),(5,true),(6,true),(7,true),(8,false),(9,false),(10,true)] (by kernel_rfl) (by kernel_rfl) ⟨c2,f0 2⟩ ?_
   simp only[planned,Zcc]
   iterate 5
    refine Zaj rfl ?_;apply Exists.intro;refine⟨fun w' hw=>?_,?_⟩
    . obtain⟨h1,h2⟩:=hw;go_simp;rfl
    simp only[Zae]
   refine Zb6 (R:=fun v w'=>∃ t o2,v=.pointer (some ⟨t,0,none⟩)/\Zdk o2 w' j t (fun _=>none)/\Chg (fun r=>r=.tab j\/r=.tmap j) o1 o2 wr w'/\Zal o2 w') rfl (by go_simp) (gH.out.mono (fun e w' he=>?_)) ?_
   . obtain⟨t,o2,rfl,a1,a2,a3,a4⟩:=he;obtain⟨_,_,q2,_,_,q0⟩:=cells5 ((a2.same (by exact HS.out.lt) HS.out.own (by simp)).trans HS.out.blk);exact⟨_,rfl,⟨by rw[<- gk.out];exact q2,q0 2⟩,t,o2,rfl,a1,⟨a2.os,a2.tape,a2.output,a2.size,a2.block,a2.ext,a2.new⟩,a3⟩
   rintro v wy-⟨t,o2,rfl,ht,g2,g5⟩;simp only[Zae];have ga:=(g2.same HS.out.lt HS.out.own (by simp)).trans HS.out.blk;have gg:w3.heap.size+1<wy.heap.size:=(Array.getElem?_eq_some_iff.1 ga).1;have gP:=Hd g2;have gN:=Hd ht;have gO:=Hd g5;have gl:=gG.out.chg g2 HS.out.lt (by simp);obtain⟨wb,g8⟩:∃ wb,wb=wy.alloc (.cells #[.pointer (some ⟨t,0,none⟩)] 217):=⟨_,rfl⟩;obtain⟨_,_,p2,_,_,p0⟩:=cells5 (show wb.heap[w3.heap.size+1]?=_ from by rw[g8];exact(Go.heap_alloc_old _ _ gg).trans ga);refine Zd9 (v:=.slice (some ⟨wy.heap.size,0,none⟩) 1 1) (w':=wb) rfl (by rw[g8];go_simp) ⟨by rw[<- gk.out];exact p2,p0 2⟩ ?_;simp only[Zae];obtain⟨g,cap,wz,o3,g7,gp,gj,gr⟩:=Zje 191 217 191 1 8 (.pointer none) underlying191 Zte rfl (by decide) #[.pointer (some ⟨t,0,none⟩)] rfl (fun u hu=>by simp at hu;subst hu;rfl) gl g5 (by omega) (by decide);rw[<- g8] at g7;obtain⟨_,_,r2,_,_,r0⟩:=cells5 ((gj.same g5 (g2.ext _ _ HS.out.own) (by simp)).trans ga);refine Zd9 (v:=.slice (some ⟨g,0,none⟩) (j+1) cap) (w':=wz) rfl (Zku rfl rfl rfl g7) ⟨by rw[<- gk.out];exact r2,r0 2⟩ ?_;simp only[Zae];have HG:=Hd (HS.out.grown ht g2 g5 gp gj gr);clear ga gg g2 ht g5 gl g8 p2 p0 g7 gp gj gr
   iterate 2
    refine Zaj rfl ?_;apply Exists.intro;refine⟨fun w' hw=>?_,?_⟩
    . obtain⟨h1,h2⟩:=hw;go_simp;rfl
    simp only[Zae]
   refine Zdg rfl (fun K hK=>?_);unfold Oper.wp;go_simp;refine hK _ _ (Zbz ?_);go_wp2_with fail;go_roundw
   case rel=>exact⟨j+1,_,_,by omega,by simp,HG.out⟩
   case measure=>simp[intOf];omega
  .
   obtain rfl:j=n:=by omega
   have HS:=Hd hS;clear hS;go_wp2_with fail
   go_ret2
   exact⟨_,_,rfl,HS.out.done,HS.out.chg,HS.out.lt,HS.out.ge⟩
open Go.RowKit
structure Ev where
 after:Int
 kind:Int
 level:Int
def evL (e:Ev):List Value:=[.int .i64 e.after,.int .i64 e.kind,.int .i64 e.level]
def evA (e:Ev):Value:=.agg #[.int .i64 e.after,.int .i64 e.kind,.int .i64 e.level]
structure Zb3 (o:Own)(w:World)(v:Value)(ws:List Ev):Prop where
 ex:(v=.slice none 0 0/\ws=[])\/∃ g off cap cur,v=.slice (some ⟨g,off,none⟩) ws.length cap/\o g=some .waits/\w.heap[g]?=some (.cells cur 120 (0,0))/\ws.length<=cap/\cap<=maxLen /\
  off+cap*3<=cur.size/\(cur.toList.drop off).take (ws.length*3)=ws.flatMap evL
theorem Zb3.keep {o o':Own}{w w':World}{v:Value}{ws:List Ev}(h:Zb3 o w v ws)(hk:∀ g,o g=some .waits->w'.heap[g]?=w.heap[g]?)(ho:∀ g,o g=some .waits->o' g=some .waits):Zb3 o' w' v ws:=by
 refine⟨h.ex.imp id ?_⟩;rintro⟨g,off,cap,cur,h1,h2,h3,rest⟩;exact⟨g,off,cap,cur,h1,ho g h2,(hk g h2).trans h3,rest⟩
theorem Zb3.chg {R:Role->Prop}{o o':Own}{w w':World}{v:Value}{ws:List Ev}(h:Zb3 o w v ws)(hc:Chg R o o' w w')(hlt:Zal o w)(hr:¬ R .waits):Zb3 o' w' v ws :=
 h.keep (fun g hg=>hc.same hlt hg hr) (fun g hg=>hc.ext g _ hg)
theorem Zb3.nil (o:Own)(w:World):Zb3 o w (.slice none 0 0) []:=⟨.inl ⟨rfl,rfl⟩⟩
theorem Zb3.slice {o:Own}{w:World}{v:Value}{ws:List Ev}(h:Zb3 o w v ws):∃ a cap,v=.slice a ws.length cap/\(a=none->cap=0):=by
 rcases h.ex with ⟨h1,h0⟩|⟨g,off,cap,cur,h1,_⟩
 . exact⟨none,0,by rw[h1,h0];rfl,fun _=>rfl⟩
 . exact⟨_,cap,h1,by simp⟩
theorem Zc6 (ws:List Ev):(ws.flatMap evL).length=ws.length*3:=Zbk evL 3 (fun _=>rfl) ws
theorem Zb3.first {o:Own}{w:World}{v:Value}{ev:Ev}{ws:List Ev}(h:Zb3 o w v (ev::ws)):∃ g off cap,v=.slice (some ⟨g,off,none⟩) (ws.length+1) cap/\o g=some .waits/\ws.length+1<=cap/\cap<=maxLen /\
 w.cell? ⟨g,off,none⟩=some (.int .i64 ev.after)/\w.cell? ⟨g,off+1,none⟩=some (.int .i64 ev.kind)/\w.cell? ⟨g,off+2,none⟩=some (.int .i64 ev.level)/\Zb3 o w (.slice (if cap=1 then some ⟨g,off,none⟩ else some ⟨g,off+3,none⟩) ws.length (cap-1)) ws:=by
 rcases h.ex with ⟨h1,h0⟩|⟨g,off,cap,cur,h1,h2,h3,h4,h5,h6,h7⟩
 . cases h0
 .
  simp only[List.length_cons] at h1 h4 h7;have hc:∀ j u,(evL ev++ws.flatMap evL)[j]?=some u->w.cell? ⟨g,off+j,none⟩=some u:=by
   intro j u hj;have hl:=(List.getElem?_eq_some_iff.1 hj).1;have g0:j<(ws.length+1)*3:=by
    have e1:(evL ev++ws.flatMap evL).length=3+ws.length*3:=by rw[List.length_append,Zc6];rfl
    omega
   rw[cell_of_row w g (off+j) cur _ (0,0) h3];have e2:(evL ev++ws.flatMap evL)[j]?=((cur.toList.drop off).take ((ws.length+1)*3))[j]?:=by rw[h7];rfl
   rw[e2,List.getElem?_take,if_pos g0,List.getElem?_drop] at hj;simpa using hj
  refine⟨g,off,cap,h1,h2,h4,h5,hc 0 _ rfl,hc 1 _ rfl,hc 2 _ rfl,⟨.inr ?_⟩⟩
  by_cases e1:cap=1
  . have e2:ws=[]:=List.eq_nil_of_length_eq_zero (by omega);subst e2;exact⟨g,off,cap-1,cur,by rw[if_pos e1],h2,h3,by simp,by omega,by omega,by simp⟩
  .
   refine⟨g,off+3,cap-1,cur,by rw[if_neg e1],h2,h3,by omega,by omega,by omega,?_⟩;have e3:(cur.toList.drop (off+3)).take (ws.length*3)=((cur.toList.drop off).take ((ws.length+1)*3)).drop 3:=by
    rw[List.drop_take,List.drop_drop];congr 1;omega
   rw[e3,h7];rfl
structure ManD where
 d:Zag
 hs:List (Int×Nat)
 next:Int
 waits:List Ev
 calls:Int
structure ManW where
 sb:Nat
 me:Nat
 hb:Nat
 vw:Value
def encH (hs:List (Int×Nat)):List (Int×Value):=hs.map fun p=>(p.1,.int .i64 (p.2:Nat))
structure Zcg (F:Phi)(o:Own)(w:World)(mb:Nat)(m:ManD)(s:ManW):Prop where
 own:o mb=some .man
 blk:w.heap[mb]?=some (.cells #[.pointer (some ⟨s.sb,0,none⟩),.pointer (some ⟨s.me,0,none⟩),.map (some s.hb),.int .i64 m.next,s.vw,.int .i64 m.calls] 133 (0,0))
 store:Zax o w s.sb m.d
 memo:Zct o w s.me F
 ownh:o s.hb=some .handles
 map:Zcw w s.hb (Value.int .i64) (encH m.hs)
 waits:Zb3 o w s.vw m.waits
def Zfo (F:Phi)(o:Own)(w:World)(mb:Nat)(m:ManD):Prop:=∃ s,Zcg F o w mb m s
theorem cells6 {w:World}{g:Nat}{a b c d e f:Value}{T:TypeId}(h:w.heap[g]?=some (.cells #[a,b,c,d,e,f] T (0,0))):w.cell? ⟨g,0,none⟩=some a/\w.cell? ⟨g,1,none⟩=some b/\w.cell? ⟨g,2,none⟩=some c/\w.cell? ⟨g,3,none⟩=some d/\w.cell? ⟨g,4,none⟩=some e/\w.cell? ⟨g,5,none⟩=some f /\
 (∀ k,w.frozen? ⟨g,k,none⟩=false) :=
 ⟨by rw[cell_of_row w g 0 _ _ _ h];rfl,by rw[cell_of_row w g 1 _ _ _ h];rfl,by rw[cell_of_row w g 2 _ _ _ h];rfl,by rw[cell_of_row w g 3 _ _ _ h];rfl,by rw[cell_of_row w g 4 _ _ _ h];rfl,by rw[cell_of_row w g 5 _ _ _ h];rfl,fun k=>by simp[World.frozen?,h]⟩
section
variable {F:Phi}{o o':Own}{w w':World}{mb:Nat}{m:ManD}{s:ManW}
theorem Zcw.keepB {w w':World}{b:Nat}{enc:Int->Value}{l:List (Int×Value)}(h:Zcw w b enc l)(hk:w'.heap[b]?=w.heap[b]?):Zcw w' b enc l:=by
 obtain⟨es,c,hb,rest⟩:=h.ex;exact⟨⟨es,c,hk.trans hb,rest⟩,h.nodup⟩
theorem Zax.keepR {sb:Nat}{d:Zag}(h:Zax o w sb d)(hk:∀ g r,o g=some r->Zar r->w'.heap[g]?=w.heap[g]?)(ho:∀ g r,o g=some r->o' g=some r):Zax o' w' sb d:=by
 obtain⟨s,h⟩:=h;have row:∀ {r e k v n xs},Zar r->RowR o w r e k v n xs->RowR o' w' r e k v n xs:=fun hr h=>h.keep (fun g hg=>hk g _ hg hr) (fun g hg=>ho g _ hg)
 refine⟨s,ho _ _ h.own,ho _ _ h.ownl,(hk _ _ h.own (by simp[Zar])).trans h.blk,(hk _ _ h.ownl (by simp[Zar])).trans h.lev,row (by simp[Zar]) h.vars,row (by simp[Zar]) h.level,
  h.pool.keep (fun g r hg hr=>hk g r hg (by rcases hr with rfl|rfl|rfl|rfl<;>simp[Zar,Zfi])) ho,row (by simp[Zar]) h.tabs,
  fun v hv=>(h.tab v hv).keep (fun g r hg hr=>hk g r hg (by rcases hr with rfl|rfl<;>simp[Zar])) ho,row (by simp[Zar]) h.counts,h.len,h.tlen⟩
theorem Zct.mono {G:Phi}{me:Nat}(h:Zct o w me F)(hF:∀ op a b c r,F op a b c r->G op a b c r):Zct o w me G:=by
 obtain⟨ve,a,f,h1,h2⟩:=h.ex;refine⟨h.own,ve,a,f,h1,h2.imp id ?_⟩;rintro⟨ge,cap,l,e1,e2,e3,e4⟩;exact⟨ge,cap,l,e1,e2,e3,fun i hi=>hF _ _ _ _ _ (e4 i hi)⟩
theorem Zcg.keep (h:Zcg F o w mb m s)(hk:∀ g r,o g=some r->w'.heap[g]?=w.heap[g]?)(ho:∀ g r,o g=some r->o' g=some r):Zcg F o' w' mb m s :=
 ⟨ho _ _ h.own,(hk _ _ h.own).trans h.blk,h.store.keepR (fun g r hg _=>hk g r hg) ho,h.memo.keep (fun g r hg _=>hk g r hg) ho,ho _ _ h.ownh,h.map.keepB (hk _ _ h.ownh),h.waits.keep (fun g hg=>hk g _ hg) (fun g hg=>ho g _ hg)⟩
theorem Zcg.below (h:Zcg F o w mb m s)(hlt:Zal o w)(hb:Below w.heap.size w w'):Zcg F o w' mb m s:=h.keep (fun g r hg=>hb.block g (hlt g r hg)) (fun _ _ h=>h)
theorem Zcg.setStore {d':Zag}(h:Zcg F o w mb m s)(hlt:Zal o w)(hs:Zax o' w' s.sb d')(hc:Chg Zar o o' w w'):Zcg F o' w' mb { m with d:=d' } s :=
 ⟨hc.ext _ _ h.own,(hc.same hlt h.own (by simp[Zar,Zfi])).trans h.blk,hs,h.memo.chg hc hlt (by simp[Zar,Zfi]) (by simp[Zar,Zfi]),hc.ext _ _ h.ownh,h.map.keepB (hc.same hlt h.ownh (by simp[Zar,Zfi])),h.waits.chg hc hlt (by simp[Zar,Zfi])⟩
theorem Zcg.setMemo {G:Phi}(h:Zcg F o w mb m s)(hlt:Zal o w)(hm:Zct o' w' s.me G)(hc:Chg (fun r=>r=.memo\/r=.entries) o o' w w'):Zcg G o' w' mb m s :=
 ⟨hc.ext _ _ h.own,(hc.same hlt h.own (by simp)).trans h.blk,h.store.keepR (fun g r hg hr=>hc.same hlt hg (by rintro(rfl|rfl)<;>simp[Zar,Zfi] at hr)) hc.ext,hm,hc.ext _ _ h.ownh,h.map.keepB (hc.same hlt h.ownh (by simp)),h.waits.chg hc hlt (by simp)⟩
theorem Zcg.mono {G:Phi}(h:Zcg F o w mb m s)(hF:∀ op a b c r,F op a b c r->G op a b c r):Zcg G o w mb m s:=⟨h.own,h.blk,h.store,h.memo.mono hF,h.ownh,h.map,h.waits⟩
theorem Zcg.field (h:Zcg F o w mb m s){k:Nat}{u:Value}{m':ManD}{s':ManW}(hd:m'.d=m.d)(hh:m'.hs=m.hs)(h1:s'.sb=s.sb)(h2:s'.me=s.me)(h3:s'.hb=s.hb)(hw:Zb3 o w s'.vw m'.waits)
 (hb:(#[.pointer (some ⟨s.sb,0,none⟩),.pointer (some ⟨s.me,0,none⟩),.map (some s.hb),.int .i64 m.next,s.vw,.int .i64 m.calls]:Array Value).setIfInBounds k u=#[.pointer (some ⟨s.sb,0,none⟩),.pointer (some ⟨s.me,0,none⟩),.map (some s.hb),.int .i64 m'.next,s'.vw,.int .i64 m'.calls]) :
 Zcg F o (w.setCell ⟨mb,k,none⟩ u) mb m' s':=by
 have ne:∀ {g r},o g=some r->r ≠ .man->g≠mb:=fun hg hr e=>by subst e;have:=h.own;rw[hg] at this;cases this;exact hr rfl
 refine⟨h.own,?_,?_,?_,by rw[h3];exact h.ownh,?_,hw.keep (fun g hg=>Zai (ne hg (by simp)) _) (fun _ h=>h)⟩
 . rw[h1,h2,h3,<- hb];exact Zah h.blk _
 . rw[h1,hd];exact h.store.keepR (fun g r hg hr=>Zai (ne hg (by rintro rfl;simp[Zar,Zfi] at hr)) _) (fun _ _ h=>h)
 . rw[h2];exact h.memo.keep (fun g r hg hr=>Zai (ne hg (by rintro rfl;rcases hr with e|e<;>cases e)) _) (fun _ _ h=>h)
 . rw[h3,hh];exact h.map.keepB (Zai (ne h.ownh (by simp)) _)
end
abbrev Law:=Zag->(Nat->BF)->Phi
def minL (d:Zag)(a b c:Nat):Nat:=min (lvE d.vars.length (levN d) (Zab d) a) (min (lvE d.vars.length (levN d) (Zab d) b) (lvE d.vars.length (levN d) (Zab d) c))
structure IteP (d:Zag)(V:Nat->BF)(a b c r:Nat):Prop where
 okA:okE (Zab d) a
 okB:okE (Zab d) b
 okC:okE (Zab d) c
 okR:okE (Zab d) r
 val:∀ ρ,ef V r ρ=if ef V a ρ then ef V b ρ else ef V c ρ
 lev:minL d a b c<=lvE d.vars.length (levN d) (Zab d) r
structure Zec (K:Law):Prop where
 ite:∀ d V a b c r,K d V 1 a b c r↔IteP d V a b c r
 ext:∀ d V d' V' op a b c r,Zaq d V->Zaq d' V'->Ext d V d' V'->K d V op a b c r->K d' V' op a b c r
 same:∀ d d' V op a b c r,d'.vars=d.vars->d'.level=d.level->Zab d'=Zab d->K d V op a b c r->K d' V op a b c r
def Zb7 (hs:List (Int×Nat))(i:Nat):Nat:=(hs.filter fun p=>decide (1<p.1)&&p.2/2 == i).length
structure Zca (m:ManD):Prop where
 nodup:(m.hs.map Prod.fst).Nodup
 zero:(0,1)∈m.hs
 one:(1,0)∈m.hs
 lt:∀ p∈m.hs,0<=p.1/\p.1<m.next
 next:2<=m.next
 ok:∀ p∈m.hs,okE (Zab m.d) p.2
 len:(m.hs.length:Int)<=m.next
 refs:∀ i b,Zab m.d i=some b->Za0 m.d i=Zb7 m.hs i
structure Zsv (m:ManD)(V:Nat->BF):Prop where
 store:Zaq m.d V
 handles:Zca m
structure Step (K:Law)(o:Own)(w:World)(mb:Nat)(m:ManD)(V:Nat->BF)(o':Own)(w':World)(m':ManD)(V':Nat->BF):Prop where
 is:Zfo (K m'.d V') o' w' mb m'
 lt:Zal o' w'
 chg:Chg (fun _=>True) o o' w w'
 ok:Zaq m'.d V'
 ext:Ext m.d V m'.d V'
 hs:m'.hs=m.hs
 next:m'.next=m.next
theorem Step.trans {K:Law}{o o' o'':Own}{w w' w'':World}{mb:Nat}{m m' m'':ManD}{V V' V'':Nat->BF}(h:Step K o w mb m V o' w' m' V')(h':Step K o' w' mb m' V' o'' w'' m'' V''):Step K o w mb m V o'' w'' m'' V'' :=
 ⟨h'.is,h'.lt,h.chg.trans h'.chg,h'.ok,h.ext.trans h'.ext,h'.hs.trans h.hs,h'.next.trans h.next⟩
structure Zig (o:Own)(w:World)(xb mb:Nat):Prop where
 cell:w.cell? ⟨xb,0,none⟩=some (.pointer (some ⟨mb,0,none⟩))
 own:o xb=none
theorem Zig.chg {R:Role->Prop}{o o':Own}{w w':World}{xb mb:Nat}(h:Zig o w xb mb)(hc:Chg R o o' w w'):Zig o' w' xb mb:=⟨hc.cell h.cell h.own,hc.alien' (World.block_lt_of_cell? w _ h.cell) h.own⟩
open Go.RowKit
def sw1 (f g:Nat):Nat:=if g=f then 0 else if g=enot f then 1 else g
def sw2 (f h:Nat):Nat:=if h=f then 1 else if h=enot f then 0 else h
theorem Ybs {f g:Nat}(h:g<eMax):sw1 f g<eMax:=by unfold sw1;unfold eMax at *;split<;>(try split)<;>omega
theorem Ybt {f g:Nat}(h:g<eMax):sw2 f g<eMax:=by unfold sw2;unfold eMax at *;split<;>(try split)<;>omega
theorem eqE2 (w:World)(a b c d:Nat):(Op.equalIn 10000 291 (.agg #[.int .i64 a,.int .i64 b]) (.agg #[.int .i64 c,.int .i64 d])).run prog w=.ok (decide (a=c/\b=d)) w:=by
 have h:=eqE w (a,b) (c,d);unfold encE Op.equal at h;simp only[Prod.mk.injEq] at h;exact h
structure IteR where
 a:Nat
 b:Nat
 c:Nat
 n:Bool
 r:Nat
 dn:Bool
def iteV (x:IteR):Value:=.tuple #[.int .i64 x.a,.int .i64 x.b,.int .i64 x.c,.bool x.n,.int .i64 x.r,.bool x.dn]
def iteM (f g h:Nat):IteR:=if eneg f then ⟨enot f,eflip h (eneg h),eflip g (eneg h),eneg h,0,false⟩ else ⟨f,eflip g (eneg g),eflip h (eneg g),eneg g,0,false⟩
def iteK (f g h:Nat):IteR :=
 if f=0\/g=h then ⟨0,0,0,false,g,true⟩ else if f=1 then ⟨0,0,0,false,h,true⟩ else if g=0/\h=1 then ⟨0,0,0,false,f,true⟩ else if g=1/\h=0 then ⟨0,0,0,false,enot f,true⟩ else iteM f g h
def iteR (f g h:Nat):IteR:=iteK f (sw1 f g) (sw2 f h)
theorem Zc2 {fn:Func}{t u v x y z:Tmp}(h:fn.results=#[.tmp t,.tmp u,.tmp v,.tmp x,.tmp y,.tmp z])(tmps:Array Value)(P:Program)(w:World) :
 (results fn tmps).run P w=.ok (.tuple #[tmps.getD t undef,tmps.getD u undef,tmps.getD v undef,tmps.getD x undef,tmps.getD y undef,tmps.getD z undef]) w:=by
 simp[results,h]
theorem Yap (f g h:Nat)(w:World)(hf:f<eMax)(hg:g<eMax)(hh:h<eMax) :
 Calls prog 190 #[.int .i64 f,.int .i64 g,.int .i64 h] w fun x w'=>x=.returned (iteV (iteR f g h))/\w=w':=by
 have HN:=Hd (fun W:World=>Zrf f W hf);have g3:=Hd (Ybs (f:=f) hg);have HH:=Hd hh;have g2:=Hd (Ybt (f:=f) hh);have g9:=Hd hf;clear hf hg hh
 go_enter func190,ntmps190
 go_upto_block 0 with fail
 go_cut [1] from 13 (fun s1 wx=>s1=.int .i64 (sw1 f g:Nat)/\wx=w)
 case first =>
  by_cases h1:g=f
  .
   have HX:Hid ((sw1 f g:Nat)=0):=by show _=_;simp[sw1,h1]
   subst h1;go_wp2_with fail;go_meet;exact⟨by rw[HX.out];rfl,rfl⟩
  .
   have H1:(g == f)=false:=by simp[h1]
   by_cases h2:g=enot f
   .
    have HX:Hid ((sw1 f g:Nat)=1):=by show _=_;unfold sw1;rw[if_neg h1,if_pos h2]
    subst h2;clear h1;go_wp2_with (go_at_call 108;refine(HN.out _).mono ?_;rintro x w' ⟨rfl,rfl⟩);go_meet;exact⟨by rw[HX.out];rfl,rfl⟩
   .
    have HX:Hid ((sw1 f g:Nat)=g):=by show _=_;unfold sw1;rw[if_neg h1,if_neg h2]
    have H2:(g == enot f)=false:=by simp[h2]
    clear h1 h2;go_wp2_with (go_at_call 108;refine(HN.out _).mono ?_;rintro x w' ⟨rfl,rfl⟩);go_meet;exact⟨by rw[HX.out],rfl⟩
 case rest =>
  obtain⟨rfl,rfl⟩:=hcut;have g0:Hid (iteR f g h=iteK f (sw1 f g) (sw2 f h)):=by show _=_;rfl
  obtain⟨g',g4⟩:∃ g',g'=sw1 f g:=⟨_,rfl⟩;rw[<- g4] at g0;rw[<- g4] at g3 ⊢;clear g4
  go_upto_block 1 with fail
  go_cut [2] from 13 (fun s2 wx=>s2=.int .i64 (sw2 f h:Nat)/\wx=wc)
  case first =>
   by_cases h1:h=f
   .
    have HX:Hid ((sw2 f h:Nat)=1):=by show _=_;simp[sw2,h1]
    subst h1;go_wp2_with fail;go_meet;exact⟨by rw[HX.out];rfl,rfl⟩
   .
    have H1:(h == f)=false:=by simp[h1]
    by_cases h2:h=enot f
    .
     have HX:Hid ((sw2 f h:Nat)=0):=by show _=_;unfold sw2;rw[if_neg h1,if_pos h2]
     subst h2;clear h1;go_wp2_with (go_at_call 108;refine(HN.out _).mono ?_;rintro x w' ⟨rfl,rfl⟩);go_meet;exact⟨by rw[HX.out];rfl,rfl⟩
    .
     have HX:Hid ((sw2 f h:Nat)=h):=by show _=_;unfold sw2;rw[if_neg h1,if_neg h2]
     have H2:(h == enot f)=false:=by simp[h2]
     clear h1 h2;go_wp2_with (go_at_call 108;refine(HN.out _).mono ?_;rintro x w' ⟨rfl,rfl⟩);go_meet;exact⟨by rw[HX.out],rfl⟩
  case rest =>
   obtain⟨rfl,rfl⟩:=hcut;obtain⟨h',g5⟩:∃ h',h'=sw2 f h:=⟨_,rfl⟩;rw[<- g5] at g0 g2 ⊢;clear g5
   rename World=>w
   have hq:=fun(a b c d:Nat)=>eqE2 w a b c d
   by_cases f0:f=0
   .
    have HR:Hid (iteR f g h=⟨0,0,0,false,g',true⟩):=by show _=_;rw[g0.out,iteK,if_pos (.inl f0)]
    subst f0;go_wp2_with fail;refine bodyPost_ret (Zc2 rfl _ _ _) rfl ?_;exact⟨by rw[HR.out];rfl,rfl⟩
   .
    have H0:((f:Int) == 0)=false:=by simp[f0]
    by_cases e1:g'=h'
    .
     have HR:Hid (iteR f g h=⟨0,0,0,false,g',true⟩):=by show _=_;rw[g0.out,iteK,if_pos (.inr e1)]
     subst e1;go_wp2_with fail;refine bodyPost_ret (Zc2 rfl _ _ _) rfl ?_;exact⟨by rw[HR.out];rfl,rfl⟩
    .
     have H1:(g' == h')=false:=by simp[e1]
     by_cases f1:f=1
     .
      have HR:Hid (iteR f g h=⟨0,0,0,false,h',true⟩):=by show _=_;rw[g0.out,iteK,if_neg (by simp[f0,e1]),if_pos f1]
      have HR:=HR;subst f1;clear f0 e1;go_wp2_with fail;refine bodyPost_ret (Zc2 rfl _ _ _) rfl ?_;exact⟨by rw[HR.out];rfl,rfl⟩
     .
      have H2:((f:Int) == 1)=false:=by simp;omega
      by_cases q1:g'=0/\h'=1
      .
       have HR:Hid (iteR f g h=⟨0,0,0,false,f,true⟩):=by show _=_;rw[g0.out,iteK,if_neg (by simp[f0,e1]),if_neg f1,if_pos q1]
       have g8:(Op.equalIn 10000 291 (.agg #[.int .i64 g',.int .i64 h']) (.agg #[.int .i64 0,.int .i64 1])).run prog w=.ok true w:=(hq g' h' 0 1).trans (by simp[q1]);clear f0 e1 f1 q1 hq;go_wp2_with fail;refine bodyPost_ret (Zc2 rfl _ _ _) rfl ?_;exact⟨by rw[HR.out];rfl,rfl⟩
      .
       have g8:(Op.equalIn 10000 291 (.agg #[.int .i64 g',.int .i64 h']) (.agg #[.int .i64 0,.int .i64 1])).run prog w=.ok false w:=(hq g' h' 0 1).trans (by simp[q1])
       by_cases q2:g'=1/\h'=0
       .
        have HR:Hid (iteR f g h=⟨0,0,0,false,enot f,true⟩):=by show _=_;rw[g0.out,iteK,if_neg (by simp[f0,e1]),if_neg f1,if_neg q1,if_pos q2]
        have g7:(Op.equalIn 10000 291 (.agg #[.int .i64 g',.int .i64 h']) (.agg #[.int .i64 1,.int .i64 0])).run prog w=.ok true w:=(hq g' h' 1 0).trans (by simp[q2]);clear f0 e1 f1 q1 hq q2;go_wp2_with (go_at_call 108;refine(HN.out _).mono ?_;rintro x w' ⟨rfl,rfl⟩);refine bodyPost_ret (Zc2 rfl _ _ _) rfl ?_;exact⟨by rw[HR.out];rfl,rfl⟩
       .
        have g7:(Op.equalIn 10000 291 (.agg #[.int .i64 g',.int .i64 h']) (.agg #[.int .i64 1,.int .i64 0])).run prog w=.ok false w:=(hq g' h' 1 0).trans (by simp[q2]);have g6:Hid (iteR f g h=iteM f g' h'):=by show _=_;rw[g0.out,iteK,if_neg (by simp[f0,e1]),if_neg f1,if_neg q1,if_neg q2]
        clear f0 e1 f1 q1 hq q2;have g1:=Hd (fun W:World=>Zk7 f W g9.out);cases hb:eneg f with
        | true =>
          have HR:Hid (iteR f g h=⟨enot f,eflip h' (eneg h'),eflip g' (eneg h'),eneg h',0,false⟩):=by show _=_;rw[g6.out,iteM,if_pos hb]
          rw[hb] at g1;clear hb;go_wp2_with fail;refine(g1.out _).mono ?_;rintro x w' ⟨rfl,rfl⟩;go_wp2_with fail;refine(HN.out _).mono ?_;rintro x w' ⟨rfl,rfl⟩;go_wp2_with fail;refine(Zk7 h' _ g2.out).mono ?_;rintro x w' ⟨rfl,rfl⟩;go_wp2_with fail;refine(Zdf h' _ _ g2.out).mono ?_;rintro x w' ⟨rfl,rfl⟩;go_wp2_with fail;refine(Zdf g' _ _ g3.out).mono ?_;rintro x w' ⟨rfl,rfl⟩;go_wp2_with fail;refine bodyPost_ret (Zc2 rfl _ _ _) rfl ?_;exact⟨by rw[HR.out];rfl,rfl⟩
        | false =>
          have HR:Hid (iteR f g h=⟨f,eflip g' (eneg g'),eflip h' (eneg g'),eneg g',0,false⟩):=by show _=_;rw[g6.out,iteM,if_neg (by simp[hb])]
          rw[hb] at g1;clear hb;go_wp2_with fail;refine(g1.out _).mono ?_;rintro x w' ⟨rfl,rfl⟩;go_wp2_with fail;refine(Zk7 g' _ g3.out).mono ?_;rintro x w' ⟨rfl,rfl⟩;go_wp2_with fail;refine(Zdf g' _ _ g3.out).mono ?_;rintro x w' ⟨rfl,rfl⟩;go_wp2_with fail;refine(Zdf h' _ _ g2.out).mono ?_;rintro x w' ⟨rfl,rfl⟩;go_wp2_with fail;refine bodyPost_ret (Zc2 rfl _ _ _) rfl ?_;exact⟨by rw[HR.out];rfl,rfl⟩
end Go.Proofs.YtkbegdkpboklpaaGreat

namespace Go.Proofs.YtkbegdkpboklpaaGreat
open Go.Proofs.Tryz
def Zeg (e f g h:Nat):Prop:=e/2=0\/e/2=f/2\/e/2=g/2\/e/2=h/2
def iteB (a b c:Bool):Bool:=if a then b else c
section
variable {V:Nat->BF}(hV:∀ ρ,V 0 ρ=true)
theorem Zi3 (hV:∀ ρ,V 0 ρ=true)(ρ:Nat->Bool):ef V 0 ρ=true:=by simp[ef,hV]
theorem Zmf (hV:∀ ρ,V 0 ρ=true)(ρ:Nat->Bool):ef V 1 ρ=false:=by simp[ef,hV]
theorem Zzp (hV:∀ ρ,V 0 ρ=true)(f g:Nat)(h:Bool)(ρ:Nat->Bool):iteB (ef V f ρ) (ef V (sw1 f g) ρ) h=iteB (ef V f ρ) (ef V g ρ) h:=by
 unfold sw1
 by_cases e1:g=f
 . subst e1;rw[if_pos rfl,Zi3 hV];unfold iteB;cases ef V g ρ<;>rfl
 .
  by_cases e2:g=enot f
  . subst e2;rw[if_neg e1,if_pos rfl,Zi2,Zmf hV];unfold iteB;cases ef V f ρ<;>rfl
  . rw[if_neg e1,if_neg e2]
end
theorem Zzq {V:Nat->BF}(hV:∀ ρ,V 0 ρ=true)(f h:Nat)(g:Bool)(ρ:Nat->Bool):iteB (ef V f ρ) g (ef V (sw2 f h) ρ)=iteB (ef V f ρ) g (ef V h ρ):=by
 unfold sw2
 by_cases e1:h=f
 . subst e1;rw[if_pos rfl,Zmf hV];unfold iteB;cases ef V h ρ<;>rfl
 .
  by_cases e2:h=enot f
  . subst e2;rw[if_neg e1,if_pos rfl,Zi2,Zi3 hV];unfold iteB;cases ef V f ρ<;>rfl
  . rw[if_neg e1,if_neg e2]
theorem Zsl (f g:Nat):sw1 f g/2=0\/sw1 f g/2=g/2:=by unfold sw1;split<;>(try split)<;>simp
theorem Zsm (f g:Nat):sw2 f g/2=0\/sw2 f g/2=g/2:=by unfold sw2;split<;>(try split)<;>simp
theorem Zpe {f g h:Nat}(hd:(iteR f g h).dn=true):Zeg (iteR f g h).r f g h/\∀ {V:Nat->BF},(∀ ρ,V 0 ρ=true)->∀ ρ,ef V (iteR f g h).r ρ=iteB (ef V f ρ) (ef V g ρ) (ef V h ρ):=by
 have q1:=Zsl f g;have q2:=Zsm f h;have key:∀ {V:Nat->BF},(∀ ρ,V 0 ρ=true)->∀ ρ,iteB (ef V f ρ) (ef V g ρ) (ef V h ρ)=iteB (ef V f ρ) (ef V (sw1 f g) ρ) (ef V (sw2 f h) ρ):=fun hV ρ=>by rw[Zzp hV,Zzq hV]
 unfold iteR at hd ⊢
 generalize sw1 f g=g' at *
 generalize sw2 f h=h' at *
 unfold iteK at hd ⊢
 by_cases e1:f=0\/g'=h'
 .
  simp only[if_pos e1];refine⟨by unfold Zeg;omega,fun hV ρ=>?_⟩;rw[key hV];rcases e1 with e|e
  . subst e;rw[Zi3 hV];rfl
  . subst e;unfold iteB;split<;>rfl
 .
  simp only[if_neg e1] at hd ⊢
  by_cases e2:f=1
  . simp only[if_pos e2];refine⟨by unfold Zeg;omega,fun hV ρ=>?_⟩;rw[key hV];subst e2;rw[Zmf hV];rfl
  .
   simp only[if_neg e2] at hd ⊢
   by_cases e3:g'=0/\h'=1
   . simp only[if_pos e3];refine⟨by unfold Zeg;omega,fun hV ρ=>?_⟩;rw[key hV,e3.1,e3.2,Zmf hV,Zi3 hV];unfold iteB;cases ef _ f ρ<;>rfl
   .
    simp only[if_neg e3] at hd ⊢
    by_cases e4:g'=1/\h'=0
    . simp only[if_pos e4];have:=Zgw f;refine⟨by unfold Zeg;omega,fun hV ρ=>?_⟩;rw[key hV,e4.1,e4.2,Zmf hV,Zi3 hV,Zi2];unfold iteB;cases ef _ f ρ<;>rfl
    . simp only[if_neg e4] at hd;unfold iteM at hd;split at hd<;>cases hd
theorem Zvv {f g h:Nat}(hd:(iteR f g h).dn=false):Zeg (iteR f g h).a f g h/\Zeg (iteR f g h).b f g h/\Zeg (iteR f g h).c f g h/\(iteR f g h).a/2≠0 /\
 ∀ {V:Nat->BF},(∀ ρ,V 0 ρ=true)->∀ ρ,iteB (ef V f ρ) (ef V g ρ) (ef V h ρ)=((iteR f g h).n != iteB (ef V (iteR f g h).a ρ) (ef V (iteR f g h).b ρ) (ef V (iteR f g h).c ρ)):=by
 have q1:=Zsl f g;have q2:=Zsm f h;have key:∀ {V:Nat->BF},(∀ ρ,V 0 ρ=true)->∀ ρ,iteB (ef V f ρ) (ef V g ρ) (ef V h ρ)=iteB (ef V f ρ) (ef V (sw1 f g) ρ) (ef V (sw2 f h) ρ):=fun hV ρ=>by rw[Zzp hV,Zzq hV]
 unfold iteR at hd ⊢
 generalize sw1 f g=g' at *
 generalize sw2 f h=h' at *
 unfold iteK at hd ⊢
 by_cases e1:f=0\/g'=h'
 . simp[if_pos e1] at hd
 .
  by_cases e2:f=1
  . simp[if_neg e1,if_pos e2] at hd
  .
   by_cases e3:g'=0/\h'=1
   . simp[if_neg e1,if_neg e2,if_pos e3] at hd
   .
    by_cases e4:g'=1/\h'=0
    . simp[if_neg e1,if_neg e2,if_neg e3,if_pos e4] at hd
    .
     simp only[if_neg e1,if_neg e2,if_neg e3,if_neg e4];unfold iteM
     by_cases e5:eneg f=true
     . simp only[if_pos e5];have a1:=Zgw f;have a2:=Zc5 h' (eneg h');have a3:=Zc5 g' (eneg h');refine⟨by unfold Zeg;omega,by unfold Zeg;omega,by unfold Zeg;omega,by omega,fun hV ρ=>?_⟩;rw[key hV,Zi2,Zde,Zde];unfold iteB;cases ef _ f ρ<;>cases eneg h'<;>simp
     . simp only[if_neg e5];have a2:=Zc5 h' (eneg g');have a3:=Zc5 g' (eneg g');refine⟨by unfold Zeg;omega,by unfold Zeg;omega,by unfold Zeg;omega,by omega,fun hV ρ=>?_⟩;rw[key hV,Zde,Zde];unfold iteB;cases ef _ f ρ<;>cases eneg g'<;>simp
open Go.RowKit
def atV (d:Zag)(f:Nat):Value :=
 match Zab d (f/2) with
 | some b=>.tuple #[.int .i64 b.v,.int .i64 (eflip b.lo (eneg f):Nat),.int .i64 (eflip b.hi (eneg f):Nat),.bool true]
 | none=>.tuple #[.int .i64 (-1),.int .i64 0,.int .i64 0,.bool false]
theorem Zhp {o:Own}{w:World}{sb:Nat}{d:Zag}{V:Nat->BF}(h:Zax o w sb d)(hlt:Zal o w)(hk:Zaq d V)(f:Nat)(hf:okE (Zab d) f) :
 Calls prog 183 #[.pointer (some ⟨sb,0,none⟩),.int .i64 f] w fun x w'=>x=.returned (atV d f)/\Below w.heap.size w w':=by
 obtain⟨s,h⟩:=h;have lt:∀ e,okE (Zab d) e->e<eMax:=fun e he=>by have:=h.edge_lt he;unfold eMax;omega
 cases hb:Zab d (f/2) with
 | none =>
   have ht:d.pool.tk (enode f)=false:=Zg3 hb;have hz:d.pool.has (enode f)=rn0:=by unfold Zao.has;rw[ht];rfl
   refine(Zlj h hlt f (lt f hf) (by rw[hz];decide) (by rw[hz];decide)).mono ?_;rintro x w' ⟨rfl,g1⟩;exact⟨by simp[ht,atV,hb],g1⟩
 | some b =>
   have hn:=Za9 hb;have ht:d.pool.tk (enode f)=true:=hn.1;have g0:bnOf (d.pool.has (enode f))=b:=hn.2.2;have e1:(d.pool.has (enode f)).v=b.v:=by rw[<- g0];rfl
   have e2:(d.pool.has (enode f)).lo=b.lo:=by rw[<- g0];rfl
   have e3:(d.pool.has (enode f)).hi=b.hi:=by rw[<- g0];rfl
   refine(Zlj h hlt f (lt f hf) (by rw[e2];exact lt _ (hk.dag.okLo _ _ hb)) (by rw[e3];exact lt _ (hk.dag.okHi _ _ hb))).mono ?_;rintro x w' ⟨rfl,g1⟩;exact⟨by simp[ht,atV,hb,e1,e2,e3],g1⟩
theorem Zax.below {o:Own}{w w':World}{sb:Nat}{d:Zag}(h:Zax o w sb d)(hlt:Zal o w)(hb:Below w.heap.size w w'):Zax o w' sb d:=by
 obtain⟨s,h⟩:=h;exact⟨s,h.below hlt hb⟩
theorem Zoq {F:Phi}{o:Own}{w:World}{xb mb:Nat}{m:ManD}{V:Nat->BF}(h:Zfo F o w mb m)(hx:Zig o w xb mb)(hk:Zaq m.d V)(v:Int) :
 Calls prog 205 #[.pointer (some ⟨xb,0,none⟩),.int .i64 v] w fun x w'=>x=.returned (.int .i64 (Zgl m.d v))/\w=w':=by
 obtain⟨s,h⟩:=h;obtain⟨st,g0⟩:=h.store;obtain⟨c0,c1,c2,c3,c4,c5,f0⟩:=cells6 h.blk;have HL:=Hd (Zic g0 v (by rw[g0.len];have:=hk.small;omega));have cx:=hx.cell;clear h g0 hx hk
 go_enter func205,ntmps205
 go_wp2_with fail;refine HL.out.mono ?_;rintro x w' ⟨rfl,rfl⟩;go_wp2_with fail;go_ret;exact⟨rfl,rfl⟩
def cofs (d:Zag)(f:Nat)(v:Int):Nat×Nat :=
 match Zab d (f/2) with
 | some b=>if (b.v:Int)=v then (eflip b.lo (eneg f),eflip b.hi (eneg f)) else (f,f)
 | none=>(f,f)
theorem Zos {F:Phi}{o:Own}{w:World}{xb mb:Nat}{m:ManD}{V:Nat->BF}(h:Zfo F o w mb m)(hlt:Zal o w)(hx:Zig o w xb mb)(hk:Zaq m.d V)(f:Nat)(hf:okE (Zab m.d) f)(v:Int) :
 Calls prog 165 #[.pointer (some ⟨xb,0,none⟩),.int .i64 f,.int .i64 v] w fun x w'=>x=.returned (.tuple #[.int .i64 (cofs m.d f v).1,.int .i64 (cofs m.d f v).2])/\Below w.heap.size w w':=by
 obtain⟨s,h⟩:=h;obtain⟨c0,c1,c2,c3,c4,c5,f0⟩:=cells6 h.blk;have HA:=Hd (Zhp h.store hlt hk f hf);have cx:=hx.cell;clear h hx hk hlt hf;unfold atV at HA;unfold cofs;cases hb:Zab m.d (f/2) with
 | none =>
   rw[hb] at HA;clear hb
   go_enter func165,ntmps165
   go_wp2_with fail;refine HA.out.mono ?_;rintro x w' ⟨rfl,hb⟩;have HB:=Hd hb;clear hb;go_wp2_with fail
   go_ret2
   exact⟨rfl,HB.out⟩
 | some b =>
   rw[hb] at HA;clear hb
   by_cases e:(b.v:Int)=v
   .
    subst e;have HE:Hid ((if (b.v:Int)=b.v then (eflip b.lo (eneg f),eflip b.hi (eneg f)) else (f,f))=(eflip b.lo (eneg f),eflip b.hi (eneg f))):=by show _=_;rw[if_pos rfl]
    go_enter func165,ntmps165
    go_wp2_with fail;refine HA.out.mono ?_;rintro x w' ⟨rfl,hb⟩;have HB:=Hd hb;clear hb;go_wp2_with fail
    go_ret2
    exact⟨by first|rfl|(rw[HE.out];rfl),HB.out⟩
   .
    have HE:Hid ((if (b.v:Int)=v then (eflip b.lo (eneg f),eflip b.hi (eneg f)) else (f,f))=(f,f)):=by show _=_;rw[if_neg e]
    have H1:((b.v:Int) == v)=false:=by simpa using e
    go_enter func165,ntmps165
    go_wp2_with fail;refine HA.out.mono ?_;rintro x w' ⟨rfl,hb⟩;have HB:=Hd hb;clear hb;go_wp2_with fail
    go_ret2
    exact⟨by first|rfl|(rw[HE.out];rfl),HB.out⟩
def TopS (d:Zag)(zs:List Nat)(top least:Int):Prop :=
 (top = -1/\least=0/\∀ e∈zs,Zab d (e/2)=none) \/
 ∃ v:Nat,top=v/\least=(levN d v:Nat)/\v<d.vars.length/\(∃ e∈zs,∃ b,Zab d (e/2)=some b/\b.v=v)/\∀ e∈zs,levN d v<=lvE d.vars.length (levN d) (Zab d) e
theorem TopS.none {d:Zag}{zs:List Nat}{top least:Int}{e:Nat}(h:TopS d zs top least)(hl:∀ v,v<d.vars.length->levN d v<d.vars.length)(he:Zab d (e/2)=none):TopS d (zs++[e]) top least:=by
 rcases h with ⟨h1,h2,h3⟩|⟨v,h1,h2,h3,⟨e0,g0,hb⟩,h5⟩
 .
  refine .inl ⟨h1,h2,fun x hx=>?_⟩;rcases List.mem_append.1 hx with hx|hx
  . exact h3 x hx
  . simp at hx;subst hx;exact he
 .
  refine .inr ⟨v,h1,h2,h3,⟨e0,by simp[g0],hb⟩,fun x hx=>?_⟩;rcases List.mem_append.1 hx with hx|hx
  . exact h5 x hx
  . simp at hx;subst hx;unfold lvE;rw[he];exact Nat.le_of_lt (hl v h3)
theorem TopS.keep {d:Zag}{zs:List Nat}{v:Nat}{least:Int}{e:Nat}{b:BN}(h:TopS d zs v least)(he:Zab d (e/2)=some b)(hle:¬ ((levN d b.v:Nat):Int)<least):TopS d (zs++[e]) v least:=by
 rcases h with ⟨h1,h2,h3⟩|⟨u,h1,h2,h3,⟨e0,g0,hb⟩,h5⟩
 . omega
 .
  obtain rfl:v=u:=by omega
  refine .inr ⟨v,rfl,h2,h3,⟨e0,by simp[g0],hb⟩,fun x hx=>?_⟩;rcases List.mem_append.1 hx with hx|hx
  . exact h5 x hx
  . simp at hx;subst hx;unfold lvE;rw[he];dsimp only;omega
theorem TopS.take {d:Zag}{zs:List Nat}{top least:Int}{e:Nat}{b:BN}(h:TopS d zs top least)(hv:b.v<d.vars.length)(hl:∀ v,v<d.vars.length->levN d v<d.vars.length)(he:Zab d (e/2)=some b)(hle:top<0\/((levN d b.v:Nat):Int)<least):TopS d (zs++[e]) b.v (levN d b.v:Nat):=by
 refine .inr ⟨b.v,rfl,rfl,hv,⟨e,by simp,b,he,rfl⟩,fun x hx=>?_⟩;rcases List.mem_append.1 hx with hx|hx
 .
  rcases h with ⟨h1,h2,h3⟩|⟨u,h1,h2,h3,⟨e0,g0,hb⟩,h5⟩
  . unfold lvE;rw[h3 x hx];exact Nat.le_of_lt (hl _ hv)
  . have:=h5 x hx;omega
 . simp at hx;subst hx;unfold lvE;rw[he];exact Nat.le_refl _
theorem Zpi {d:Zag}{v:Nat}(h:v<d.level.length):Zgl d v=(levN d v:Nat):=by unfold Zgl;rw[if_pos ⟨by omega,by omega⟩];rfl
theorem Zs1 {F:Phi}{o:Own}{w:World}{xb mb:Nat}{m:ManD}{V:Nat->BF}(h:Zfo F o w mb m)(hlt:Zal o w)(hx:Zig o w xb mb)(hk:Zaq m.d V)(zs:List Nat)(hz:∀ e∈zs,okE (Zab m.d) e)(a:Option Addr)(c:Nat)(hzs:Za4 w a (zs.map Int.ofNat)) :
 Calls prog 164 #[.pointer (some ⟨xb,0,none⟩),.slice a zs.length c] w fun x w'=>∃ top least,x=.returned (.int .i64 top)/\TopS m.d zs top least/\Below w.heap.size w w':=by
 obtain⟨s,h⟩:=h;obtain⟨st,gd⟩:=h.store;have gi:m.d.level.length=m.d.vars.length:=gd.len;have HM:=Hd h;have HX:=Hd hx;have g5:=Hd hlt;have HK:=Hd hk;have HZ:=Hd hz;have gl:=Hd hzs;have gj:=hzs.len;simp only[List.length_map] at gj;clear h gd hx hlt hk hz hzs
 go_enter func164,ntmps164
 go_wp2_with fail
 go_loopw [5,6,15] (fun s5 s6 i wr=>∃ (k:Nat) (top least:Int),k<=zs.length/\i=.int .i64 k/\s5=.int .i64 top/\s6=.int .i64 least/\TopS m.d (zs.take k) top least/\Below w.heap.size w wr) (fun _ _ i _=>zs.length-(intOf i).toNat)
 case atStart=>exact⟨0,-1,0,by omega,rfl,rfl,rfl,.inl ⟨rfl,rfl,by simp⟩,Below.refl _ _⟩
 case round =>
  obtain⟨k,top,least,hk,rfl,rfl,rfl,hT,hB⟩:=hrel
  by_cases g2:k<zs.length
  .
   obtain⟨b0,off,ha,g3⟩:=(gl.out.below hB).cells k (by simpa using g2);subst ha;have he:at0 (zs.map Int.ofNat) k=(zs[k]:Int):=by rw[Za8 (by simpa using g2)];simp
   rw[he] at g3;have g8:zs[k]∈zs:=List.getElem_mem g2;have g6:zs.take (k+1)=zs.take k++[zs[k]]:=by rw[List.take_add_one,List.getElem?_eq_getElem g2];rfl
   have g7:=HZ.out _ g8;obtain⟨f,hf⟩:∃ f,f=zs[k]:=⟨_,rfl⟩;rw[<- hf] at g3 g7 g6;obtain⟨c0,c1,c2,c3,c4,c5,f0⟩:=cells6 ((HM.out.below g5.out hB).blk);have cx:wr.cell? ⟨xb,0,none⟩=_:=(hB.cell (p:=⟨xb,0,none⟩) (Zaa HX.out.cell)).trans HX.out.cell;have HA:=Hd (Zhp ((HM.out.below g5.out hB).store) (g5.out.mono hB.size) HK.out f g7);have g4:=Hd g6;have HT:=Hd hT;have HB:=Hd hB;have gn:(k:Int)<zs.length:=by omega
   clear hf g8 he hT hB g7 g6;unfold atV at HA;have ga:Hid (∀ v,v<m.d.vars.length->levN m.d v<m.d.vars.length):=Hd HK.out.dag.lt;have gg:=Hd (fun W hb v=>Zoq ⟨s,HM.out.below g5.out hb⟩ (o:=o) (w:=W) (xb:=xb) (mb:=mb) ⟨(hb.cell (p:=⟨xb,0,none⟩) (Zaa HX.out.cell)).trans HX.out.cell,HX.out.own⟩ HK.out v);cases hb:Zab m.d (f/2) with
   | none =>
     rw[hb] at HA;have HN:=Hd hb;clear hb;go_wp2_with fail;refine HA.out.mono ?_;rintro x w' ⟨rfl,g0⟩;have HB2:=Hd (HB.out.trans (g0.mono HB.out.size));clear g0;go_wp2_with fail;go_roundw
     case rel=>exact⟨k+1,top,least,by omega,by simp,rfl,rfl,by rw[g4.out];exact HT.out.none ga.out HN.out,HB2.out⟩
     case measure=>simp[intOf];omega
   | some b =>
     rw[hb] at HA;have HN:=Hd hb;have g9:=HK.out.dag.var _ _ hb;have ge:Zgl m.d b.v=(levN m.d b.v:Nat):=Zpi (by rw[gi];exact g9);have gh:=Hd g9;have g1:=Hd (fun W hb=>gg.out W hb b.v);rw[ge] at g1;clear hb g9 ge gg
     by_cases ht:top<0
     .
      have gm:=Hd ht;go_wp2_with fail;refine HA.out.mono ?_;rintro x w' ⟨rfl,g0⟩;have HB2:=Hd (HB.out.trans (g0.mono HB.out.size));clear g0;go_wp2_with fail;refine(g1.out _ HB2.out).mono ?_;rintro x w'' ⟨rfl,rfl⟩;go_wp2_with fail;go_roundw
      case rel=>exact⟨k+1,_,_,by omega,by simp,rfl,rfl,by rw[g4.out];exact HT.out.take gh.out ga.out HN.out (.inl gm.out),HB2.out⟩
      case measure=>simp[intOf];omega
     .
      by_cases gf:((levN m.d b.v:Nat):Int)<least
      .
       have gc:=Hd gf;go_wp2_with fail;refine HA.out.mono ?_;rintro x w' ⟨rfl,g0⟩;have HB2:=Hd (HB.out.trans (g0.mono HB.out.size));clear g0;go_wp2_with fail;refine(g1.out _ HB2.out).mono ?_;rintro x w'' ⟨rfl,rfl⟩;go_wp2_with fail;refine(g1.out _ HB2.out).mono ?_;rintro x w'' ⟨rfl,rfl⟩;go_wp2_with fail;go_roundw
       case rel=>exact⟨k+1,_,_,by omega,by simp,rfl,rfl,by rw[g4.out];exact HT.out.take gh.out ga.out HN.out (.inr gc.out),HB2.out⟩
       case measure=>simp[intOf];omega
      .
       obtain⟨tn,gk⟩:∃ tn:Nat,top=tn:=⟨top.toNat,by omega⟩;subst gk;have gc:=Hd gf;go_wp2_with fail;refine HA.out.mono ?_;rintro x w' ⟨rfl,g0⟩;have HB2:=Hd (HB.out.trans (g0.mono HB.out.size));clear g0;go_wp2_with fail;refine(g1.out _ HB2.out).mono ?_;rintro x w'' ⟨rfl,rfl⟩;go_wp2_with fail;go_roundw
       case rel=>exact⟨k+1,_,_,by omega,by simp,rfl,rfl,by rw[g4.out];exact HT.out.keep HN.out (by have:=gc.out;omega),HB2.out⟩
       case measure=>simp[intOf];omega
  .
   obtain rfl:k=zs.length:=by omega
   have HT:=Hd hT;have HB:=Hd hB;clear hT hB;go_wp2_with fail;go_ret;exact⟨top,least,rfl,by have:=HT.out;rwa [List.take_length] at this,HB.out⟩
open Go.RowKit
def Zeo (er:Int)(event:Bool)(ev:Ev):Ending:=.panicked [{ v:=.iface 245 (.agg #[.int .i64 er,.bool event,.int .i64 ev.after,.int .i64 ev.kind,.int .i64 ev.level]),recovered:=false }]
def ev0:Ev:=⟨0,0,0⟩
def Zcy (c:Int):Int:=wrap64 (c+1)
def Zoh (d:Zag)(v:Int)(lo hi:Nat)(er:Int):Prop :=
 (er=9/\¬ (0<=v/\v<d.vars.length)) \/
 (er=10/\0<=v/\v<d.vars.length/\(lvE d.vars.length (levN d) (Zab d) lo<=levN d v.toNat\/lvE d.vars.length (levN d) (Zab d) hi<=levN d v.toNat)) \/
 (er=7/\d.pool.many=d.pool.room)
def Zih (K:Law)(o:Own)(w:World)(mb:Nat)(m:ManD)(V:Nat->BF)(v:Int)(lo hi:Nat)(e:Ending)(w':World):Prop :=
 ∃ o' m' V',Step K o w mb m V o' w' m' V' /\
  ((∃ ev,m.waits=ev::m'.waits/\ev.after<=Zcy m.calls/\m'.calls=0/\m'.d=m.d/\V'=V/\e=Zeo 0 true ev) \/
   (m'.waits=m.waits/\m'.calls=Zcy m.calls/\(∀ ev ws,m.waits=ev::ws->Zcy m.calls<ev.after) /\
    ((∃ er,Zoh m.d v lo hi er/\m'.d=m.d/\V'=V/\e=Zeo er false ev0) \/
     (0<=v/\v<m.d.vars.length/\∃ r:Nat,e=.returned (.int .i64 r)/\okE (Zab m'.d) r/\ef V' r=iteF v.toNat (ef V hi) (ef V lo) /\
      levN m.d v.toNat<=lvE m.d.vars.length (levN m'.d) (Zab m'.d) r/\m'.d.pool.many<=m.d.pool.many+1))))
theorem Chg.ofDrewN {R:Role->Prop}{o o':Own}{w w':World}{n:Nat}(h:Chg R o o' (w.drewN n) w'):Chg R o o' w w':=⟨h.os,h.tape,h.output,h.size,h.block,h.ext,h.new⟩
theorem Zh1 {w w':World}{n:Nat}(h:Below (w.drewN n).heap.size (w.drewN n) w'):Below w.heap.size w w':=⟨h.os,h.tape,h.output,h.size,h.block⟩
theorem Chg.any {R:Role->Prop}{o o':Own}{w w':World}(h:Chg R o o' w w'):Chg (fun _=>True) o o' w w':=h.mono fun _ _=>trivial
theorem Zxt {K:Law}{o:Own}{w:World}{xb mb:Nat}{m:ManD}{V:Nat->BF}(hK:Zec K)(h:Zfo (K m.d V) o w mb m)(hlt:Zal o w)(hx:Zig o w xb mb)(hk:Zaq m.d V)(v:Int)(lo hi:Nat)(hlo:okE (Zab m.d) lo)(hhi:okE (Zab m.d) hi)
 (hdue:∀ ev ws,m.waits=ev::ws->Zcy m.calls<ev.after) :
 Calls prog 139 #[.pointer (some ⟨xb,0,none⟩),.int .i64 v,.int .i64 lo,.int .i64 hi] w (Zih K o w mb m V v lo hi):=by
 obtain⟨s,h⟩:=h;obtain⟨c0,c1,c2,c3,c4,c5,f0⟩:=cells6 h.blk;have cx:=hx.cell;obtain⟨W,hW⟩:∃ W,W=w.setCell ⟨mb,5,none⟩ (.int .i64 (Zcy m.calls)):=⟨_,rfl⟩;have g2:Zcg (K m.d V) o W mb { m with calls:=Zcy m.calls } s:=by rw[hW];exact h.field rfl rfl rfl rfl rfl h.waits rfl
 have g5:Chg (fun _=>True) o o w W:=by rw[hW];exact(Chg.refl _ o w).setCell (p:=⟨mb,5,none⟩) h.own trivial _
 have g4:Zal o W:=hlt.mono g5.size;have gg:=hx.chg g5;obtain⟨d0,d1,d2,d3,d4,d5,g0⟩:=cells6 g2.blk;have dx:=gg.cell;obtain⟨aw,cw,g9,ga⟩:=g2.waits.slice;have gj:(m.waits=[]/\True)\/∃ ev ws,m.waits=ev::ws:=by cases m.waits with
  | nil=>exact .inl ⟨rfl,trivial⟩
  | cons ev ws=>exact .inr ⟨ev,ws,rfl⟩
 have HK:=Hd hK;have ge:=Hd g5;have g7:=Hd g4;have g6:=Hd g2;have gd:=Hd hk;have gh:Hid (∀ n,Calls prog 189 #[.pointer (some ⟨s.sb,0,none⟩),.int .i64 v,.int .i64 lo,.int .i64 hi] (W.drewN n) (Zfq o (W.drewN n) s.sb m.d V v lo hi)) :=
  Hd fun n=>Zrk (g2.store.below g4 (Zaf W n)) (g4.mono (Zaf W n).size) hk v lo hi hlo hhi
 have g1:=Hd hdue;have HW:Hid (w.setCell ⟨mb,5,none⟩ (.int .i64 (wrap64 (m.calls+1)))=W):=Hd hW.symm;have gi:5≠4:=by decide
 clear h hlt hx hk hlo hhi g2 g5 g4 gg hW hdue
 go_enter func139,ntmps139
 go_upto_region 3 with fail;rw[HW.out];obtain⟨cu,g3⟩:∃ cu,cu=wrap64 (m.calls+1):=⟨_,rfl⟩;have d5':W.cell? ⟨mb,5,none⟩=some (.int .i64 cu):=by rw[g3];exact d5
 have gl:Hid (Zcy m.calls=cu):=Hd g3.symm;rw[<- g3];clear c0 c1 c2 c3 c4 c5 f0 cx gi d5 g3;have STE:Hid (∀ w',Below W.heap.size W w'->Step K o w mb m V o w' { m with calls:=Zcy m.calls } V) :=
  Hd fun w' hb=>⟨⟨s,g6.out.below g7.out hb⟩,g7.out.mono hb.size,ge.out.trans (Chg.of_below hb _ _),gd.out,Ext.refl _ _,rfl,rfl⟩
 rcases gj with ⟨hw0,_⟩|⟨ev,ws,g8⟩
 .
  rw[g9] at d4;dsimp only at d4;rw[hw0] at d4;have d4':W.cell? ⟨mb,4,none⟩=some (.slice aw 0 cw):=d4;clear d4 hw0 g9 ga
  go_quiet (fail)
  go_wp2_with fail;refine(gh.out nq).mono ?_;rintro x w' (⟨q1,rfl,q2⟩|⟨q1,q2,q3,rfl,q4⟩|⟨q1,rfl,q2⟩|⟨q1,q2,r,d',V',o',rfl,q4,q5,q6,q7,q8,q9,q10,q11,q12⟩)
  . have H1:=Hd (STE.out w' (Zh1 q2));have H2:Hid (Zoh m.d v lo hi 9):=Hd (.inl ⟨rfl,q1⟩);clear q1 q2;go_wp2_with fail;refine⟨rfl,o,_,V,H1.out,.inr ⟨rfl,rfl,g1.out,.inl ⟨9,H2.out,rfl,rfl,rfl⟩⟩⟩
  . have H1:=Hd (STE.out w' (Zh1 q4));have H2:Hid (Zoh m.d v lo hi 10):=Hd (.inr (.inl ⟨rfl,q1,q2,q3⟩));clear q1 q2 q3 q4;go_wp2_with fail;refine⟨rfl,o,_,V,H1.out,.inr ⟨rfl,rfl,g1.out,.inl ⟨10,H2.out,rfl,rfl,rfl⟩⟩⟩
  . have H1:=Hd (STE.out w' (Zh1 q2));have H2:Hid (Zoh m.d v lo hi 7):=Hd (.inr (.inr ⟨rfl,q1⟩));clear q1 q2;go_wp2_with fail;refine⟨rfl,o,_,V,H1.out,.inr ⟨rfl,rfl,g1.out,.inl ⟨7,H2.out,rfl,rfl,rfl⟩⟩⟩
  . have H1:Hid (Step K o w mb m V o' w' { m with calls:=Zcy m.calls,d:=d' } V'):=Hd ⟨⟨s,(g6.out.setStore g7.out q4 q12.ofDrewN).mono fun op a b c r h=>HK.out.ext _ _ _ _ _ _ _ _ _ gd.out q6 q7 h⟩,q5,ge.out.trans q12.ofDrewN.any,q6,q7,rfl,rfl⟩;have H2:Hid (_/\_/\_/\_/\_/\_):=Hd ⟨q1,q2,q8,q9,q10,q11⟩;clear q1 q2 q4 q5 q6 q7 q8 q9 q10 q11 q12;go_wp2_with fail;go_ret;obtain⟨a1,a2,a3,a4,a5,a6⟩:=H2.out;exact⟨o',_,V',H1.out,.inr ⟨rfl,rfl,g1.out,.inr ⟨a1,a2,r,rfl,a3,a4,a5,a6⟩⟩⟩
 .
  have gc:=g6.out.waits;have e0:({ m with calls:=Zcy m.calls }:ManD).waits=ev::ws:=g8;rw[e0] at gc;obtain⟨g,off,cap,gf,gk,gm,gn,k0,k1,k2,_⟩:=gc.first
  have hlt:¬ ev.after<=cu:=by have:=g1.out ev ws g8;rw[gl.out] at this;omega
  rw[gf] at d4;have hp:(0:Int)<((ws.length+1:Nat):Int):=by omega
  clear g9 gf ga gc e0 g8 gk
  go_quiet (fail)
  go_wp2_with fail;refine(gh.out nq).mono ?_;rintro x w' (⟨q1,rfl,q2⟩|⟨q1,q2,q3,rfl,q4⟩|⟨q1,rfl,q2⟩|⟨q1,q2,r,d',V',o',rfl,q4,q5,q6,q7,q8,q9,q10,q11,q12⟩)
  . have H1:=Hd (STE.out w' (Zh1 q2));have H2:Hid (Zoh m.d v lo hi 9):=Hd (.inl ⟨rfl,q1⟩);clear q1 q2;go_wp2_with fail;refine⟨rfl,o,_,V,H1.out,.inr ⟨rfl,rfl,g1.out,.inl ⟨9,H2.out,rfl,rfl,rfl⟩⟩⟩
  . have H1:=Hd (STE.out w' (Zh1 q4));have H2:Hid (Zoh m.d v lo hi 10):=Hd (.inr (.inl ⟨rfl,q1,q2,q3⟩));clear q1 q2 q3 q4;go_wp2_with fail;refine⟨rfl,o,_,V,H1.out,.inr ⟨rfl,rfl,g1.out,.inl ⟨10,H2.out,rfl,rfl,rfl⟩⟩⟩
  . have H1:=Hd (STE.out w' (Zh1 q2));have H2:Hid (Zoh m.d v lo hi 7):=Hd (.inr (.inr ⟨rfl,q1⟩));clear q1 q2;go_wp2_with fail;refine⟨rfl,o,_,V,H1.out,.inr ⟨rfl,rfl,g1.out,.inl ⟨7,H2.out,rfl,rfl,rfl⟩⟩⟩
  . have H1:Hid (Step K o w mb m V o' w' { m with calls:=Zcy m.calls,d:=d' } V'):=Hd ⟨⟨s,(g6.out.setStore g7.out q4 q12.ofDrewN).mono fun op a b c r h=>HK.out.ext _ _ _ _ _ _ _ _ _ gd.out q6 q7 h⟩,q5,ge.out.trans q12.ofDrewN.any,q6,q7,rfl,rfl⟩;have H2:Hid (_/\_/\_/\_/\_/\_):=Hd ⟨q1,q2,q8,q9,q10,q11⟩;clear q1 q2 q4 q5 q6 q7 q8 q9 q10 q11 q12;go_wp2_with fail;go_ret;obtain⟨a1,a2,a3,a4,a5,a6⟩:=H2.out;exact⟨o',_,V',H1.out,.inr ⟨rfl,rfl,g1.out,.inr ⟨a1,a2,r,rfl,a3,a4,a5,a6⟩⟩⟩
open Go.RowKit
theorem Zvc {K:Law}{o:Own}{w:World}{xb mb:Nat}{m:ManD}{V:Nat->BF}(h:Zfo (K m.d V) o w mb m)(hlt:Zal o w)(hx:Zig o w xb mb)(hk:Zaq m.d V)(v:Int)(lo hi:Nat){ev:Ev}{ws:List Ev}
 (hw1:m.waits=ev::ws) (hdue:ev.after<=Zcy m.calls) :
 Calls prog 139 #[.pointer (some ⟨xb,0,none⟩),.int .i64 v,.int .i64 lo,.int .i64 hi] w (Zih K o w mb m V v lo hi):=by
 obtain⟨s,h⟩:=h;obtain⟨c0,c1,c2,c3,c4,c5,f0⟩:=cells6 h.blk;have cx:=hx.cell;obtain⟨W,hW⟩:∃ W,W=w.setCell ⟨mb,5,none⟩ (.int .i64 (Zcy m.calls)):=⟨_,rfl⟩;have ge:Zcg (K m.d V) o W mb { m with calls:=Zcy m.calls } s:=by rw[hW];exact h.field rfl rfl rfl rfl rfl h.waits rfl
 have gj:Chg (fun _=>True) o o w W:=by rw[hW];exact(Chg.refl _ o w).setCell (p:=⟨mb,5,none⟩) h.own trivial _
 have gv:Zal o W:=hlt.mono gj.size;obtain⟨d0,d1,d2,d3,d4,d5,g0⟩:=cells6 ge.blk;have gg:mb<W.heap.size:=Zaa d0;have gh:=ge.waits;have e0:({ m with calls:=Zcy m.calls }:ManD).waits=ev::ws:=hw1;rw[e0] at gh;obtain⟨g,off,cap,gp,gB,gE,gG,k0,k1,k2,g8⟩:=gh.first
 rw[gp] at d4;have hp:(0:Int)<((ws.length+1:Nat):Int):=by omega
 have gA:=Hd gj;have gf:=Hd gv;have gz:=Hd ge;have gD:=Hd hk;have gy:=Hd g8;have HW1:=Hd hw1;have HD:=Hd hdue;have HW:Hid (w.setCell ⟨mb,5,none⟩ (.int .i64 (wrap64 (m.calls+1)))=W):=Hd hW.symm;clear h hlt hx hk ge gj gv hW g8 gh e0 gp gB hw1
 go_enter func139,ntmps139
 go_upto_region 3 with fail;rw[HW.out];obtain⟨cu,ga⟩:∃ cu,cu=wrap64 (m.calls+1):=⟨_,rfl⟩;have d5':W.cell? ⟨mb,5,none⟩=some (.int .i64 cu):=by rw[ga];exact d5
 have gF:ev.after<=cu:=by rw[ga];exact hdue
 rw[<- ga];clear c0 c1 c2 c3 c4 c5 f0 cx d5 ga hdue
 go_quiet (fail)
 obtain⟨W2,gi⟩:∃ W2,W2=W.drewN nq:=⟨_,rfl⟩;have g1:Below W.heap.size W W2:=by rw[gi];exact Zaf W nq
 rw[<- gi];have g6:=Hd (gz.out.below gf.out g1);have g3:=Hd (gf.out.mono g1.size);have go:=Hd (gA.out.trans (Chg.of_below g1 _ _));have d4':W2.cell? ⟨mb,4,none⟩=_:=(g1.cell (p:=⟨mb,4,none⟩) gg).trans d4;have g9:g<W.heap.size:=Zaa k0;have l0:W2.cell? ⟨g,off,none⟩=_:=(g1.cell (p:=⟨g,off,none⟩) g9).trans k0;have l1:W2.cell? ⟨g,off+1,none⟩=_:=(g1.cell (p:=⟨g,off+1,none⟩) g9).trans k1;have l2:W2.cell? ⟨g,off+2,none⟩=_:=(g1.cell (p:=⟨g,off+2,none⟩) g9).trans k2;have gl:=Hd (gy.out.keep (w':=W2) (o':=o) (fun q hq=>g1.block q (gf.out q _ hq)) (fun _ h=>h));clear gi k0 k1 k2 d0 d1 d2 d3 d4 d5' g0 g1 gz gf gA gy HW;obtain⟨d0,d1,d2,d3,_,d5,g0⟩:=cells6 g6.out.blk;have gg:mb<W2.heap.size:=Zaa d0;have g9:g<W2.heap.size:=Zaa l0;go_upto_region 5 with fail;obtain⟨bx,gc⟩:∃ bx,bx=W2.heap.size:=⟨_,rfl⟩;obtain⟨W3,gd⟩:∃ W3,W3=W2.alloc (.cells #[.int .i64 ev.after,.int .i64 ev.kind,.int .i64 ev.level] 120):=⟨_,rfl⟩;have g4:Below W2.heap.size W2 W3:=by rw[gd];exact Zad W2 _
 have gt:o bx=none:=by rw[gc];exact g3.out.none (Nat.le_refl _)
 have x3:W3.heap[bx]?=some (.cells #[.int .i64 ev.after,.int .i64 ev.kind,.int .i64 ev.level] 120 (0,0)):=by rw[gd,gc];exact heap_alloc_new W2 _
 rw[<- gd,<- gc];have g2:=Hd (g6.out.below g3.out g4);have gm:=Hd (g3.out.mono g4.size);have gn:=Hd (go.out.trans (Chg.of_below g4 _ _));have d4:W3.cell? ⟨mb,4,none⟩=_:=(g4.cell (p:=⟨mb,4,none⟩) gg).trans d4';have gk:=Hd (gl.out.keep (w':=W3) (o':=o) (fun q hq=>g4.block q (g3.out q _ hq)) (fun _ h=>h));clear gd gc l0 l1 l2 d0 d1 d2 d3 d4' d5 g0 g4 g6 g3 go gl;obtain⟨d0,d1,d2,d3,_,d5,g0⟩:=cells6 g2.out.blk;have gr:bx≠mb:=by rintro rfl;rw[g2.out.own] at gt;cases gt
 obtain⟨W4,g5⟩:∃ W4,W4=(W3.setCell ⟨mb,4,none⟩ (.slice (if cap=1 then some ⟨g,off,none⟩ else some ⟨g,off+3,none⟩) ws.length (cap-1))).setCell ⟨mb,5,none⟩ (.int .i64 0):=⟨_,rfl⟩;have gu:Zcg (K m.d V) o W4 mb { m with calls:=0,waits:=ws } { s with vw:=.slice (if cap=1 then some ⟨g,off,none⟩ else some ⟨g,off+3,none⟩) ws.length (cap-1) }:=by
  have a1:=g2.out.field (k:=4) (u:=.slice (if cap=1 then some ⟨g,off,none⟩ else some ⟨g,off+3,none⟩) ws.length (cap-1)) (m':={ m with calls:=Zcy m.calls,waits:=ws }) (s':={ s with vw:=.slice (if cap=1 then some ⟨g,off,none⟩ else some ⟨g,off+3,none⟩) ws.length (cap-1) }) rfl rfl rfl rfl rfl gk.out rfl;have a2:=a1.field (k:=5) (u:=.int .i64 0) (m':={ m with calls:=0,waits:=ws }) (s':={ s with vw:=.slice (if cap=1 then some ⟨g,off,none⟩ else some ⟨g,off+3,none⟩) ws.length (cap-1) }) rfl rfl rfl rfl rfl a1.waits rfl;rw[g5];exact a2
 have gw:Chg (fun _=>True) o o w W4:=by rw[g5];exact(gn.out.setCell (p:=⟨mb,4,none⟩) g2.out.own trivial _).setCell (p:=⟨mb,5,none⟩) g2.out.own trivial _
 have g7:W4.heap[bx]?=some (.cells #[.int .i64 ev.after,.int .i64 ev.kind,.int .i64 ev.level] 120 (0,0)):=by rw[g5];exact(Zai gr _).trans ((Zai gr _).trans x3)
 have gq:Step K o w mb m V o W4 { m with calls:=0,waits:=ws } V:=⟨⟨_,gu⟩,gm.out.mono (by rw[g5];simp[World.setCell]),gw,gD.out,Ext.refl _ _,rfl,rfl⟩;have gC:=Hd gq;have y0:W4.cell? ⟨bx,0,none⟩=some (.int .i64 ev.after):=by rw[cell_of_row W4 bx 0 _ _ _ g7];rfl
 have y1:W4.cell? ⟨bx,1,none⟩=some (.int .i64 ev.kind):=by rw[cell_of_row W4 bx 1 _ _ _ g7];rfl
 have y2:W4.cell? ⟨bx,2,none⟩=some (.int .i64 ev.level):=by rw[cell_of_row W4 bx 2 _ _ _ g7];rfl
 have gx:=Hd g5;clear gu gw g7 gq g5;go_upto_region 6 with fail;rw[<- gx.out];clear gx d0 d1 d2 d3 d4 d5 g0 x3 g2 gm gn gk;go_wp2_with fail
 all_goals exact⟨rfl,o,_,V,gC.out,.inl ⟨ev,HW1.out,HD.out,rfl,rfl,rfl,rfl⟩⟩
theorem Zor {K:Law}{o:Own}{w:World}{xb mb:Nat}{m:ManD}{V:Nat->BF}(hK:Zec K)(h:Zfo (K m.d V) o w mb m)(hlt:Zal o w)(hx:Zig o w xb mb)(hk:Zaq m.d V)(v:Int)(lo hi:Nat)(hlo:okE (Zab m.d) lo)(hhi:okE (Zab m.d) hi) :
 Calls prog 139 #[.pointer (some ⟨xb,0,none⟩),.int .i64 v,.int .i64 lo,.int .i64 hi] w (Zih K o w mb m V v lo hi):=by
 by_cases hd:∀ ev ws,m.waits=ev::ws->Zcy m.calls<ev.after
 . exact Zxt hK h hlt hx hk v lo hi hlo hhi hd
 .
  cases hw:m.waits with
  | nil=>exact absurd (fun ev ws e=>by rw[hw] at e;cases e) hd
  | cons ev ws=>exact Zvc h hlt hx hk v lo hi hw (Int.not_lt.1 fun hl=>hd fun ev' ws' e=>by rw[hw] at e;cases e;exact hl)
end Go.Proofs.YtkbegdkpboklpaaGreat

namespace Go.Proofs.YtkbegdkpboklpaaGreat
open Go.Proofs.Tryz
section
variable {d d':Zag}{V V':Nat->BF}
theorem Zk2 (hk:Zaq d V){e:Nat}(h:e/2=0):lvE d.vars.length (levN d) (Zab d) e=d.vars.length:=by unfold lvE;rw[h,hk.dag.none0]
theorem Zhj {e f:Nat}(h:e/2=f/2):lvE d.vars.length (levN d) (Zab d) e=lvE d.vars.length (levN d) (Zab d) f:=by unfold lvE;rw[h]
theorem Zi9 {N:Nat->Option BN}{e f:Nat}(h:e/2=f/2)(hf:okE N f):okE N e:=by unfold okE;rw[h];exact hf
theorem Zf4 (hk:Zaq d V){f v:Nat}(hf:okE (Zab d) f)(hv:v<d.vars.length)(hl:levN d v<=lvE d.vars.length (levN d) (Zab d) f) :
 okE (Zab d) (cofs d f v).1/\okE (Zab d) (cofs d f v).2/\levN d v<lvE d.vars.length (levN d) (Zab d) (cofs d f v).1/\levN d v<lvE d.vars.length (levN d) (Zab d) (cofs d f v).2 /\
  ∀ ρ,ef V f ρ=if ρ v then ef V (cofs d f v).2 ρ else ef V (cofs d f v).1 ρ:=by
 unfold cofs;cases hb:Zab d (f/2) with
 | none =>
   have g0:levN d v<lvE d.vars.length (levN d) (Zab d) f:=by unfold lvE;rw[hb];exact hk.dag.lt v hv
   exact⟨hf,hf,g0,g0,fun ρ=>by simp⟩
 | some b =>
   by_cases e:(b.v:Int)=v
   .
    have e':b.v=v:=by omega
    simp only[if_pos e];refine⟨Zea (hk.dag.okLo _ _ hb),Zea (hk.dag.okHi _ _ hb),?_,?_,fun ρ=>?_⟩
    . rw[Zd7,<- e'];exact hk.dag.lvLo _ _ hb
    . rw[Zd7,<- e'];exact hk.dag.lvHi _ _ hb
    . rw[Zde,Zde];have h1:=hk.dag.eqn _ _ hb;unfold eneg;have h2:ef V f ρ=((f%2 == 1) != V (f/2) ρ):=rfl;rw[h2,h1];simp only[iteF,e'];split<;>rfl
   .
    simp only[if_neg e];have g0:levN d v<lvE d.vars.length (levN d) (Zab d) f:=by
     rcases Nat.lt_or_eq_of_le hl with h|h
     . exact h
     . exfalso;unfold lvE at h;rw[hb] at h;have:=hk.dag.inj _ _ hv (hk.dag.var _ _ hb) h;exact e (by omega)
    exact⟨hf,hf,g0,g0,fun ρ=>by simp⟩
theorem Zwd (hk:Zaq d V)(f g h:Nat):minL d f g h<=d.vars.length:=by unfold minL;have:=hk.dag.lvE_le f;omega
theorem Zq8 {k f g h:Nat}(h1:k<=lvE d.vars.length (levN d) (Zab d) f)(h2:k<=lvE d.vars.length (levN d) (Zab d) g)(h3:k<=lvE d.vars.length (levN d) (Zab d) h):k<=minL d f g h:=by unfold minL;omega
theorem Zeg.ok (hk:Zaq d V){e f g h:Nat}(hi:Zeg e f g h)(hf:okE (Zab d) f)(hg:okE (Zab d) g)(hh:okE (Zab d) h) :
 okE (Zab d) e/\minL d f g h<=lvE d.vars.length (levN d) (Zab d) e:=by
 rcases hi with e0|e0|e0|e0
 . exact⟨.inl e0,by rw[Zk2 hk e0];exact Zwd hk f g h⟩
 . exact⟨Zi9 e0 hf,by rw[Zhj e0];unfold minL;omega⟩
 . exact⟨Zi9 e0 hg,by rw[Zhj e0];unfold minL;omega⟩
 . exact⟨Zi9 e0 hh,by rw[Zhj e0];unfold minL;omega⟩
structure IteS (d:Zag)(V:Nat->BF)(f0 g0 h0:Nat)(f g h:Nat)(nt:Bool):Prop where
 okF:okE (Zab d) f
 okG:okE (Zab d) g
 okH:okE (Zab d) h
 lev:minL d f0 g0 h0<=minL d f g h
 val:∀ ρ,iteB (ef V f0 ρ) (ef V g0 ρ) (ef V h0 ρ)=(nt != iteB (ef V f ρ) (ef V g ρ) (ef V h ρ))
theorem IteS.start {f g h:Nat}(hf:okE (Zab d) f)(hg:okE (Zab d) g)(hh:okE (Zab d) h):IteS d V f g h f g h false:=⟨hf,hg,hh,Nat.le_refl _,fun ρ=>by simp⟩
theorem IteS.next {f0 g0 h0 f g h:Nat}{nt:Bool}(hk:Zaq d V)(s:IteS d V f0 g0 h0 f g h nt)(hd:(iteR f g h).dn=false) :
 IteS d V f0 g0 h0 (iteR f g h).a (iteR f g h).b (iteR f g h).c (nt != (iteR f g h).n)/\(iteR f g h).a/2≠0:=by
 obtain⟨ha,hb,hc,hn,hv⟩:=Zvv hd;obtain⟨a1,a2⟩:=ha.ok hk s.okF s.okG s.okH;obtain⟨b1,b2⟩:=hb.ok hk s.okF s.okG s.okH;obtain⟨c1,c2⟩:=hc.ok hk s.okF s.okG s.okH;refine⟨⟨a1,b1,c1,Nat.le_trans s.lev (Zq8 a2 b2 c2),fun ρ=>?_⟩,hn⟩;rw[s.val,hv hk.dag.one];cases nt<;>cases (iteR f g h).n<;>simp
theorem IteS.answer {f0 g0 h0 f g h r:Nat}{nt:Bool}(s:IteS d V f0 g0 h0 f g h nt)(h1:okE (Zab d) f0)(h2:okE (Zab d) g0)(h3:okE (Zab d) h0)(hr:okE (Zab d) r)(hl:minL d f g h<=lvE d.vars.length (levN d) (Zab d) r)
 (hv:∀ ρ,ef V r ρ=iteB (ef V f ρ) (ef V g ρ) (ef V h ρ)):IteP d V f0 g0 h0 (eflip r nt) :=
 ⟨h1,h2,h3,Zea hr,fun ρ=>by rw[Zde,hv,<- s.val];rfl,by rw[Zd7];exact Nat.le_trans s.lev hl⟩
theorem IteS.done {f0 g0 h0 f g h:Nat}{nt:Bool}(hk:Zaq d V)(s:IteS d V f0 g0 h0 f g h nt)(h1:okE (Zab d) f0)(h2:okE (Zab d) g0)(h3:okE (Zab d) h0)(hd:(iteR f g h).dn=true):IteP d V f0 g0 h0 (eflip (iteR f g h).r nt):=by
 obtain⟨hh,hv⟩:=Zpe hd;obtain⟨q1,q2⟩:=hh.ok hk s.okF s.okG s.okH;exact s.answer h1 h2 h3 q1 q2 (hv hk.dag.one)
theorem Ext.minL (x:Ext d V d' V')(hk:Zaq d V)(hk':Zaq d' V'){f g h:Nat}(hf:okE (Zab d) f)(hg:okE (Zab d) g)(hh:okE (Zab d) h):minL d' f g h=Go.Proofs.YtkbegdkpboklpaaGreat.minL d f g h:=by
 unfold Go.Proofs.YtkbegdkpboklpaaGreat.minL;rw[x.vars,x.lvE hf hk.dag.none0 hk'.dag.none0,x.lvE hg hk.dag.none0 hk'.dag.none0,x.lvE hh hk.dag.none0 hk'.dag.none0]
theorem IteS.ext {f0 g0 h0 f g h:Nat}{nt:Bool}(s:IteS d V f0 g0 h0 f g h nt)(x:Ext d V d' V')(hk:Zaq d V)(hk':Zaq d' V')(h1:okE (Zab d) f0)(h2:okE (Zab d) g0)(h3:okE (Zab d) h0):IteS d' V' f0 g0 h0 f g h nt :=
 ⟨x.ok s.okF,x.ok s.okG,x.ok s.okH,by rw[x.minL hk hk' h1 h2 h3,x.minL hk hk' s.okF s.okG s.okH];exact s.lev,fun ρ=>by rw[x.ef s.okF,x.ef s.okG,x.ef s.okH,x.ef h1,x.ef h2,x.ef h3];exact s.val ρ⟩
theorem IteP.ext {f g h r:Nat}(s:IteP d V f g h r)(x:Ext d V d' V')(hk:Zaq d V)(hk':Zaq d' V'):IteP d' V' f g h r :=
 ⟨x.ok s.okA,x.ok s.okB,x.ok s.okC,x.ok s.okR,fun ρ=>by rw[x.ef s.okA,x.ef s.okB,x.ef s.okC,x.ef s.okR];exact s.val ρ,
  by rw[x.minL hk hk' s.okA s.okB s.okC,x.vars,x.lvE s.okR hk.dag.none0 hk'.dag.none0];exact s.lev⟩
theorem Zx5 (hk:Zaq d V){f g h v lo hi r:Nat}(hf:okE (Zab d) f)(hg:okE (Zab d) g)(hh:okE (Zab d) h)(hv:v<d.vars.length)(hl:levN d v<=minL d f g h)
 (c1:∀ ρ,ef V lo ρ=iteB (ef V (cofs d f v).1 ρ) (ef V (cofs d g v).1 ρ) (ef V (cofs d h v).1 ρ)) (c2:∀ ρ,ef V hi ρ=iteB (ef V (cofs d f v).2 ρ) (ef V (cofs d g v).2 ρ) (ef V (cofs d h v).2 ρ))
 (hr:ef V r=iteF v (ef V hi) (ef V lo)) (ρ:Nat->Bool):ef V r ρ=iteB (ef V f ρ) (ef V g ρ) (ef V h ρ):=by
 have lf:=(Zf4 hk hf hv (by unfold minL at hl;omega)).2.2.2.2 ρ;have lg:=(Zf4 hk hg hv (by unfold minL at hl;omega)).2.2.2.2 ρ;have lh:=(Zf4 hk hh hv (by unfold minL at hl;omega)).2.2.2.2 ρ;rw[hr,lf,lg,lh];simp only[iteF];cases ρ v
 . simpa using c1 ρ
 . simpa using c2 ρ
theorem Zhd (x:Ext d V d' V')(h0:Zab d 0=none)(h0':Zab d' 0=none){f:Nat}(hf:okE (Zab d) f)(v:Int):cofs d' f v=cofs d f v:=by
 unfold cofs;rcases hf with h|⟨b,hb⟩
 . rw[h,h0,h0']
 . rw[hb,x.nodes _ _ hb]
end
open Go.RowKit
def Zup (K:Law)(k:Nat)(o:Own)(w:World)(mb:Nat)(m:ManD)(V:Nat->BF)(f g h:Nat)(e:Ending)(w':World):Prop :=
 ∃ o' m' V',Step K o w mb m V o' w' m' V' /\
  ((∃ r:Nat,e=.returned (.int .i64 r)/\IteP m'.d V' f g h r/\m'.waits=m.waits/\m'.d.pool.many+1<=m.d.pool.many+2^k) \/
   (e=Zeo 7 false ev0/\m'.waits=m.waits/\m'.d.pool.many=m'.d.pool.room/\m'.d.pool.many+2<=m.d.pool.many+2^k) \/
   (∃ ev,e=Zeo 0 true ev/\m.waits=ev::m'.waits))
def Zzv (K:Law)(k:Nat):Prop:=∀ (o:Own) (w:World) (xb mb:Nat) (m:ManD) (V:Nat->BF) (f g h:Nat),Zfo (K m.d V) o w mb m->Zal o w->Zig o w xb mb->Zaq m.d V ->
 okE (Zab m.d) f->okE (Zab m.d) g->okE (Zab m.d) h->m.d.vars.length<=minL m.d f g h+k ->
 Calls prog 141 #[.pointer (some ⟨xb,0,none⟩),.int .i64 f,.int .i64 g,.int .i64 h] w (Zup K k o w mb m V f g h)
theorem Zuf {K:Law}{o:Own}{w w':World}{mb:Nat}{m:ManD}{V:Nat->BF}(hm:Zfo (K m.d V) o w mb m)(hl:Zal o w)(hk:Zaq m.d V)(hb:Below w.heap.size w w'):Step K o w mb m V o w' m V:=by
 obtain⟨s,h⟩:=hm;exact⟨⟨s,h.below hl hb⟩,hl.mono hb.size,Chg.of_below hb _ _,hk,Ext.refl _ _,rfl,rfl⟩
theorem Step.below {K:Law}{o o':Own}{w w' w'':World}{mb:Nat}{m m':ManD}{V V':Nat->BF}(h:Step K o w mb m V o' w' m' V')(hb:Below w'.heap.size w' w''):Step K o w mb m V o' w'' m' V':=h.trans (Zuf h.is h.lt h.ok hb)
theorem top3 {d:Zag}{V:Nat->BF}(hk:Zaq d V){f g h:Nat}(hf:okE (Zab d) f)(hn:f/2≠0){top least:Int}(ht:TopS d [f,g,h] top least) :
 ∃ v:Nat,top=v/\v<d.vars.length/\levN d v=minL d f g h/\levN d v<d.vars.length:=by
 rcases ht with ⟨_,_,h3⟩|⟨v,h1,_,h3,⟨e,he,b,hb,g0⟩,h5⟩
 .
  exfalso;rcases hf with h0|⟨b,hb⟩
  . exact hn h0
  . rw[h3 f (by simp)] at hb;cases hb
 .
  refine⟨v,h1,h3,?_,hk.dag.lt v h3⟩;have e0:lvE d.vars.length (levN d) (Zab d) e=levN d v:=by unfold lvE;rw[hb,<- g0]
  have a1:=h5 f (by simp);have a2:=h5 g (by simp);have a3:=h5 h (by simp);simp only[List.mem_cons,List.not_mem_nil,or_false] at he;unfold minL;rcases he with rfl|rfl|rfl<;>omega
theorem Zks {K:Law}(hK:Zec K)(k:Nat)(IH:∀ k',k=k'+1->Zzv K k'):Zzv K k:=by
 intro o w xb mb m V f g h hm gT hx hk hf hg hh gF;obtain⟨st0,gO⟩:∃ s,Zap o w (Classical.choose hm).sb m.d s:=(Classical.choose_spec hm).store;have gq:Hid (∀ e,okE (Zab m.d) e->e<eMax):=Hd fun e he=>by have:=gO.edge_lt he;unfold eMax;omega
 have hq:=Hd hK;have HM:=Hd hm;have hb:=Hd gT;have HX:=Hd hx;have HK:=Hd hk;have HF:=Hd hf;have HG:=Hd hg;have HH:=Hd hh;have hY:=Hd gF;have h8:Hid (IteS m.d V f g h f g h false):=Hd (IteS.start hf hg hh);clear gO hm gT hx hk hf hg hh gF
 go_enter func141,ntmps141
 go_upto_block 0 with fail
 go_cut [1,2,3,9] from 27 (fun s1 s2 s3 s9 wx=>∃ (f' g' h':Nat) (nt:Bool),s1=.int .i64 f'/\s2=.int .i64 g'/\s3=.int .i64 h'/\s9=.bool nt/\IteS m.d V f g h f' g' h' nt/\f'/2≠0/\wx=w)
 case first =>
  go_wp2_with fail
  go_loopw [1,2,3,9,27] (fun s1 s2 s3 s9 i wr=>∃ (f' g' h':Nat) (nt:Bool) (j:Nat),s1=.int .i64 f'/\s2=.int .i64 g'/\s3=.int .i64 h'/\s9=.bool nt/\i=.int .i64 j/\j<=3/\IteS m.d V f g h f' g' h' nt/\(0<j->f'/2≠0)/\wr=w) (fun _ _ _ _ i _=>3-(intOf i).toNat)
  case atStart=>exact⟨f,g,h,false,0,rfl,rfl,rfl,rfl,rfl,by omega,h8.out,by omega,rfl⟩
  case round =>
   obtain⟨f',g',h',nt,j,rfl,rfl,rfl,rfl,rfl,hj,hS,hn,rfl⟩:=hrel;clear h8
   by_cases gT:j<3
   .
    have HI:=Hd (fun W:World=>Yap f' g' h' W (gq.out _ hS.okF) (gq.out _ hS.okG) (gq.out _ hS.okH));have gm:(iteR f' g' h').dn=true->(iteR f' g' h').r<eMax:=fun e=>gq.out _ (((Zpe e).1.ok HK.out hS.okF hS.okG hS.okH).1)
    have go:=fun e=>hS.next HK.out (f:=f') (g:=g') (h:=h') e
    have gp:=fun e=>hS.done HK.out HF.out HG.out HH.out e
    have kk:(j:Int)<3:=by omega
    unfold iteV at HI;obtain⟨R,hR⟩:∃ R,R=iteR f' g' h':=⟨_,rfl⟩;rw[<- hR] at HI gm go gp;clear hR hS hn;obtain⟨a,b,c,n,r,dn⟩:=R;dsimp only at HI gm go gp;cases dn with
    | true =>
      have gt:=Hd (fun W:World=>Zdf r nt W (gm rfl));have kj:=Hd (gp rfl);clear gm go gp;go_wp2_with fail;refine(HI.out _).mono ?_;rintro x w' ⟨rfl,rfl⟩;go_wp2_with fail;refine(gt.out _).mono ?_;rintro x w' ⟨rfl,rfl⟩;go_wp2_with fail;go_ret;exact⟨o,m,V,⟨HM.out,hb.out,Chg.refl _ _ _,HK.out,Ext.refl _ _,rfl,rfl⟩,.inl ⟨_,rfl,kj.out,rfl,by have:=Nat.one_le_two_pow (n:=k);omega⟩⟩
    | false =>
      have hM:(nt != n)=(!nt == n):=by cases nt<;>cases n<;>rfl
      have g8:=Hd (go rfl);rw[hM] at g8;clear gm go gp hM
      by_cases hE:a=f'
      .
       subst hE
       by_cases hp2:b=g'
       .
        subst hp2
        by_cases hD:c=h'
        . subst hD;go_wp2_with fail;refine(HI.out _).mono ?_;rintro x w' ⟨rfl,rfl⟩;go_wp2_with fail;go_meet;exact⟨_,_,_,_,rfl,rfl,rfl,rfl,g8.out.1,g8.out.2,by trivial⟩
        .
         have H3:(c == h')=false:=by simp[hD]
         go_wp2_with fail;refine(HI.out _).mono ?_;rintro x w' ⟨rfl,rfl⟩;go_wp2_with fail;go_roundw
         case rel=>exact⟨_,_,_,_,j+1,rfl,rfl,rfl,rfl,by simp,by omega,g8.out.1,fun _=>g8.out.2,by trivial⟩
         case measure=>simp[intOf];omega
       .
        have H2:(b == g')=false:=by simp[hp2]
        go_wp2_with fail;refine(HI.out _).mono ?_;rintro x w' ⟨rfl,rfl⟩;go_wp2_with fail;go_roundw
        case rel=>exact⟨_,_,_,_,j+1,rfl,rfl,rfl,rfl,by simp,by omega,g8.out.1,fun _=>g8.out.2,by trivial⟩
        case measure=>simp[intOf];omega
      .
       have H1:(a == f')=false:=by simp[hE]
       go_wp2_with fail;refine(HI.out _).mono ?_;rintro x w' ⟨rfl,rfl⟩;go_wp2_with fail;go_roundw
       case rel=>exact⟨_,_,_,_,j+1,rfl,rfl,rfl,rfl,by simp,by omega,g8.out.1,fun _=>g8.out.2,by trivial⟩
       case measure=>simp[intOf];omega
   .
    obtain rfl:j=3:=by omega
    have HS:=Hd hS;have HN:=Hd (hn (by omega));clear hS hn;go_wp2_with fail;go_meet;exact⟨f',g',h',nt,rfl,rfl,rfl,rfl,HS.out,HN.out,rfl⟩
 case rest =>
  obtain⟨f',g',h',nt,rfl,rfl,rfl,rfl,hS,hn,rfl⟩:=hcut
  rename World=>w
  clear h8;obtain⟨s,gC⟩:=HM.out;obtain⟨c0,c1,c2,c3,c4,c5,f0⟩:=cells6 gC.blk;have cx:=HX.out.cell;have k9:=Hd (Yak o s.me (K m.d V) 1 f' g' h' w gC.memo hb.out);have kf:=Hd gC;have HS:=Hd hS;have HN:=Hd hn;clear gC hS hn;go_wp2_with fail;refine k9.out.mono ?_;rintro x w1 ⟨kd,gj,gn,gf⟩;have h4:Zcg (K m.d V) o w1 mb m s:=kf.out.setMemo hb.out gj (gn.mono fun r e=>.inl e);have hQ:=HX.out.chg gn;have kr:=Hd gn.any;have kp:=Hd h4;have kn:=Hd hQ;have kq:=Hd gf;have gN:Step K o w mb m V o w1 m V:=⟨⟨s,h4⟩,gf,gn.any,HK.out,Ext.refl _ _,rfl,rfl⟩;have h7:=Hd gN;clear gj gn gf h4 hQ gN;rcases kd with rfl|⟨r,rfl,hH⟩
  .
   clear c0 c1 c2 c3 c4 c5 f0 cx;go_upto_region 14 with fail;obtain⟨w2,gB⟩:∃ w2,w2=w1.alloc (.cells #[.int .i64 f',.int .i64 g',.int .i64 h'] 151):=⟨_,rfl⟩;have hO:Below w1.heap.size w1 w2:=by rw[gB];exact Zad w1 _
   have hz:w2.heap[w1.heap.size]?=some (.cells #[.int .i64 f',.int .i64 g',.int .i64 h'] 151 (0,0)):=by rw[gB];exact heap_alloc_new w1 _
   have gD:Za4 w2 (some ⟨w1.heap.size,0,none⟩) ([f',g',h'].map Int.ofNat):=⟨by simp,fun j hj=>⟨w1.heap.size,0,rfl,by
    rw[cell_of_row w2 w1.heap.size (0+j) _ _ _ hz];simp at hj
    match j,hj with
    | 0,_=>rfl
    | 1,_=>rfl
    | 2,_=>rfl⟩⟩
   have gd:=h7.out.below hO;have hP:=HX.out.chg gd.chg;have h5:Hid (Calls prog 164 #[.pointer (some ⟨xb,0,none⟩),.slice (some ⟨w1.heap.size,0,none⟩) 3 3] w2 fun x w'=>∃ top least,x=.returned (.int .i64 top)/\TopS m.d [f',g',h'] top least/\Below w2.heap.size w2 w') :=
    Hd (Zs1 gd.is gd.lt hP HK.out [f',g',h'] (by simp;exact⟨HS.out.okF,HS.out.okG,HS.out.okH⟩) (some ⟨w1.heap.size,0,none⟩) 3 gD)
   have h6:=Hd gd;have hU:=Hd gB;clear hO hz gD gd hP gB;go_wp2_with fail;rw[<- hU.out];refine h5.out.mono ?_;rintro x w3 ⟨top,least,rfl,gJ,hN⟩;obtain⟨v,rfl,hv,gl,kb⟩:=top3 HK.out HS.out.okF HN.out gJ;have k6:=Hd (h6.out.below hN);have HV:=Hd hv;have hW:=Hd gl;obtain⟨k',gX⟩:∃ k',k=k'+1:=⟨k-1,by have h1:=hY.out;have h2:=HS.out.lev;omega⟩;have hX:=Hd (IH k' gX);have cf:=Zf4 HK.out HS.out.okF hv (by rw[gl];unfold minL;omega);have cg:=Zf4 HK.out HS.out.okG hv (by rw[gl];unfold minL;omega);have ch:=Zf4 HK.out HS.out.okH hv (by rw[gl];unfold minL;omega);have gf:levN m.d v+1<=minL m.d (cofs m.d f' v).1 (cofs m.d g' v).1 (cofs m.d h' v).1:=Zq8 cf.2.2.1 cg.2.2.1 ch.2.2.1;have hG:levN m.d v+1<=minL m.d (cofs m.d f' v).2 (cofs m.d g' v).2 (cofs m.d h' v).2:=Zq8 cf.2.2.2.1 cg.2.2.2.1 ch.2.2.2.1;have hJ:m.d.vars.length<=levN m.d v+1+k':=by have h1:=hY.out;have h2:=HS.out.lev;omega
   have gw:=Hd cf;have gv:=Hd cg;have gu:=Hd ch;have ho:=Hd gf;have hd:=Hd hG;have ht:=Hd hJ;have HKK:=Hd gX;have h9:Hid (∀ (W:World) (e:Nat),okE (Zab m.d) e->Step K o w mb m V o W m V->Calls prog 165 #[.pointer (some ⟨xb,0,none⟩),.int .i64 e,.int .i64 v] W fun x w'=>x=.returned (.tuple #[.int .i64 (cofs m.d e v).1,.int .i64 (cofs m.d e v).2])/\Step K o w mb m V o w' m V) :=
    Hd fun W e he st=>(Zos st.is st.lt (HX.out.chg st.chg) HK.out e he v).mono fun x w' ⟨h1,h2⟩=>⟨h1,st.below h2⟩
   clear gJ hN hv gl kb cf cg ch gf hG hJ gX h5 hU h6;go_wp2_with fail;refine(h9.out _ _ HS.out.okF k6.out).mono ?_;rintro x w4 ⟨rfl,gM⟩;have k5:=Hd gM;clear gM;go_wp2_with fail;refine(h9.out _ _ HS.out.okG k5.out).mono ?_;rintro x w5 ⟨rfl,gL⟩;have k4:=Hd gL;clear gL;go_wp2_with fail;refine(h9.out _ _ HS.out.okH k4.out).mono ?_;rintro x w6 ⟨rfl,gK⟩;have ga:=Hd gK;clear gK;go_wp2_with fail;refine(hX.out o w6 xb mb m V _ _ _ ga.out.is ga.out.lt (HX.out.chg ga.out.chg) HK.out gw.out.1 gv.out.1 gu.out.1 (by have h1:=ht.out;have h2:=ho.out;omega)).mono ?_;have gH:Hid (2^k=2^k'+2^k'):=by show _=_;rw[HKK.out,Nat.pow_succ];omega
   have ha:Hid (1<=2^k'):=Hd Nat.one_le_two_pow;rintro x w7 ⟨o7,m7,V7,st7,(⟨lo,rfl,hF,g5,gi⟩|⟨rfl,g5,gQ,gi⟩|⟨ev,rfl,g5⟩)⟩
   .
    have g2:=Hd (ga.out.trans st7);have gI:=Hd st7.ok;have g7:=Hd st7.ext;have gr:=Hd hF;have ge:=Hd g5;have gA:=Hd gi;have hI:m7.d.vars.length<=minL m7.d (cofs m.d f' v).2 (cofs m.d g' v).2 (cofs m.d h' v).2+k':=by
     rw[st7.ext.minL HK.out st7.ok gw.out.2.1 gv.out.2.1 gu.out.2.1,st7.ext.vars];have h1:=ht.out;have h2:=hd.out;omega
    have ki:=Hd hI;clear st7 hF g5 gi hI;go_wp2_with fail;refine(hX.out o7 w7 xb mb m7 V7 _ _ _ g2.out.is g2.out.lt (HX.out.chg g2.out.chg) gI.out (g7.out.ok gw.out.2.1) (g7.out.ok gv.out.2.1) (g7.out.ok gu.out.2.1) ki.out).mono ?_;rintro x w8 ⟨o8,m8,V8,st8,(⟨hi,rfl,gZ,g4,gh⟩|⟨rfl,g4,gP,gh⟩|⟨ev,rfl,g4⟩)⟩
    .
     have g1:=Hd (g2.out.trans st8);have hp:=Hd st8.ok;have g6:=Hd st8.ext;have hr:=Hd gZ;have gz:=Hd g4;have hc:=Hd gh;have hT:=Zor hq.out g1.out.is g1.out.lt (HX.out.chg g1.out.chg) st8.ok v lo hi (st8.ext.ok gr.out.okR) gZ.okR;have kg:=Hd hT;clear st8 gZ g4 gh hT;go_wp2_with fail;refine kg.out.mono ?_;have gU:levN m8.d v<lvE m8.d.vars.length (levN m8.d) (Zab m8.d) lo:=by
      have e1:=g6.out.lvE (n:=m8.d.vars.length) gr.out.okR gI.out.dag.none0 hp.out.dag.none0;have e2:=gr.out.lev;have e3:=g7.out.minL HK.out gI.out gw.out.1 gv.out.1 gu.out.1;have e4:=ho.out;have e5:=g7.out.lev;have e6:=g6.out.lev;have e7:=g6.out.vars;rw[e1,e6,e5,e7];rw[e5] at e2;omega
     have gY:levN m8.d v<lvE m8.d.vars.length (levN m8.d) (Zab m8.d) hi:=by
      have e2:=hr.out.lev;have x78:=g7.out.trans g6.out;have e3:=x78.minL HK.out hp.out gw.out.2.1 gv.out.2.1 gu.out.2.1;have e4:=hd.out;have e5:=x78.lev;rw[e5] at e2 ⊢;omega
     have hA:v<m8.d.vars.length:=by rw[(g7.out.trans g6.out).vars];exact HV.out
     have h0:∀ er,Zoh m8.d v lo hi er->er=7/\m8.d.pool.many=m8.d.pool.room:=by
      rintro er (⟨_,h1⟩|⟨_,_,_,h1⟩|h1)
      . exact absurd ⟨by omega,by omega⟩ h1
      . simp only[Int.toNat_natCast] at h1;omega
      . exact h1
     have kl:=Hd gU;have km:=Hd gY;have ko:=Hd hA;have ka:=Hd h0;clear gU gY hA h0;rintro x w9 ⟨o9,m9,V9,st9,(⟨ev,hy,_,_,gG,h3,rfl⟩|⟨gg,_,_,(⟨er,hL,gG,h3,rfl⟩|⟨_,_,r,rfl,hC,hB,gS,k0⟩)⟩)⟩
     . have g0:=Hd (g1.out.trans st9);have ke:=Hd hy;clear st9 hy gG h3;unfold Zeo;go_wp2_with fail;exact⟨rfl,o9,m9,V9,g0.out,.inr (.inr ⟨ev,rfl,by rw[<- ge.out,<- gz.out];exact ke.out⟩)⟩
     . have g0:=Hd (g1.out.trans st9);obtain⟨rfl,gE⟩:=ka.out er hL;have hw:=Hd gE;have hZ:=Hd gG;have gy:=Hd gg;clear st9 hL gG h3 gg gE;unfold Zeo;go_wp2_with fail;exact⟨rfl,o9,m9,V9,g0.out,.inr (.inl ⟨rfl,by rw[gy.out,gz.out,ge.out],by rw[hZ.out];exact hw.out,by rw[hZ.out];have a1:=gA.out;have a2:=hc.out;have a3:=gH.out;have a4:=ha.out;omega⟩)⟩
     .
      have g9:=g1.out.trans st9;have x09:=g9.ext;have gc:=st9.ok;have x79:=g6.out.trans st9.ext;have a0:=HK.out.dag.none0;have a9:=gc.dag.none0;have g3:IteP m9.d V9 f' g' h' r:=by
       refine⟨x09.ok HS.out.okF,x09.ok HS.out.okG,x09.ok HS.out.okH,hC,fun ρ=>?_,?_⟩
       .
        refine Zx5 (lo:=lo) (hi:=hi) (v:=v) gc (x09.ok HS.out.okF) (x09.ok HS.out.okG) (x09.ok HS.out.okH) (by rw[x09.vars];exact HV.out) (by rw[x09.lev,x09.minL HK.out gc HS.out.okF HS.out.okG HS.out.okH,hW.out];exact Nat.le_refl _) ?_ ?_ ?_ ρ
        . intro ρ;rw[Zhd x09 a0 a9 HS.out.okF,Zhd x09 a0 a9 HS.out.okG,Zhd x09 a0 a9 HS.out.okH];exact(gr.out.ext x79 gI.out gc).val ρ
        . intro ρ;rw[Zhd x09 a0 a9 HS.out.okF,Zhd x09 a0 a9 HS.out.okG,Zhd x09 a0 a9 HS.out.okH];exact(hr.out.ext st9.ext hp.out gc).val ρ
        . rw[hB,st9.ext.ef hr.out.okR,st9.ext.ef (g6.out.ok gr.out.okR)];rfl
       . rw[x09.minL HK.out gc HS.out.okF HS.out.okG HS.out.okH,<- hW.out];have e1:=(g7.out.trans g6.out).lev;have e2:=(g7.out.trans g6.out).vars;rw[e1,e2] at gS;rw[x09.vars];exact gS
      have hu:=Hd ((HS.out.ext x09 HK.out gc HF.out HG.out HH.out).answer (x09.ok HF.out) (x09.ok HG.out) (x09.ok HH.out) g3.okR g3.lev g3.val);obtain⟨s9,gk⟩:=g9.is;have k7:=Hd (Zym o9 s9.me (K m9.d V9) 1 f' g' h' r w9 gk.memo g9.lt ((hq.out.ite _ _ _ _ _ _).2 g3));have gR:r<eMax:=by
       obtain⟨ss,kc⟩:=gk.store;have:=kc.edge_lt g3.okR;unfold eMax;omega
      have gt:=Hd (fun W:World=>Zdf r nt W gR);obtain⟨c0,c1,c2,c3,c4,c5,f0⟩:=cells6 gk.blk;have cx:=(HX.out.chg g9.chg).cell;have kh:=Hd gk;have g0:=Hd g9;have gy:=Hd (gg.trans (gz.out.trans ge.out));have k8:Hid (m9.d.pool.many+1<=m.d.pool.many+2^k):=Hd (by have a1:=gA.out;have a2:=hc.out;have a3:=gH.out;omega);clear st9 g9 x09 gc x79 a0 a9 g3 gk gR gg hC hB gS k0;go_wp2_with fail;refine k7.out.mono ?_;rintro x w10 ⟨rfl,o10,gj,gx,gV⟩;have k3:Hid (Step K o w mb m V o10 w10 m9 V9):=Hd ⟨⟨s9,kh.out.setMemo g0.out.lt gj gx⟩,gV,g0.out.chg.trans gx.any,g0.out.ok,g0.out.ext,g0.out.hs,g0.out.next⟩;clear gj gx gV c0 c1 c2 c3 c4 c5 f0 cx;go_wp2_with fail;refine(gt.out _).mono ?_;rintro x w' ⟨rfl,rfl⟩;go_wp2_with fail;go_ret;exact⟨o10,m9,V9,k3.out,.inl ⟨_,rfl,hu.out,gy.out,k8.out⟩⟩
    . have g1:=Hd (g2.out.trans st8);have HQ:Hid (m8.waits=m.waits/\m8.d.pool.many=m8.d.pool.room/\m8.d.pool.many+2<=m.d.pool.many+2^k):=Hd ⟨g4.trans ge.out,gP,by have a1:=gA.out;have a3:=gH.out;have a4:=ha.out;omega⟩;clear st8 g4 gP gh;unfold Zeo;go_wp2_with fail;exact⟨rfl,o8,m8,V8,g1.out,.inr (.inl ⟨rfl,HQ.out.1,HQ.out.2.1,HQ.out.2.2⟩)⟩
    . have g1:=Hd (g2.out.trans st8);have HQ:=Hd g4;clear st8 g4;unfold Zeo;go_wp2_with fail;exact⟨rfl,o8,m8,V8,g1.out,.inr (.inr ⟨ev,rfl,by rw[<- ge.out];exact HQ.out⟩)⟩
   . have g2:=Hd (ga.out.trans st7);have HQ:Hid (m7.waits=m.waits/\m7.d.pool.many=m7.d.pool.room/\m7.d.pool.many+2<=m.d.pool.many+2^k):=Hd ⟨g5,gQ,by have a3:=gH.out;have a4:=ha.out;omega⟩;clear st7 g5 gQ gi;unfold Zeo;go_wp2_with fail;exact⟨rfl,o7,m7,V7,g2.out,.inr (.inl ⟨rfl,HQ.out.1,HQ.out.2.1,HQ.out.2.2⟩)⟩
   . have g2:=Hd (ga.out.trans st7);have HQ:=Hd g5;clear st7 g5;unfold Zeo;go_wp2_with fail;exact⟨rfl,o7,m7,V7,g2.out,.inr (.inr ⟨ev,rfl,HQ.out⟩)⟩
  . have g3:IteP m.d V f' g' h' r:=(hq.out.ite _ _ _ _ _ _).1 hH;have hu:=Hd (HS.out.answer HF.out HG.out HH.out g3.okR g3.lev g3.val);have gt:=Hd (fun W:World=>Zdf r nt W (gq.out _ g3.okR));clear hH g3 c0 c1 c2 c3 c4 c5 f0 cx;go_wp2_with fail;refine(gt.out _).mono ?_;rintro x w' ⟨rfl,rfl⟩;go_wp2_with fail;go_ret;exact⟨o,m,V,h7.out,.inl ⟨_,rfl,hu.out,rfl,by have:=Nat.one_le_two_pow (n:=k);omega⟩⟩
theorem Zs0 {K:Law}(hK:Zec K):∀ k,Zzv K k:=by
 intro k
 induction k with
 | zero=>exact Zks hK 0 (fun k' e=>absurd e (by omega))
 | succ k ih =>
   refine Zks hK (k+1) (fun k' e=>?_);have e2:k'=k:=by omega
   rw[e2];exact ih
end Go.Proofs.YtkbegdkpboklpaaGreat

namespace Go.Proofs.YtkbegdkpboklpaaGreat
open Go.Proofs.Tryz
open Go.RowKit Go.Shelf
structure Wr (M:Nat->Prop)(w w':World):Prop where
 os:w'.os=w.os
 tape:w'.tape=w.tape
 output:w'.output=w.output
 size:w.heap.size<=w'.heap.size
 keep:∀ k,k<w.heap.size->¬ M k->w'.heap[k]?=w.heap[k]?
theorem Wr.refl (M:Nat->Prop)(w:World):Wr M w w:=⟨rfl,rfl,rfl,Nat.le_refl _,fun _ _ _=>rfl⟩
theorem Wr.trans {M M' N:Nat->Prop}{w w' w'':World}(h:Wr M w w')(h':Wr M' w' w'')(hM:∀ k,k<w.heap.size->M k->N k)(hM':∀ k,k<w.heap.size->M' k->N k):Wr N w w'' :=
 ⟨h'.os.trans h.os,h'.tape.trans h.tape,h'.output.trans h.output,Nat.le_trans h.size h'.size,fun k hk hn=>(h'.keep k (Nat.lt_of_lt_of_le hk h.size) (fun e=>hn (hM' k hk e))).trans (h.keep k hk (fun e=>hn (hM k hk e)))⟩
theorem Wr.mono {M N:Nat->Prop}{w w':World}(h:Wr M w w')(hM:∀ k,M k->N k):Wr N w w':=⟨h.os,h.tape,h.output,h.size,fun k hk hn=>h.keep k hk (fun e=>hn (hM k e))⟩
theorem Wr.drew {M:Nat->Prop}{w w':World}(h:Wr M w w'):Wr M w w'.drew:=⟨h.os,h.tape,h.output,h.size,h.keep⟩
theorem Wr.alloc {M:Nat->Prop}{w w':World}(h:Wr M w w')(o:Obj):Wr M w (w'.alloc o) :=
 ⟨h.os,h.tape,h.output,by simp;have:=h.size;omega,fun k hk hn=>(Below.heap_alloc w' o k (Nat.lt_of_lt_of_le hk h.size)).trans (h.keep k hk hn)⟩
theorem Wr.setCell {M:Nat->Prop}{w w':World}(h:Wr M w w'){p:Addr}(hp:M p.block\/w.heap.size<=p.block)(u:Value):Wr M w (w'.setCell p u) :=
 ⟨h.os,h.tape,h.output,by simp[World.setCell];exact h.size,fun k hk hn=>(Below.heap_setCell _ _ _ _ (by rintro rfl;rcases hp with hp|hp;exact hn hp;omega)).trans (h.keep k hk hn)⟩
theorem Wr.putObj {M:Nat->Prop}{w w':World}(h:Wr M w w'){l:Nat}(hl:M l\/w.heap.size<=l)(o:Obj):Wr M w (w'.putObj l o) :=
 ⟨h.os,h.tape,h.output,by simp;exact h.size,fun k hk hn=>(World.putObj_heap_other (by rintro rfl;rcases hl with hl|hl;exact hn hl;omega)).trans (h.keep k hk hn)⟩
theorem Wr.of_below {w w':World}(h:Below w.heap.size w w')(M:Nat->Prop):Wr M w w':=⟨h.os,h.tape,h.output,h.size,fun k hk _=>h.block k hk⟩
theorem Wr.below {M:Nat->Prop}{n₀:Nat}{w w':World}(h:Wr M w w')(hM:∀ k,M k->n₀<=k)(hn:n₀<=w.heap.size):Below n₀ w w' :=
 ⟨h.os,h.tape,h.output,h.size,fun k hk=>h.keep k (by omega) (fun e=>by have:=hM k e;omega)⟩
section
variable {F:Fence}{n:Nat}{P:Program}{α:Type}
def Zrp (n₀:Nat)(J:List α->(Nat->Prop)->World->Prop):Prop:=∀ pre M W,J pre M W->∀ k,M k->n₀<=k/\k<W.heap.size
def Minds (n₀:Nat)(J:List α->(Nat->Prop)->World->Prop):Prop:=∀ pre M W W',J pre M W->Wr (fun k=>n₀<=k/\¬ M k) W W'->J pre M W'
def Gives (F:Fence)(n d:Nat)(P:Program)(g:Nat)(lb:Array Value)(encs:α->Array Value)(n₀:Nat)(Bx:Nat->Prop)(xs:List α)(w:World):Prop :=
 ∀ (l:Nat) (J:List α->(Nat->Prop)->World->Prop) (M:Nat->Prop) (W:World),Zrp n₀ J->Minds n₀ J->Wr (fun k=>n₀<=k/\¬ Bx k) w W->(∀ k,Bx k->¬ M k) ->
  (∀ pre x M W1,J pre M W1->(∃ suf,pre++x::suf=xs)->YieldAt F (n-1-d) P l (encs x) W1 fun e W' =>
   e=.returned (.bool true)/\∃ M',J (pre++[x]) M' W'/\Wr M W1 W'/\∀ k,M' k->M k\/W1.heap.size<=k) ->
  J [] M W ->
  CallsIn F n P g (#[.func (.yield l) #[] #[]]++lb) W fun e W'=>(∃ v,e=.returned v)/\∃ M',J xs M' W'/\Wr (fun k=>n₀<=k) W W'/\∀ k,M' k->M k\/W.heap.size<=k
theorem Zss {g:Operand}{ps:Array Tmp}{assign body:Code}{Q:Exit->Act->World->Prop}{a:Act}{w:World}(hro:F.round=none)(h1:1<=n){gf:Nat}{lb:Array Value}(hg:a.eval g=.func (.func gf) #[] lb)
 (hFg:F.fn gf) (eg:∀ args w,(callFunc gf args).run P w=.ok (.enter gf args) w) {encs:α->Array Value} {n₀:Nat} {Bx:Nat->Prop} {xs:List α} {d:Nat} (hseq:Gives F (n-1) d P gf lb encs n₀ Bx xs w) (hn0:n₀<=w.heap.size)
 (hBx:∀ k,Bx k->k<w.heap.size) (hps:∀ x,(encs x).size=ps.size) (I:List α->(Nat->Prop)->World->Prop) (hOw:Zrp n₀ I) (hMi:Minds n₀ I) (M0:Nat->Prop) (hM0:∀ k,Bx k->¬ M0 k) (h0:I [] M0 w)
 (Ax:α->Act->World->World->Prop) (hAx:∀ x a' W W1 W2 l,l<W.heap.size->Ax x a' W W1->Wr (· = l) W1 W2->Ax x a' W W2)
 (hassign:∀ (l:Nat) (pre:List α) (x:α) (M:Nat->Prop) (W:World) (K:Act->World->Prop),I pre M W->(∀ a' W',Wr (fun _=>False) W W'->Ax x a' W W'->K a' W') ->
  assign.wpIn (F.inRound l) (n-1-1-d) P (Exit.then K (fun _ _ _=>False)) { tmps:=(ps.zip (encs x)).foldl (fun t (p,v)=>t.setIfInBounds p v) a.tmps,defers:=[] } W)
 (hbody:∀ (l:Nat) (pre:List α) (x:α) (a':Act) (M:Nat->Prop) (W0 W:World),I pre M W->Ax x a' W0 W->W0.heap.size<=W.heap.size->w.heap.size<=W0.heap.size->(∃ suf,pre++x::suf=xs)->body.wpIn (F.inRound l) (n-1-1-d) P
  (fun e _ W'=>match e with|.normal=>∃ M',I (pre++[x]) M' W'/\Wr (fun k=>M k\/W0.heap.size<=k) W W'/\(∀ k,M' k->M k\/W0.heap.size<=k)|_=>False) a' W)
 (hdone:∀ (D:Nat) (M:Nat->Prop) (W:World),w.heap.size<=D->¬ M D->I xs M W->(∀ k,M k->M0 k\/w.heap.size<=k)->Wr (fun k=>n₀<=k) w W->W.heap[D]?=some (.deferred (some []))->Q .normal { a with defers:={ target:=.collected D,args:=#[] }::a.defers } W) :
 (Code.rangeFunc g ps assign body).wpIn F n P Q a w:=by
 refine wpIn_rangeFunc ?_;intro fn gn;rw[hro]
 let rec0:LoopState->Loop:=fun st=>{ state:=st,pending:=none,fn,tmps:=a.tmps,params:=ps,assign,body,defers:=w.heap.size }
 obtain⟨W1,g1⟩:∃ W1,W1=(w.alloc (.deferred (some []))).alloc (.loop (rec0 .ready)):=⟨_,rfl⟩;have gt:W1.heap[w.heap.size+1]?=some (.loop (rec0 .ready)):=by
  rw[g1];have:=World.alloc_heap_new (w.alloc (.deferred (some []))) (.loop (rec0 .ready))
  rwa [World.size_alloc] at this
 have gv:W1.heap[w.heap.size]?=some (.deferred (some [])):=by
  rw[g1];exact(Below.heap_alloc _ _ _ (by simp)).trans (World.alloc_heap_new w _)
 have g5:∀ N:Nat->Prop,Wr N w W1:=fun N=>by rw[g1];exact((Wr.refl N w).alloc _).alloc _
 have g2:=hOw [] M0 w h0;have gu:I [] M0 W1:=hMi _ _ _ _ h0 (g5 _)
 refine⟨w.heap.size+1,[{ target:=.collected w.heap.size,args:=#[] }],W1,{ target:=.fn (.func gf) lb,args:=#[.func (.yield (w.heap.size+1)) #[] #[]] },W1,gf,
  #[.func (.yield (w.heap.size+1)) #[] #[]]++lb,W1,?_,?_,?_,?_,fun _=>h1,?_⟩
 . rw[g1];exact run_enterLoop_outer _ _ _ _ _
 . simp only[resolve,hg];simp[go_sem]
 . intro f' gc;simp[Target.leads] at gc;subst gc;exact hFg
 . simp[invoke,go_sem,eg]
 refine(hseq (w.heap.size+1)
  (fun pre N W=>∃ M,I pre M W/\(∀ k,N k↔(M k\/k=w.heap.size+1\/k=w.heap.size))/\¬ M (w.heap.size+1)/\¬ M w.heap.size/\(∀ k,M k->M0 k\/w.heap.size<=k) /\
   W.heap[w.heap.size+1]?=some (.loop (rec0 .ready))/\W.heap[w.heap.size]?=some (.deferred (some [])))
  (fun k=>M0 k\/k=w.heap.size+1\/k=w.heap.size) W1 ?_ ?_ (g5 _) ?_ ?_ ?_).mono ?_
 .
  rintro pre N W ⟨M,hi,hN,_,_,_,hl,hd⟩ k hk;rcases(hN k).1 hk with hk|hk|hk
  . exact hOw _ _ _ hi k hk
  . subst hk;exact⟨by omega,(Array.getElem?_eq_some_iff.1 hl).1⟩
  . subst hk;exact⟨hn0,(Array.getElem?_eq_some_iff.1 hd).1⟩
 .
  rintro pre N W W' ⟨M,hi,hN,h2,h3,h4,hl,hd⟩ hw;refine⟨M,hMi _ _ _ _ hi ?_,hN,h2,h3,h4,?_,?_⟩
  . exact⟨hw.os,hw.tape,hw.output,hw.size,fun k hk hn=>hw.keep k hk (fun⟨a,b⟩=>hn ⟨a,fun e=>b ((hN k).2 (.inl e))⟩)⟩
  . exact(hw.keep _ (Array.getElem?_eq_some_iff.1 hl).1 (fun⟨_,b⟩=>b ((hN _).2 (.inr (.inl rfl))))).trans hl
  . exact(hw.keep _ (Array.getElem?_eq_some_iff.1 hd).1 (fun⟨_,b⟩=>b ((hN _).2 (.inr (.inr rfl))))).trans hd
 .
  intro k hk hm;have:=hBx k hk;rcases hm with hm|hm|hm
  . exact hM0 k hk hm
  . omega
  . omega
 .
  rintro pre x N W ⟨M,hi,hN,h2,h3,h4,hl,hd⟩ gd;have g9:w.heap.size+1<W.heap.size:=(Array.getElem?_eq_some_iff.1 hl).1;have hy:=run_yield (P:=P) (args:=encs x) hl (hps x);refine⟨fn,_,assign,body,hy,roundIn_of_wpIn gn (hassign _ pre x M W _ hi ?_)⟩;intro a' Wa g0 gr;have gj:=(g0.keep _ g9 (fun h=>h)).trans hl;have gp:=(g0.keep _ (by omega) (fun h=>h)).trans hd;have g6:w.heap.size+1<Wa.heap.size:=by have:=g0.size;omega
  refine⟨_,run_beginRound gj rfl,?_⟩;have gl:I pre M Wa:=hMi _ _ _ _ hi (g0.mono (fun _ h=>h.elim));have g7:Wr (· = w.heap.size+1) Wa (Wa.putObj (w.heap.size+1) (.loop { rec0 .ready with state:=.busy })):=(Wr.refl (· = w.heap.size+1) Wa).putObj (l:=w.heap.size+1) (.inl rfl) _;have gk:I pre M (Wa.putObj (w.heap.size+1) (.loop { rec0 .ready with state:=.busy })):=hMi _ _ _ _ gl (g7.mono (fun k e=>by have e':k=w.heap.size+1:=e;subst e';exact⟨by omega,h2⟩));have gi:(Wa.putObj (w.heap.size+1) (.loop { rec0 .ready with state:=.busy })).heap[w.heap.size+1]?=some (.loop { rec0 .ready with state:=.busy }):=World.putObj_heap_same g6;have go:(Wa.putObj (w.heap.size+1) (.loop { rec0 .ready with state:=.busy })).heap[w.heap.size]?=some (.deferred (some [])):=(World.putObj_heap_other (by omega)).trans gp;refine wpIn_mono (hbody _ pre x a' M W _ gk (hAx _ _ _ _ _ _ g9 gr g7) (by simp;exact g0.size) (by omega) gd) ?_;intro e a3 W3 hp;cases e with
  | normal =>
    obtain⟨M',gm,g4,g3⟩:=hp;have ga:=(g4.keep _ (by simp;exact g6) (fun e=>by rcases e with e|e;exact h2 e;omega)).trans gi;have gq:=(g4.keep _ (by simp;omega) (fun e=>by rcases e with e|e;exact h3 e;omega)).trans go;have ge:=(Array.getElem?_eq_some_iff.1 ga).1;have g8:¬ M' (w.heap.size+1):=fun e=>by rcases g3 _ e with h|h;exact h2 h;omega
    have gh:¬ M' w.heap.size:=fun e=>by rcases g3 _ e with h|h;exact h3 h;omega
    refine⟨_,_,run_endRound (P:=P) none ga,rfl,fun k=>M' k\/k=w.heap.size+1\/k=w.heap.size,⟨M',?_,fun k=>Iff.rfl,g8,gh,?_,World.putObj_heap_same ge,(World.putObj_heap_other (by omega)).trans gq⟩,?_,?_⟩
    . exact hMi _ _ _ _ gm ((Wr.refl _ _).putObj (.inl ⟨by omega,g8⟩) _)
    .
     intro k hk;rcases g3 k hk with h|h
     . exact h4 k h
     . right;omega
    .
     refine((((g0.mono (N:=N) (fun _ h=>h.elim)).putObj (l:=w.heap.size+1) (.inl ((hN _).2 (.inr (.inl rfl)))) _).trans (N:=N) g4 (fun k _ h=>h) (fun k hk h=>?_)).putObj (l:=w.heap.size+1) (.inl ((hN _).2 (.inr (.inl rfl)))) _);rcases h with h|h
     . exact(hN k).2 (.inl h)
     . omega
    .
     rintro k (hk|hk)
     .
      rcases g3 k hk with h|h
      . exact .inl ((hN k).2 (.inl h))
      . exact .inr h
     . exact .inl ((hN k).2 (.inr hk))
  | ret=>exact hp.elim
  | exit id=>exact hp.elim
  | goto t=>exact hp.elim
  | panic ch=>exact hp.elim
  | outgrown=>exact hp.elim
 . exact⟨M0,gu,fun k=>Iff.rfl,fun e=>by have:=(g2 _ e).2;omega,fun e=>by have:=(g2 _ e).2;omega,fun k h=>.inl h,gt,gv⟩
 .
  rintro e W2 ⟨⟨v,rfl⟩,N,⟨M,hi,hN,h2,h3,h4,hl,hd⟩,gg,_⟩;refine⟨none,_,run_endLoop (P:=P) hl (by simp[rec0]),hdone _ M _ (Nat.le_refl _) h3 ?_ h4 ?_ ((World.putObj_heap_other (by omega)).trans hd)⟩
  . exact hMi _ _ _ _ hi ((Wr.refl _ _).putObj (.inl ⟨by omega,h2⟩) _)
  . exact((g5 (fun k=>n₀<=k)).trans gg (fun _ _ h=>h) (fun _ _ h=>h)).putObj (.inl (by omega)) _
end
open Go.RowKit
structure Caught (sb:Nat)(er:Int)(evt:Bool)(ev:Ev)(w w':World):Prop where
 size:w.heap.size<=w'.heap.size
 os:w'.os=w.os
 tape:w'.tape=w.tape
 output:w'.output=w.output
 keep:∀ k,k<w.heap.size->k≠sb->w'.heap[k]?=w.heap[k]?
 blk:w'.heap[sb]?=some (.cells #[.int .i64 er,.bool evt,.int .i64 ev.after,.int .i64 ev.kind,.int .i64 ev.level] 245 (0,0))
theorem Zon {sb:Nat}{er:Int}{evt:Bool}{ev:Ev}{w:World}{a0 a1 a2 a3 a4:Value}(hs:w.heap[sb]?=some (.cells #[a0,a1,a2,a3,a4] 245 (0,0)))(ob:Obj) :
 Caught sb er evt ev w ((((((w.setCell ⟨sb,0,none⟩ (.int .i64 er)).setCell ⟨sb,1,none⟩ (.bool evt)).setCell ⟨sb,2,none⟩ (.int .i64 ev.after)).setCell ⟨sb,3,none⟩ (.int .i64 ev.kind)).setCell ⟨sb,4,none⟩ (.int .i64 ev.level)).alloc ob):=by
 have w1:=(Wr.refl (· = sb) w).setCell (p:=⟨sb,0,none⟩) (.inl rfl) (.int .i64 er);have h1:(w.setCell ⟨sb,0,none⟩ (.int .i64 er)).heap[sb]?=some (.cells #[.int .i64 er,a1,a2,a3,a4] 245 (0,0)):=Zah hs _
 generalize w.setCell ⟨sb,0,none⟩ (.int .i64 er)=W1 at *
 have w2:=w1.setCell (p:=⟨sb,1,none⟩) (.inl rfl) (.bool evt);have h2:(W1.setCell ⟨sb,1,none⟩ (.bool evt)).heap[sb]?=some (.cells #[.int .i64 er,.bool evt,a2,a3,a4] 245 (0,0)):=Zah h1 _
 generalize W1.setCell ⟨sb,1,none⟩ (.bool evt)=W2 at *
 have w3:=w2.setCell (p:=⟨sb,2,none⟩) (.inl rfl) (.int .i64 ev.after);have h3:(W2.setCell ⟨sb,2,none⟩ (.int .i64 ev.after)).heap[sb]?=some (.cells #[.int .i64 er,.bool evt,.int .i64 ev.after,a3,a4] 245 (0,0)):=Zah h2 _
 generalize W2.setCell ⟨sb,2,none⟩ (.int .i64 ev.after)=W3 at *
 have w4:=w3.setCell (p:=⟨sb,3,none⟩) (.inl rfl) (.int .i64 ev.kind);have h4:(W3.setCell ⟨sb,3,none⟩ (.int .i64 ev.kind)).heap[sb]?=some (.cells #[.int .i64 er,.bool evt,.int .i64 ev.after,.int .i64 ev.kind,a4] 245 (0,0)):=Zah h3 _
 generalize W3.setCell ⟨sb,3,none⟩ (.int .i64 ev.kind)=W4 at *
 have w5:=w4.setCell (p:=⟨sb,4,none⟩) (.inl rfl) (.int .i64 ev.level);have h5:(W4.setCell ⟨sb,4,none⟩ (.int .i64 ev.level)).heap[sb]?=some (.cells #[.int .i64 er,.bool evt,.int .i64 ev.after,.int .i64 ev.kind,.int .i64 ev.level] 245 (0,0)):=Zah h4 _
 generalize W4.setCell ⟨sb,4,none⟩ (.int .i64 ev.level)=W5 at *
 have w6:=w5.alloc ob;exact⟨w6.size,w6.os,w6.tape,w6.output,fun k hk g0=>w6.keep k hk g0,(Go.heap_alloc_old _ _ (Array.getElem?_eq_some_iff.1 h5).1).trans h5⟩
theorem Zl2 (v:Value)(w:World):(Instr.typeAssert (.iface 245 v) 20 245 true).run prog w=.ok (.tuple #[v,.bool true]) w:=by
 simp[Instr.typeAssert,run_underlying underlying245,go_sem,Result.andThen]
theorem Zsy (dn st:Addr)(w:World)(hd:w.cell? dn=some (.bool true)) :
 CallsD prog 240 #[.pointer (some dn),.pointer (some st)] .returning w fun e u' w'=>e=.returned (.tuple #[])/\u'=.returning/\w'=w:=by
 refine callsD_of_wpS func240 rfl fun c₀ cs hu=>?_
 apply wpS_seq;apply wpS_seq;apply wpS_region;simp[wpOpsS,go_sem,hd,ntmps240,Exit.thenS];refine wpS_cond (t:=true) (by simp[Act.eval,Array.replicate]) ?_;simp only[if_true];refine wpS_of_wp (wp_ret ?_);cases c₀
 simp_all [Exit.thenS,bodyPostS,results,Tryz.results240]
theorem Zko (dn sb:Nat)(er:Int)(evt:Bool)(ev:Ev)(older:List PanicEntry)(w:World)(a0 a1 a2 a3 a4:Value)(hd:w.cell? ⟨dn,0,none⟩=some (.bool false))(hs:w.heap[sb]?=some (.cells #[a0,a1,a2,a3,a4] 245 (0,0))) :
 CallsD prog 240 #[.pointer (some ⟨dn,0,none⟩),.pointer (some ⟨sb,0,none⟩)] (.panicking ({ v:=.iface 245 (.agg #[.int .i64 er,.bool evt,.int .i64 ev.after,.int .i64 ev.kind,.int .i64 ev.level]),recovered:=false }::older)) w fun e u' w' =>
  e=.returned (.tuple #[])/\u'=.panicking ({ v:=.iface 245 (.agg #[.int .i64 er,.bool evt,.int .i64 ev.after,.int .i64 ev.kind,.int .i64 ev.level]),recovered:=true }::older) /\
  Caught sb er evt ev w w':=by
 refine callsD_of_wpS func240 rfl fun c₀ cs hu=>?_
 simp only[ntmps240,List.size_toArray,List.length_cons,List.length_nil,Nat.reduceAdd,Nat.reduceSub,Array.replicate_succ,Array.replicate_zero,List.push_toArray,List.append_toArray,List.nil_append,List.cons_append];apply wpS_seq;apply wpS_seq;apply wpS_region;simp[wpOpsS,go_sem,hd,Exit.thenS];refine wpS_cond (t:=false) (by simp[Act.eval]) ?_;simp only[Bool.false_eq_true,if_false];refine wpS_of_wp (wp_skip ?_);simp only[Exit.thenS];apply wpS_seq;apply wpS_region;simp[wpOpsS,go_sem,recoverD,hu,Exit.thenS];have lsb:sb<w.heap.size:=(Array.getElem?_eq_some_iff.1 hs).1;obtain⟨c0,c1,c2,c3,c4,f0⟩:=cells5 hs;refine wpS_of_wp (wp_mono (Q:=fun e a' w'=>e=.normal/\a'.defers=[]/\Caught sb er evt ev w w') ?_ ?_)
 .
  have HS:=Hd hs;have g0:=fun v=>Zl2 v w
  clear hs;go_wp2_with fail
  first|exact⟨rfl,rfl,Zon HS.out _⟩|exact Zon HS.out _
 . rintro e a' w' ⟨rfl,h1,h2⟩;refine⟨h1,_,rfl,_,results_none rfl _ _ _,?_⟩;exact⟨rfl,rfl,h2⟩
open Go.RowKit
abbrev Stop:=Int×Bool×Ev
def Ya4 (r:Option Stop):Value :=
 match r with
 | some (er,evt,ev)=>.agg #[.int .i64 er,.bool evt,.int .i64 ev.after,.int .i64 ev.kind,.int .i64 ev.level]
 | none=>.agg #[.int .i64 0,.bool false,.int .i64 0,.int .i64 0,.int .i64 0]
def tryW (mb:Nat)(w:World):World :=
 ((w.alloc (.cells #[.int .i64 0,.bool false,.int .i64 0,.int .i64 0,.int .i64 0] 245)).alloc (.cells #[.bool false] 4)).alloc (.cells #[.pointer (some ⟨mb,0,none⟩)] 243)
def Zzw (w:World)(R:Option Stop->World->Prop)(x:Ending)(w':World):Prop :=
 ∃ r W',R r W'/\Wr (fun k=>k=w.heap.size\/k=w.heap.size+1) W' w'/\x=.returned (.tuple #[Ya4 r,.bool r.isNone])
def Zxo (gf:Nat)(lb:Array Value)(mb:Nat)(w:World)(R:Option Stop->World->Prop):Prop :=
 Calls prog gf (#[.pointer (some ⟨w.heap.size+2,0,none⟩)]++lb) (tryW mb w) fun e W' =>
  (tryW mb w).heap.size<=W'.heap.size/\W'.heap[w.heap.size]?=(tryW mb w).heap[w.heap.size]?/\W'.heap[w.heap.size+1]?=(tryW mb w).heap[w.heap.size+1]? /\
   ((e=.returned (.tuple #[])/\R none W')\/∃ er evt ev,e=Zeo er evt ev/\R (some (er,evt,ev)) W')
theorem Zs2 {s:Nat}{W:World}(h0:W.heap[s]?=some (.cells #[.int .i64 0,.bool false,.int .i64 0,.int .i64 0,.int .i64 0] 245 (0,0)))(h1:W.heap[s+1]?=some (.cells #[.bool false] 4 (0,0))){W2:World}
 (hW:W2=(((((W.setCell ⟨s,0,none⟩ (.int .i64 0)).setCell ⟨s,1,none⟩ (.bool false)).setCell ⟨s,2,none⟩ (.int .i64 0)).setCell ⟨s,3,none⟩ (.int .i64 0)).setCell ⟨s,4,none⟩ (.int .i64 0)).setCell ⟨s+1,0,none⟩ (.bool true)) :
 Wr (fun k=>k=s\/k=s+1) W W2/\W2.heap[s]?=some (.cells #[.int .i64 0,.bool false,.int .i64 0,.int .i64 0,.int .i64 0] 245 (0,0))/\W2.heap[s+1]?=some (.cells #[.bool true] 4 (0,0)):=by
 have n1:s+1≠s:=by omega
 have w1:=(Wr.refl (fun k=>k=s\/k=s+1) W).setCell (p:=⟨s,0,none⟩) (.inl (.inl rfl)) (.int .i64 0);have a1:(W.setCell ⟨s,0,none⟩ (.int .i64 0)).heap[s]?=some (.cells #[.int .i64 0,.bool false,.int .i64 0,.int .i64 0,.int .i64 0] 245 (0,0)):=Zah h0 _;have b1:=(Zai (p:=⟨s,0,none⟩) (w:=W) n1 (.int .i64 0)).trans h1
 generalize W.setCell ⟨s,0,none⟩ (.int .i64 0)=W1 at *
 have w2:=w1.setCell (p:=⟨s,1,none⟩) (.inl (.inl rfl)) (.bool false);have a2:(W1.setCell ⟨s,1,none⟩ (.bool false)).heap[s]?=some (.cells #[.int .i64 0,.bool false,.int .i64 0,.int .i64 0,.int .i64 0] 245 (0,0)):=Zah a1 _;have b2:=(Zai (p:=⟨s,1,none⟩) (w:=W1) n1 (.bool false)).trans b1
 generalize W1.setCell ⟨s,1,none⟩ (.bool false)=W3 at *
 have w3:=w2.setCell (p:=⟨s,2,none⟩) (.inl (.inl rfl)) (.int .i64 0);have a3:(W3.setCell ⟨s,2,none⟩ (.int .i64 0)).heap[s]?=some (.cells #[.int .i64 0,.bool false,.int .i64 0,.int .i64 0,.int .i64 0] 245 (0,0)):=Zah a2 _;have b3:=(Zai (p:=⟨s,2,none⟩) (w:=W3) n1 (.int .i64 0)).trans b2
 generalize W3.setCell ⟨s,2,none⟩ (.int .i64 0)=W4 at *
 have w4:=w3.setCell (p:=⟨s,3,none⟩) (.inl (.inl rfl)) (.int .i64 0);have a4:(W4.setCell ⟨s,3,none⟩ (.int .i64 0)).heap[s]?=some (.cells #[.int .i64 0,.bool false,.int .i64 0,.int .i64 0,.int .i64 0] 245 (0,0)):=Zah a3 _;have b4:=(Zai (p:=⟨s,3,none⟩) (w:=W4) n1 (.int .i64 0)).trans b3
 generalize W4.setCell ⟨s,3,none⟩ (.int .i64 0)=W5 at *
 have w5:=w4.setCell (p:=⟨s,4,none⟩) (.inl (.inl rfl)) (.int .i64 0);have a5:(W5.setCell ⟨s,4,none⟩ (.int .i64 0)).heap[s]?=some (.cells #[.int .i64 0,.bool false,.int .i64 0,.int .i64 0,.int .i64 0] 245 (0,0)):=Zah a4 _;have b5:=(Zai (p:=⟨s,4,none⟩) (w:=W5) n1 (.int .i64 0)).trans b4
 generalize W5.setCell ⟨s,4,none⟩ (.int .i64 0)=W6 at *
 subst hW;exact⟨w5.setCell (p:=⟨s+1,0,none⟩) (.inl (.inr rfl)) _,(Zai (Ne.symm n1) _).trans a5,Zah b5 _⟩
theorem Ya6 (mb gf:Nat)(lb:Array Value)(w:World)(R:Option Stop->World->Prop)(eg:∀ args w,(callFunc gf args).run prog w=.ok (.enter gf args) w)(hop:Zxo gf lb mb w R) :
 Calls prog 221 #[.pointer (some ⟨mb,0,none⟩),.func (.func gf) #[] lb] w (Zzw w R):=by
 have gg:∀ (fn:Fn) (first cap:Array Value) (w:World),(Instr.makeFunc fn first cap).run prog w=.ok (.func fn first cap) w:=fun _ _ _ _=>rfl
 unfold Zxo at hop;obtain⟨W,hW⟩:∃ W,W=tryW mb w:=⟨_,rfl⟩;have HW:Hid (_=W):=Hd hW.symm;rw[<- hW] at hop;have g8:=Hd hop;clear hop hW
 go_enter_defers func221,ntmps221
 go_wp2_with fail
 change Calls _ _ _ (tryW mb w) _
 have g4:(tryW mb w).heap[w.heap.size]?=some (.cells #[.int .i64 0,.bool false,.int .i64 0,.int .i64 0,.int .i64 0] 245 (0,0)):=by
  unfold tryW;exact(Go.heap_alloc_old _ _ (by simp;omega)).trans ((Go.heap_alloc_old _ _ (by simp)).trans (heap_alloc_new w _))
 have g3:(tryW mb w).heap[w.heap.size+1]?=some (.cells #[.bool false] 4 (0,0)):=by
  unfold tryW;refine(Go.heap_alloc_old _ _ (by simp)).trans ?_;have:=heap_alloc_new (w.alloc (.cells #[.int .i64 0,.bool false,.int .i64 0,.int .i64 0,.int .i64 0] 245)) (.cells #[.bool false] 4)
  rwa [World.size_alloc] at this
 rw[HW.out] at g4 g3 ⊢;have gc:W.heap.size=w.heap.size+3:=by rw[<- HW.out];simp[tryW]
 refine g8.out.mono ?_;rintro e W' ⟨gd,g7,g6,g5⟩;have g1:=g7.trans g4;have g0:=g6.trans g3;obtain⟨c0,c1,c2,c3,c4,f0⟩:=cells5 g1;have c5:W'.cell? ⟨w.heap.size+1,0,none⟩=some (.bool false):=by rw[cell_of_row W' _ 0 _ _ _ g0];rfl
 have f1:∀ k,W'.frozen? ⟨w.heap.size+1,k,none⟩=false:=fun k=>by simp[World.frozen?,g0]
 obtain⟨s,hs⟩:∃ s,s=w.heap.size:=⟨_,rfl⟩;rw[<- hs] at g1 g0 c0 c1 c2 c3 c4 f0 c5 f1 ⊢;have hs1:s<W'.heap.size:=by omega
 have ge:s+1<W'.heap.size:=by omega
 have ga:=Hd g1;have g9:=Hd g0;have HS:=Hd hs;clear g4 g3 g7 g6 g1 g0 hs gc gd g8 HW;rcases g5 with ⟨rfl,hr⟩|⟨er,evt,ev,rfl,hr⟩
 .
  have HR:=Hd hr;clear hr;go_wp2_with fail;obtain⟨W2,g2⟩:∃ W2,W2=(((((W'.setCell ⟨s,0,none⟩ (.int .i64 0)).setCell ⟨s,1,none⟩ (.bool false)).setCell ⟨s,2,none⟩ (.int .i64 0)).setCell ⟨s,3,none⟩ (.int .i64 0)).setCell ⟨s,4,none⟩ (.int .i64 0)).setCell ⟨s+1,0,none⟩ (.bool true):=⟨_,rfl⟩;obtain⟨q1,q2,q3⟩:=Zs2 ga.out g9.out g2;rw[<- g2];clear g2 c0 c1 c2 c3 c4 f0 c5 f1;obtain⟨c0,c1,c2,c3,c4,f0⟩:=cells5 q2;have c5:W2.cell? ⟨s+1,0,none⟩=some (.bool true):=by rw[cell_of_row W2 _ 0 _ _ _ q3];rfl
  refine leaves_cons (f:=240) (args:=#[.pointer (some ⟨s+1,0,none⟩),.pointer (some ⟨s,0,none⟩)]) (by simp) (by simp[go_sem]) ?_;refine(Zsy ⟨s+1,0,none⟩ ⟨s,0,none⟩ _ c5).mono ?_;rintro e u' w'' ⟨rfl,rfl,rfl⟩;simp[Leaves,settle,results,Tryz.results221,go_sem,c0,c1,c2,c3,c4,c5];exact⟨none,W',HR.out,by rw[<- HS.out];exact q1,rfl⟩
 .
  have HR:=Hd hr;clear hr;unfold Zeo;go_wp2_with fail;refine leaves_cons (f:=240) (args:=#[.pointer (some ⟨s+1,0,none⟩),.pointer (some ⟨s,0,none⟩)]) (by simp) (by simp[go_sem]) ?_;refine(Zko (s+1) s er evt ev [] _ _ _ _ _ _ c5 ga.out).mono ?_;rintro e u' w'' ⟨rfl,rfl,hc⟩;have q3:=(hc.keep (s+1) ge (by omega)).trans g9.out;clear c0 c1 c2 c3 c4 f0 c5 f1;obtain⟨c0,c1,c2,c3,c4,f0⟩:=cells5 hc.blk;have c5:w''.cell? ⟨s+1,0,none⟩=some (.bool false):=by rw[cell_of_row w'' _ 0 _ _ _ q3];rfl
  simp[Leaves,settle,results,Tryz.results221,go_sem,c0,c1,c2,c3,c4,c5];exact⟨some (er,evt,ev),W',HR.out,⟨hc.os,hc.tape,hc.output,hc.size,fun k hk hn=>hc.keep k hk (fun e=>hn (.inl (e.trans HS.out)))⟩,rfl⟩
open Go.RowKit
abbrev Ali (s:Nat)(W W':World):Prop:=Wr (fun k=>k=s\/k=s+1) W W'
structure Ybv (gf:Nat)(lb:Array Value)(mb:Nat)(I:Nat->Bool->World->Prop)(Fin:Int->World->Prop)(n:Nat)(room:Bool)(W:World)(R:Option Stop->World->Prop):Prop where
 op:Zxo gf lb mb W R
 fin:∀ W1 W2,R none W1->Ali W.heap.size W1 W2->Fin 0 W2
 event:∀ er ev W1 W2,R (some (er,true,ev)) W1->Ali W.heap.size W1 W2->Calls prog 222 #[.pointer (some ⟨mb,0,none⟩),evA ev] W2 fun x w'=>x=.returned (.tuple #[])/\∃ n',n'<n/\I n' false w'
 full:∀ ev W1 W2,R (some (7,false,ev)) W1->Ali W.heap.size W1 W2->room=false->Calls prog 223 #[.pointer (some ⟨mb,0,none⟩)] W2 fun x w'=>(∃ v,x=.returned v)/\I n true w'
 err:∀ er ev W1 W2,R (some (er,false,ev)) W1->Ali W.heap.size W1 W2->¬ (er=7/\room=false)->Fin er W2
theorem Yay (mb gf:Nat)(lb:Array Value)(w:World)(eg:∀ args w,(callFunc gf args).run prog w=.ok (.enter gf args) w)(I:Nat->Bool->World->Prop)(Fin:Int->World->Prop)
 (hI:∀ n room W,I n room W->∃ R,Ybv gf lb mb I Fin n room W R) (n0:Nat) (h0:I n0 false w) :
 Calls prog 186 #[.pointer (some ⟨mb,0,none⟩),.func (.func gf) #[] lb] w fun x w'=>∃ er,x=.returned (.int .i64 er)/\Fin er w':=by
 have HI:=Hd hI;clear hI
 go_enter func186,ntmps186
 go_wp2_with fail
 go_loopg [5] (2*n0+1) (fun gk s5 wx=>∃ (n:Nat) (room:Bool),s5=.bool room/\I n room wx/\gk=2*n+(if room then 0 else 1))
 case atStart=>exact⟨n0,false,rfl,h0,rfl⟩
 case round =>
  obtain⟨n,room,rfl,hi,g4⟩:=hrel;obtain⟨R,hR⟩:=HI.out n room wr hi;have g6:=Hd (Ya6 mb gf lb wr R eg hR.op);have HR:=Hd hR;have g5:=Hd g4;clear hi hR g4 h0;go_wp2_with fail;refine g6.out.mono ?_;rintro x w2 ⟨r,W1,hr,hw,rfl⟩;obtain⟨bx,g8⟩:∃ bx,bx=w2.heap.size:=⟨_,rfl⟩;cases r with
  | none =>
    have HF:=Hd fun W2 (h:Wr (fun _=>False) w2 W2)=>HR.out.fin W1 W2 hr (hw.trans h (fun _ _ e=>e) (fun _ _ e=>e.elim))
    clear hr hw;unfold Ya4;go_wp2_with fail;go_ret;exact⟨0,rfl,HF.out _ ((Wr.refl _ w2).alloc _)⟩
  | some st =>
    obtain⟨er,evt,ev⟩:=st;unfold Ya4;cases evt with
    | true =>
      have HF:=Hd fun W2 (h:Wr (fun _=>False) w2 W2)=>HR.out.event er ev W1 W2 hr (hw.trans h (fun _ _ e=>e) (fun _ _ e=>e.elim))
      clear hr hw;go_wp2_with fail;refine(HF.out _ ((Wr.refl _ w2).alloc _)).mono ?_;rintro x w3 ⟨rfl,n',g3,g0⟩;have g7:=Hd g3;have g2:=Hd g0;clear g3 g0;go_wp2_with fail
      go_roundg (2*n'+1)
      case rel=>exact⟨n',false,rfl,g2.out,rfl⟩
      case measure=>have h1:=g7.out;have h2:=g5.out;omega
    | false =>
      have HW:=Hd fun W2 (h:Wr (fun _=>False) w2 W2)=>hw.trans h (N:=fun k=>k=wr.heap.size\/k=wr.heap.size+1) (fun _ _ e=>e) (fun _ _ e=>e.elim)
      have g1:=Hd hr;clear hr hw
      by_cases h7:er=7
      .
       subst h7;cases room with
       | false =>
         have HF:=Hd fun W2 (h:Wr (fun _=>False) w2 W2)=>HR.out.full ev W1 W2 g1.out (HW.out W2 h) rfl
         go_wp2_with fail;refine(HF.out _ ((Wr.refl _ w2).alloc _)).mono ?_;rintro x w3 ⟨⟨vv,rfl⟩,g0⟩;have g2:=Hd g0;clear g0;go_wp2_with fail
         go_roundg (2*n)
         case rel=>exact⟨n,true,rfl,g2.out,rfl⟩
         case measure=>have h2:=g5.out;simp at h2;omega
       | true =>
         have HF:=Hd fun W2 (h:Wr (fun _=>False) w2 W2)=>HR.out.err 7 ev W1 W2 g1.out (HW.out W2 h) (by simp)
         go_wp2_with fail;go_ret;exact⟨_,rfl,HF.out _ ((Wr.refl _ w2).alloc _)⟩
      .
       have H7:((er:Int) == 7)=false:=by simpa using h7
       have HF:=Hd fun W2 (h:Wr (fun _=>False) w2 W2)=>HR.out.err er ev W1 W2 g1.out (HW.out W2 h) (fun e=>h7 e.1)
       go_wp2_with fail;go_ret;exact⟨_,rfl,HF.out _ ((Wr.refl _ w2).alloc _)⟩
open Go.RowKit
theorem Zze {d:Zag}{V:Nat->BF}(hk:Zaq d V):Acy (Zab d) (fun i=>d.vars.length-lvE d.vars.length (levN d) (Zab d) (2*i)):=by
 have e2:∀ i:Nat,2*i/2=i:=fun i=>by omega
 have hl:∀ i b,Zab d i=some b->lvE d.vars.length (levN d) (Zab d) (2*i)=levN d b.v:=fun i b h=>by unfold lvE;rw[e2,h]
 have hh:∀ e,lvE d.vars.length (levN d) (Zab d) (2*(e/2))=lvE d.vars.length (levN d) (Zab d) e:=fun e=>Zhj (e2 _)
 refine⟨hk.dag.none0,hk.dag.okLo,hk.dag.okHi,fun i b c h1 h2=>?_,fun i b c h1 h2=>?_⟩
 . have a1:=hk.dag.lvLo _ _ h1;have a2:=hk.dag.lt _ (hk.dag.var _ _ h1);have a3:=hh b.lo;rw[hl i b h1];omega
 . have a1:=hk.dag.lvHi _ _ h1;have a2:=hk.dag.lt _ (hk.dag.var _ _ h1);have a3:=hh b.hi;rw[hl i b h1];omega
theorem Yan {o:Own}{w:World}{sb:Nat}{d:Zag}{V:Nat->BF}(h:Zax o w sb d)(hlt:Zal o w)(hk:Zaq d V)(f:Nat)(hf:okE (Zab d) f)(htop:∀ y b,Zab d y=some b->Za0 d y<1099511627776) :
 Calls prog 158 #[.pointer (some ⟨sb,0,none⟩),.int .i64 f] w fun x w'=>x=.returned (.int .i64 0)/\∃ d',Zax o w' sb d'/\Zal o w'/\Zgo d d' f 1/\Chg Zar o o w w':=by
 obtain⟨s,h⟩:=h;have g0:=h.edge_lt hf;rcases hf with h0|⟨b,hb⟩
 . refine(Zl6 h hlt hk.live f (by unfold eMax;omega) h0).mono ?_;rintro e w' ⟨d',h1,h2,h3,h4,h5⟩;exact⟨h1,d',⟨s,h2⟩,h3,h4,h5⟩
 . refine(Zl5 h hlt hk.live (Zze hk) f (b:=b) hb htop).mono ?_;rintro e w' ⟨d',h1,h2,h3,h4,h5⟩;exact⟨h1,d',⟨s,h2⟩,h3,h4,h5⟩
theorem Zgo.ok {d d':Zag}{V:Nat->BF}{f:Nat}{sg:Int}(r:Zgo d d' f sg)(hk:Zaq d V):Zaq d' V:=by
 have hl:levN d'=levN d:=by funext v;unfold levN;rw[r.level]
 exact⟨by rw[r.vars,hl,r.nodes];exact hk.dag,r.live,by rw[r.vars,r.nodes,r.tab];exact hk.tab,by rw[r.clen];exact hk.clen,by rw[r.vars];exact hk.small,by rw[r.vars,hl];exact hk.inv,by rw[r.vars,hl];exact hk.vlt⟩
theorem Znx (hs:List (Int×Nat))(n:Int)(f i:Nat)(hn:1<n):Zb7 (hs++[(n,f)]) i=Zb7 hs i+(if f/2=i then 1 else 0):=by
 unfold Zb7;rw[List.filter_append,List.length_append];congr 1
 by_cases e:f/2=i
 . simp[e,hn]
 .
  have:(f/2 == i)=false:=by simp[e]
  simp[e,this,List.filter]
theorem Zwu (hs:List (Int×Nat))(i:Nat):Zb7 hs i<=hs.length:=List.length_filter_le _ _
structure Gave (K:Law)(o:Own)(w:World)(mb:Nat)(m:ManD)(V:Nat->BF)(f:Nat)(o':Own)(w':World)(m':ManD):Prop where
 is:Zfo (K m'.d V) o' w' mb m'
 lt:Zal o' w'
 chg:Chg (fun _=>True) o o' w w'
 ok:Zsv m' V
 hs:m'.hs=m.hs++[(m.next,f)]
 next:m'.next=m.next+1
 waits:m'.waits=m.waits
 calls:m'.calls=m.calls
 nodes:Zab m'.d=Zab m.d
 vars:m'.d.vars=m.d.vars
 level:m'.d.level=m.d.level
 room:m'.d.pool.room=m.d.pool.room
 many:m'.d.pool.many=m.d.pool.many
theorem Zo7 {m:ManD}{d':Zag}{f:Nat}(h:Zca m)(r:Zgo m.d d' f 1)(hf:okE (Zab m.d) f)(h0:Zab m.d 0=none):Zca { m with d:=d',hs:=m.hs++[(m.next,f)],next:=m.next+1 }:=by
 have hn:=h.next
 refine⟨?_,by simp[h.zero],by simp[h.one],?_,by dsimp only;omega,?_,?_,?_⟩
 . dsimp only;rw[List.map_append,List.nodup_append];refine⟨h.nodup,by simp,fun a ha b hb=>?_⟩;simp at hb;subst hb;rintro rfl;obtain⟨p,hp,e⟩:=List.mem_map.1 ha;have:=(h.lt p hp).2;omega
 .
  intro p hp;rcases List.mem_append.1 hp with hp|hp
  . have:=h.lt p hp;dsimp only;omega
  . simp at hp;subst hp;dsimp only;omega
 .
  intro p hp;dsimp only;rw[r.nodes];rcases List.mem_append.1 hp with hp|hp
  . exact h.ok p hp
  . simp at hp;subst hp;exact hf
 . have:=h.len;simp;omega
 .
  intro i b hb;dsimp only at hb ⊢;rw[r.nodes] at hb;have hi:i≠0:=by rintro rfl;rw[h0] at hb;cases hb
  rw[r.ext i hi,h.refs i b hb,Znx _ _ _ _ (by omega)];unfold toE;split<;>simp
theorem Zyl {k:Int}{v:Value}{l:List (Int×Value)}(h:∀ p∈l,p.1≠k):putL k v l=l++[(k,v)]:=by
 have h1:=Zez.2 h;unfold getL at h1;unfold putL;cases e:Zdq k l 0 with
 | none=>rfl
 | some p=>rw[e] at h1;cases h1
theorem Zcg.setMap {F:Phi}{o:Own}{w w':World}{mb:Nat}{m:ManD}{s:ManW}(h:Zcg F o w mb m s)(hlt:Zal o w){hs':List (Int×Nat)}(hm:Zcw w' s.hb (Value.int .i64) (encH hs'))(hg:w.grownBy w' (some s.hb)):Zcg F o w' mb { m with hs:=hs' } s:=by
 have k:∀ {g r},o g=some r->r ≠ .handles->w'.heap[g]?=w.heap[g]?:=fun hq hr=>hg.block _ (hlt _ _ hq) (fun e=>by cases e;have:=h.ownh;rw[hq] at this;cases this;exact hr rfl)
 exact⟨h.own,(k h.own (by simp)).trans h.blk,h.store.keepR (fun g r hq hr=>k hq (by rintro rfl;simp[Zar,Zfi] at hr)) (fun _ _ h=>h),h.memo.keep (fun g r hq hr=>k hq (by rintro rfl;rcases hr with e|e<;>cases e)) (fun _ _ h=>h),h.ownh,hm,
  h.waits.keep (fun g hq=>k hq (by simp)) (fun _ h=>h)⟩
theorem kI:Zoe prog 3 (Value.int .i64):=Zvz underlying3
theorem Zng {K:Law}(hK:Zec K){o:Own}{w:World}{mb:Nat}{m:ManD}{V:Nat->BF}(hm:Zfo (K m.d V) o w mb m)(hlt:Zal o w)(hk:Zsv m V)(f:Nat)(hf:okE (Zab m.d) f)(hb:m.next<1099511627776) :
 Calls prog 107 #[.pointer (some ⟨mb,0,none⟩),.int .i64 f] w fun x w'=>x=.returned (.int .i64 m.next)/\∃ o' m',Gave K o w mb m V f o' w' m':=by
 obtain⟨s,hm⟩:=hm;obtain⟨c0,c1,c2,c3,c4,c5,f0⟩:=cells6 hm.blk
 have gh:=Hd (Yan hm.store hlt hk.store f hf (fun y b hy=>by
  rw[hk.handles.refs y b hy];have h1:=Zwu m.hs y;have h2:=hk.handles.len;omega))
 have gl:=hk.handles.next
 have HM:=Hd hm;have HL:=Hd hlt;have HK:=Hd hk;have HF:=Hd hf;have ge:=Hd hK;clear hm hlt hk hf hK
 go_enter func107,ntmps107
 go_wp2_with fail;refine gh.out.mono ?_;rintro x w1 ⟨rfl,d',g8,ga,hr,g3⟩;have g5:=HM.out.setStore HL.out g8 g3;have g0:∀ p∈encH m.hs,p.1≠m.next:=by
  intro p hp e0;obtain⟨q,hq,rfl⟩:=List.mem_map.1 hp;have h1:=HK.out.handles.lt q hq;have h2:q.1<m.next:=h1.2
  have h3:q.1=m.next:=e0
  omega
 have gi:=Hd g0;have g7:=Hd g5;have gd:=Hd ga;have HR:=Hd hr;have gk:=Hd g3;clear g8 ga hr g3 g0 c0 c1 c2 c3 c4 c5 f0;obtain⟨c0,c1,c2,c3,c4,c5,f0⟩:=cells6 g5.blk;clear g5;go_upto_region 3 with fail
 go_wp2_with (refine Zh0 (l := encH m.hs) rfl _ _ _ rfl kI underlying131 m.next (.int .i64 (f : Nat)) rfl rfl rfl g7.out.map ?_
              intro w2 g2 g1;have g9:Zal o w2:=gd.out.mono g1.size;rw[Zyl gi.out] at g2;have g4:=g7.out.setMap gd.out (hs':=m.hs++[(m.next,f)]) (by simpa [encH] using g2) g1;have gc:Chg (fun _=>True) o o w w2:=gk.out.any.grown g1 (fun g hg=>by cases hg;exact⟨_,g7.out.ownh,trivial⟩);have g6:=Hd g4;have gg:=Hd g9;have gj:=Hd gc;clear c0 c1 c2 c3 c4 c5 f0 g2 g1 g9 gc;obtain⟨c0,c1,c2,c3,c4,c5,f0⟩:=cells6 g4.blk;clear g4)
 go_ret;have hr:=HR.out;have gf:Zcg (K m.d V) o (w2.setCell ⟨mb,3,none⟩ (.int .i64 (m.next+1))) mb { m with d:=d',hs:=m.hs++[(m.next,f)],next:=m.next+1 } s:=g6.out.field rfl rfl rfl rfl rfl g6.out.waits rfl;refine⟨rfl,o,_,⟨⟨s,gf.mono fun op a b c r h=>ge.out.same _ _ _ _ _ _ _ _ hr.vars hr.level hr.nodes h⟩,gg.out.mono (by simp[World.setCell]),gj.out.setCell (p:=⟨mb,3,none⟩) g6.out.own trivial _,⟨hr.ok HK.out.store,Zo7 HK.out.handles hr HF.out HK.out.store.dag.none0⟩,rfl,rfl,rfl,rfl,hr.nodes,hr.vars,hr.level,hr.room,hr.many⟩⟩
open Go.RowKit
def doW (gop:Nat)(lop:Array Value)(w:World):World:=(w.alloc (.cells #[.func (.func gop) #[] lop] 202)).alloc (.cells #[.int .i64 0] 151)
theorem Zs4:∀ args w,(callFunc 187 args).run prog w=.ok (.enter 187 args) w:=enters_of func187 (by kernel_rfl) rfl
theorem Ybg (w:World)(g:Fn)(fs cs:Array Value):(binOp .eql 202 (.func g fs cs) .nilFunc).run prog w=.ok (.bool false) w:=by
 have hd:Op.maxDepth=9999+1:=rfl;have h:(Op.equal 202 (.func g fs cs) .nilFunc).run prog w=.ok false w:=by
  unfold Op.equal;rw[hd];unfold Op.equalIn;simp only[Sem.run_bind,run_underlying underlying202,Result.andThen_ok];simp
 simp only[binOp];simp[h]
open Go.RowKit
def varF (v:Nat):BF:=fun ρ=>ρ v
theorem Zq2:∀ args w,(callFunc 138 args).run prog w=.ok (.enter 138 args) w:=enters_of func138 (by kernel_rfl) rfl
open Go.RowKit
theorem Zy6 (w:World):(zeroValue 151).run prog w=.ok (.int .i64 0) w:=by
 have s:(prog.info? 151).map (fun i=>i.zero)=some (some (.int .i64 0)):=by kernel_rfl
 cases hi:prog.info? 151 with
 | none=>rw[hi] at s;cases s
 | some i =>
   rw[hi] at s;simp only[Option.map_some,Option.some.injEq] at s;simp[zeroValue,typeInfo,hi,s]
theorem Zer {hs:List (Int×Nat)}(h:(hs.map Prod.fst).Nodup):((encH hs).map Prod.fst).Nodup:=by
 have:(encH hs).map Prod.fst=hs.map Prod.fst:=by simp[encH]
 rw[this];exact h
section
variable {F:Phi}{o:Own}{w:World}{mb:Nat}{m:ManD}{s:ManW}
theorem Zip (h:Zcg F o w mb m s)(hn:(m.hs.map Prod.fst).Nodup){k:Int}{f:Nat}(hk:(k,f)∈m.hs) :
 (Instr.lookup 131 (.map (some s.hb)) (.int .i64 k) true).run prog w=.ok (.tuple #[.int .i64 f,.bool true]) w:=by
 have h1:=h.map.lookup kI underlying131 Zy6 k true;have h2:getL (encH m.hs) k=some (.int .i64 (f:Nat)):=Zdl (Zer hn) (List.mem_map.2 ⟨(k,f),hk,rfl⟩);rw[h1,h2];rfl
end
theorem Zh5 {F:Phi}{o:Own}{w:World}{xb mb:Nat}{m:ManD}(h:Zfo F o w mb m)(hx:Zig o w xb mb)(hn:(m.hs.map Prod.fst).Nodup){k:Int}{f:Nat}(hk:(k,f)∈m.hs) :
 Calls prog 142 #[.pointer (some ⟨xb,0,none⟩),.int .i64 k] w fun x w'=>x=.returned (.int .i64 f)/\w=w':=by
 obtain⟨s,h⟩:=h;obtain⟨c0,c1,c2,c3,c4,c5,f0⟩:=cells6 h.blk;have cx:=hx.cell;have hl:=Zip h hn hk;clear h hx hn hk
 go_enter func142,ntmps142
 go_wp2_with fail;go_ret;exact⟨rfl,rfl⟩
theorem Yal {F:Phi}{o:Own}{w:World}{mb:Nat}{m:ManD}(h:Zfo F o w mb m) :
 Calls prog 80 #[.pointer (some ⟨mb,0,none⟩)] w fun x w'=>x=.returned (.int .i64 m.hs.length)/\w=w':=by
 obtain⟨s,h⟩:=h;obtain⟨c0,c1,c2,c3,c4,c5,f0⟩:=cells6 h.blk;have hl:=h.map.size (P:=prog) underlying131 3;have e:(encH m.hs).length=m.hs.length:=by simp[encH]
 rw[e] at hl;clear h e
 go_enter func80,ntmps80
 go_wp2_with fail;go_ret;exact⟨rfl,rfl⟩
open Go.RowKit
end Go.Proofs.YtkbegdkpboklpaaGreat

namespace Go.Proofs.YtkbegdkpboklpaaGreat
open Go.Proofs.Tryz
open Go.RowKit
theorem Zq1:∀ args w,(callFunc 140 args).run prog w=.ok (.enter 140 args) w:=enters_of func140 (by kernel_rfl) rfl
def box3 (a b c:Int)(w:World):World:=((w.alloc (.cells #[.int .i64 a] 3)).alloc (.cells #[.int .i64 b] 3)).alloc (.cells #[.int .i64 c] 3)
theorem Zz3 (a b c:Int)(w:World):Below w.heap.size w (box3 a b c w)/\(box3 a b c w).cell? ⟨w.heap.size,0,none⟩=some (.int .i64 a)/\(box3 a b c w).cell? ⟨w.heap.size+1,0,none⟩=some (.int .i64 b)/\(box3 a b c w).cell? ⟨w.heap.size+2,0,none⟩=some (.int .i64 c):=by
 have h0:=heap_alloc_new w (.cells #[.int .i64 a] 3);have h1:=heap_alloc_new (w.alloc (.cells #[.int .i64 a] 3)) (.cells #[.int .i64 b] 3);have h2:=heap_alloc_new ((w.alloc (.cells #[.int .i64 a] 3)).alloc (.cells #[.int .i64 b] 3)) (.cells #[.int .i64 c] 3);rw[World.size_alloc] at h1;rw[World.size_alloc,World.size_alloc] at h2;have a0:(box3 a b c w).heap[w.heap.size]?=some (.cells #[.int .i64 a] 3 (0,0)):=(Go.heap_alloc_old _ _ (by simp;omega)).trans ((Go.heap_alloc_old _ _ (by simp)).trans h0);have a1:(box3 a b c w).heap[w.heap.size+1]?=some (.cells #[.int .i64 b] 3 (0,0)):=(Go.heap_alloc_old _ _ (by simp)).trans h1;have a2:(box3 a b c w).heap[w.heap.size+2]?=some (.cells #[.int .i64 c] 3 (0,0)):=h2;exact⟨((Zad w _).alloc (by simp) _).alloc (by simp;omega) _,by rw[cell_of_row _ _ 0 _ _ _ a0];rfl,by rw[cell_of_row _ _ 0 _ _ _ a1];rfl,by rw[cell_of_row _ _ 0 _ _ _ a2];rfl⟩
open Go.RowKit
def man0 (n room:Nat):ManD:=⟨store0 n room,[(0,1),(1,0)],2,[],0⟩
theorem nodes0 (n room:Nat):Zab (store0 n room)=fun _=>none:=by
 funext i;have ht:(pool0 room).tk i=false:=by
  unfold Zao.tk pool0;cases i with
  | zero=>rfl
  | succ i=>rfl
 unfold Zab store0 Zao.get;simp[ht]
theorem Zjc (n v:Nat)(h:v<n):(List.range n).getD v 0=v:=by simp[List.getD,h]
theorem Zw8 (n room:Nat)(hn:n<=64):Zaq (store0 n room) (fun _ _=>true):=by
 have hl:∀ v,v<n->levN (store0 n room) v=v:=fun v hv=>Zjc n v hv
 have g1:(store0 n room).vars.length=n:=by simp[store0]
 have g0:∀ i b,Zab (store0 n room) i=some b->False:=fun i b h=>by rw[nodes0] at h;cases h
 refine⟨⟨fun _=>rfl,by rw[nodes0],fun i b h=>(g0 i b h).elim,fun u v hu hv e=>?_,fun v hv=>?_,fun i b h=>(g0 i b h).elim,fun i b h=>(g0 i b h).elim,fun i b h=>(g0 i b h).elim,fun i b h=>(g0 i b h).elim,fun i b h=>(g0 i b h).elim,fun i b h=>(g0 i b h).elim,fun i j b h=>(g0 i b h).elim,fun i b h=>(g0 i b h).elim⟩,
  ?_,fun v hv lo hi id=>⟨fun h=>absurd (show (none:Option Nat)=some id from h) (by simp),fun h=>(g0 _ _ h).elim⟩,by simp[store0],by rw[g1];exact hn,fun v hv=>?_,fun i hi=>?_⟩
 . rw[g1] at hu hv;rw[hl u hu,hl v hv] at e;exact e
 . rw[g1] at hv ⊢;rw[hl v hv];exact hv
 .
  refine⟨⟨fun i b h=>(g0 i b h).elim,fun i b h=>(g0 i b h).elim⟩,?_,fun i b h=>(g0 i b h).elim⟩;have h1:Zek (store0 n room).pool.at_.length (Zab (store0 n room)) (Zaz (store0 n room))=Zaw (store0 n room).pool.at_.length (dead1 (Zab (store0 n room)) (Zaz (store0 n room))):=rfl;rw[h1,nodes0];have h2:dead1 (fun _=>none) (Zaz (store0 n room)) 0=0:=rfl
  show (0:Int)=Zaw 1 _
  simp[Zaw,h2]
 . rw[g1] at hv;rw[hl v hv];exact Zjc n v hv
 . rw[g1] at hi ⊢;have e:(store0 n room).vars.getD i 0=i:=Zjc n i hi;rw[e];exact⟨hi,hl i hi⟩
theorem Zv9 (n room:Nat)(hn:n<=64):Zsv (man0 n room) (fun _ _=>true) :=
 ⟨Zw8 n room hn,⟨by simp[man0],by simp[man0],by simp[man0],by simp[man0],by simp[man0],fun p hp=>by simp[man0] at hp;rcases hp with rfl|rfl<;>exact .inl rfl,by simp[man0],fun i b h=>by rw[show (man0 n room).d=store0 n room from rfl,nodes0] at h;cases h⟩⟩
def Zft:Law:=fun d V op a b c r=>op=1->IteP d V a b c r
theorem Zpd:Zec Zft:=⟨fun d V a b c r=>⟨fun h=>h rfl,fun h _=>h⟩,fun d V d' V' op a b c r hk hk' x h e=>(h e).ext x hk hk',fun d d' V op a b c r h1 h2 h3 h e=>by
 have q:=h e;have hl:levN d'=levN d:=by funext v;unfold levN;rw[h2]
 have hm:minL d' a b c=minL d a b c:=by unfold minL;rw[h1,hl,h3]
 exact⟨by rw[h3];exact q.okA,by rw[h3];exact q.okB,by rw[h3];exact q.okC,by rw[h3];exact q.okR,q.val,by rw[hm,h1,hl,h3];exact q.lev⟩⟩
theorem Zwi {F:Phi}(o:Own)(n room:Nat)(w:World)(hlt:Zal o w)(hn:n<=64)(h1:1<=room)(h2:room<=1048576) :
 Calls prog 43 #[.int .i64 n,.int .i64 room] w fun x w'=>∃ mb o',x=.returned (.tuple #[.pointer (some ⟨mb,0,none⟩),.int .i64 0])/\Zfo F o' w' mb (man0 n room)/\Chg (fun _=>True) o o' w w'/\Zal o' w'/\w.heap.size<=mb:=by
 have HS:=Hd (Zwj o n room w hlt hn h1 h2);clear hlt hn h1 h2
 go_enter func43,ntmps43
 go_wp2_with fail;refine HS.out.mono ?_;rintro x w1 ⟨sb,o1,rfl,gf,gl,gi,gt⟩;have go:=Hd gf;have gr:=Hd gl;have g3:=Hd gi;clear gf gl gi;have gw:=Zh8 (P:=prog) w1 131;obtain⟨wA,gv,gh,g2⟩:=(Zpl w1 (Value.int .i64)).update (P:=prog) kI underlying131 0 (.int .i64 1);obtain⟨wB,gu,gc,g6⟩:=gh.update (P:=prog) kI underlying131 1 (.int .i64 0);have gj:=g3.out.allocR (.map #[] 0) .handles;have gk:Chg (fun _=>True) o (Zcx o1 w1.heap.size .handles) w wB :=
  ((gr.out.any.allocR (r:=.handles) g3.out (.map #[] 0) trivial).grown g2 (fun g hg=>by cases hg;exact⟨_,Zbg _ _ _,trivial⟩)).grown g6 (fun g hg=>by cases hg;exact⟨_,Zbg _ _ _,trivial⟩)
 have gd:Zal (Zcx o1 w1.heap.size .handles) wB:=gj.mono (Nat.le_trans g2.size g6.size);have ga:∀ g r,o1 g=some r->g≠w1.heap.size:=fun g r hg e=>by have:=g3.out g r hg;omega
 have g5:∀ g r,o1 g=some r->wB.heap[g]?=w1.heap[g]?:=fun g r hg=>by
  have a0:=g3.out g r hg;have a1:g<(w1.alloc (.map #[] 0)).heap.size:=by simp;omega
  rw[g6.block g (Nat.lt_of_lt_of_le a1 g2.size) (by intro e;cases e;exact ga _ _ hg rfl),g2.block g a1 (by intro e;cases e;exact ga _ _ hg rfl)];exact Go.heap_alloc_old _ _ a0
 have gp:=Hd (go.out.keepR (o':=Zcx o1 w1.heap.size .handles) (fun g r hg _=>g5 g r hg) (fun g r hg=>Zdd g3.out (Nat.le_refl _) hg));have gq:Hid (Zcw wB w1.heap.size (Value.int .i64) [(0,.int .i64 1),(1,.int .i64 0)]):=Hd gc;have gn:=Hd gk;have gm:=Hd gd;have HME:=Hd (Zyd (Zcx o1 w1.heap.size .handles) F wB gd);have gx:w1.heap.size<wB.heap.size:=gc.lt;clear gh g2 gc g6 gj gk gd ga g5;go_wp2_with fail;refine HME.out.mono ?_;rintro x w2 ⟨me,o2,rfl,gg,g0,g1,gy⟩;have g7:=gp.out.keepR (o':=o2) (w':=w2) (fun g r hg hr=>g0.same gm.out hg (by rintro rfl;simp[Zar,Zfi] at hr)) g0.ext;have g4:=gq.out.keepB (g0.same gm.out (Zbg o1 w1.heap.size .handles) (by simp));have g8:=g0.ext _ _ (Zbg o1 w1.heap.size .handles);have HF:Hid (∀ w3,w3=w2.alloc (.cells #[.pointer (some ⟨sb,0,none⟩),.pointer (some ⟨me,0,none⟩),.map (some w1.heap.size),.int .i64 2,.slice none 0 0,.int .i64 0] 133)->Zfo F (Zcx o2 w2.heap.size .man) w3 w2.heap.size (man0 n room)/\Chg (fun _=>True) o (Zcx o2 w2.heap.size .man) w w3/\Zal (Zcx o2 w2.heap.size .man) w3/\w.heap.size<=w2.heap.size):=by
  refine Hd ?_;rintro w3 rfl;have ge:∀ g r,o2 g=some r->(w2.alloc (.cells #[.pointer (some ⟨sb,0,none⟩),.pointer (some ⟨me,0,none⟩),.map (some w1.heap.size),.int .i64 2,.slice none 0 0,.int .i64 0] 133)).heap[g]?=w2.heap[g]?:=fun g r hg=>Go.heap_alloc_old _ _ (g1 g r hg)
  have g9:∀ g r,o2 g=some r->Zcx o2 w2.heap.size .man g=some r:=fun g r hg=>Zdd g1 (Nat.le_refl _) hg
  exact⟨⟨⟨sb,me,w1.heap.size,.slice none 0 0⟩,Zbg _ _ _,heap_alloc_new w2 _,g7.keepR (fun g r hg _=>ge g r hg) g9,gg.keep (fun g r hg _=>ge g r hg) g9,g9 _ _ g8,g4.keepB (ge _ _ g8),Zb3.nil _ _⟩,
   (gn.out.trans g0.any).allocR g1 _ trivial,g1.allocR _ _,(gn.out.trans g0.any).size⟩
 clear g7 g4 g8 gg g0 g1;go_wp2_with fail
 go_ret2
 obtain⟨a1,a2,a3,a4⟩:=HF.out _ rfl;exact⟨_,_,rfl,a1,a2,a3,a4⟩
open Go.RowKit
section
variable {F:Phi}{o:Own}{w:World}{sb mb:Nat}{d:Zag}{m:ManD}
theorem Zn9 (h:Zax o w sb d):Calls prog 123 #[.pointer (some ⟨sb,0,none⟩)] w fun x w'=>x=.returned (.int .i64 d.vars.length)/\w=w':=by
 obtain⟨s,h⟩:=h;obtain⟨c0,c1,c2,c3,c4,f0⟩:=cells5 h.blk;obtain⟨d0,d1,_⟩:=cells2 h.lev;obtain⟨a,cap,hv,_⟩:=h.vars.slice;rw[hv] at d0;clear h hv
 go_enter func123,ntmps123
 go_wp2_with fail;go_ret;exact⟨rfl,rfl⟩
theorem Zk3 (h:Zfo F o w mb m):Calls prog 58 #[.pointer (some ⟨mb,0,none⟩)] w fun x w'=>x=.returned (.int .i64 m.d.vars.length)/\w=w':=by
 obtain⟨s,h⟩:=h;obtain⟨c0,c1,c2,c3,c4,c5,f0⟩:=cells6 h.blk;have HP:=Hd (Zn9 h.store);clear h
 go_enter func58,ntmps58
 go_wp2_with fail;refine HP.out.mono ?_;rintro x w' ⟨rfl,rfl⟩;go_wp2_with fail;go_ret;exact⟨rfl,rfl⟩
end
open Go.RowKit
structure Zgn (w:World)(a:Option Addr)(bs:List Bool):Prop where
 len:bs.length<=1000000
 cells:∀ k,k<bs.length->∃ b off,a=some ⟨b,off,none⟩/\w.cell? ⟨b,off+k,none⟩=some (.bool (bs.getD k false))
theorem Zgn.below {w w':World}{a:Option Addr}{bs:List Bool}(h:Zgn w a bs)(hb:Below w.heap.size w w'):Zgn w' a bs :=
 ⟨h.len,fun k hk=>by
  obtain⟨b,off,rfl,hc⟩:=h.cells k hk;exact⟨b,off,rfl,(hb.cell (p:=⟨b,off+k,none⟩) (Zaa hc)).trans hc⟩⟩
def Zdc (bs:List Bool):Nat->Bool:=fun v=>bs.getD v false
theorem Zxw {F:Phi}{o:Own}{w:World}{mb:Nat}{m:ManD}{V:Nat->BF}(h:Zfo F o w mb m)(hlt:Zal o w)(hk:Zsv m V){k:Int}{f:Nat}(hkf:(k,f)∈m.hs)(a:Option Addr)(c:Nat)(bs:List Bool)(hbs:Zgn w a bs) :
 Calls prog 134 #[.pointer (some ⟨mb,0,none⟩),.int .i64 k,.slice a bs.length c] w fun x w'=>x=.returned (.tuple #[.bool (ef V f (Zdc bs)),.int .i64 0])/\Below w.heap.size w w':=by
 obtain⟨s,h⟩:=h;obtain⟨c0,c1,c2,c3,c4,c5,f0⟩:=cells6 h.blk;have gq:=Zip h hk.handles.nodup hkf;have HM:=Hd h;have gj:=Hd hlt;have HK:=Hd hk.store;have gn:=Hd (hk.handles.ok _ hkf);have gu:=Hd hbs;have gv:=hbs.len;clear h hlt hk hkf hbs
 go_enter func134,ntmps134
 go_wp2_with fail
 go_loopg [8] (m.d.vars.length-lvE m.d.vars.length (levN m.d) (Zab m.d) f) (fun gk s8 wx=>∃ e:Nat,s8=.int .i64 e/\okE (Zab m.d) e/\ef V e (Zdc bs)=ef V f (Zdc bs)/\Below w.heap.size w wx/\gk=m.d.vars.length-lvE m.d.vars.length (levN m.d) (Zab m.d) e)
 case atStart=>exact⟨f,rfl,gn.out,rfl,Below.refl _ _,rfl⟩
 case round =>
  obtain⟨e,rfl,g0,gd,hB,gc⟩:=hrel;clear c0 c1 c2 c3 c4 c5 f0 gq;have hm:=HM.out.below gj.out hB;obtain⟨c0,c1,c2,c3,c4,c5,f0⟩:=cells6 hm.blk;have ge:e<eMax:=by
   obtain⟨ss,gp⟩:=hm.store;have:=gp.edge_lt g0;unfold eMax;omega
  have HC:=Hd (fun W=>Zvb e W ge);have HA:=Hd (Zhp hm.store (gj.out.mono hB.size) HK.out e g0);have g5:=Hd gd;have HB:=Hd hB;have g4:=Hd gc;clear hm ge gd hB gc;cases hb:Zab m.d (e/2) with
  | none =>
    have h0:e/2=0:=by
     rcases g0 with h|⟨b,gi⟩
     . exact h
     . rw[hb] at gi;cases gi
    have he:decide (enode e=0)=true:=by simp[enode,h0]
    rw[he] at HC;have HR:Hid (ef V f (Zdc bs)=((e:Int) == 0)):=by
     show _=_
     rw[<- g5.out];have h1:=HK.out.dag.one (Zdc bs);have h2:e=0\/e=1:=by omega
     rcases h2 with rfl|rfl<;>simp[ef,h1]
    clear g0 hb h0 he;go_wp2_with fail;refine(HC.out _).mono ?_;rintro x w' ⟨rfl,rfl⟩;go_wp2_with fail
    go_ret2
    exact⟨by rw[HR.out];rfl,HB.out⟩
  | some b =>
    have g8:=HK.out.dag.var _ _ hb;have g6:lvE m.d.vars.length (levN m.d) (Zab m.d) e=levN m.d b.v:=by unfold lvE;rw[hb]
    have gf:=Zf4 HK.out g0 g8 (by rw[g6];exact Nat.le_refl _);have gg:cofs m.d e b.v=(eflip b.lo (eneg e),eflip b.hi (eneg e)):=by unfold cofs;rw[hb];simp
    rw[gg] at gf;obtain⟨k1,k2,k3,k4,k5⟩:=gf;have k5:=k5 (Zdc bs);dsimp only at k1 k2 k3 k4 k5;have g7:=HK.out.dag.lt _ g8;have ga:decide (enode e=0)=false:=by
     have:enode e≠0:=by rintro h0;have h1:e/2=0:=h0;rw[h1,HK.out.dag.none0] at hb;cases hb
     simp[this]
    rw[ga] at HC;unfold atV at HA;rw[hb] at HA;obtain⟨L,hL⟩:∃ L,L=eflip b.lo (eneg e):=⟨_,rfl⟩;obtain⟨H,hH⟩:∃ H,H=eflip b.hi (eneg e):=⟨_,rfl⟩;rw[<- hL,<- hH] at k5;rw[<- hL] at k1 k3;rw[<- hH] at k2 k4;dsimp only at HA;rw[<- hL,<- hH] at HA;rw[g6] at g4;have gm:=Hd k1;have gt:=Hd k2;have gl:=Hd k3;have gr:=Hd k4;have g1:=Hd k5;have g9:=Hd g7;clear g0 hb g8 g6 gg k1 k2 k3 k4 k5 g7 ga hL hH;go_wp2_with fail;refine(HC.out _).mono ?_;rintro x w' ⟨rfl,rfl⟩;go_wp2_with fail;refine HA.out.mono ?_;rintro x w2 ⟨rfl,gh⟩;have HB2:=Hd (HB.out.trans (gh.mono HB.out.size));clear gh c0 c1 c2 c3 c4 c5 f0
    by_cases hv:b.v<bs.length
    .
     obtain⟨b0,off,ha,g2⟩:=(gu.out.below HB2.out).cells b.v hv;subst ha;have go:(b.v:Int)<bs.length:=by omega
     have hx:Zdc bs b.v=bs.getD b.v false:=rfl;rw[<- hx] at g2;cases g3:Zdc bs b.v with
     | true =>
       rw[g3] at g2 g1;clear g3 hx;go_wp2_with fail
       go_roundg (m.d.vars.length-lvE m.d.vars.length (levN m.d) (Zab m.d) H)
       case rel=>exact⟨H,rfl,gt.out,by rw[<- g5.out,g1.out];rfl,HB2.out,rfl⟩
       case measure=>have h1:=g4.out;have h2:=gr.out;have h3:=g9.out;omega
     | false =>
       rw[g3] at g2 g1;clear g3 hx;go_wp2_with fail
       go_roundg (m.d.vars.length-lvE m.d.vars.length (levN m.d) (Zab m.d) L)
       case rel=>exact⟨L,rfl,gm.out,by rw[<- g5.out,g1.out];rfl,HB2.out,rfl⟩
       case measure=>have h1:=g4.out;have h2:=gl.out;have h3:=g9.out;omega
    .
     have go:¬ (b.v:Int)<bs.length:=by omega
     have hx:Zdc bs b.v=false:=by unfold Zdc;simp[List.getD,List.getElem?_eq_none (Nat.le_of_not_lt hv)]
     rw[hx] at g1;clear hx;go_wp2_with fail
     go_roundg (m.d.vars.length-lvE m.d.vars.length (levN m.d) (Zab m.d) L)
     case rel=>exact⟨L,rfl,gm.out,by rw[<- g5.out,g1.out];rfl,HB2.out,rfl⟩
     case measure=>have h1:=g4.out;have h2:=gl.out;have h3:=g9.out;omega
open Go.RowKit
structure Zod (T ST:TypeId)(z:Value)(b:Nat):Prop where
 under:prog.underlying ST=some (.slice T)
 info:(prog.info? T).map (fun i=>(i.zero,i.size,i.bytes))=some (some z,1,b)
 one:z.cells=#[z]
 small:b<=100
theorem Zm9:Zod 3 23 (.int .i64 0) 8:=⟨underlying23,by kernel_rfl,rfl,by omega⟩
theorem Zhg:Zod 4 55 (.bool false) 1:=⟨underlying55,by kernel_rfl,rfl,by omega⟩
theorem Yab:Zod 55 42 (.slice none 0 0) 24:=⟨underlying42,by kernel_rfl,rfl,by omega⟩
def OwnC (T:TypeId)(w:World)(base:Nat)(v:Value)(xs:List Value):Prop:=w.ownsRow base T 1 v xs.length xs
section
variable {T ST:TypeId}{z:Value}{b:Nat}{w w':World}{base:Nat}{v:Value}{xs:List Value}
theorem OwnC.alloc (h:OwnC T w base v xs)(o:Obj):OwnC T (w.alloc o) base v xs:=World.ownsRow.alloc h o
theorem OwnC.lt (h:OwnC T w base v xs):∀ k,v.ownBlock=some k->base<=k/\k<w.heap.size:=World.ownsRow.lt h
theorem OwnC.keep {row:Option Nat}(h:OwnC T w base v xs)(hk:Zev row w w')(hne:∀ k,v.ownBlock=some k->some k≠row):OwnC T w' base v xs:=by
 refine⟨h.1,?_⟩;rcases h.2 with hn|⟨g,cap,cur,rfl,hb,g0,rest⟩
 . exact .inl hn
 . refine .inr ⟨g,cap,cur,rfl,hb,?_,rest⟩;rw[hk g (Array.getElem?_eq_some_iff.1 g0).1 (hne g rfl)];exact g0
theorem OwnC.same (h:OwnC T w base v xs)(hk:∀ k,v.ownBlock=some k->w'.heap[k]?=w.heap[k]?):OwnC T w' base v xs:=by
 refine⟨h.1,?_⟩;rcases h.2 with hn|⟨g,cap,cur,rfl,hb,g0,rest⟩
 . exact .inl hn
 . refine .inr ⟨g,cap,cur,rfl,hb,?_,rest⟩;rw[hk g rfl];exact g0
theorem OwnC.below (h:OwnC T w base v xs)(hb:Below w.heap.size w w'):OwnC T w' base v xs:=h.same fun k hk=>hb.block k (h.lt k hk).2
theorem OwnC.shape (h:OwnC T w base v xs)(hp:0<xs.length):∃ g cap,v=.slice (some ⟨g,0,none⟩) xs.length cap/\base<=g/\g<w.heap.size:=by
 rcases h.2 with ⟨_,h0⟩|⟨g,cap,cur,hv,hg,hh,_⟩
 . omega
 . exact⟨g,cap,hv,hg,(Array.getElem?_eq_some_iff.1 hh).1⟩
theorem OwnC.slice (h:OwnC T w base v xs):∃ a cap,v=.slice a xs.length cap/\(a=none->cap=0):=by
 rcases h.2 with ⟨hv,h0⟩|⟨g,cap,cur,hv,hg,hh,_⟩
 . exact⟨none,0,by rw[hv,h0],fun _=>rfl⟩
 . exact⟨_,cap,hv,by simp⟩
theorem OwnC.cell {g cap n:Nat}(h:OwnC T w base (.slice (some ⟨g,0,none⟩) n cap) xs)(k:Nat)(hk:k<xs.length):w.cell? ⟨g,k,none⟩=xs[k]?:=by
 have hn:n=xs.length:=by
  rcases h.2 with ⟨hv,_⟩|⟨_,_,_,hv,_⟩
  . cases hv
  . cases hv;rfl
 subst hn;exact World.ownsRow.cellAt h k (by omega)
theorem OwnC.frozen {g cap n:Nat}(h:OwnC T w base (.slice (some ⟨g,0,none⟩) n cap) xs)(k:Nat):w.frozen? ⟨g,k,none⟩=false:=by
 rcases h.2 with ⟨hv,_⟩|⟨_,_,_,hv,_⟩
 . cases hv
 . cases hv;exact World.ownsRow.frozenAt h k
theorem OwnC.stored {g cap n:Nat}(h:OwnC T w base (.slice (some ⟨g,0,none⟩) n cap) xs)(k:Nat)(y:Value):OwnC T (w.setCell ⟨g,k,none⟩ y) base (.slice (some ⟨g,0,none⟩) n cap) (xs.set k y):=by
 rcases h.2 with ⟨hv,_⟩|⟨_,_,_,hv,_⟩
 . cases hv
 . cases hv;have:=(World.ownsRow.stored h k y).1;unfold OwnC;rw[List.length_set];exact this
theorem OwnC.typed (h:OwnC T w base v xs):∀ k,v.ownBlock=some k->∃ cur,w.heap[k]?=some (.cells cur T (0,0)):=by
 intro k hk;rcases h.2 with ⟨rfl,_⟩|⟨g,cap,cur,rfl,_,hg,_⟩
 . cases hk
 . cases hk;exact⟨cur,hg⟩
theorem Zen (T:TypeId)(w:World)(base:Nat)(hb:base<=w.heap.size):OwnC T (w.alloc (.cells #[] T)) base (.slice (some ⟨w.heap.size,0,none⟩) 0 0) [] :=
 World.ownsRow_made w #[] 0 hb (by unfold maxLen;omega) (by simp)
theorem Zns (T:TypeId)(w:World)(base:Nat):OwnC T w base (.slice none 0 0) []:=World.ownsRow_nil w base T 1
theorem Zby (E:Zod T ST z b)(wr:World){ops:Array Oper}{rest:List Oper}{o:Oper}{a:Act}{Q:Exit->Act->World->Prop}{W:World}(hgd:o.guard=none)(s x:Operand)
 (ho:o.op=.call { callee:=.builtin .append,args:=#[s,x],argTypes:=#[ST,ST] })
 (base:Nat) (v:Value) (xs:List Value) (y:Value) (hs:a.eval s=v) {N:Nat} (hx:a.eval x=.slice (some ⟨N,0,none⟩) 1 1)
 (hW:W=wr.alloc (.cells #[y] T)) (hN:N=wr.heap.size) (hy:y.oneCell'=true)
 (hown:OwnC T wr base v xs) (hlen:xs.length<1099511627776) (hbase:base<=wr.heap.size)
 (h:∀ v' w',OwnC T w' base v' (xs++[y])->w'.os=wr.os->w'.tape=wr.tape->w'.output=wr.output->wr.heap.size<=w'.heap.size->Zda v v' wr w'->wpList prog ops Q rest (a.put o.dst v') w') :
 wpList prog ops Q (o::rest) a W:=by
 obtain⟨i,hi,hz,g1,g3⟩:=info_parts E.info;subst hN;subst hW
 have g2:=E.small;refine wpList_append_own_at (w:=wr.alloc (.cells #[y] T)) hgd s x ST ho base T i z 1 b E.under hi hz g1 g3 (by rw[E.one];rfl) (by decide)
  v xs.length xs hs (hown.alloc _) ⟨wr.heap.size,0,none⟩ 1 1 [y] hx rfl (cell_one_new _ _ _) (by intro u hu;simp at hu;subst hu;exact hy) (by unfold maxLen;omega) (by
   have h1:(xs.length+1)*b<=1099511627776*100:=Nat.mul_le_mul (by omega) g2;omega) (by simp;omega) ?_
 intro v' w' h1 h2 _ g0;refine h v' w' ?_ h2.os h2.tape h2.output ?_ ⟨Zee h2,g0.imp id fun e=>⟨_,e,by simp⟩⟩
 . unfold OwnC;rw[List.length_append];exact h1
 . have:=h2.size;simp at this;omega
theorem Zfr {w0 wr w':World}{v':Value}(hb:Below base w0 wr)(hown:OwnC T wr base v xs)(h1:w'.os=wr.os)(h2:w'.tape=wr.tape)(h3:w'.output=wr.output)(h4:wr.heap.size<=w'.heap.size)(hk:Zda v v' wr w')(hbase:base<=wr.heap.size):Below base w0 w' :=
 ⟨h1.trans hb.os,h2.trans hb.tape,h3.trans hb.output,Nat.le_trans hb.size h4,fun k hkb=>(hk.keep k (by omega) (fun e=>by have:=(hown.lt k e.symm).1;omega)).trans (hb.block k hkb)⟩
theorem Zjw (E:Zod T ST z b){ops:Array Oper}{rest:List Oper}{o:Oper}{a:Act}{Q:Exit->Act->World->Prop}{wr:World}(hgd:o.guard=none)(l c:Operand)
 (ho:o.op=.makeSlice ST l c) (base:Nat) (w0:World) (L:Int) (n:Nat) (hl:a.eval l=.int .i64 L) (hc:a.eval c=.int .i64 L) (hL:L=n) (hn:n<1099511627776)
 (hbase:base<=wr.heap.size) (hb:Below base w0 wr)
 (h:∀ g w',OwnC T w' base (.slice (some ⟨g,0,none⟩) n n) (List.replicate n z)->Below base w0 w'->base<=w'.heap.size->Zev none wr w'->base<=g->g=wr.heap.size ->
  wpList prog ops Q rest (a.put o.dst (.slice (some ⟨g,0,none⟩) n n)) w') :
 wpList prog ops Q (o::rest) a wr:=by
 obtain⟨i,hi,hz,g0,g2⟩:=info_parts E.info;have g1:=E.small
 refine wpList_make_full wr hgd l c ST ho base T i z 1 E.under hi hz g0 .i64 .i64 L L n hl hc hL hL (by
  have h1:i.bytes*n<=100*1099511627776:=Nat.mul_le_mul (by omega) (by omega);omega) (by unfold maxLen;omega) hbase ?_
 intro w' h1 h2;refine h wr.heap.size w' ?_ (hb.grown h2 hbase (by simp)) (by have:=h2.size;omega) (Zch h2) hbase rfl;unfold OwnC;have e1:List.replicate n z=(madeCells z.cells (n*1)).toList:=by
  rw[E.one];simp[madeCells];apply List.ext_getElem
  . simp
  . intro j h3 h4;simp[Nat.mod_one]
 rw[List.length_replicate,e1];exact h1
end
def Zbv (bs:List Bool):List Value:=bs.map Value.bool
theorem Zej (bs:List Bool):(Zbv bs).length=bs.length:=by simp[Zbv]
theorem getElem?_boolsV {bs:List Bool}{k:Nat}(h:k<bs.length):(Zbv bs)[k]?=some (.bool (bs.getD k false)):=by
 simp[Zbv,List.getD,h]
abbrev OwnB (w:World)(base:Nat)(v:Value)(bs:List Bool):Prop:=OwnC 4 w base v (Zbv bs)
def Zdj (w:World)(v:Value)(bs:List Bool):Prop:=∃ a c,v=.slice a bs.length c/\Zgn w a bs/\(a=none->c=0)
theorem Zdj.below {w w':World}{v:Value}{bs:List Bool}(h:Zdj w v bs)(hb:Below w.heap.size w w'):Zdj w' v bs:=by
 obtain⟨a,c,rfl,h1,h2⟩:=h;exact⟨a,c,rfl,h1.below hb,h2⟩
theorem Zdj.same {w w':World}{v:Value}{bs:List Bool}(h:Zdj w v bs)(hk:∀ k,v.ownBlock=some k->w'.heap[k]?=w.heap[k]?):Zdj w' v bs:=by
 obtain⟨a,c,rfl,h1,h2⟩:=h;refine⟨a,c,rfl,⟨h1.len,fun k g0=>?_⟩,h2⟩;obtain⟨g,off,rfl,hc⟩:=h1.cells k g0;exact⟨g,off,rfl,(World.cell?_of_block (w:=w) (a:=⟨g,off+k,none⟩) (hk g rfl)).trans hc⟩
theorem OwnC.boolsIs {w:World}{base:Nat}{v:Value}{bs:List Bool}(h:OwnB w base v bs)(hl:bs.length<=1000000):Zdj w v bs:=by
 obtain⟨a,c,hv,hn⟩:=h.slice;have g1:=hv;rw[Zej] at g1;refine⟨a,c,g1,⟨hl,fun k hk=>?_⟩,hn⟩;obtain⟨g,cap,g0,hb,hg⟩:=h.shape (by rw[Zej];omega);have ea:a=some ⟨g,0,none⟩:=by rw[hv] at g0;injection g0
 subst ea;refine⟨g,0,rfl,?_⟩;subst hv;rw[Nat.zero_add,h.cell k (by rw[Zej];exact hk),getElem?_boolsV hk]
theorem OwnC.setB {w:World}{base g cap n:Nat}{bs:List Bool}(h:OwnB w base (.slice (some ⟨g,0,none⟩) n cap) bs)(k:Nat)(y:Bool):OwnB (w.setCell ⟨g,k,none⟩ (.bool y)) base (.slice (some ⟨g,0,none⟩) n cap) (bs.set k y):=by
 have:=h.stored k (.bool y);unfold OwnB;rw[show Zbv (bs.set k y)=(Zbv bs).set k (.bool y) by simp[Zbv,List.map_set]];exact this
theorem OwnC.cellB {w:World}{base g cap n:Nat}{bs:List Bool}(h:OwnB w base (.slice (some ⟨g,0,none⟩) n cap) bs)(k:Nat)(hk:k<bs.length):w.cell? ⟨g,k,none⟩=some (.bool (bs.getD k false)):=by
 rw[h.cell k (by rw[Zej];exact hk),getElem?_boolsV hk]
open Go.RowKit
def grp (gs:List (List Int))(i:Nat):List Int:=gs.getD i []
theorem Zlh {α:Type}(key:α->Nat):∀ {l r:List α},l.Pairwise (fun a b=>key a<key b)->r.Pairwise (fun a b=>key a<key b)->(∀ x,x∈l↔x∈r)->l=r
 | [],[],_,_,_=>rfl
 | [],y::r,_,_,h=>by have:=(h y).2 (List.mem_cons_self ..);simp at this
 | x::l,[],_,_,h=>by have:=(h x).1 (List.mem_cons_self ..);simp at this
 | x::l,y::r,hl,hr,h=>by
   rw[List.pairwise_cons] at hl hr;have e:x=y:=by
    rcases List.mem_cons.1 ((h x).1 (List.mem_cons_self ..)) with e|e
    . exact e
    .
     rcases List.mem_cons.1 ((h y).2 (List.mem_cons_self ..)) with e2|e2
     . exact e2.symm
     . have:=hr.1 x e;have:=hl.1 y e2;omega
   subst e;have:l=r:=Zlh key hl.2 hr.2 fun z=>by
    constructor
    .
     intro hz;rcases List.mem_cons.1 ((h z).1 (List.mem_cons_of_mem _ hz)) with e|e
     . have:=hl.1 z hz;rw[e] at this;omega
     . exact e
    .
     intro hz;rcases List.mem_cons.1 ((h z).2 (List.mem_cons_of_mem _ hz)) with e|e
     . have:=hr.1 z hz;rw[e] at this;omega
     . exact e
   rw[this]
structure Placed (gs:List (List Int))(lev:Int->Nat)(l:List Nat):Prop where
 mem:∀ i,i∈l↔i<gs.length/\grp gs i≠[]
 inc:l.Pairwise fun i j=>lev ((grp gs i).headD 0)<lev ((grp gs j).headD 0)
theorem Placed.uniq {gs:List (List Int)}{lev:Int->Nat}{l r:List Nat}(h:Placed gs lev l)(h':Placed gs lev r):l=r :=
 Zlh (fun i=>lev ((grp gs i).headD 0)) h.inc h'.inc fun i=>(h.mem i).trans (h'.mem i).symm
def gather (gs:List (List Int))(l:List Nat):List Int:=l.flatMap (grp gs)
def headed (gs:List (List Int))(v:Int):List Nat:=(List.range gs.length).filter fun k=>decide ((grp gs k).head?=some v)
def Za3 (gs:List (List Int))(ord:List Int):List Nat:=ord.flatMap (headed gs)
theorem Zet {gs:List (List Int)}{v:Int}{k:Nat}:k∈headed gs v↔k<gs.length/\(grp gs k).head?=some v:=by simp[headed,List.mem_filter]
def Zuo (gs:List (List Int)):Prop:=(gs.flatten).Nodup
theorem Ze1 {gs:List (List Int)}{i:Nat}(h:i<gs.length):grp gs i=gs[i]:=by simp[grp,List.getD,h]
theorem Zky {gs:List (List Int)}(h:Zuo gs){i j:Nat}{v:Int}(hi:i<gs.length)(hj:j<gs.length)(h1:v∈grp gs i)(h2:v∈grp gs j):i=j:=by
 have hp:=(List.pairwise_flatten.1 h).2;rw[Ze1 hi] at h1;rw[Ze1 hj] at h2;rcases Nat.lt_trichotomy i j with c|c|c
 . exact(List.pairwise_iff_getElem.1 hp i j hi hj c v h1 v h2 rfl).elim
 . exact c
 . exact(List.pairwise_iff_getElem.1 hp j i hj hi c v h2 v h1 rfl).elim
theorem Zr1 {l:List Int}{v:Int}(h:l.head?=some v):v∈l:=List.mem_of_mem_head? (by rw[h];rfl)
theorem Zr0 {l:List Int}{v:Int}(h:l.head?=some v):l.headD 0=v:=by
 cases l with
 | nil=>cases h
 | cons a r=>simpa using h
theorem Zp5 {gs:List (List Int)}(ha:Zuo gs){ord:List Int}{lev:Int->Nat}(hinc:ord.Pairwise fun a b=>lev a<lev b)(hall:∀ i v,v∈grp gs i->v∈ord):Placed gs lev (Za3 gs ord):=by
 refine⟨fun i=>?_,?_⟩
 .
  unfold Za3;rw[List.mem_flatMap];constructor
  . rintro⟨v,hv,hk⟩;obtain⟨h1,h2⟩:=Zet.1 hk;exact⟨h1,fun e=>by rw[e] at h2;cases h2⟩
  .
   rintro⟨h1,h2⟩;cases hg:grp gs i with
   | nil=>exact(h2 hg).elim
   | cons v r=>exact⟨v,hall i v (by rw[hg];exact List.mem_cons_self ..),Zet.2 ⟨h1,by rw[hg];rfl⟩⟩
 .
  unfold Za3;rw[List.pairwise_flatMap];refine⟨fun v _=>?_,?_⟩
  .
   refine List.pairwise_iff_getElem.2 fun a b h1 h2 g0=>?_
   exfalso;obtain⟨q1,q2⟩:=Zet.1 (List.getElem_mem h1);obtain⟨q3,q4⟩:=Zet.1 (List.getElem_mem h2);have e:=Zky ha q1 q3 (Zr1 q2) (Zr1 q4);have g1:(headed gs v).Nodup:=List.Nodup.sublist List.filter_sublist List.nodup_range;exact(List.pairwise_iff_getElem.1 g1 a b h1 h2 g0) e
  . refine hinc.imp ?_;intro a b g0 x hx y hy;rw[Zr0 (Zet.1 hx).2,Zr0 (Zet.1 hy).2];exact g0
open Go.RowKit
theorem SliceIs.same {w w':World}{v:Value}{zs:List Int}(h:SliceIs w v zs)(hk:∀ k,v.ownBlock=some k->w'.heap[k]?=w.heap[k]?):SliceIs w' v zs:=by
 obtain⟨a,c,rfl,⟨h1,h2⟩,h3⟩:=h;refine⟨a,c,rfl,⟨h1,fun k g0=>?_⟩,h3⟩;obtain⟨b,off,rfl,hc⟩:=h2 k g0;exact⟨b,off,rfl,(World.cell?_of_block (w:=w) (a:=⟨b,off+k,none⟩) (hk b rfl)).trans hc⟩
theorem Zik:Zod 23 22 (.slice none 0 0) 24:=⟨underlying22,by kernel_rfl,rfl,by omega⟩
structure Zdx (W:World)(xs:List Value)(gs:List (List Int)):Prop where
 len:xs.length=gs.length
 at_:∀ i (h:i<xs.length) (h2:i<gs.length),SliceIs W xs[i] gs[i]
def Zco (W:World)(v:Value)(gs:List (List Int)):Prop:=∃ a c xs,v=.slice a gs.length c/\(a=none->c=0)/\gs.length<=9223372036854775807/\Zdx W xs gs/\∀ i (h:i<xs.length),∃ b off,a=some ⟨b,off,none⟩/\W.cell? ⟨b,off+i,none⟩=some xs[i]
section
variable {W W':World}{v:Value}{xs:List Value}{gs:List (List Int)}
theorem Zdx.same (h:Zdx W xs gs)(hk:∀ x∈xs,∀ k,x.ownBlock=some k->W'.heap[k]?=W.heap[k]?):Zdx W' xs gs:=⟨h.len,fun i h1 h2=>(h.at_ i h1 h2).same fun k e=>hk _ (List.getElem_mem h1) k e⟩
theorem Zdx.below (h:Zdx W xs gs)(hb:Below W.heap.size W W'):Zdx W' xs gs:=⟨h.len,fun i h1 h2=>(h.at_ i h1 h2).below hb⟩
theorem Zco.below (h:Zco W v gs)(hb:Below W.heap.size W W'):Zco W' v gs:=by
 obtain⟨a,c,xs,e,hn,hl,hs,hc⟩:=h;refine⟨a,c,xs,e,hn,hl,hs.below hb,fun i hi=>?_⟩;obtain⟨b,off,ea,hc⟩:=hc i hi;exact⟨b,off,ea,(hb.cell (p:=⟨b,off+i,none⟩) (Zaa hc)).trans hc⟩
theorem Zco.elem (h:Zco W v gs){i:Nat}(hi:i<gs.length):∃ b off c a2 c2,v=.slice (some ⟨b,off,none⟩) gs.length c/\W.cell? ⟨b,off+i,none⟩=some (.slice a2 (gs.getD i []).length c2)/\Za4 W a2 (gs.getD i [])/\(a2=none->c2=0):=by
 obtain⟨a,c,xs,e,hn,hl,hs,hc⟩:=h;have hx:i<xs.length:=by rw[hs.len];exact hi
 obtain⟨b,off,ea,h1⟩:=hc i hx;obtain⟨a2,c2,e2,h2,h3⟩:=hs.at_ i hx hi;subst ea;rw[e2] at h1;have eg:gs.getD i []=gs[i]:=by simp[List.getD,hi]
 rw[eg];exact⟨b,off,c,a2,c2,e,h1,h2,h3⟩
theorem Zco.slice (h:Zco W v gs):∃ a c,v=.slice a gs.length c/\(a=none->c=0):=by
 obtain⟨a,c,xs,e,hn,_⟩:=h;exact⟨a,c,e,hn⟩
theorem Zdx.nil (W:World):Zdx W [] []:=⟨rfl,fun i h=>by simp at h⟩
theorem Zdx.snoc (h:Zdx W xs gs){x:Value}{g:List Int}(hx:SliceIs W x g):Zdx W (xs++[x]) (gs++[g]):=by
 have hl:=h.len;refine⟨by simp[hl],fun i h1 h2=>?_⟩;rcases Nat.lt_or_ge i xs.length with h3|h3
 . rw[List.getElem_append_left h3,List.getElem_append_left (by omega)];exact h.at_ i h3 (by omega)
 .
  have e:i=xs.length:=by simp at h1;omega
  subst e;rw[List.getElem_append_right (Nat.le_refl _),List.getElem_append_right (by omega)];simpa using hx
theorem Zco.of_own {base:Nat}(h:OwnC 23 W base v xs)(hs:Zdx W xs gs)(hl:gs.length<=9223372036854775807):Zco W v gs:=by
 obtain⟨a,c,e,hn⟩:=h.slice;refine⟨a,c,xs,by rw[e,hs.len],hn,hl,hs,fun i hi=>?_⟩;obtain⟨g,cap,e2,_,_⟩:=h.shape (by omega);rw[e] at e2;injection e2 with e2 _ _
 subst e2;rw[e] at h;refine⟨g,0,rfl,?_⟩;rw[Nat.zero_add,h.cell i hi];simp[hi]
end
def Ybn (gs:List (List Int))(n:Nat):List Nat:=(List.range n).filter fun v=>decide ((v:Int)∉gs.flatten)
def Zd1 (gs:List (List Int))(n:Nat):List (List Int):=gs++(Ybn gs n).map fun(v:Nat)=>[(v:Int)]
def InG (gs:List (List Int))(n:Nat):Prop:=∀ x∈gs.flatten,0<=x/\x<(n:Int)
def Zeu (gs:List (List Int))(n:Nat)(e:Int):Prop:=(e=9/\¬ InG gs n)\/(e=6/\InG gs n/\¬ gs.flatten.Nodup)\/(e=0/\InG gs n/\gs.flatten.Nodup)
theorem Zeu.uniq {gs:List (List Int)}{n:Nat}{e e':Int}(h:Zeu gs n e)(h':Zeu gs n e'):e=e':=by
 rcases h with ⟨rfl,h1⟩|⟨rfl,h1,h2⟩|⟨rfl,h1,h2⟩<;>rcases h' with ⟨rfl,k1⟩|⟨rfl,k1,k2⟩|⟨rfl,k1,k2⟩<;>first|rfl|exact absurd ‹InG gs n› ‹¬ InG gs n› | exact absurd ‹gs.flatten.Nodup› ‹¬ gs.flatten.Nodup›
theorem Zeu.ok {gs:List (List Int)}{n:Nat}(h:Zeu gs n 0):InG gs n/\gs.flatten.Nodup:=by
 rcases h with ⟨h,_⟩|⟨h,_⟩|⟨_,h⟩
 . cases h
 . cases h
 . exact h
theorem Zwl {gs:List (List Int)}{n:Nat}{x:Int}(h:x∈gs.flatten)(hx:x<0\/x>=(n:Int)):¬ InG gs n:=fun hh=>by have:=hh x h;omega
theorem Zb1 {gs:List (List Int)}{i:Nat}(hi:i<gs.length):(gs.take (i+1)).flatten=(gs.take i).flatten++gs.getD i []:=by
 rw[List.take_succ_eq_append_getElem hi,List.flatten_append];simp[List.getD,hi]
theorem Zed (gs:List (List Int)):(gs.take gs.length).flatten=gs.flatten:=by rw[List.take_length]
theorem Zey {gs:List (List Int)}{i:Nat}(hi:i<gs.length):(gs.take i).flatten.length+(gs.getD i []).length<=gs.flatten.length:=by
 have h1:=Zb1 hi;have h2:gs.flatten=(gs.take (i+1)).flatten++(gs.drop (i+1)).flatten:=by rw[<- List.flatten_append,List.take_append_drop]
 rw[h2,h1];simp only[List.length_append];omega
def Zbn (fl:List Int)(k:Nat):List Int:=((List.range k).filter fun(v:Nat)=>decide ((v:Int)∉fl)).map Int.ofNat
theorem Zmr {fl:List Int}{k:Nat}(h:(k:Int)∈fl):Zbn fl (k+1)=Zbn fl k:=by
 unfold Zbn;rw[List.range_succ,List.filter_append];simp[h]
theorem Zpr {fl:List Int}{k:Nat}(h:(k:Int)∉fl):Zbn fl (k+1)=Zbn fl k++[(k:Int)]:=by
 unfold Zbn;rw[List.range_succ,List.filter_append];simp[h]
theorem Zd2 (fl:List Int)(k:Nat):(Zbn fl k).length<=k:=by
 unfold Zbn;rw[List.length_map];refine Nat.le_trans (List.length_filter_le _ _) (by simp)
theorem Zem (gs:List (List Int))(n:Nat):Zd1 gs n=gs++(Zbn gs.flatten n).map fun v=>[v]:=by
 unfold Zd1 Ybn Zbn;rw[List.map_map];rfl
open Go.RowKit
section
variable {P:Program}{S:World->Prop}{Q:Exit->Act->World->Prop}{last:Bool}{ops:Array Oper}
def Zxm (K:Act->World->Prop):Exit->Act->World->Prop:=fun x a w=>x=.normal/\K a w
theorem Zpu {K:Act->World->Prop}:¬ LetsOut (Zxm K):=fun⟨_,_,h,_⟩=>by cases h
theorem Zwm {o:Oper}{a:Act}{w:World}{K:Act->World->Prop}{Q:Exit->Act->World->Prop}(h:o.wp P a w (fun a w=>Zxm K .normal a w) (Zxm K)):o.wp P a w K Q:=by
 unfold Oper.wp at *
 generalize (execOp a.eval o).run P w=r at *
 cases r with
 | ok n w' =>
   cases n<;>simp only[Oper.upon] at h⊢<;>
    first
     | exact h.2
     | exact Calls.mono h (fun e w'' he=>by cases e<;>first|exact he.2|exact absurd he Zpu|cases he.1)
     | exact Rows.mono h (fun _ _ he=>he.2)
 | halt x w'=>cases x<;>simp only[Oper.upon] at h⊢<;> first|exact h|cases h.1
theorem Zno {o:Oper}{r:List (Option Oper×Bool)}{a:Act}{w:World}(hg:o.guard=none)
 (h:wpList P ops (Zxm fun a' w'=>S w'/\Zcd P ops Q S last r a' w') [o] a w):Zcd P ops Q S last ((some o,true)::r) a w:=by
 refine Zk5 hg fun K hK=>?_
 have hw:Region.wanted o (yielded ops a.tmps)=true:=by simp[Region.wanted,hg]
 unfold wpList at h;rw[if_pos hw] at h;rcases h with h|⟨_,h⟩
 . refine Oper.wp_mono (K:=fun a' w'=>S w'/\Zcd P ops Q S last r a' w') (fun a' w' hh=>hK a' w' hh.1 hh.2) (Zwm h)
 . exact absurd h Zpu
end
theorem Zcp {P:Program}{ops:Array Oper}{S:World->Prop}{Q:Exit->Act->World->Prop}{last:Bool}{o:Oper}{r:List (Option Oper×Bool)}{a:Act}{w:World}{f:FuncId}{args:Array Value}{R:Value->World->Prop}(hw:Region.wanted o (yielded ops a.tmps)=true)
 (he:(execOp a.eval o).run P w=.ok (.enter f args) w) (hc:Calls P f args w fun e w'=>∃ v,e=.returned v/\S w'/\R v w')
 (h:∀ v w',S w'->R v w'->Zcd P ops Q S last r (a.put o.dst v) w'):Zcd P ops Q S last ((some o,true)::r) a w:=by
 unfold Zcd;simp only[hw,if_true,Oper.wp,he,Oper.upon];exact hc.mono fun e w' ⟨v,h1,h2,h3⟩=>by subst h1;exact⟨.inr h2,h v w' h2 h3⟩
end Go.Proofs.YtkbegdkpboklpaaGreat
