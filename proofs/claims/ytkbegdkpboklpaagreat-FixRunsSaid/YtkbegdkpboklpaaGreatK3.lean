/- Several texts in one file: contracts of the program's functions and what follows from them. -/
import Derived.Test.YtkbegdkpboklpaaGreatK2
import Derived.Deep.CutBlock
import Derived.RangeFuncNested
import Derived.RangeFuncBound
import Derived.RangeFuncCalls
import Derived.RangeFuncLeaves
import Derived.RangeFuncWrites
import Derived.Shelf.Abstract
import Derived.Shelf.RegionOpen
import Derived.OwnWalkIn
import Derived.TacticsInMore
import Derived.LoopNIn
import Derived.LoopIn
import Derived.Recover
import Derived.Defers
set_option linter.unusedSimpArgs false
set_option linter.unusedVariables false
set_option linter.unusedSectionVars false
set_option linter.unnecessarySimpa false
set_option maxRecDepth 100000
set_option maxHeartbeats 8000000
namespace Go.Proofs.YtkbegdkpboklpaaGreat
open Go.Proofs.Tryz
open Go.RowKit
def Zfh (o:Own)(w:World)(sb:Nat)(d:Zag)(V:Nat->BF)(v:Int)(lo hi:Nat)(e:Ending)(w':World):Prop :=
 (¬ (0<=v/\v<d.vars.length)/\e=.returned (.tuple #[.int .i64 0,.int .i64 9])/\Below w.heap.size w w') \/
 (0<=v/\v<d.vars.length/\(lvE d.vars.length (levN d) (Zab d) lo<=levN d v.toNat\/lvE d.vars.length (levN d) (Zab d) hi<=levN d v.toNat)/\e=.returned (.tuple #[.int .i64 0,.int .i64 10])/\Below w.heap.size w w') \/
 (d.pool.many=d.pool.room/\e=.returned (.tuple #[.int .i64 0,.int .i64 7])/\Below w.heap.size w w') \/
 (0<=v/\v<d.vars.length/\∃ r d' V' o',e=.returned (.tuple #[.int .i64 (r:Nat),.int .i64 0])/\Zav o' w' sb d'/\Zaj o' w'/\Zan d' V'/\Ext d V d' V'/\okE (Zab d') r /\
  ef V' r=iteF v.toNat (ef V hi) (ef V lo)/\levN d v.toNat<=lvE d.vars.length (levN d') (Zab d') r/\d'.pool.many<=d.pool.many+1/\Chg Zar o o' w w')
theorem Zd8 {o:Own}{w:World}{sb:Nat}{d:Zag}{s:Za7}{V:Nat->BF}(h:Zao o w sb d s)(hk:Zan d V){f:Nat}(hf:okE (Zab d) f){lv:Nat}(hl:lv<d.vars.length) :
 (decide (enode f=0)||(d.pool.tk (enode f)&&decide ((lv:Int)<d.levelOf (d.pool.has (enode f)).v)))=decide (lv<lvE d.vars.length (levN d) (Zab d) f):=by
 unfold lvE;rcases hf with h0|⟨b,hb⟩
 . have e:enode f=0:=h0;rw[h0,hk.dag.none0,e];simp[hl]
 .
  have hn:=Za8 (i:=enode f) hb;have e0:enode f≠0:=by have:=(h.tk_lt (i:=enode f) hb).1;omega
  rw[hb,hn.1];have hv:(d.pool.has (enode f)).v=b.v:=by rw[<- hn.2.2];rfl
  have g0:=hk.dag.var _ _ hb;rw[hv];unfold Zag.levelOf;rw[if_pos (by rw[h.len];exact g0)];simp[e0,levN]
theorem Zkj {d:Zag}{f:Nat}(hf:okE (Zab d) f):(decide (enode f=0)||d.pool.tk (enode f))=true:=by
 rcases hf with h0|⟨b,hb⟩
 . have e:enode f=0:=h0;simp[e]
 . rw[(Za8 (i:=enode f) hb).1];simp
theorem Ybv {o:Own}{w:World}{sb:Nat}{d:Zag}{s:Za7}{V:Nat->BF}(h:Zao o w sb d s)(hk:Zan d V)(v:Int)(lo hi:Nat)(hv:¬ (0<=v/\v<d.vars.length)) :
 Calls prog 189 #[.pointer (some ⟨sb,0,none⟩),.int .i64 v,.int .i64 lo,.int .i64 hi] w (Zfh o w sb d V v lo hi):=by
 have g0:=Hd (Zhv h v (by rw[h.len];have:=hk.small;omega));have e:Zf9 d v = -1:=by unfold Zf9;rw[if_neg (by rw[h.len];exact hv)]
 rw[e] at g0;have HV:=Hd hv;clear h hk e hv
 go_enter func189,ntmps189
 go_wp2_with fail;refine g0.out.mono ?_;rintro x w' ⟨rfl,rfl⟩;go_wp2_with fail
 go_ret2
 exact .inl ⟨HV.out,rfl,Below.refl _ _⟩
theorem Ycf {o:Own}{w:World}{sb:Nat}{d:Zag}{s:Za7}{V:Nat->BF}(h:Zao o w sb d s)(hlt:Zaj o w)(hk:Zan d V)(v lo hi:Nat)(hv:v<d.vars.length)(hlo:okE (Zab d) lo)(hhi:okE (Zab d) hi)(hbad:lvE d.vars.length (levN d) (Zab d) lo<=levN d v) :
 Calls prog 189 #[.pointer (some ⟨sb,0,none⟩),.int .i64 v,.int .i64 lo,.int .i64 hi] w (Zfh o w sb d V v lo hi):=by
 have g2:levN d v<d.vars.length:=hk.dag.lt v hv;have ga:=h.edge_lt hlo;have gb:=h.edge_lt hhi;have g0:lo<eMax:=by unfold eMax;omega
 have g1:hi<eMax:=by unfold eMax;omega
 have hlen:d.level.length<1000000:=by rw[h.len];have:=hk.small;omega
 have g4:Hid (∀ W:World,Below w.heap.size w W->Calls prog 136 #[.pointer (some ⟨sb,0,none⟩),.int .i64 v] W fun x w'=>x=.returned (.int .i64 (levN d v:Nat))/\W=w'):=fun W hb=>by
  have h1:=Zcd (h.below hlt hb) v hlen;unfold Zag.levelOf at h1;rw[if_pos (by rw[h.len];exact hv)] at h1;exact h1
 have gc:Hid (∀ W:World,Below w.heap.size w W->Calls prog 188 #[.pointer (some ⟨sb,0,none⟩),.int .i64 lo] W fun x w'=>x=.returned (.bool true)/\Below W.heap.size W w'):=fun W hb=>by
  have h1:=Zbj (h.below hlt hb) (hlt.mono hb.size) lo g0;rw[Zkj hlo] at h1;exact h1
 have gd:Hid (∀ W:World,Below w.heap.size w W->Calls prog 188 #[.pointer (some ⟨sb,0,none⟩),.int .i64 hi] W fun x w'=>x=.returned (.bool true)/\Below W.heap.size W w'):=fun W hb=>by
  have h1:=Zbj (h.below hlt hb) (hlt.mono hb.size) hi g1;rw[Zkj hhi] at h1;exact h1
 have g3:Hid (∀ W:World,Below w.heap.size w W->Calls prog 224 #[.pointer (some ⟨sb,0,none⟩),.int .i64 lo,.int .i64 (levN d v:Nat)] W fun x w'=>x=.returned (.bool (decide (levN d v<lvE d.vars.length (levN d) (Zab d) lo)))/\Below W.heap.size W w'):=fun W hb=>by
  have h1:=Zbl (h.below hlt hb) (hlt.mono hb.size) lo g0 (levN d v:Nat) hlen;rw[Zd8 h hk hlo g2] at h1;exact h1
 have ge:Hid (∀ W:World,Below w.heap.size w W->Calls prog 224 #[.pointer (some ⟨sb,0,none⟩),.int .i64 hi,.int .i64 (levN d v:Nat)] W fun x w'=>x=.returned (.bool (decide (levN d v<lvE d.vars.length (levN d) (Zab d) hi)))/\Below W.heap.size W w'):=fun W hb=>by
  have h1:=Zbl (h.below hlt hb) (hlt.mono hb.size) hi g1 (levN d v:Nat) hlen;rw[Zd8 h hk hhi g2] at h1;exact h1
 have g6:Hid (∀ W,Below w.heap.size w W->Zfh o w sb d V v lo hi (.returned (.tuple #[.int .i64 0,.int .i64 10])) W):=fun W hb=>.inr (.inl ⟨by omega,by omega,.inl hbad,rfl,hb⟩)
 rw[decide_eq_false (by omega)] at g3;obtain⟨l,hl⟩:∃ l,l=levN d v:=⟨_,rfl⟩;rw[<- hl] at g4 g3 ge;have gg:¬ ((l:Nat):Int)<0:=by omega
 clear h hlt hk hv hlo hhi hbad g2 ga gb g0 g1 hlen hl
 go_enter func189,ntmps189
 go_wp2_with fail;refine(g4.out _ (Below.refl _ _)).mono ?_;rintro x w' ⟨rfl,rfl⟩;go_wp2_with fail;refine(gc.out _ (Below.refl _ _)).mono ?_;rintro x w1 ⟨rfl,g9⟩;have g5:=Hd g9;clear g9;go_wp2_with fail;refine(gd.out _ g5.out).mono ?_;rintro x w2 ⟨rfl,g8⟩;have HB2:=Hd (g5.out.trans (g8.mono g5.out.size));clear g8;go_wp2_with fail;refine(g4.out _ HB2.out).mono ?_;rintro x w' ⟨rfl,rfl⟩;go_wp2_with fail;refine(g3.out _ HB2.out).mono ?_;rintro x w3 ⟨rfl,g7⟩;have gf:=Hd (HB2.out.trans (g7.mono HB2.out.size));clear g7;go_wp2_with fail
 go_ret2
 exact g6.out _ gf.out
theorem Yce {o:Own}{w:World}{sb:Nat}{d:Zag}{s:Za7}{V:Nat->BF}(h:Zao o w sb d s)(hlt:Zaj o w)(hk:Zan d V)(v lo hi:Nat)(hv:v<d.vars.length)(hlo:okE (Zab d) lo)(hhi:okE (Zab d) hi)(hbad:lvE d.vars.length (levN d) (Zab d) hi<=levN d v)(hgood:levN d v<lvE d.vars.length (levN d) (Zab d) lo) :
 Calls prog 189 #[.pointer (some ⟨sb,0,none⟩),.int .i64 v,.int .i64 lo,.int .i64 hi] w (Zfh o w sb d V v lo hi):=by
 have g4:levN d v<d.vars.length:=hk.dag.lt v hv;have gd:=h.edge_lt hlo;have ge:=h.edge_lt hhi;have g0:lo<eMax:=by unfold eMax;omega
 have g1:hi<eMax:=by unfold eMax;omega
 have hlen:d.level.length<1000000:=by rw[h.len];have:=hk.small;omega
 have g2:Hid (∀ W:World,Below w.heap.size w W->Calls prog 136 #[.pointer (some ⟨sb,0,none⟩),.int .i64 v] W fun x w'=>x=.returned (.int .i64 (levN d v:Nat))/\W=w'):=fun W hb=>by
  have h1:=Zcd (h.below hlt hb) v hlen;unfold Zag.levelOf at h1;rw[if_pos (by rw[h.len];exact hv)] at h1;exact h1
 have gf:Hid (∀ W:World,Below w.heap.size w W->Calls prog 188 #[.pointer (some ⟨sb,0,none⟩),.int .i64 lo] W fun x w'=>x=.returned (.bool true)/\Below W.heap.size W w'):=fun W hb=>by
  have h1:=Zbj (h.below hlt hb) (hlt.mono hb.size) lo g0;rw[Zkj hlo] at h1;exact h1
 have gg:Hid (∀ W:World,Below w.heap.size w W->Calls prog 188 #[.pointer (some ⟨sb,0,none⟩),.int .i64 hi] W fun x w'=>x=.returned (.bool true)/\Below W.heap.size W w'):=fun W hb=>by
  have h1:=Zbj (h.below hlt hb) (hlt.mono hb.size) hi g1;rw[Zkj hhi] at h1;exact h1
 have g5:Hid (∀ W:World,Below w.heap.size w W->Calls prog 224 #[.pointer (some ⟨sb,0,none⟩),.int .i64 lo,.int .i64 (levN d v:Nat)] W fun x w'=>x=.returned (.bool (decide (levN d v<lvE d.vars.length (levN d) (Zab d) lo)))/\Below W.heap.size W w'):=fun W hb=>by
  have h1:=Zbl (h.below hlt hb) (hlt.mono hb.size) lo g0 (levN d v:Nat) hlen;rw[Zd8 h hk hlo g4] at h1;exact h1
 have g6:Hid (∀ W:World,Below w.heap.size w W->Calls prog 224 #[.pointer (some ⟨sb,0,none⟩),.int .i64 hi,.int .i64 (levN d v:Nat)] W fun x w'=>x=.returned (.bool (decide (levN d v<lvE d.vars.length (levN d) (Zab d) hi)))/\Below W.heap.size W w'):=fun W hb=>by
  have h1:=Zbl (h.below hlt hb) (hlt.mono hb.size) hi g1 (levN d v:Nat) hlen;rw[Zd8 h hk hhi g4] at h1;exact h1
 have g8:Hid (∀ W,Below w.heap.size w W->Zfh o w sb d V v lo hi (.returned (.tuple #[.int .i64 0,.int .i64 10])) W):=fun W hb=>.inr (.inl ⟨by omega,by omega,.inr hbad,rfl,hb⟩)
 rw[decide_eq_true hgood] at g5;rw[decide_eq_false (by omega)] at g6;obtain⟨l,hl⟩:∃ l,l=levN d v:=⟨_,rfl⟩;rw[<- hl] at g2 g5 g6;have gi:¬ ((l:Nat):Int)<0:=by omega
 clear h hlt hk hv hlo hhi hbad g4 gd ge g0 g1 hlen hl hgood
 go_enter func189,ntmps189
 go_wp2_with fail;refine(g2.out _ (Below.refl _ _)).mono ?_;rintro x w' ⟨rfl,rfl⟩;go_wp2_with fail;refine(gf.out _ (Below.refl _ _)).mono ?_;rintro x w1 ⟨rfl,gc⟩;have g7:=Hd gc;clear gc;go_wp2_with fail;refine(gg.out _ g7.out).mono ?_;rintro x w2 ⟨rfl,gb⟩;have HB2:=Hd (g7.out.trans (gb.mono g7.out.size));clear gb;go_wp2_with fail;refine(g2.out _ HB2.out).mono ?_;rintro x w' ⟨rfl,rfl⟩;go_wp2_with fail;refine(g5.out _ HB2.out).mono ?_;rintro x w3 ⟨rfl,ga⟩;have g3:=Hd (HB2.out.trans (ga.mono HB2.out.size));clear ga;go_wp2_with fail;refine(g2.out _ g3.out).mono ?_;rintro x w' ⟨rfl,rfl⟩;go_wp2_with fail;refine(g6.out _ g3.out).mono ?_;rintro x w4 ⟨rfl,g9⟩;have gh:=Hd (g3.out.trans (g9.mono g3.out.size));clear g9;go_wp2_with fail
 go_ret2
 exact g8.out _ gh.out
theorem Ycd {o:Own}{w:World}{sb:Nat}{d:Zag}{s:Za7}{V:Nat->BF}(h:Zao o w sb d s)(hlt:Zaj o w)(hk:Zan d V)(v lo hi:Nat)(hv:v<d.vars.length)(hlo:okE (Zab d) lo)(hhi:okE (Zab d) hi)(hgl:levN d v<lvE d.vars.length (levN d) (Zab d) lo)(hgh:levN d v<lvE d.vars.length (levN d) (Zab d) hi)(he:lo=hi) :
 Calls prog 189 #[.pointer (some ⟨sb,0,none⟩),.int .i64 v,.int .i64 lo,.int .i64 hi] w (Zfh o w sb d V v lo hi):=by
 have g4:levN d v<d.vars.length:=hk.dag.lt v hv;have gd:=h.edge_lt hlo;have ge:=h.edge_lt hhi;have g0:lo<eMax:=by unfold eMax;omega
 have g1:hi<eMax:=by unfold eMax;omega
 have hlen:d.level.length<1000000:=by rw[h.len];have:=hk.small;omega
 have g2:Hid (∀ W:World,Below w.heap.size w W->Calls prog 136 #[.pointer (some ⟨sb,0,none⟩),.int .i64 v] W fun x w'=>x=.returned (.int .i64 (levN d v:Nat))/\W=w'):=fun W hb=>by
  have h1:=Zcd (h.below hlt hb) v hlen;unfold Zag.levelOf at h1;rw[if_pos (by rw[h.len];exact hv)] at h1;exact h1
 have gf:Hid (∀ W:World,Below w.heap.size w W->Calls prog 188 #[.pointer (some ⟨sb,0,none⟩),.int .i64 lo] W fun x w'=>x=.returned (.bool true)/\Below W.heap.size W w'):=fun W hb=>by
  have h1:=Zbj (h.below hlt hb) (hlt.mono hb.size) lo g0;rw[Zkj hlo] at h1;exact h1
 have gg:Hid (∀ W:World,Below w.heap.size w W->Calls prog 188 #[.pointer (some ⟨sb,0,none⟩),.int .i64 hi] W fun x w'=>x=.returned (.bool true)/\Below W.heap.size W w'):=fun W hb=>by
  have h1:=Zbj (h.below hlt hb) (hlt.mono hb.size) hi g1;rw[Zkj hhi] at h1;exact h1
 have g5:Hid (∀ W:World,Below w.heap.size w W->Calls prog 224 #[.pointer (some ⟨sb,0,none⟩),.int .i64 lo,.int .i64 (levN d v:Nat)] W fun x w'=>x=.returned (.bool (decide (levN d v<lvE d.vars.length (levN d) (Zab d) lo)))/\Below W.heap.size W w'):=fun W hb=>by
  have h1:=Zbl (h.below hlt hb) (hlt.mono hb.size) lo g0 (levN d v:Nat) hlen;rw[Zd8 h hk hlo g4] at h1;exact h1
 have g6:Hid (∀ W:World,Below w.heap.size w W->Calls prog 224 #[.pointer (some ⟨sb,0,none⟩),.int .i64 hi,.int .i64 (levN d v:Nat)] W fun x w'=>x=.returned (.bool (decide (levN d v<lvE d.vars.length (levN d) (Zab d) hi)))/\Below W.heap.size W w'):=fun W hb=>by
  have h1:=Zbl (h.below hlt hb) (hlt.mono hb.size) hi g1 (levN d v:Nat) hlen;rw[Zd8 h hk hhi g4] at h1;exact h1
 subst he
 have g8:Hid (∀ W,Below w.heap.size w W->Zfh o w sb d V v lo lo (.returned (.tuple #[.int .i64 (lo:Nat),.int .i64 0])) W):=fun W hb=>.inr (.inr (.inr ⟨by omega,by omega,lo,d,V,o,rfl,⟨s,h.below hlt hb⟩,hlt.mono hb.size,hk,Ext.refl d V,hlo,by
  funext ρ;simp[iteF],Nat.le_of_lt hgl,by omega,Chg.of_below hb _ _⟩))
 rw[decide_eq_true hgl] at g5;rw[decide_eq_true hgh] at g6;obtain⟨l,hl⟩:∃ l,l=levN d v:=⟨_,rfl⟩;rw[<- hl] at g2 g5 g6;have gi:¬ ((l:Nat):Int)<0:=by omega
 clear h hlt hk hv hlo hhi g4 gd ge g0 g1 hlen hl hgl hgh
 go_enter func189,ntmps189
 go_wp2_with fail;refine(g2.out _ (Below.refl _ _)).mono ?_;rintro x w' ⟨rfl,rfl⟩;go_wp2_with fail;refine(gf.out _ (Below.refl _ _)).mono ?_;rintro x w1 ⟨rfl,gc⟩;have g7:=Hd gc;clear gc;go_wp2_with fail;refine(gg.out _ g7.out).mono ?_;rintro x w2 ⟨rfl,gb⟩;have HB2:=Hd (g7.out.trans (gb.mono g7.out.size));clear gb;go_wp2_with fail;refine(g2.out _ HB2.out).mono ?_;rintro x w' ⟨rfl,rfl⟩;go_wp2_with fail;refine(g5.out _ HB2.out).mono ?_;rintro x w3 ⟨rfl,ga⟩;have g3:=Hd (HB2.out.trans (ga.mono HB2.out.size));clear ga;go_wp2_with fail;refine(g2.out _ g3.out).mono ?_;rintro x w' ⟨rfl,rfl⟩;go_wp2_with fail;refine(g6.out _ g3.out).mono ?_;rintro x w4 ⟨rfl,g9⟩;have gh:=Hd (g3.out.trans (g9.mono g3.out.size));clear g9;go_wp2_with fail
 go_ret2
 exact g8.out _ gh.out
def Zy9 (w:World)(r:Nat)(e:Ending)(w':World):Prop:=e=.returned (.tuple #[.int .i64 (r:Nat),.int .i64 0])/\Below w.heap.size w w'
theorem Zvt {o:Own}{w:World}{sb:Nat}{d:Zag}{s:Za7}{V:Nat->BF}(h:Zao o w sb d s)(hlt:Zaj o w)(hk:Zan d V)(v lo hi:Nat)(hv:v<d.vars.length)(hlo:okE (Zab d) lo)(hhi:okE (Zab d) hi)(hgl:levN d v<lvE d.vars.length (levN d) (Zab d) lo)(hgh:levN d v<lvE d.vars.length (levN d) (Zab d) hi)(he:lo≠hi)(id:Nat)(hid:d.tab v (eflip lo (eneg hi),eflip hi (eneg hi))=some id) :
 Calls prog 189 #[.pointer (some ⟨sb,0,none⟩),.int .i64 v,.int .i64 lo,.int .i64 hi] w (Zy9 w (eflip (2*id) (eneg hi))):=by
 have g9:levN d v<d.vars.length:=hk.dag.lt v hv;have gn:=h.edge_lt hlo;have gp:=h.edge_lt hhi;have g0:lo<eMax:=by unfold eMax;omega
 have g1:hi<eMax:=by unfold eMax;omega
 have hlen:d.level.length<1000000:=by rw[h.len];have:=hk.small;omega
 have g6:Hid (∀ W:World,Below w.heap.size w W->Calls prog 136 #[.pointer (some ⟨sb,0,none⟩),.int .i64 v] W fun x w'=>x=.returned (.int .i64 (levN d v:Nat))/\W=w'):=fun W hb=>by
  have h1:=Zcd (h.below hlt hb) v hlen;unfold Zag.levelOf at h1;rw[if_pos (by rw[h.len];exact hv)] at h1;exact h1
 have gq:Hid (∀ W:World,Below w.heap.size w W->Calls prog 188 #[.pointer (some ⟨sb,0,none⟩),.int .i64 lo] W fun x w'=>x=.returned (.bool true)/\Below W.heap.size W w'):=fun W hb=>by
  have h1:=Zbj (h.below hlt hb) (hlt.mono hb.size) lo g0;rw[Zkj hlo] at h1;exact h1
 have gr:Hid (∀ W:World,Below w.heap.size w W->Calls prog 188 #[.pointer (some ⟨sb,0,none⟩),.int .i64 hi] W fun x w'=>x=.returned (.bool true)/\Below W.heap.size W w'):=fun W hb=>by
  have h1:=Zbj (h.below hlt hb) (hlt.mono hb.size) hi g1;rw[Zkj hhi] at h1;exact h1
 have gb:Hid (∀ W:World,Below w.heap.size w W->Calls prog 224 #[.pointer (some ⟨sb,0,none⟩),.int .i64 lo,.int .i64 (levN d v:Nat)] W fun x w'=>x=.returned (.bool (decide (levN d v<lvE d.vars.length (levN d) (Zab d) lo)))/\Below W.heap.size W w'):=fun W hb=>by
  have h1:=Zbl (h.below hlt hb) (hlt.mono hb.size) lo g0 (levN d v:Nat) hlen;rw[Zd8 h hk hlo g9] at h1;exact h1
 have gc:Hid (∀ W:World,Below w.heap.size w W->Calls prog 224 #[.pointer (some ⟨sb,0,none⟩),.int .i64 hi,.int .i64 (levN d v:Nat)] W fun x w'=>x=.returned (.bool (decide (levN d v<lvE d.vars.length (levN d) (Zab d) hi)))/\Below W.heap.size W w'):=fun W hb=>by
  have h1:=Zbl (h.below hlt hb) (hlt.mono hb.size) hi g1 (levN d v:Nat) hlen;rw[Zd8 h hk hhi g9] at h1;exact h1
 have g4:=(hk.tab v hv _ _ id).1 hid;have go:=(h.tk_lt g4).2;have g5:Hid (∀ W,Below w.heap.size w W->Zy9 w (eflip (2*id) (eneg hi)) (.returned (.tuple #[.int .i64 (eflip (2*id) (eneg hi):Nat),.int .i64 0])) W):=fun W hb=>⟨rfl,hb⟩
 have gm:=Hd (fun W=>Zrs id (eneg hi) W (by omega));rw[decide_eq_true hgl] at gb;rw[decide_eq_true hgh] at gc;obtain⟨l,hl⟩:∃ l,l=levN d v:=⟨_,rfl⟩;rw[<- hl] at g6 gb gc;have gz:¬ ((l:Nat):Int)<0:=by omega
 have gx:((lo:Int) == hi)=false:=by simp;omega
 have g2:=Hd (fun W=>Zjv lo hi W g0 g1);have HH:=Hd h;have gd:=Hd hlt;have HV:=Hd hv;have HF:=Hd (fun W (hb:Below w.heap.size w W)=>Zmz o v (s.ts.getD v 0) (d.tab v) (eflip lo (eneg hi)) (eflip hi (eneg hi)) id W ((h.below hlt hb).tab v (by rw[h.tlen];exact hv)) hid);obtain⟨lo2,g8⟩:∃ x,x=eflip lo (eneg hi):=⟨_,rfl⟩;obtain⟨gA,ga⟩:∃ x,x=eflip hi (eneg hi):=⟨_,rfl⟩;obtain⟨ng,gh⟩:∃ x,x=eneg hi:=⟨_,rfl⟩;rw[<- g8,<- ga] at g2 HF;rw[<- gh] at g2 gm g5 ⊢;clear h hlt hk hv hlo hhi g9 gn gp g0 g1 hlen hl hgl hgh he hid g4 go g8 ga gh
 go_enter func189,ntmps189
 go_wp2_with fail;refine(g6.out _ (Below.refl _ _)).mono ?_;rintro x w' ⟨rfl,rfl⟩;go_wp2_with fail;refine(gq.out _ (Below.refl _ _)).mono ?_;rintro x w1 ⟨rfl,gl⟩;have ge:=Hd gl;clear gl;go_wp2_with fail;refine(gr.out _ ge.out).mono ?_;rintro x w2 ⟨rfl,gk⟩;have HB2:=Hd (ge.out.trans (gk.mono ge.out.size));clear gk;go_wp2_with fail;refine(g6.out _ HB2.out).mono ?_;rintro x w' ⟨rfl,rfl⟩;go_wp2_with fail;refine(gb.out _ HB2.out).mono ?_;rintro x w3 ⟨rfl,gj⟩;have g7:=Hd (HB2.out.trans (gj.mono HB2.out.size));clear gj;go_wp2_with fail;refine(g6.out _ g7.out).mono ?_;rintro x w' ⟨rfl,rfl⟩;go_wp2_with fail;refine(gc.out _ g7.out).mono ?_;rintro x w4 ⟨rfl,gi⟩;have g3:=Hd (g7.out.trans (gi.mono g7.out.size));clear gi;go_wp2_with fail;obtain⟨gt,ct,gf,cellv,gs,gy⟩:=(HH.out.below gd.out g3.out).tabAt HV.out;obtain⟨c0,c1,c2,c3,c4,f0⟩:=cells5 (HH.out.below gd.out g3.out).blk;rw[gf] at c2;have gw:(v:Int)<s.ts.length:=by omega
 have gu:=(HH.out.below gd.out g3.out).tab v gs;clear gf;refine(g2.out _).mono ?_;rintro x w' ⟨rfl,rfl⟩;have hf:=HF.out _ g3.out;clear gu;obtain⟨tv,gg⟩:∃ t,t=s.ts.getD v 0:=⟨_,rfl⟩;rw[<- gg] at cellv hf;have gv:=Hd hf;clear gg hf;go_wp2_with fail;refine gv.out.mono ?_;rintro x w' ⟨rfl,rfl⟩;go_wp2_with fail;refine(gm.out _).mono ?_;rintro x w' ⟨rfl,rfl⟩;go_wp2_with fail
 go_ret2
 exact g5.out _ g3.out
theorem Zxw {o:Own}{w:World}{sb:Nat}{d:Zag}{s:Za7}{V:Nat->BF}(h:Zao o w sb d s)(hlt:Zaj o w)(hk:Zan d V)(v lo hi:Nat)(hv:v<d.vars.length)(hlo:okE (Zab d) lo)(hhi:okE (Zab d) hi)(hgl:levN d v<lvE d.vars.length (levN d) (Zab d) lo)(hgh:levN d v<lvE d.vars.length (levN d) (Zab d) hi)(he:lo≠hi)(id:Nat)(hid:d.tab v (eflip lo (eneg hi),eflip hi (eneg hi))=some id) :
 Calls prog 189 #[.pointer (some ⟨sb,0,none⟩),.int .i64 v,.int .i64 lo,.int .i64 hi] w (Zfh o w sb d V v lo hi):=by
 have g0:=(hk.tab v hv _ _ id).1 hid;have g1:=(h.tk_lt g0).2;refine(Zvt h hlt hk v lo hi hv hlo hhi hgl hgh he id hid).mono ?_;rintro e w' ⟨rfl,hb⟩
 exact .inr (.inr (.inr ⟨by omega,by omega,_,d,V,o,rfl,⟨s,h.below hlt hb⟩,hlt.mono hb.size,hk,Ext.refl d V,Zec (Zgn g0),
  Zvz hk g0,by rw[Zeb];unfold lvE;rw[show 2*id/2=id from by omega,g0];exact Nat.le_refl _,by omega,Chg.of_below hb _ _⟩))
theorem Ybu {o:Own}{w:World}{sb:Nat}{d:Zag}{s:Za7}{V:Nat->BF}(h:Zao o w sb d s)(hlt:Zaj o w)(hk:Zan d V)(v lo hi:Nat)(hv:v<d.vars.length)(hlo:okE (Zab d) lo)(hhi:okE (Zab d) hi)(hgl:levN d v<lvE d.vars.length (levN d) (Zab d) lo)(hgh:levN d v<lvE d.vars.length (levN d) (Zab d) hi)(he:lo≠hi)(hid:d.tab v (eflip lo (eneg hi),eflip hi (eneg hi))=none) :
 Calls prog 189 #[.pointer (some ⟨sb,0,none⟩),.int .i64 v,.int .i64 lo,.int .i64 hi] w (Zfh o w sb d V v lo hi):=by
 have g9:levN d v<d.vars.length:=hk.dag.lt v hv;have gr:=h.edge_lt hlo;have gu:=h.edge_lt hhi;have g2:lo<eMax:=by unfold eMax;omega
 have g3:hi<eMax:=by unfold eMax;omega
 have hlen:d.level.length<1000000:=by rw[h.len];have:=hk.small;omega
 have g6:Hid (∀ W:World,Below w.heap.size w W->Calls prog 136 #[.pointer (some ⟨sb,0,none⟩),.int .i64 v] W fun x w'=>x=.returned (.int .i64 (levN d v:Nat))/\W=w'):=fun W hb=>by
  have h1:=Zcd (h.below hlt hb) v hlen;unfold Zag.levelOf at h1;rw[if_pos (by rw[h.len];exact hv)] at h1;exact h1
 have gv:Hid (∀ W:World,Below w.heap.size w W->Calls prog 188 #[.pointer (some ⟨sb,0,none⟩),.int .i64 lo] W fun x w'=>x=.returned (.bool true)/\Below W.heap.size W w'):=fun W hb=>by
  have h1:=Zbj (h.below hlt hb) (hlt.mono hb.size) lo g2;rw[Zkj hlo] at h1;exact h1
 have gw:Hid (∀ W:World,Below w.heap.size w W->Calls prog 188 #[.pointer (some ⟨sb,0,none⟩),.int .i64 hi] W fun x w'=>x=.returned (.bool true)/\Below W.heap.size W w'):=fun W hb=>by
  have h1:=Zbj (h.below hlt hb) (hlt.mono hb.size) hi g3;rw[Zkj hhi] at h1;exact h1
 have gb:Hid (∀ W:World,Below w.heap.size w W->Calls prog 224 #[.pointer (some ⟨sb,0,none⟩),.int .i64 lo,.int .i64 (levN d v:Nat)] W fun x w'=>x=.returned (.bool (decide (levN d v<lvE d.vars.length (levN d) (Zab d) lo)))/\Below W.heap.size W w'):=fun W hb=>by
  have h1:=Zbl (h.below hlt hb) (hlt.mono hb.size) lo g2 (levN d v:Nat) hlen;rw[Zd8 h hk hlo g9] at h1;exact h1
 have gc:Hid (∀ W:World,Below w.heap.size w W->Calls prog 224 #[.pointer (some ⟨sb,0,none⟩),.int .i64 hi,.int .i64 (levN d v:Nat)] W fun x w'=>x=.returned (.bool (decide (levN d v<lvE d.vars.length (levN d) (Zab d) hi)))/\Below W.heap.size W w'):=fun W hb=>by
  have h1:=Zbl (h.below hlt hb) (hlt.mono hb.size) hi g3 (levN d v:Nat) hlen;rw[Zd8 h hk hhi g9] at h1;exact h1
 have gf:=Hd (fun W (hb:Below w.heap.size w W)=>Zjg (h.below hlt hb) (hlt.mono hb.size) hk.live (fun i b hb=>⟨hk.dag.okLo i b hb,hk.dag.okHi i b hb⟩) v (eflip lo (eneg hi)) (eflip hi (eneg hi)) hv hid hk.clen);have gg:Hid (∀ W,Below w.heap.size w W->d.pool.many=d.pool.room->Zfh o w sb d V v lo hi (.returned (.tuple #[.int .i64 0,.int .i64 7])) W):=fun W hb hm=>.inr (.inr (.inl ⟨hm,rfl,hb⟩))
 have g4:Hid (∀ W W' id d' o',Below w.heap.size w W->Zav o' W' sb d'->Zaj o' W'->Zj0 d d' id v (eflip lo (eneg hi)) (eflip hi (eneg hi))->Chg Zar o o' W W'->Zfh o w sb d V v lo hi (.returned (.tuple #[.int .i64 (eflip (2*id) (eneg hi):Nat),.int .i64 0])) W'):=fun W W' id d' o' hb hs hl hr hc=>by
  obtain⟨h1,h2⟩:=Zt4 hk hr hv (Zec hlo) (Zec hhi) (by rw[Zeb];exact hgl) (by rw[Zeb];exact hgh) (Zlw hi) (Zjq he) hid;have g1:Zab d' id=some ⟨v,eflip lo (eneg hi),eflip hi (eneg hi)⟩:=by rw[hr.nodes,Zb2]
  refine .inr (.inr (.inr ⟨by omega,by omega,_,d',_,o',rfl,hs,hl,h1,h2,Zec (Zgn g1),?_,?_,by rw[hr.many];omega,(Chg.of_below hb _ _).trans hc⟩))
  . rw[Zvz h1 g1,h2.ef hlo,h2.ef hhi];rfl
  . rw[Zeb,h2.lev];unfold lvE;rw[show 2*id/2=id from by omega,g1];exact Nat.le_refl _
 have gq:=Hd (fun id W (hh:id<2305843009213693952)=>Zrs id (eneg hi) W hh);rw[decide_eq_true hgl] at gb;rw[decide_eq_true hgh] at gc;obtain⟨l,hl⟩:∃ l,l=levN d v:=⟨_,rfl⟩;rw[<- hl] at g6 gb gc;have gG:¬ ((l:Nat):Int)<0:=by omega
 have gE:((lo:Int) == hi)=false:=by simp;omega
 have g5:=Hd (fun W=>Zjv lo hi W g2 g3);have HH:=Hd h;have gd:=Hd hlt;have HV:=Hd hv;have HF:=Hd (fun W (hb:Below w.heap.size w W)=>Zqk o v (s.ts.getD v 0) (d.tab v) (eflip lo (eneg hi)) (eflip hi (eneg hi)) W ((h.below hlt hb).tab v (by rw[h.tlen];exact hv)) hid);obtain⟨lo2,g8⟩:∃ x,x=eflip lo (eneg hi):=⟨_,rfl⟩;obtain⟨gz,ga⟩:∃ x,x=eflip hi (eneg hi):=⟨_,rfl⟩;obtain⟨ng,gj⟩:∃ x,x=eneg hi:=⟨_,rfl⟩;rw[<- g8,<- ga] at g5 HF gf g4;rw[<- gj] at g5 gq g4;clear h hlt hk hv hlo hhi g9 gr gu g2 g3 hlen hl hgl hgh he hid g8 ga gj
 go_enter func189,ntmps189
 go_wp2_with fail;refine(g6.out _ (Below.refl _ _)).mono ?_;rintro x w' ⟨rfl,rfl⟩;go_wp2_with fail;refine(gv.out _ (Below.refl _ _)).mono ?_;rintro x w1 ⟨rfl,gp⟩;have ge:=Hd gp;clear gp;go_wp2_with fail;refine(gw.out _ ge.out).mono ?_;rintro x w2 ⟨rfl,go⟩;have HB2:=Hd (ge.out.trans (go.mono ge.out.size));clear go;go_wp2_with fail;refine(g6.out _ HB2.out).mono ?_;rintro x w' ⟨rfl,rfl⟩;go_wp2_with fail;refine(gb.out _ HB2.out).mono ?_;rintro x w3 ⟨rfl,gn⟩;have g7:=Hd (HB2.out.trans (gn.mono HB2.out.size));clear gn;go_wp2_with fail;refine(g6.out _ g7.out).mono ?_;rintro x w' ⟨rfl,rfl⟩;go_wp2_with fail;refine(gc.out _ g7.out).mono ?_;rintro x w4 ⟨rfl,gm⟩;have g0:=Hd (g7.out.trans (gm.mono g7.out.size));clear gm;go_wp2_with fail;obtain⟨gt,ct,gh,cellv,gx,gF⟩:=(HH.out.below gd.out g0.out).tabAt HV.out;obtain⟨c0,c1,c2,c3,c4,f0⟩:=cells5 (HH.out.below gd.out g0.out).blk;rw[gh] at c2;have gD:(v:Int)<s.ts.length:=by omega
 have gy:=(HH.out.below gd.out g0.out).tab v gx;clear gh;refine(g5.out _).mono ?_;rintro x w' ⟨rfl,rfl⟩;have hf:=HF.out _ g0.out;clear gy;obtain⟨tv,gi⟩:∃ t,t=s.ts.getD v 0:=⟨_,rfl⟩;rw[<- gi] at cellv hf;have gB:=Hd hf;clear gi hf;go_wp2_with fail;refine gB.out.mono ?_;rintro x w' ⟨rfl,rfl⟩;go_wp2_with fail;refine(gf.out _ g0.out).mono ?_;rintro x w6 (⟨hm,rfl,gl⟩|⟨id,d',o',rfl,hs,gk,hr,hc⟩)
 .
  have gC:=Hd (g0.out.trans (gl.mono g0.out.size));have HM:=Hd hm;clear hm gl c0 c1 c2 c3 c4 f0 cellv;go_wp2_with fail
  go_ret2
  exact gg.out _ gC.out HM.out
 .
  have HS:=Hd hs;have gA:=Hd gk;have HR:=Hd hr;have HC:=Hd hc;have gs:id<2305843009213693952:=by
   obtain⟨s',hs'⟩:=hs;have:=hs'.tk_lt (i:=id) (b:=⟨v,lo2,gz⟩) (by rw[hr.nodes,Zb2]);omega
  clear hs gk hr hc c0 c1 c2 c3 c4 f0 cellv;go_wp2_with fail;refine(gq.out _ _ gs).mono ?_;rintro x w' ⟨rfl,rfl⟩;go_wp2_with fail
  go_ret2
  exact g4.out _ _ id d' o' g0.out HS.out gA.out HR.out HC.out
theorem Zq4 {o:Own}{w:World}{sb:Nat}{d:Zag}{V:Nat->BF}(h:Zav o w sb d)(hlt:Zaj o w)(hk:Zan d V)(v:Int)(lo hi:Nat)(hlo:okE (Zab d) lo)(hhi:okE (Zab d) hi) :
 Calls prog 189 #[.pointer (some ⟨sb,0,none⟩),.int .i64 v,.int .i64 lo,.int .i64 hi] w (Zfh o w sb d V v lo hi):=by
 obtain⟨s,h⟩:=h
 by_cases hv:0<=v/\v<d.vars.length
 .
  obtain⟨n,rfl⟩:=Int.eq_ofNat_of_zero_le hv.1;have hn:n<d.vars.length:=by omega
  by_cases h1:levN d n<lvE d.vars.length (levN d) (Zab d) lo
  .
   by_cases h2:levN d n<lvE d.vars.length (levN d) (Zab d) hi
   .
    by_cases h3:lo=hi
    . exact Ycd h hlt hk n lo hi hn hlo hhi h1 h2 h3
    .
     cases h4:d.tab n (eflip lo (eneg hi),eflip hi (eneg hi)) with
     | none=>exact Ybu h hlt hk n lo hi hn hlo hhi h1 h2 h3 h4
     | some id=>exact Zxw h hlt hk n lo hi hn hlo hhi h1 h2 h3 id h4
   . exact Yce h hlt hk n lo hi hn hlo hhi (by omega) h1
  . exact Ycf h hlt hk n lo hi hn hlo hhi (by omega)
 . exact Ybv h hk v lo hi hv
open Go.RowKit
theorem Ztb {o:Own}{w w':World}{v:Value}{zs:List Int}(h:OwnI w' w.heap.size v zs)(hb:Below w.heap.size w w')(hlt:Zaj o w)(r:Role) :
 ∃ o',RowR o' w' r 3 1 v zs.length (Za1 zs)/\Chg (· = r) o o' w w'/\Zaj o' w':=by
 obtain⟨hl,h2⟩:=h;rcases h2 with ⟨h1,h0⟩|⟨g,cap,cur,h1,h2,h3,h4,h5,h6,h7⟩
 . exact⟨o,⟨hl,.inl ⟨h1,h0⟩⟩,Chg.of_below hb _ _,hlt.mono hb.size⟩
 .
  have hg:g<w'.heap.size:=(Array.getElem?_eq_some_iff.1 h3).1;refine⟨Zcu o g r,⟨hl,.inr ⟨g,cap,cur,h1,Zbf _ _ _,h3,h4,h5,by omega,h7⟩⟩,⟨hb.os,hb.tape,hb.output,hb.size,fun k hk _=>hb.block k hk,fun k q hq=>Zc9 hlt h2 hq,fun k hk=>?_⟩,fun k q hq=>?_⟩
  .
   by_cases e:k=g
   . subst e;exact⟨h2,r,Zbf _ _ _,rfl⟩
   . exact absurd (by simp[Zcu,e]) hk
  .
   by_cases e:k=g
   . subst e;exact hg
   . simp only[Zcu,if_neg e] at hq;have:=hlt k q hq;have:=hb.size;omega
theorem Zo0 (o:Own)(n:Nat)(hn:n<=64)(r:Role)(w:World)(hlt:Zaj o w) :
 Calls prog 156 #[.int .i64 n] w fun e w'=>∃ v o',e=.returned v/\RowR o' w' r 3 1 v n ((List.range n).map nat64)/\Chg (· = r) o o' w w'/\Zaj o' w' :=
 (Znf n w).mono fun e w' ⟨v,h1,h2,h3⟩=>by
  obtain⟨o',a,b,c⟩:=Ztb h2 h3 hlt r;have e1:Zoz n=iota n:=by unfold Zoz;congr 1;omega
  have e2:Za1 (iota n)=(List.range n).map nat64:=by simp[Za1,iota,nat64]
  rw[e1,Zfx,e2] at a;exact⟨v,o',h1,a,b,c⟩
def store0 (n room:Nat):Zag:=⟨List.range n,List.range n,pool0 room,fun _ _=>none,[],0⟩
structure NewS (o:Own)(w:World)(n room sb:Nat)(s:Za7)(j:Nat)(o1:Own)(wx:World):Prop where
 own:o1 sb=some .store
 ownl:o1 s.lb=some .levels
 blk:wx.heap[sb]?=some (.cells #[.pointer (some ⟨s.lb,0,none⟩),.pointer (some ⟨s.pb,0,none⟩),s.vt,.slice none 0 0,.int .i64 0] 193 (0,0))
 lev:wx.heap[s.lb]?=some (.cells #[s.vv,s.vl] 195 (0,0))
 vars:RowR o1 wx .vars 3 1 s.vv n ((List.range n).map nat64)
 level:RowR o1 wx .level 3 1 s.vl n ((List.range n).map nat64)
 pool:Zat o1 wx s.pb (pool0 room)
 tabs:RowR o1 wx .tabs 217 1 s.vt j (s.ts.map ptrV)
 tl:s.ts.length=j
 tab:∀ v,v<j->Zdg o1 wx v (s.ts.getD v 0) (fun _=>none)
 chg:Chg Zar o o1 w wx
 lt:Zaj o1 wx
 ge:w.heap.size<=sb
theorem NewS.done {o o1:Own}{w wx:World}{n room sb:Nat}{s:Za7}(h:NewS o w n room sb s n o1 wx):Zav o1 wx sb (store0 n room) :=
 ⟨{ s with vc:=.slice none 0 0 },h.own,h.ownl,h.blk,h.lev,by simpa [store0] using h.vars,by simpa [store0] using h.level,h.pool,by rw[h.tl];exact h.tabs,fun v hv=>h.tab v (by rw[<- h.tl];exact hv),RowR.nil _ _ _ _ _,rfl,by simp[store0,h.tl]⟩
theorem NewS.grown {o o1 o2 o3:Own}{w wx wy wz:World}{n room sb:Nat}{s:Za7}{j t g cap:Nat}(h:NewS o w n room sb s j o1 wx)(ht:Zdg o2 wy j t (fun _=>none))(hc:Chg (fun r=>r=.tab j\/r=.tmap j) o1 o2 wx wy)(hl:Zaj o2 wy)
 (hr:RowR o3 wz .tabs 217 1 (.slice (some ⟨g,0,none⟩) (j+1) cap) (j+1) (s.ts.map ptrV++[ptrV t])) (hc2:Chg (· = .tabs) o2 o3 wy wz) (hl2:Zaj o3 wz) :
 NewS o w n room sb { s with vt:=.slice (some ⟨g,0,none⟩) (j+1) cap,ts:=s.ts++[t] } (j+1) o3 (wz.setCell ⟨sb,2,none⟩ (.slice (some ⟨g,0,none⟩) (j+1) cap)):=by
 have g0:Chg (fun r=>r=.tab j\/r=.tmap j\/r=.tabs) o1 o3 wx wz:=(hc.mono fun r e=>by rcases e with e|e;exact .inl e;exact .inr (.inl e)).trans (hc2.mono fun r e=>.inr (.inr e));have g1:=g0.ext _ _ h.own;have ne:∀ {a r},o3 a=some r->r ≠ .store->a≠sb:=fun ha hr e=>by subst e;rw[ha] at g1;cases g1;exact hr rfl
 have g3:=g0.ext _ _ h.ownl;have row:∀ {r e k v m xs},RowR o1 wx r e k v m xs->r ≠ .store->¬ (r=.tab j\/r=.tmap j\/r=.tabs)->RowR o3 (wz.setCell ⟨sb,2,none⟩ (.slice (some ⟨g,0,none⟩) (j+1) cap)) r e k v m xs:=fun hr h1 h2 =>
  (hr.chg g0 h.lt h2).setCell_other (p:=⟨sb,2,none⟩) (by rw[g1];intro e;cases e;exact h1 rfl) _
 have ctab:∀ v t f,Zdg o3 wz v t f->Zdg o3 (wz.setCell ⟨sb,2,none⟩ (.slice (some ⟨g,0,none⟩) (j+1) cap)) v t f:=fun v t f hT =>
  hT.keep (fun q r hq g2=>Zai (ne hq (by rintro rfl;rcases g2 with e|e<;>cases e)) _) (fun _ _ h=>h)
 refine⟨g1,g3,Zae ((g0.same h.lt h.own (by simp)).trans h.blk) _,(Zai (ne g3 (by simp)) _).trans ((g0.same h.lt h.ownl (by simp)).trans h.lev),row h.vars (by simp) (by simp),row h.level (by simp) (by simp),?_,?_,by simp[h.tl],fun v hv=>?_,?_,hl2.mono (by simp[World.setCell]),h.ge⟩
 . have hp:=h.pool.chg g0 h.lt (by simp) (by simp) (by simp) (by simp);exact hp.keep (fun q r hq g2=>Zai (ne hq (by rintro rfl;rcases g2 with e|e|e|e<;>cases e)) _) (fun _ _ h=>h)
 . have:=hr.setCell_other (p:=⟨sb,2,none⟩) (by rw[g1];simp) (.slice (some ⟨g,0,none⟩) (j+1) cap);simpa using this
 .
  dsimp only;refine ctab _ _ _ ?_
  by_cases e:v=j
  .
   subst e;have e2:(s.ts++[t]).getD v 0=t:=by simp[List.getD,h.tl]
   rw[e2];exact ht.chg hc2 hl (by simp) (by simp)
  .
   have e2:(s.ts++[t]).getD v 0=s.ts.getD v 0:=by
    have:=h.tl;simp[List.getD,List.getElem?_append_left (show v<s.ts.length by omega)]
   rw[e2];exact(h.tab v (by omega)).chg g0 h.lt (by simp[e]) (by simp[e])
 . exact(h.chg.trans (g0.mono fun r e=>by rcases e with rfl|rfl|rfl<;>simp[Zar])).setCell (p:=⟨sb,2,none⟩) g1 (by simp[Zar]) _
theorem Zsv:(prog.info? 217).map (fun i=>(i.zero,i.size,i.bytes))=some (some (.pointer none),1,8):=by kernel_rfl
theorem Zvx (o:Own)(n room:Nat)(w:World)(hlt:Zaj o w)(hn:n<=64)(h1:1<=room)(h2:room<=1048576) :
 Calls prog 104 #[.int .i64 n,.int .i64 room] w fun x w'=>∃ sb o',x=.returned (.tuple #[.pointer (some ⟨sb,0,none⟩),.int .i64 0])/\Zav o' w' sb (store0 n room)/\Chg Zar o o' w w'/\Zaj o' w'/\w.heap.size<=sb:=by
 have gK:(n:Int)<=64:=by omega
 have gJ:(0:Int)<=n:=by omega
 have HP:=Hd (Zxy o room w hlt h1 h2);clear hlt h1 h2
 go_enter func104,ntmps104
 go_wp2_with fail;refine HP.out.mono ?_;rintro x w1 ⟨pb,o1,rfl,gp,gu,gh,gI⟩;have gB:=Hd (Zo0 o1 n hn .vars w1 gh);have gz:=Hd gh;have gy:=Hd gp;have gn:=Hd gu;clear gp gu gh;go_wp2_with fail;refine gB.out.mono ?_;rintro x w2 ⟨vv,o2,rfl,gb,gt,gg⟩;have gA:=Hd (Zo0 o2 n hn .level w2 gg);have gl:=Hd gb;have gc:=Hd gt;have gm:=Hd gg;clear gb gt gg;go_wp2_with fail;refine gA.out.mono ?_;rintro x w3 ⟨vl,o3,rfl,g4,gs,gr⟩;obtain⟨av,cv,rfl,_⟩:=gl.out.slice;obtain⟨al,cl,rfl,_⟩:=g4.slice;have gx:=Hd g4;have g6:=Hd gs;have g3:=Hd gr;clear g4 gs gr;go_upto_region 7 with fail;obtain⟨wl,g1⟩:∃ wl,wl=w3.alloc (.cells #[.slice av n cv,.slice al n cl] 195):=⟨_,rfl⟩;obtain⟨ws,g0⟩:∃ ws,ws=wl.alloc (.cells #[.pointer (some ⟨w3.heap.size,0,none⟩),.pointer (some ⟨pb,0,none⟩),.slice none 0 0,.slice none 0 0,.int .i64 0] 193):=⟨_,rfl⟩;have gd:wl.heap.size=w3.heap.size+1:=by rw[g1];simp
 have gv:NewS o w n room (w3.heap.size+1) ⟨w3.heap.size,pb,.slice av n cv,.slice al n cl,.slice none 0 0,.slice none 0 0,[]⟩ 0 (Zcu (Zcu o3 w3.heap.size .levels) (w3.heap.size+1) .store) ws:=by
  have c1:=(Chg.refl Zar o3 w3).allocR (r:=.levels) g3.out (.cells #[.slice av n cv,.slice al n cl] 195) (by simp[Zar]);have l1:=g3.out.allocR (.cells #[.slice av n cv,.slice al n cl] 195) .levels;rw[<- g1] at c1 l1;have c2:=c1.allocR (r:=.store) l1 (.cells #[.pointer (some ⟨w3.heap.size,0,none⟩),.pointer (some ⟨pb,0,none⟩),.slice none 0 0,.slice none 0 0,.int .i64 0] 193) (by simp[Zar]);have l2:=l1.allocR (.cells #[.pointer (some ⟨w3.heap.size,0,none⟩),.pointer (some ⟨pb,0,none⟩),.slice none 0 0,.slice none 0 0,.int .i64 0] 193) .store;rw[<- g0,gd] at c2 l2;have hb:Below w3.heap.size w3 ws:=by rw[g0,g1];exact(Zad w3 _).alloc (by simp) _
  have gb:=((gl.out.chg g6.out gm.out (by simp)).below g3.out hb).keep (o':=Zcu (Zcu o3 w3.heap.size .levels) (w3.heap.size+1) .store) (fun _ _=>rfl) (fun g hg=>c2.ext g _ hg);have g4:=(gx.out.below g3.out hb).keep (o':=Zcu (Zcu o3 w3.heap.size .levels) (w3.heap.size+1) .store) (fun _ _=>rfl) (fun g hg=>c2.ext g _ hg);have gD:=(gn.out.mono (R':=Zar) (fun r hr=>by rcases hr with rfl|rfl|rfl<;>simp[Zar,Zfd])).trans ((gc.out.mono (R':=Zar) (fun r hr=>by subst hr;simp[Zar])).trans ((g6.out.mono (R':=Zar) (fun r hr=>by subst hr;simp[Zar])).trans c2));have gC:=(gy.out.chg (gc.out) gz.out (by simp) (by simp) (by simp) (by simp)).chg g6.out gm.out (by simp) (by simp) (by simp) (by simp);have hp:=(gC.below hb g3.out).keep (o':=Zcu (Zcu o3 w3.heap.size .levels) (w3.heap.size+1) .store) (fun _ _ _ _=>rfl) (fun g r hg=>c2.ext g r hg);refine⟨Zbf _ _ _,Zc9 l1 (by omega) (Zbf _ _ _),?_,?_,gb,g4,hp,RowR.nil _ _ _ _ _,rfl,fun v hv=>absurd hv (by omega),gD,l2,?_⟩
  . rw[g0,<- gd];exact heap_alloc_new wl _
  . rw[g0];exact(Go.heap_alloc_old wl _ (show w3.heap.size<wl.heap.size by omega)).trans (by rw[g1];exact heap_alloc_new w3 _)
  .
   show w.heap.size<=w3.heap.size+1
   exact Nat.le_succ_of_le (Nat.le_trans gn.out.size (Nat.le_trans gc.out.size g6.out.size))
 rw[<- g1,<- g0];have gw:=Hd gv;clear gv g0 g1 gd gl gx gn gc g6 gz gm g3 gy gB gA HP;go_wp2_with fail
 go_loopw [31] (fun i wr=>∃ (j:Nat) (s:Za7) (o1:Own),j<=n/\i=.int .i64 j/\NewS o w n room (w3.heap.size+1) s j o1 wr) (fun i _=>n-(intOf i).toNat)
 case atStart=>exact⟨0,_,_,by omega,rfl,gw.out⟩
 case round =>
  obtain⟨j,s,o1,hj,rfl,hS⟩:=hrel;clear gw
  by_cases hlt:j<n
  .
   obtain⟨c0,c1,c2,c3,c4,f0⟩:=cells5 hS.blk;obtain⟨av,cv,g9,_⟩:=hS.tabs.slice;rw[g9] at c2;have gG:(j:Int)<n:=by omega
   have HJ:(j:Int)+1<=64:=by omega
   have HS:=Hd hS;have gE:Hid (RowR o1 wr .tabs 217 1 (.slice av j cv) j (s.ts.map ptrV)):=by show RowR _ _ _ _ _ _ _ _;rw[<- g9];exact hS.tabs
   have gF:=Hd (Zxz o1 j wr.drew hS.lt);have gH:j<=64:=by omega
   have gj:=Hd g9;clear g9 hS;go_upto_region 9 with fail;refine Zap (fun W:World=>W.cell? ⟨w3.heap.size+1,2,none⟩=some (.slice av j cv)/\W.frozen? ⟨w3.heap.size+1,2,none⟩=false) true 10
    [(0,false),(1,false),(2,false),(3,false),(4,false),(5,true),(6,true),(7,true),(8,false),(9,false),(10,true)] (by kernel_rfl) (by kernel_rfl) ⟨c2,f0 2⟩ ?_
   simp only[planned,Zc8]
   iterate 5
    refine Zaq rfl ?_;apply Exists.intro;refine⟨fun w' hw=>?_,?_⟩
    . obtain⟨h1,h2⟩:=hw;go_simp;rfl
    simp only[Zah]
   refine Zb5 (R:=fun v w'=>∃ t o2,v=.pointer (some ⟨t,0,none⟩)/\Zdg o2 w' j t (fun _=>none)/\Chg (fun r=>r=.tab j\/r=.tmap j) o1 o2 wr w'/\Zaj o2 w') rfl (by go_simp) (gF.out.mono (fun e w' he=>?_)) ?_
   . obtain⟨t,o2,rfl,a1,a2,a3,a4⟩:=he;obtain⟨_,_,q2,_,_,q0⟩:=cells5 ((a2.same (by exact HS.out.lt) HS.out.own (by simp)).trans HS.out.blk);exact⟨_,rfl,⟨by rw[<- gj.out];exact q2,q0 2⟩,t,o2,rfl,a1,⟨a2.os,a2.tape,a2.output,a2.size,a2.block,a2.ext,a2.new⟩,a3⟩
   rintro v wy-⟨t,o2,rfl,ht,g2,g5⟩;simp only[Zah];have ga:=(g2.same HS.out.lt HS.out.own (by simp)).trans HS.out.blk;have gf:w3.heap.size+1<wy.heap.size:=(Array.getElem?_eq_some_iff.1 ga).1;have gN:=Hd g2;have gL:=Hd ht;have gM:=Hd g5;have gk:=gE.out.chg g2 HS.out.lt (by simp);obtain⟨wb,g8⟩:∃ wb,wb=wy.alloc (.cells #[.pointer (some ⟨t,0,none⟩)] 217):=⟨_,rfl⟩;obtain⟨_,_,p2,_,_,p0⟩:=cells5 (show wb.heap[w3.heap.size+1]?=_ from by rw[g8];exact(Go.heap_alloc_old _ _ gf).trans ga);refine Zib (v:=.slice (some ⟨wy.heap.size,0,none⟩) 1 1) (w':=wb) rfl (by rw[g8];go_simp) ⟨by rw[<- gj.out];exact p2,p0 2⟩ ?_;simp only[Zah];obtain⟨g,cap,wz,o3,g7,go,gi,gq⟩:=Zi0 191 217 191 1 8 (.pointer none) underlying191 Zsv rfl (by decide) #[.pointer (some ⟨t,0,none⟩)] rfl (fun u hu=>by simp at hu;subst hu;rfl) gk g5 (by omega) (by decide);rw[<- g8] at g7;obtain⟨_,_,r2,_,_,r0⟩:=cells5 ((gi.same g5 (g2.ext _ _ HS.out.own) (by simp)).trans ga);refine Zib (v:=.slice (some ⟨g,0,none⟩) (j+1) cap) (w':=wz) rfl (Zkg rfl rfl rfl g7) ⟨by rw[<- gj.out];exact r2,r0 2⟩ ?_;simp only[Zah];have HG:=Hd (HS.out.grown ht g2 g5 go gi gq);clear ga gf g2 ht g5 gk g8 p2 p0 g7 go gi gq
   iterate 2
    refine Zaq rfl ?_;apply Exists.intro;refine⟨fun w' hw=>?_,?_⟩
    . obtain⟨h1,h2⟩:=hw;go_simp;rfl
    simp only[Zah]
   refine Zdd rfl (fun K hK=>?_);unfold Oper.wp;go_simp;refine hK _ _ (Zbs ?_);go_wp2_with fail;go_roundw
   case rel=>exact⟨j+1,_,_,by omega,by simp,HG.out⟩
   case measure=>simp[intOf];omega
  .
   obtain rfl:j=n:=by omega
   have HS:=Hd hS;clear hS;go_wp2_with fail
   go_ret2
   exact⟨_,_,rfl,HS.out.done,HS.out.chg,HS.out.lt,HS.out.ge⟩
open Go.RowKit
structure Ev where
 after:Int
 kind:Int
 level:Int
def evL (e:Ev):List Value:=[.int .i64 e.after,.int .i64 e.kind,.int .i64 e.level]
def evA (e:Ev):Value:=.agg #[.int .i64 e.after,.int .i64 e.kind,.int .i64 e.level]
structure Zb1 (o:Own)(w:World)(v:Value)(ws:List Ev):Prop where
 ex:(v=.slice none 0 0/\ws=[])\/∃ g off cap cur,v=.slice (some ⟨g,off,none⟩) ws.length cap/\o g=some .waits/\w.heap[g]?=some (.cells cur 120 (0,0))/\ws.length<=cap/\cap<=maxLen /\
  off+cap*3<=cur.size/\(cur.toList.drop off).take (ws.length*3)=ws.flatMap evL
theorem Zb1.keep {o o':Own}{w w':World}{v:Value}{ws:List Ev}(h:Zb1 o w v ws)(hk:∀ g,o g=some .waits->w'.heap[g]?=w.heap[g]?)(ho:∀ g,o g=some .waits->o' g=some .waits):Zb1 o' w' v ws:=by
 refine⟨h.ex.imp id ?_⟩;rintro⟨g,off,cap,cur,h1,h2,h3,rest⟩;exact⟨g,off,cap,cur,h1,ho g h2,(hk g h2).trans h3,rest⟩
theorem Zb1.chg {R:Role->Prop}{o o':Own}{w w':World}{v:Value}{ws:List Ev}(h:Zb1 o w v ws)(hc:Chg R o o' w w')(hlt:Zaj o w)(hr:¬ R .waits):Zb1 o' w' v ws :=
 h.keep (fun g hg=>hc.same hlt hg hr) (fun g hg=>hc.ext g _ hg)
theorem Zb1.nil (o:Own)(w:World):Zb1 o w (.slice none 0 0) []:=⟨.inl ⟨rfl,rfl⟩⟩
theorem Zb1.slice {o:Own}{w:World}{v:Value}{ws:List Ev}(h:Zb1 o w v ws):∃ a cap,v=.slice a ws.length cap/\(a=none->cap=0):=by
 rcases h.ex with ⟨h1,h0⟩|⟨g,off,cap,cur,h1,_⟩
 . exact⟨none,0,by rw[h1,h0];rfl,fun _=>rfl⟩
 . exact⟨_,cap,h1,by simp⟩
theorem Zc3 (ws:List Ev):(ws.flatMap evL).length=ws.length*3:=Zbi evL 3 (fun _=>rfl) ws
theorem Zb1.first {o:Own}{w:World}{v:Value}{ev:Ev}{ws:List Ev}(h:Zb1 o w v (ev::ws)):∃ g off cap,v=.slice (some ⟨g,off,none⟩) (ws.length+1) cap/\o g=some .waits/\ws.length+1<=cap/\cap<=maxLen /\
 w.cell? ⟨g,off,none⟩=some (.int .i64 ev.after)/\w.cell? ⟨g,off+1,none⟩=some (.int .i64 ev.kind)/\w.cell? ⟨g,off+2,none⟩=some (.int .i64 ev.level)/\Zb1 o w (.slice (if cap=1 then some ⟨g,off,none⟩ else some ⟨g,off+3,none⟩) ws.length (cap-1)) ws:=by
 rcases h.ex with ⟨h1,h0⟩|⟨g,off,cap,cur,h1,h2,h3,h4,h5,h6,h7⟩
 . cases h0
 .
  simp only[List.length_cons] at h1 h4 h7;have hc:∀ j u,(evL ev++ws.flatMap evL)[j]?=some u->w.cell? ⟨g,off+j,none⟩=some u:=by
   intro j u hj;have hl:=(List.getElem?_eq_some_iff.1 hj).1;have g0:j<(ws.length+1)*3:=by
    have e1:(evL ev++ws.flatMap evL).length=3+ws.length*3:=by rw[List.length_append,Zc3];rfl
    omega
   rw[cell_of_row w g (off+j) cur _ (0,0) h3];have e2:(evL ev++ws.flatMap evL)[j]?=((cur.toList.drop off).take ((ws.length+1)*3))[j]?:=by rw[h7];rfl
   rw[e2,List.getElem?_take,if_pos g0,List.getElem?_drop] at hj;simpa using hj
  refine⟨g,off,cap,h1,h2,h4,h5,hc 0 _ rfl,hc 1 _ rfl,hc 2 _ rfl,⟨.inr ?_⟩⟩
  by_cases e1:cap=1
  . have e2:ws=[]:=List.eq_nil_of_length_eq_zero (by omega);subst e2;exact⟨g,off,cap-1,cur,by rw[if_pos e1],h2,h3,by simp,by omega,by omega,by simp⟩
  .
   refine⟨g,off+3,cap-1,cur,by rw[if_neg e1],h2,h3,by omega,by omega,by omega,?_⟩;have e3:(cur.toList.drop (off+3)).take (ws.length*3)=((cur.toList.drop off).take ((ws.length+1)*3)).drop 3:=by
    rw[List.drop_take,List.drop_drop];congr 1;omega
   rw[e3,h7];rfl
structure ManD where
 d:Zag
 hs:List (Int×Nat)
 next:Int
 waits:List Ev
 calls:Int
structure ManW where
 sb:Nat
 me:Nat
 hb:Nat
 vw:Value
def encH (hs:List (Int×Nat)):List (Int×Value):=hs.map fun p=>(p.1,.int .i64 (p.2:Nat))
structure Zb7 (F:Phi)(o:Own)(w:World)(mb:Nat)(m:ManD)(s:ManW):Prop where
 own:o mb=some .man
 blk:w.heap[mb]?=some (.cells #[.pointer (some ⟨s.sb,0,none⟩),.pointer (some ⟨s.me,0,none⟩),.map (some s.hb),.int .i64 m.next,s.vw,.int .i64 m.calls] 133 (0,0))
 store:Zav o w s.sb m.d
 memo:Zcs o w s.me F
 ownh:o s.hb=some .handles
 map:Zb9 w s.hb (Value.int .i64) (encH m.hs)
 waits:Zb1 o w s.vw m.waits
def Zdo (F:Phi)(o:Own)(w:World)(mb:Nat)(m:ManD):Prop:=∃ s,Zb7 F o w mb m s
theorem cells6 {w:World}{g:Nat}{a b c d e f:Value}{T:TypeId}(h:w.heap[g]?=some (.cells #[a,b,c,d,e,f] T (0,0))):w.cell? ⟨g,0,none⟩=some a/\w.cell? ⟨g,1,none⟩=some b/\w.cell? ⟨g,2,none⟩=some c/\w.cell? ⟨g,3,none⟩=some d/\w.cell? ⟨g,4,none⟩=some e/\w.cell? ⟨g,5,none⟩=some f /\
 (∀ k,w.frozen? ⟨g,k,none⟩=false) :=
 ⟨by rw[cell_of_row w g 0 _ _ _ h];rfl,by rw[cell_of_row w g 1 _ _ _ h];rfl,by rw[cell_of_row w g 2 _ _ _ h];rfl,by rw[cell_of_row w g 3 _ _ _ h];rfl,by rw[cell_of_row w g 4 _ _ _ h];rfl,by rw[cell_of_row w g 5 _ _ _ h];rfl,fun k=>by simp[World.frozen?,h]⟩
section
variable {F:Phi}{o o':Own}{w w':World}{mb:Nat}{m:ManD}{s:ManW}
theorem Zb9.keepB {w w':World}{b:Nat}{enc:Int->Value}{l:List (Int×Value)}(h:Zb9 w b enc l)(hk:w'.heap[b]?=w.heap[b]?):Zb9 w' b enc l:=by
 obtain⟨es,c,hb,rest⟩:=h.ex;exact⟨⟨es,c,hk.trans hb,rest⟩,h.nodup⟩
theorem Zav.keepR {sb:Nat}{d:Zag}(h:Zav o w sb d)(hk:∀ g r,o g=some r->Zar r->w'.heap[g]?=w.heap[g]?)(ho:∀ g r,o g=some r->o' g=some r):Zav o' w' sb d:=by
 obtain⟨s,h⟩:=h;have row:∀ {r e k v n xs},Zar r->RowR o w r e k v n xs->RowR o' w' r e k v n xs:=fun hr h=>h.keep (fun g hg=>hk g _ hg hr) (fun g hg=>ho g _ hg)
 refine⟨s,ho _ _ h.own,ho _ _ h.ownl,(hk _ _ h.own (by simp[Zar])).trans h.blk,(hk _ _ h.ownl (by simp[Zar])).trans h.lev,row (by simp[Zar]) h.vars,row (by simp[Zar]) h.level,
  h.pool.keep (fun g r hg hr=>hk g r hg (by rcases hr with rfl|rfl|rfl|rfl<;>simp[Zar,Zfd])) ho,row (by simp[Zar]) h.tabs,
  fun v hv=>(h.tab v hv).keep (fun g r hg hr=>hk g r hg (by rcases hr with rfl|rfl<;>simp[Zar])) ho,row (by simp[Zar]) h.counts,h.len,h.tlen⟩
theorem Zcs.mono {G:Phi}{me:Nat}(h:Zcs o w me F)(hF:∀ op a b c r,F op a b c r->G op a b c r):Zcs o w me G:=by
 obtain⟨ve,a,f,h1,h2⟩:=h.ex;refine⟨h.own,ve,a,f,h1,h2.imp id ?_⟩;rintro⟨ge,cap,l,e1,e2,e3,e4⟩;exact⟨ge,cap,l,e1,e2,e3,fun i hi=>hF _ _ _ _ _ (e4 i hi)⟩
theorem Zb7.keep (h:Zb7 F o w mb m s)(hk:∀ g r,o g=some r->w'.heap[g]?=w.heap[g]?)(ho:∀ g r,o g=some r->o' g=some r):Zb7 F o' w' mb m s :=
 ⟨ho _ _ h.own,(hk _ _ h.own).trans h.blk,h.store.keepR (fun g r hg _=>hk g r hg) ho,h.memo.keep (fun g r hg _=>hk g r hg) ho,ho _ _ h.ownh,h.map.keepB (hk _ _ h.ownh),h.waits.keep (fun g hg=>hk g _ hg) (fun g hg=>ho g _ hg)⟩
theorem Zb7.below (h:Zb7 F o w mb m s)(hlt:Zaj o w)(hb:Below w.heap.size w w'):Zb7 F o w' mb m s:=h.keep (fun g r hg=>hb.block g (hlt g r hg)) (fun _ _ h=>h)
theorem Zb7.setStore {d':Zag}(h:Zb7 F o w mb m s)(hlt:Zaj o w)(hs:Zav o' w' s.sb d')(hc:Chg Zar o o' w w'):Zb7 F o' w' mb { m with d:=d' } s :=
 ⟨hc.ext _ _ h.own,(hc.same hlt h.own (by simp[Zar,Zfd])).trans h.blk,hs,h.memo.chg hc hlt (by simp[Zar,Zfd]) (by simp[Zar,Zfd]),hc.ext _ _ h.ownh,h.map.keepB (hc.same hlt h.ownh (by simp[Zar,Zfd])),h.waits.chg hc hlt (by simp[Zar,Zfd])⟩
theorem Zb7.setMemo {G:Phi}(h:Zb7 F o w mb m s)(hlt:Zaj o w)(hm:Zcs o' w' s.me G)(hc:Chg (fun r=>r=.memo\/r=.entries) o o' w w'):Zb7 G o' w' mb m s :=
 ⟨hc.ext _ _ h.own,(hc.same hlt h.own (by simp)).trans h.blk,h.store.keepR (fun g r hg hr=>hc.same hlt hg (by rintro(rfl|rfl)<;>simp[Zar,Zfd] at hr)) hc.ext,hm,hc.ext _ _ h.ownh,h.map.keepB (hc.same hlt h.ownh (by simp)),h.waits.chg hc hlt (by simp)⟩
theorem Zb7.mono {G:Phi}(h:Zb7 F o w mb m s)(hF:∀ op a b c r,F op a b c r->G op a b c r):Zb7 G o w mb m s:=⟨h.own,h.blk,h.store,h.memo.mono hF,h.ownh,h.map,h.waits⟩
theorem Zb7.field (h:Zb7 F o w mb m s){k:Nat}{u:Value}{m':ManD}{s':ManW}(hd:m'.d=m.d)(hh:m'.hs=m.hs)(h1:s'.sb=s.sb)(h2:s'.me=s.me)(h3:s'.hb=s.hb)(hw:Zb1 o w s'.vw m'.waits)
 (hb:(#[.pointer (some ⟨s.sb,0,none⟩),.pointer (some ⟨s.me,0,none⟩),.map (some s.hb),.int .i64 m.next,s.vw,.int .i64 m.calls]:Array Value).setIfInBounds k u=#[.pointer (some ⟨s.sb,0,none⟩),.pointer (some ⟨s.me,0,none⟩),.map (some s.hb),.int .i64 m'.next,s'.vw,.int .i64 m'.calls]) :
 Zb7 F o (w.setCell ⟨mb,k,none⟩ u) mb m' s':=by
 have ne:∀ {g r},o g=some r->r ≠ .man->g≠mb:=fun hg hr e=>by subst e;have:=h.own;rw[hg] at this;cases this;exact hr rfl
 refine⟨h.own,?_,?_,?_,by rw[h3];exact h.ownh,?_,hw.keep (fun g hg=>Zai (ne hg (by simp)) _) (fun _ h=>h)⟩
 . rw[h1,h2,h3,<- hb];exact Zae h.blk _
 . rw[h1,hd];exact h.store.keepR (fun g r hg hr=>Zai (ne hg (by rintro rfl;simp[Zar,Zfd] at hr)) _) (fun _ _ h=>h)
 . rw[h2];exact h.memo.keep (fun g r hg hr=>Zai (ne hg (by rintro rfl;rcases hr with e|e<;>cases e)) _) (fun _ _ h=>h)
 . rw[h3,hh];exact h.map.keepB (Zai (ne h.ownh (by simp)) _)
end
abbrev Law:=Zag->(Nat->BF)->Phi
def minL (d:Zag)(a b c:Nat):Nat:=min (lvE d.vars.length (levN d) (Zab d) a) (min (lvE d.vars.length (levN d) (Zab d) b) (lvE d.vars.length (levN d) (Zab d) c))
structure IteP (d:Zag)(V:Nat->BF)(a b c r:Nat):Prop where
 okA:okE (Zab d) a
 okB:okE (Zab d) b
 okC:okE (Zab d) c
 okR:okE (Zab d) r
 val:∀ ρ,ef V r ρ=if ef V a ρ then ef V b ρ else ef V c ρ
 lev:minL d a b c<=lvE d.vars.length (levN d) (Zab d) r
structure Zbh (K:Law):Prop where
 ite:∀ d V a b c r,K d V 1 a b c r↔IteP d V a b c r
 ext:∀ d V d' V' op a b c r,Zan d V->Zan d' V'->Ext d V d' V'->K d V op a b c r->K d' V' op a b c r
 same:∀ d d' V op a b c r,d'.vars=d.vars->d'.level=d.level->Zab d'=Zab d->K d V op a b c r->K d' V op a b c r
def Zb8 (hs:List (Int×Nat))(i:Nat):Nat:=(hs.filter fun p=>decide (1<p.1)&&p.2/2 == i).length
structure Zcb (m:ManD):Prop where
 nodup:(m.hs.map Prod.fst).Nodup
 zero:(0,1)∈m.hs
 one:(1,0)∈m.hs
 lt:∀ p∈m.hs,0<=p.1/\p.1<m.next
 next:2<=m.next
 ok:∀ p∈m.hs,okE (Zab m.d) p.2
 len:(m.hs.length:Int)<=m.next
 refs:∀ i b,Zab m.d i=some b->Za0 m.d i=Zb8 m.hs i
structure Zsf (m:ManD)(V:Nat->BF):Prop where
 store:Zan m.d V
 handles:Zcb m
structure Step (K:Law)(o:Own)(w:World)(mb:Nat)(m:ManD)(V:Nat->BF)(o':Own)(w':World)(m':ManD)(V':Nat->BF):Prop where
 is:Zdo (K m'.d V') o' w' mb m'
 lt:Zaj o' w'
 chg:Chg (fun _=>True) o o' w w'
 ok:Zan m'.d V'
 ext:Ext m.d V m'.d V'
 hs:m'.hs=m.hs
 next:m'.next=m.next
theorem Step.trans {K:Law}{o o' o'':Own}{w w' w'':World}{mb:Nat}{m m' m'':ManD}{V V' V'':Nat->BF}(h:Step K o w mb m V o' w' m' V')(h':Step K o' w' mb m' V' o'' w'' m'' V''):Step K o w mb m V o'' w'' m'' V'' :=
 ⟨h'.is,h'.lt,h.chg.trans h'.chg,h'.ok,h.ext.trans h'.ext,h'.hs.trans h.hs,h'.next.trans h.next⟩
structure Zdz (o:Own)(w:World)(xb mb:Nat):Prop where
 cell:w.cell? ⟨xb,0,none⟩=some (.pointer (some ⟨mb,0,none⟩))
 own:o xb=none
theorem Zdz.chg {R:Role->Prop}{o o':Own}{w w':World}{xb mb:Nat}(h:Zdz o w xb mb)(hc:Chg R o o' w w'):Zdz o' w' xb mb:=⟨hc.cell h.cell h.own,hc.alien' (World.block_lt_of_cell? w _ h.cell) h.own⟩
open Go.RowKit
def sw1 (f g:Nat):Nat:=if g=f then 0 else if g=enot f then 1 else g
def sw2 (f h:Nat):Nat:=if h=f then 1 else if h=enot f then 0 else h
theorem Yb4 {f g:Nat}(h:g<eMax):sw1 f g<eMax:=by unfold sw1;unfold eMax at *;split<;>(try split)<;>omega
theorem Yb5 {f g:Nat}(h:g<eMax):sw2 f g<eMax:=by unfold sw2;unfold eMax at *;split<;>(try split)<;>omega
theorem eqE2 (w:World)(a b c d:Nat):(Op.equalIn 10000 291 (.agg #[.int .i64 a,.int .i64 b]) (.agg #[.int .i64 c,.int .i64 d])).run prog w=.ok (decide (a=c/\b=d)) w:=by
 have h:=eqE w (a,b) (c,d);unfold encE Op.equal at h;simp only[Prod.mk.injEq] at h;exact h
structure IteR where
 a:Nat
 b:Nat
 c:Nat
 n:Bool
 r:Nat
 dn:Bool
def iteV (x:IteR):Value:=.tuple #[.int .i64 x.a,.int .i64 x.b,.int .i64 x.c,.bool x.n,.int .i64 x.r,.bool x.dn]
def iteM (f g h:Nat):IteR:=if eneg f then ⟨enot f,eflip h (eneg h),eflip g (eneg h),eneg h,0,false⟩ else ⟨f,eflip g (eneg g),eflip h (eneg g),eneg g,0,false⟩
def iteK (f g h:Nat):IteR :=
 if f=0\/g=h then ⟨0,0,0,false,g,true⟩ else if f=1 then ⟨0,0,0,false,h,true⟩ else if g=0/\h=1 then ⟨0,0,0,false,f,true⟩ else if g=1/\h=0 then ⟨0,0,0,false,enot f,true⟩ else iteM f g h
def iteR (f g h:Nat):IteR:=iteK f (sw1 f g) (sw2 f h)
theorem Zc0 {fn:Func}{t u v x y z:Tmp}(h:fn.results=#[.tmp t,.tmp u,.tmp v,.tmp x,.tmp y,.tmp z])(tmps:Array Value)(P:Program)(w:World) :
 (results fn tmps).run P w=.ok (.tuple #[tmps.getD t undef,tmps.getD u undef,tmps.getD v undef,tmps.getD x undef,tmps.getD y undef,tmps.getD z undef]) w:=by
 simp[results,h]
theorem Yaq (f g h:Nat)(w:World)(hf:f<eMax)(hg:g<eMax)(hh:h<eMax) :
 Calls prog 190 #[.int .i64 f,.int .i64 g,.int .i64 h] w fun x w'=>x=.returned (iteV (iteR f g h))/\w=w':=by
 have HN:=Hd (fun W:World=>Zht f W hf);have g3:=Hd (Yb4 (f:=f) hg);have HH:=Hd hh;have g2:=Hd (Yb5 (f:=f) hh);have g9:=Hd hf;clear hf hg hh
 go_enter func190,ntmps190
 go_upto_block 0 with fail
 go_cut [1] from 13 (fun s1 wx=>s1=.int .i64 (sw1 f g:Nat)/\wx=w)
 case first =>
  by_cases h1:g=f
  .
   have HX:Hid ((sw1 f g:Nat)=0):=by show _=_;simp[sw1,h1]
   subst h1;go_wp2_with fail;go_meet;exact⟨by rw[HX.out];rfl,rfl⟩
  .
   have H1:(g == f)=false:=by simp[h1]
   by_cases h2:g=enot f
   .
    have HX:Hid ((sw1 f g:Nat)=1):=by show _=_;unfold sw1;rw[if_neg h1,if_pos h2]
    subst h2;clear h1;go_wp2_with (go_at_call 108;refine(HN.out _).mono ?_;rintro x w' ⟨rfl,rfl⟩);go_meet;exact⟨by rw[HX.out];rfl,rfl⟩
   .
    have HX:Hid ((sw1 f g:Nat)=g):=by show _=_;unfold sw1;rw[if_neg h1,if_neg h2]
    have H2:(g == enot f)=false:=by simp[h2]
    clear h1 h2;go_wp2_with (go_at_call 108;refine(HN.out _).mono ?_;rintro x w' ⟨rfl,rfl⟩);go_meet;exact⟨by rw[HX.out],rfl⟩
 case rest =>
  obtain⟨rfl,rfl⟩:=hcut;have g0:Hid (iteR f g h=iteK f (sw1 f g) (sw2 f h)):=by show _=_;rfl
  obtain⟨g',g4⟩:∃ g',g'=sw1 f g:=⟨_,rfl⟩;rw[<- g4] at g0;rw[<- g4] at g3 ⊢;clear g4
  go_upto_block 1 with fail
  go_cut [2] from 13 (fun s2 wx=>s2=.int .i64 (sw2 f h:Nat)/\wx=wc)
  case first =>
   by_cases h1:h=f
   .
    have HX:Hid ((sw2 f h:Nat)=1):=by show _=_;simp[sw2,h1]
    subst h1;go_wp2_with fail;go_meet;exact⟨by rw[HX.out];rfl,rfl⟩
   .
    have H1:(h == f)=false:=by simp[h1]
    by_cases h2:h=enot f
    .
     have HX:Hid ((sw2 f h:Nat)=0):=by show _=_;unfold sw2;rw[if_neg h1,if_pos h2]
     subst h2;clear h1;go_wp2_with (go_at_call 108;refine(HN.out _).mono ?_;rintro x w' ⟨rfl,rfl⟩);go_meet;exact⟨by rw[HX.out];rfl,rfl⟩
    .
     have HX:Hid ((sw2 f h:Nat)=h):=by show _=_;unfold sw2;rw[if_neg h1,if_neg h2]
     have H2:(h == enot f)=false:=by simp[h2]
     clear h1 h2;go_wp2_with (go_at_call 108;refine(HN.out _).mono ?_;rintro x w' ⟨rfl,rfl⟩);go_meet;exact⟨by rw[HX.out],rfl⟩
  case rest =>
   obtain⟨rfl,rfl⟩:=hcut;obtain⟨h',g5⟩:∃ h',h'=sw2 f h:=⟨_,rfl⟩;rw[<- g5] at g0 g2 ⊢;clear g5
   rename World=>w
   have hq:=fun(a b c d:Nat)=>eqE2 w a b c d
   by_cases f0:f=0
   .
    have HR:Hid (iteR f g h=⟨0,0,0,false,g',true⟩):=by show _=_;rw[g0.out,iteK,if_pos (.inl f0)]
    subst f0;go_wp2_with fail;refine bodyPost_ret (Zc0 rfl _ _ _) rfl ?_;exact⟨by rw[HR.out];rfl,rfl⟩
   .
    have H0:((f:Int) == 0)=false:=by simp[f0]
    by_cases e1:g'=h'
    .
     have HR:Hid (iteR f g h=⟨0,0,0,false,g',true⟩):=by show _=_;rw[g0.out,iteK,if_pos (.inr e1)]
     subst e1;go_wp2_with fail;refine bodyPost_ret (Zc0 rfl _ _ _) rfl ?_;exact⟨by rw[HR.out];rfl,rfl⟩
    .
     have H1:(g' == h')=false:=by simp[e1]
     by_cases f1:f=1
     .
      have HR:Hid (iteR f g h=⟨0,0,0,false,h',true⟩):=by show _=_;rw[g0.out,iteK,if_neg (by simp[f0,e1]),if_pos f1]
      have HR:=HR;subst f1;clear f0 e1;go_wp2_with fail;refine bodyPost_ret (Zc0 rfl _ _ _) rfl ?_;exact⟨by rw[HR.out];rfl,rfl⟩
     .
      have H2:((f:Int) == 1)=false:=by simp;omega
      by_cases q1:g'=0/\h'=1
      .
       have HR:Hid (iteR f g h=⟨0,0,0,false,f,true⟩):=by show _=_;rw[g0.out,iteK,if_neg (by simp[f0,e1]),if_neg f1,if_pos q1]
       have g8:(Op.equalIn 10000 291 (.agg #[.int .i64 g',.int .i64 h']) (.agg #[.int .i64 0,.int .i64 1])).run prog w=.ok true w:=(hq g' h' 0 1).trans (by simp[q1]);clear f0 e1 f1 q1 hq;go_wp2_with fail;refine bodyPost_ret (Zc0 rfl _ _ _) rfl ?_;exact⟨by rw[HR.out];rfl,rfl⟩
      .
       have g8:(Op.equalIn 10000 291 (.agg #[.int .i64 g',.int .i64 h']) (.agg #[.int .i64 0,.int .i64 1])).run prog w=.ok false w:=(hq g' h' 0 1).trans (by simp[q1])
       by_cases q2:g'=1/\h'=0
       .
        have HR:Hid (iteR f g h=⟨0,0,0,false,enot f,true⟩):=by show _=_;rw[g0.out,iteK,if_neg (by simp[f0,e1]),if_neg f1,if_neg q1,if_pos q2]
        have g7:(Op.equalIn 10000 291 (.agg #[.int .i64 g',.int .i64 h']) (.agg #[.int .i64 1,.int .i64 0])).run prog w=.ok true w:=(hq g' h' 1 0).trans (by simp[q2]);clear f0 e1 f1 q1 hq q2;go_wp2_with (go_at_call 108;refine(HN.out _).mono ?_;rintro x w' ⟨rfl,rfl⟩);refine bodyPost_ret (Zc0 rfl _ _ _) rfl ?_;exact⟨by rw[HR.out];rfl,rfl⟩
       .
        have g7:(Op.equalIn 10000 291 (.agg #[.int .i64 g',.int .i64 h']) (.agg #[.int .i64 1,.int .i64 0])).run prog w=.ok false w:=(hq g' h' 1 0).trans (by simp[q2]);have g6:Hid (iteR f g h=iteM f g' h'):=by show _=_;rw[g0.out,iteK,if_neg (by simp[f0,e1]),if_neg f1,if_neg q1,if_neg q2]
        clear f0 e1 f1 q1 hq q2;have g1:=Hd (fun W:World=>Zhs f W g9.out);cases hb:eneg f with
        | true =>
          have HR:Hid (iteR f g h=⟨enot f,eflip h' (eneg h'),eflip g' (eneg h'),eneg h',0,false⟩):=by show _=_;rw[g6.out,iteM,if_pos hb]
          rw[hb] at g1;clear hb;go_wp2_with fail;refine(g1.out _).mono ?_;rintro x w' ⟨rfl,rfl⟩;go_wp2_with fail;refine(HN.out _).mono ?_;rintro x w' ⟨rfl,rfl⟩;go_wp2_with fail;refine(Zhs h' _ g2.out).mono ?_;rintro x w' ⟨rfl,rfl⟩;go_wp2_with fail;refine(Zdc h' _ _ g2.out).mono ?_;rintro x w' ⟨rfl,rfl⟩;go_wp2_with fail;refine(Zdc g' _ _ g3.out).mono ?_;rintro x w' ⟨rfl,rfl⟩;go_wp2_with fail;refine bodyPost_ret (Zc0 rfl _ _ _) rfl ?_;exact⟨by rw[HR.out];rfl,rfl⟩
        | false =>
          have HR:Hid (iteR f g h=⟨f,eflip g' (eneg g'),eflip h' (eneg g'),eneg g',0,false⟩):=by show _=_;rw[g6.out,iteM,if_neg (by simp[hb])]
          rw[hb] at g1;clear hb;go_wp2_with fail;refine(g1.out _).mono ?_;rintro x w' ⟨rfl,rfl⟩;go_wp2_with fail;refine(Zhs g' _ g3.out).mono ?_;rintro x w' ⟨rfl,rfl⟩;go_wp2_with fail;refine(Zdc g' _ _ g3.out).mono ?_;rintro x w' ⟨rfl,rfl⟩;go_wp2_with fail;refine(Zdc h' _ _ g2.out).mono ?_;rintro x w' ⟨rfl,rfl⟩;go_wp2_with fail;refine bodyPost_ret (Zc0 rfl _ _ _) rfl ?_;exact⟨by rw[HR.out];rfl,rfl⟩
end Go.Proofs.YtkbegdkpboklpaaGreat

namespace Go.Proofs.YtkbegdkpboklpaaGreat
open Go.Proofs.Tryz
def Zei (e f g h:Nat):Prop:=e/2=0\/e/2=f/2\/e/2=g/2\/e/2=h/2
def iteB (a b c:Bool):Bool:=if a then b else c
section
variable {V:Nat->BF}(hV:∀ ρ,V 0 ρ=true)
theorem Zho (hV:∀ ρ,V 0 ρ=true)(ρ:Nat->Bool):ef V 0 ρ=true:=by simp[ef,hV]
theorem Zkf (hV:∀ ρ,V 0 ρ=true)(ρ:Nat->Bool):ef V 1 ρ=false:=by simp[ef,hV]
theorem Zzm (hV:∀ ρ,V 0 ρ=true)(f g:Nat)(h:Bool)(ρ:Nat->Bool):iteB (ef V f ρ) (ef V (sw1 f g) ρ) h=iteB (ef V f ρ) (ef V g ρ) h:=by
 unfold sw1
 by_cases e1:g=f
 . subst e1;rw[if_pos rfl,Zho hV];unfold iteB;cases ef V g ρ<;>rfl
 .
  by_cases e2:g=enot f
  . subst e2;rw[if_neg e1,if_pos rfl,Zhn,Zkf hV];unfold iteB;cases ef V f ρ<;>rfl
  . rw[if_neg e1,if_neg e2]
end
theorem Zzn {V:Nat->BF}(hV:∀ ρ,V 0 ρ=true)(f h:Nat)(g:Bool)(ρ:Nat->Bool):iteB (ef V f ρ) g (ef V (sw2 f h) ρ)=iteB (ef V f ρ) g (ef V h ρ):=by
 unfold sw2
 by_cases e1:h=f
 . subst e1;rw[if_pos rfl,Zkf hV];unfold iteB;cases ef V h ρ<;>rfl
 .
  by_cases e2:h=enot f
  . subst e2;rw[if_neg e1,if_pos rfl,Zhn,Zho hV];unfold iteB;cases ef V f ρ<;>rfl
  . rw[if_neg e1,if_neg e2]
theorem Zr5 (f g:Nat):sw1 f g/2=0\/sw1 f g/2=g/2:=by unfold sw1;split<;>(try split)<;>simp
theorem Zr6 (f g:Nat):sw2 f g/2=0\/sw2 f g/2=g/2:=by unfold sw2;split<;>(try split)<;>simp
theorem Zo2 {f g h:Nat}(hd:(iteR f g h).dn=true):Zei (iteR f g h).r f g h/\∀ {V:Nat->BF},(∀ ρ,V 0 ρ=true)->∀ ρ,ef V (iteR f g h).r ρ=iteB (ef V f ρ) (ef V g ρ) (ef V h ρ):=by
 have q1:=Zr5 f g;have q2:=Zr6 f h;have key:∀ {V:Nat->BF},(∀ ρ,V 0 ρ=true)->∀ ρ,iteB (ef V f ρ) (ef V g ρ) (ef V h ρ)=iteB (ef V f ρ) (ef V (sw1 f g) ρ) (ef V (sw2 f h) ρ):=fun hV ρ=>by rw[Zzm hV,Zzn hV]
 unfold iteR at hd ⊢
 generalize sw1 f g=g' at *
 generalize sw2 f h=h' at *
 unfold iteK at hd ⊢
 by_cases e1:f=0\/g'=h'
 .
  simp only[if_pos e1];refine⟨by unfold Zei;omega,fun hV ρ=>?_⟩;rw[key hV];rcases e1 with e|e
  . subst e;rw[Zho hV];rfl
  . subst e;unfold iteB;split<;>rfl
 .
  simp only[if_neg e1] at hd ⊢
  by_cases e2:f=1
  . simp only[if_pos e2];refine⟨by unfold Zei;omega,fun hV ρ=>?_⟩;rw[key hV];subst e2;rw[Zkf hV];rfl
  .
   simp only[if_neg e2] at hd ⊢
   by_cases e3:g'=0/\h'=1
   . simp only[if_pos e3];refine⟨by unfold Zei;omega,fun hV ρ=>?_⟩;rw[key hV,e3.1,e3.2,Zkf hV,Zho hV];unfold iteB;cases ef _ f ρ<;>rfl
   .
    simp only[if_neg e3] at hd ⊢
    by_cases e4:g'=1/\h'=0
    . simp only[if_pos e4];have:=Zfj f;refine⟨by unfold Zei;omega,fun hV ρ=>?_⟩;rw[key hV,e4.1,e4.2,Zkf hV,Zho hV,Zhn];unfold iteB;cases ef _ f ρ<;>rfl
    . simp only[if_neg e4] at hd;unfold iteM at hd;split at hd<;>cases hd
theorem Zvc {f g h:Nat}(hd:(iteR f g h).dn=false):Zei (iteR f g h).a f g h/\Zei (iteR f g h).b f g h/\Zei (iteR f g h).c f g h/\(iteR f g h).a/2≠0 /\
 ∀ {V:Nat->BF},(∀ ρ,V 0 ρ=true)->∀ ρ,iteB (ef V f ρ) (ef V g ρ) (ef V h ρ)=((iteR f g h).n != iteB (ef V (iteR f g h).a ρ) (ef V (iteR f g h).b ρ) (ef V (iteR f g h).c ρ)):=by
 have q1:=Zr5 f g;have q2:=Zr6 f h;have key:∀ {V:Nat->BF},(∀ ρ,V 0 ρ=true)->∀ ρ,iteB (ef V f ρ) (ef V g ρ) (ef V h ρ)=iteB (ef V f ρ) (ef V (sw1 f g) ρ) (ef V (sw2 f h) ρ):=fun hV ρ=>by rw[Zzm hV,Zzn hV]
 unfold iteR at hd ⊢
 generalize sw1 f g=g' at *
 generalize sw2 f h=h' at *
 unfold iteK at hd ⊢
 by_cases e1:f=0\/g'=h'
 . simp[if_pos e1] at hd
 .
  by_cases e2:f=1
  . simp[if_neg e1,if_pos e2] at hd
  .
   by_cases e3:g'=0/\h'=1
   . simp[if_neg e1,if_neg e2,if_pos e3] at hd
   .
    by_cases e4:g'=1/\h'=0
    . simp[if_neg e1,if_neg e2,if_neg e3,if_pos e4] at hd
    .
     simp only[if_neg e1,if_neg e2,if_neg e3,if_neg e4];unfold iteM
     by_cases e5:eneg f=true
     . simp only[if_pos e5];have a1:=Zfj f;have a2:=Zc2 h' (eneg h');have a3:=Zc2 g' (eneg h');refine⟨by unfold Zei;omega,by unfold Zei;omega,by unfold Zei;omega,by omega,fun hV ρ=>?_⟩;rw[key hV,Zhn,Zdb,Zdb];unfold iteB;cases ef _ f ρ<;>cases eneg h'<;>simp
     . simp only[if_neg e5];have a2:=Zc2 h' (eneg g');have a3:=Zc2 g' (eneg g');refine⟨by unfold Zei;omega,by unfold Zei;omega,by unfold Zei;omega,by omega,fun hV ρ=>?_⟩;rw[key hV,Zdb,Zdb];unfold iteB;cases ef _ f ρ<;>cases eneg g'<;>simp
open Go.RowKit
def atV (d:Zag)(f:Nat):Value :=
 match Zab d (f/2) with
 | some b=>.tuple #[.int .i64 b.v,.int .i64 (eflip b.lo (eneg f):Nat),.int .i64 (eflip b.hi (eneg f):Nat),.bool true]
 | none=>.tuple #[.int .i64 (-1),.int .i64 0,.int .i64 0,.bool false]
theorem Zg6 {o:Own}{w:World}{sb:Nat}{d:Zag}{V:Nat->BF}(h:Zav o w sb d)(hlt:Zaj o w)(hk:Zan d V)(f:Nat)(hf:okE (Zab d) f) :
 Calls prog 183 #[.pointer (some ⟨sb,0,none⟩),.int .i64 f] w fun x w'=>x=.returned (atV d f)/\Below w.heap.size w w':=by
 obtain⟨s,h⟩:=h;have lt:∀ e,okE (Zab d) e->e<eMax:=fun e he=>by have:=h.edge_lt he;unfold eMax;omega
 cases hb:Zab d (f/2) with
 | none =>
   have ht:d.pool.tk (enode f)=false:=Zgm hb;have hz:d.pool.has (enode f)=rn0:=by unfold Zam.has;rw[ht];rfl
   refine(Zk1 h hlt f (lt f hf) (by rw[hz];decide) (by rw[hz];decide)).mono ?_;rintro x w' ⟨rfl,g1⟩;exact⟨by simp[ht,atV,hb],g1⟩
 | some b =>
   have hn:=Za8 hb;have ht:d.pool.tk (enode f)=true:=hn.1;have g0:bnOf (d.pool.has (enode f))=b:=hn.2.2;have e1:(d.pool.has (enode f)).v=b.v:=by rw[<- g0];rfl
   have e2:(d.pool.has (enode f)).lo=b.lo:=by rw[<- g0];rfl
   have e3:(d.pool.has (enode f)).hi=b.hi:=by rw[<- g0];rfl
   refine(Zk1 h hlt f (lt f hf) (by rw[e2];exact lt _ (hk.dag.okLo _ _ hb)) (by rw[e3];exact lt _ (hk.dag.okHi _ _ hb))).mono ?_;rintro x w' ⟨rfl,g1⟩;exact⟨by simp[ht,atV,hb,e1,e2,e3],g1⟩
theorem Zav.below {o:Own}{w w':World}{sb:Nat}{d:Zag}(h:Zav o w sb d)(hlt:Zaj o w)(hb:Below w.heap.size w w'):Zav o w' sb d:=by
 obtain⟨s,h⟩:=h;exact⟨s,h.below hlt hb⟩
theorem Zoh {F:Phi}{o:Own}{w:World}{xb mb:Nat}{m:ManD}{V:Nat->BF}(h:Zdo F o w mb m)(hx:Zdz o w xb mb)(hk:Zan m.d V)(v:Int) :
 Calls prog 205 #[.pointer (some ⟨xb,0,none⟩),.int .i64 v] w fun x w'=>x=.returned (.int .i64 (Zf9 m.d v))/\w=w':=by
 obtain⟨s,h⟩:=h;obtain⟨st,g0⟩:=h.store;obtain⟨c0,c1,c2,c3,c4,c5,f0⟩:=cells6 h.blk;have HL:=Hd (Zhv g0 v (by rw[g0.len];have:=hk.small;omega));have cx:=hx.cell;clear h g0 hx hk
 go_enter func205,ntmps205
 go_wp2_with fail;refine HL.out.mono ?_;rintro x w' ⟨rfl,rfl⟩;go_wp2_with fail;go_ret;exact⟨rfl,rfl⟩
def cofs (d:Zag)(f:Nat)(v:Int):Nat×Nat :=
 match Zab d (f/2) with
 | some b=>if (b.v:Int)=v then (eflip b.lo (eneg f),eflip b.hi (eneg f)) else (f,f)
 | none=>(f,f)
theorem Zi6 {F:Phi}{o:Own}{w:World}{xb mb:Nat}{m:ManD}{V:Nat->BF}(h:Zdo F o w mb m)(hlt:Zaj o w)(hx:Zdz o w xb mb)(hk:Zan m.d V)(f:Nat)(hf:okE (Zab m.d) f)(v:Int) :
 Calls prog 165 #[.pointer (some ⟨xb,0,none⟩),.int .i64 f,.int .i64 v] w fun x w'=>x=.returned (.tuple #[.int .i64 (cofs m.d f v).1,.int .i64 (cofs m.d f v).2])/\Below w.heap.size w w':=by
 obtain⟨s,h⟩:=h;obtain⟨c0,c1,c2,c3,c4,c5,f0⟩:=cells6 h.blk;have HA:=Hd (Zg6 h.store hlt hk f hf);have cx:=hx.cell;clear h hx hk hlt hf;unfold atV at HA;unfold cofs;cases hb:Zab m.d (f/2) with
 | none =>
   rw[hb] at HA;clear hb
   go_enter func165,ntmps165
   go_wp2_with fail;refine HA.out.mono ?_;rintro x w' ⟨rfl,hb⟩;have HB:=Hd hb;clear hb;go_wp2_with fail
   go_ret2
   exact⟨rfl,HB.out⟩
 | some b =>
   rw[hb] at HA;clear hb
   by_cases e:(b.v:Int)=v
   .
    subst e;have HE:Hid ((if (b.v:Int)=b.v then (eflip b.lo (eneg f),eflip b.hi (eneg f)) else (f,f))=(eflip b.lo (eneg f),eflip b.hi (eneg f))):=by show _=_;rw[if_pos rfl]
    go_enter func165,ntmps165
    go_wp2_with fail;refine HA.out.mono ?_;rintro x w' ⟨rfl,hb⟩;have HB:=Hd hb;clear hb;go_wp2_with fail
    go_ret2
    exact⟨by first|rfl|(rw[HE.out];rfl),HB.out⟩
   .
    have HE:Hid ((if (b.v:Int)=v then (eflip b.lo (eneg f),eflip b.hi (eneg f)) else (f,f))=(f,f)):=by show _=_;rw[if_neg e]
    have H1:((b.v:Int) == v)=false:=by simpa using e
    go_enter func165,ntmps165
    go_wp2_with fail;refine HA.out.mono ?_;rintro x w' ⟨rfl,hb⟩;have HB:=Hd hb;clear hb;go_wp2_with fail
    go_ret2
    exact⟨by first|rfl|(rw[HE.out];rfl),HB.out⟩
def TopS (d:Zag)(zs:List Nat)(top least:Int):Prop :=
 (top = -1/\least=0/\∀ e∈zs,Zab d (e/2)=none) \/
 ∃ v:Nat,top=v/\least=(levN d v:Nat)/\v<d.vars.length/\(∃ e∈zs,∃ b,Zab d (e/2)=some b/\b.v=v)/\∀ e∈zs,levN d v<=lvE d.vars.length (levN d) (Zab d) e
theorem TopS.none {d:Zag}{zs:List Nat}{top least:Int}{e:Nat}(h:TopS d zs top least)(hl:∀ v,v<d.vars.length->levN d v<d.vars.length)(he:Zab d (e/2)=none):TopS d (zs++[e]) top least:=by
 rcases h with ⟨h1,h2,h3⟩|⟨v,h1,h2,h3,⟨e0,g0,hb⟩,h5⟩
 .
  refine .inl ⟨h1,h2,fun x hx=>?_⟩;rcases List.mem_append.1 hx with hx|hx
  . exact h3 x hx
  . simp at hx;subst hx;exact he
 .
  refine .inr ⟨v,h1,h2,h3,⟨e0,by simp[g0],hb⟩,fun x hx=>?_⟩;rcases List.mem_append.1 hx with hx|hx
  . exact h5 x hx
  . simp at hx;subst hx;unfold lvE;rw[he];exact Nat.le_of_lt (hl v h3)
theorem TopS.keep {d:Zag}{zs:List Nat}{v:Nat}{least:Int}{e:Nat}{b:BN}(h:TopS d zs v least)(he:Zab d (e/2)=some b)(hle:¬ ((levN d b.v:Nat):Int)<least):TopS d (zs++[e]) v least:=by
 rcases h with ⟨h1,h2,h3⟩|⟨u,h1,h2,h3,⟨e0,g0,hb⟩,h5⟩
 . omega
 .
  obtain rfl:v=u:=by omega
  refine .inr ⟨v,rfl,h2,h3,⟨e0,by simp[g0],hb⟩,fun x hx=>?_⟩;rcases List.mem_append.1 hx with hx|hx
  . exact h5 x hx
  . simp at hx;subst hx;unfold lvE;rw[he];dsimp only;omega
theorem TopS.take {d:Zag}{zs:List Nat}{top least:Int}{e:Nat}{b:BN}(h:TopS d zs top least)(hv:b.v<d.vars.length)(hl:∀ v,v<d.vars.length->levN d v<d.vars.length)(he:Zab d (e/2)=some b)(hle:top<0\/((levN d b.v:Nat):Int)<least):TopS d (zs++[e]) b.v (levN d b.v:Nat):=by
 refine .inr ⟨b.v,rfl,rfl,hv,⟨e,by simp,b,he,rfl⟩,fun x hx=>?_⟩;rcases List.mem_append.1 hx with hx|hx
 .
  rcases h with ⟨h1,h2,h3⟩|⟨u,h1,h2,h3,⟨e0,g0,hb⟩,h5⟩
  . unfold lvE;rw[h3 x hx];exact Nat.le_of_lt (hl _ hv)
  . have:=h5 x hx;omega
 . simp at hx;subst hx;unfold lvE;rw[he];exact Nat.le_refl _
theorem Zo9 {d:Zag}{v:Nat}(h:v<d.level.length):Zf9 d v=(levN d v:Nat):=by unfold Zf9;rw[if_pos ⟨by omega,by omega⟩];rfl
theorem Zlv {F:Phi}{o:Own}{w:World}{xb mb:Nat}{m:ManD}{V:Nat->BF}(h:Zdo F o w mb m)(hlt:Zaj o w)(hx:Zdz o w xb mb)(hk:Zan m.d V)(zs:List Nat)(hz:∀ e∈zs,okE (Zab m.d) e)(a:Option Addr)(c:Nat)(hzs:Zay w a (zs.map Int.ofNat)) :
 Calls prog 164 #[.pointer (some ⟨xb,0,none⟩),.slice a zs.length c] w fun x w'=>∃ top least,x=.returned (.int .i64 top)/\TopS m.d zs top least/\Below w.heap.size w w':=by
 obtain⟨s,h⟩:=h;obtain⟨st,gc⟩:=h.store;have hlen:m.d.level.length=m.d.vars.length:=gc.len;have HM:=Hd h;have HX:=Hd hx;have g5:=Hd hlt;have HK:=Hd hk;have HZ:=Hd hz;have gj:=Hd hzs;have gh:=hzs.len;simp only[List.length_map] at gh;clear h gc hx hlt hk hz hzs
 go_enter func164,ntmps164
 go_wp2_with fail
 go_loopw [5,6,15] (fun s5 s6 i wr=>∃ (k:Nat) (top least:Int),k<=zs.length/\i=.int .i64 k/\s5=.int .i64 top/\s6=.int .i64 least/\TopS m.d (zs.take k) top least/\Below w.heap.size w wr) (fun _ _ i _=>zs.length-(intOf i).toNat)
 case atStart=>exact⟨0,-1,0,by omega,rfl,rfl,rfl,.inl ⟨rfl,rfl,by simp⟩,Below.refl _ _⟩
 case round =>
  obtain⟨k,top,least,hk,rfl,rfl,rfl,hT,hB⟩:=hrel
  by_cases g2:k<zs.length
  .
   obtain⟨b0,off,ha,g3⟩:=(gj.out.below hB).cells k (by simpa using g2);subst ha;have he:at0 (zs.map Int.ofNat) k=(zs[k]:Int):=by rw[Zby (by simpa using g2)];simp
   rw[he] at g3;have g8:zs[k]∈zs:=List.getElem_mem g2;have g6:zs.take (k+1)=zs.take k++[zs[k]]:=by rw[List.take_add_one,List.getElem?_eq_getElem g2];rfl
   have g7:=HZ.out _ g8;obtain⟨f,hf⟩:∃ f,f=zs[k]:=⟨_,rfl⟩;rw[<- hf] at g3 g7 g6;obtain⟨c0,c1,c2,c3,c4,c5,f0⟩:=cells6 ((HM.out.below g5.out hB).blk);have cx:wr.cell? ⟨xb,0,none⟩=_:=(hB.cell (p:=⟨xb,0,none⟩) (Zaa HX.out.cell)).trans HX.out.cell;have HA:=Hd (Zg6 ((HM.out.below g5.out hB).store) (g5.out.mono hB.size) HK.out f g7);have g4:=Hd g6;have HT:=Hd hT;have HB:=Hd hB;have gl:(k:Int)<zs.length:=by omega
   clear hf g8 he hT hB g7 g6;unfold atV at HA;have ga:Hid (∀ v,v<m.d.vars.length->levN m.d v<m.d.vars.length):=Hd HK.out.dag.lt;have gf:=Hd (fun W hb v=>Zoh ⟨s,HM.out.below g5.out hb⟩ (o:=o) (w:=W) (xb:=xb) (mb:=mb) ⟨(hb.cell (p:=⟨xb,0,none⟩) (Zaa HX.out.cell)).trans HX.out.cell,HX.out.own⟩ HK.out v);cases hb:Zab m.d (f/2) with
   | none =>
     rw[hb] at HA;have HN:=Hd hb;clear hb;go_wp2_with fail;refine HA.out.mono ?_;rintro x w' ⟨rfl,g0⟩;have HB2:=Hd (HB.out.trans (g0.mono HB.out.size));clear g0;go_wp2_with fail;go_roundw
     case rel=>exact⟨k+1,top,least,by omega,by simp,rfl,rfl,by rw[g4.out];exact HT.out.none ga.out HN.out,HB2.out⟩
     case measure=>simp[intOf];omega
   | some b =>
     rw[hb] at HA;have HN:=Hd hb;have g9:=HK.out.dag.var _ _ hb;have gd:Zf9 m.d b.v=(levN m.d b.v:Nat):=Zo9 (by rw[hlen];exact g9);have gg:=Hd g9;have g1:=Hd (fun W hb=>gf.out W hb b.v);rw[gd] at g1;clear hb g9 gd gf
     by_cases ht:top<0
     .
      have gk:=Hd ht;go_wp2_with fail;refine HA.out.mono ?_;rintro x w' ⟨rfl,g0⟩;have HB2:=Hd (HB.out.trans (g0.mono HB.out.size));clear g0;go_wp2_with fail;refine(g1.out _ HB2.out).mono ?_;rintro x w'' ⟨rfl,rfl⟩;go_wp2_with fail;go_roundw
      case rel=>exact⟨k+1,_,_,by omega,by simp,rfl,rfl,by rw[g4.out];exact HT.out.take gg.out ga.out HN.out (.inl gk.out),HB2.out⟩
      case measure=>simp[intOf];omega
     .
      by_cases ge:((levN m.d b.v:Nat):Int)<least
      .
       have gb:=Hd ge;go_wp2_with fail;refine HA.out.mono ?_;rintro x w' ⟨rfl,g0⟩;have HB2:=Hd (HB.out.trans (g0.mono HB.out.size));clear g0;go_wp2_with fail;refine(g1.out _ HB2.out).mono ?_;rintro x w'' ⟨rfl,rfl⟩;go_wp2_with fail;refine(g1.out _ HB2.out).mono ?_;rintro x w'' ⟨rfl,rfl⟩;go_wp2_with fail;go_roundw
       case rel=>exact⟨k+1,_,_,by omega,by simp,rfl,rfl,by rw[g4.out];exact HT.out.take gg.out ga.out HN.out (.inr gb.out),HB2.out⟩
       case measure=>simp[intOf];omega
      .
       obtain⟨tn,gi⟩:∃ tn:Nat,top=tn:=⟨top.toNat,by omega⟩;subst gi;have gb:=Hd ge;go_wp2_with fail;refine HA.out.mono ?_;rintro x w' ⟨rfl,g0⟩;have HB2:=Hd (HB.out.trans (g0.mono HB.out.size));clear g0;go_wp2_with fail;refine(g1.out _ HB2.out).mono ?_;rintro x w'' ⟨rfl,rfl⟩;go_wp2_with fail;go_roundw
       case rel=>exact⟨k+1,_,_,by omega,by simp,rfl,rfl,by rw[g4.out];exact HT.out.keep HN.out (by have:=gb.out;omega),HB2.out⟩
       case measure=>simp[intOf];omega
  .
   obtain rfl:k=zs.length:=by omega
   have HT:=Hd hT;have HB:=Hd hB;clear hT hB;go_wp2_with fail;go_ret;exact⟨top,least,rfl,by have:=HT.out;rwa [List.take_length] at this,HB.out⟩
open Go.RowKit
def Zcg (er:Int)(event:Bool)(ev:Ev):Ending:=.panicked [{ v:=.iface 245 (.agg #[.int .i64 er,.bool event,.int .i64 ev.after,.int .i64 ev.kind,.int .i64 ev.level]),recovered:=false }]
def ev0:Ev:=⟨0,0,0⟩
def Zcw (c:Int):Int:=wrap64 (c+1)
def Zn5 (d:Zag)(v:Int)(lo hi:Nat)(er:Int):Prop :=
 (er=9/\¬ (0<=v/\v<d.vars.length)) \/
 (er=10/\0<=v/\v<d.vars.length/\(lvE d.vars.length (levN d) (Zab d) lo<=levN d v.toNat\/lvE d.vars.length (levN d) (Zab d) hi<=levN d v.toNat)) \/
 (er=7/\d.pool.many=d.pool.room)
def Zhy (K:Law)(o:Own)(w:World)(mb:Nat)(m:ManD)(V:Nat->BF)(v:Int)(lo hi:Nat)(e:Ending)(w':World):Prop :=
 ∃ o' m' V',Step K o w mb m V o' w' m' V' /\
  ((∃ ev,m.waits=ev::m'.waits/\ev.after<=Zcw m.calls/\m'.calls=0/\m'.d=m.d/\V'=V/\e=Zcg 0 true ev) \/
   (m'.waits=m.waits/\m'.calls=Zcw m.calls/\(∀ ev ws,m.waits=ev::ws->Zcw m.calls<ev.after) /\
    ((∃ er,Zn5 m.d v lo hi er/\m'.d=m.d/\V'=V/\e=Zcg er false ev0) \/
     (0<=v/\v<m.d.vars.length/\∃ r:Nat,e=.returned (.int .i64 r)/\okE (Zab m'.d) r/\ef V' r=iteF v.toNat (ef V hi) (ef V lo) /\
      levN m.d v.toNat<=lvE m.d.vars.length (levN m'.d) (Zab m'.d) r/\m'.d.pool.many<=m.d.pool.many+1))))
theorem Chg.ofDrewN {R:Role->Prop}{o o':Own}{w w':World}{n:Nat}(h:Chg R o o' (w.drewN n) w'):Chg R o o' w w':=⟨h.os,h.tape,h.output,h.size,h.block,h.ext,h.new⟩
theorem Zhi {w w':World}{n:Nat}(h:Below (w.drewN n).heap.size (w.drewN n) w'):Below w.heap.size w w':=⟨h.os,h.tape,h.output,h.size,h.block⟩
theorem Chg.any {R:Role->Prop}{o o':Own}{w w':World}(h:Chg R o o' w w'):Chg (fun _=>True) o o' w w':=h.mono fun _ _=>trivial
theorem Zxb {K:Law}{o:Own}{w:World}{xb mb:Nat}{m:ManD}{V:Nat->BF}(hK:Zbh K)(h:Zdo (K m.d V) o w mb m)(hlt:Zaj o w)(hx:Zdz o w xb mb)(hk:Zan m.d V)(v:Int)(lo hi:Nat)(hlo:okE (Zab m.d) lo)(hhi:okE (Zab m.d) hi)
 (hdue:∀ ev ws,m.waits=ev::ws->Zcw m.calls<ev.after) :
 Calls prog 139 #[.pointer (some ⟨xb,0,none⟩),.int .i64 v,.int .i64 lo,.int .i64 hi] w (Zhy K o w mb m V v lo hi):=by
 obtain⟨s,h⟩:=h;obtain⟨c0,c1,c2,c3,c4,c5,f0⟩:=cells6 h.blk;have cx:=hx.cell;obtain⟨W,hW⟩:∃ W,W=w.setCell ⟨mb,5,none⟩ (.int .i64 (Zcw m.calls)):=⟨_,rfl⟩;have g2:Zb7 (K m.d V) o W mb { m with calls:=Zcw m.calls } s:=by rw[hW];exact h.field rfl rfl rfl rfl rfl h.waits rfl
 have g5:Chg (fun _=>True) o o w W:=by rw[hW];exact(Chg.refl _ o w).setCell (p:=⟨mb,5,none⟩) h.own trivial _
 have g4:Zaj o W:=hlt.mono g5.size;have gf:=hx.chg g5;obtain⟨d0,d1,d2,d3,d4,d5,g0⟩:=cells6 g2.blk;have dx:=gf.cell;obtain⟨aw,cw,g9,ga⟩:=g2.waits.slice;have gi:(m.waits=[]/\True)\/∃ ev ws,m.waits=ev::ws:=by cases m.waits with
  | nil=>exact .inl ⟨rfl,trivial⟩
  | cons ev ws=>exact .inr ⟨ev,ws,rfl⟩
 have HK:=Hd hK;have gd:=Hd g5;have g7:=Hd g4;have g6:=Hd g2;have gc:=Hd hk;have gg:Hid (∀ n,Calls prog 189 #[.pointer (some ⟨s.sb,0,none⟩),.int .i64 v,.int .i64 lo,.int .i64 hi] (W.drewN n) (Zfh o (W.drewN n) s.sb m.d V v lo hi)) :=
  Hd fun n=>Zq4 (g2.store.below g4 (Zaf W n)) (g4.mono (Zaf W n).size) hk v lo hi hlo hhi
 have g1:=Hd hdue;have HW:Hid (w.setCell ⟨mb,5,none⟩ (.int .i64 (wrap64 (m.calls+1)))=W):=Hd hW.symm;have gh:5≠4:=by decide
 clear h hlt hx hk hlo hhi g2 g5 g4 gf hW hdue
 go_enter func139,ntmps139
 go_upto_region 3 with fail;rw[HW.out];obtain⟨cu,g3⟩:∃ cu,cu=wrap64 (m.calls+1):=⟨_,rfl⟩;have d5':W.cell? ⟨mb,5,none⟩=some (.int .i64 cu):=by rw[g3];exact d5
 have gk:Hid (Zcw m.calls=cu):=Hd g3.symm;rw[<- g3];clear c0 c1 c2 c3 c4 c5 f0 cx gh d5 g3;have STE:Hid (∀ w',Below W.heap.size W w'->Step K o w mb m V o w' { m with calls:=Zcw m.calls } V) :=
  Hd fun w' hb=>⟨⟨s,g6.out.below g7.out hb⟩,g7.out.mono hb.size,gd.out.trans (Chg.of_below hb _ _),gc.out,Ext.refl _ _,rfl,rfl⟩
 rcases gi with ⟨hw0,_⟩|⟨ev,ws,g8⟩
 .
  rw[g9] at d4;dsimp only at d4;rw[hw0] at d4;have d4':W.cell? ⟨mb,4,none⟩=some (.slice aw 0 cw):=d4;clear d4 hw0 g9 ga
  go_quiet (fail)
  go_wp2_with fail;refine(gg.out nq).mono ?_;rintro x w' (⟨q1,rfl,q2⟩|⟨q1,q2,q3,rfl,q4⟩|⟨q1,rfl,q2⟩|⟨q1,q2,r,d',V',o',rfl,q4,q5,q6,q7,q8,q9,q10,q11,q12⟩)
  . have H1:=Hd (STE.out w' (Zhi q2));have H2:Hid (Zn5 m.d v lo hi 9):=Hd (.inl ⟨rfl,q1⟩);clear q1 q2;go_wp2_with fail;refine⟨rfl,o,_,V,H1.out,.inr ⟨rfl,rfl,g1.out,.inl ⟨9,H2.out,rfl,rfl,rfl⟩⟩⟩
  . have H1:=Hd (STE.out w' (Zhi q4));have H2:Hid (Zn5 m.d v lo hi 10):=Hd (.inr (.inl ⟨rfl,q1,q2,q3⟩));clear q1 q2 q3 q4;go_wp2_with fail;refine⟨rfl,o,_,V,H1.out,.inr ⟨rfl,rfl,g1.out,.inl ⟨10,H2.out,rfl,rfl,rfl⟩⟩⟩
  . have H1:=Hd (STE.out w' (Zhi q2));have H2:Hid (Zn5 m.d v lo hi 7):=Hd (.inr (.inr ⟨rfl,q1⟩));clear q1 q2;go_wp2_with fail;refine⟨rfl,o,_,V,H1.out,.inr ⟨rfl,rfl,g1.out,.inl ⟨7,H2.out,rfl,rfl,rfl⟩⟩⟩
  . have H1:Hid (Step K o w mb m V o' w' { m with calls:=Zcw m.calls,d:=d' } V'):=Hd ⟨⟨s,(g6.out.setStore g7.out q4 q12.ofDrewN).mono fun op a b c r h=>HK.out.ext _ _ _ _ _ _ _ _ _ gc.out q6 q7 h⟩,q5,gd.out.trans q12.ofDrewN.any,q6,q7,rfl,rfl⟩;have H2:Hid (_/\_/\_/\_/\_/\_):=Hd ⟨q1,q2,q8,q9,q10,q11⟩;clear q1 q2 q4 q5 q6 q7 q8 q9 q10 q11 q12;go_wp2_with fail;go_ret;obtain⟨a1,a2,a3,a4,a5,a6⟩:=H2.out;exact⟨o',_,V',H1.out,.inr ⟨rfl,rfl,g1.out,.inr ⟨a1,a2,r,rfl,a3,a4,a5,a6⟩⟩⟩
 .
  have gb:=g6.out.waits;have e0:({ m with calls:=Zcw m.calls }:ManD).waits=ev::ws:=g8;rw[e0] at gb;obtain⟨g,off,cap,ge,gj,gl,gm,k0,k1,k2,_⟩:=gb.first
  have hlt:¬ ev.after<=cu:=by have:=g1.out ev ws g8;rw[gk.out] at this;omega
  rw[ge] at d4;have hp:(0:Int)<((ws.length+1:Nat):Int):=by omega
  clear g9 ge ga gb e0 g8 gj
  go_quiet (fail)
  go_wp2_with fail;refine(gg.out nq).mono ?_;rintro x w' (⟨q1,rfl,q2⟩|⟨q1,q2,q3,rfl,q4⟩|⟨q1,rfl,q2⟩|⟨q1,q2,r,d',V',o',rfl,q4,q5,q6,q7,q8,q9,q10,q11,q12⟩)
  . have H1:=Hd (STE.out w' (Zhi q2));have H2:Hid (Zn5 m.d v lo hi 9):=Hd (.inl ⟨rfl,q1⟩);clear q1 q2;go_wp2_with fail;refine⟨rfl,o,_,V,H1.out,.inr ⟨rfl,rfl,g1.out,.inl ⟨9,H2.out,rfl,rfl,rfl⟩⟩⟩
  . have H1:=Hd (STE.out w' (Zhi q4));have H2:Hid (Zn5 m.d v lo hi 10):=Hd (.inr (.inl ⟨rfl,q1,q2,q3⟩));clear q1 q2 q3 q4;go_wp2_with fail;refine⟨rfl,o,_,V,H1.out,.inr ⟨rfl,rfl,g1.out,.inl ⟨10,H2.out,rfl,rfl,rfl⟩⟩⟩
  . have H1:=Hd (STE.out w' (Zhi q2));have H2:Hid (Zn5 m.d v lo hi 7):=Hd (.inr (.inr ⟨rfl,q1⟩));clear q1 q2;go_wp2_with fail;refine⟨rfl,o,_,V,H1.out,.inr ⟨rfl,rfl,g1.out,.inl ⟨7,H2.out,rfl,rfl,rfl⟩⟩⟩
  . have H1:Hid (Step K o w mb m V o' w' { m with calls:=Zcw m.calls,d:=d' } V'):=Hd ⟨⟨s,(g6.out.setStore g7.out q4 q12.ofDrewN).mono fun op a b c r h=>HK.out.ext _ _ _ _ _ _ _ _ _ gc.out q6 q7 h⟩,q5,gd.out.trans q12.ofDrewN.any,q6,q7,rfl,rfl⟩;have H2:Hid (_/\_/\_/\_/\_/\_):=Hd ⟨q1,q2,q8,q9,q10,q11⟩;clear q1 q2 q4 q5 q6 q7 q8 q9 q10 q11 q12;go_wp2_with fail;go_ret;obtain⟨a1,a2,a3,a4,a5,a6⟩:=H2.out;exact⟨o',_,V',H1.out,.inr ⟨rfl,rfl,g1.out,.inr ⟨a1,a2,r,rfl,a3,a4,a5,a6⟩⟩⟩
open Go.RowKit
theorem Zur {K:Law}{o:Own}{w:World}{xb mb:Nat}{m:ManD}{V:Nat->BF}(h:Zdo (K m.d V) o w mb m)(hlt:Zaj o w)(hx:Zdz o w xb mb)(hk:Zan m.d V)(v:Int)(lo hi:Nat){ev:Ev}{ws:List Ev}
 (hw1:m.waits=ev::ws) (hdue:ev.after<=Zcw m.calls) :
 Calls prog 139 #[.pointer (some ⟨xb,0,none⟩),.int .i64 v,.int .i64 lo,.int .i64 hi] w (Zhy K o w mb m V v lo hi):=by
 obtain⟨s,h⟩:=h;obtain⟨c0,c1,c2,c3,c4,c5,f0⟩:=cells6 h.blk;have cx:=hx.cell;obtain⟨W,hW⟩:∃ W,W=w.setCell ⟨mb,5,none⟩ (.int .i64 (Zcw m.calls)):=⟨_,rfl⟩;have gd:Zb7 (K m.d V) o W mb { m with calls:=Zcw m.calls } s:=by rw[hW];exact h.field rfl rfl rfl rfl rfl h.waits rfl
 have gi:Chg (fun _=>True) o o w W:=by rw[hW];exact(Chg.refl _ o w).setCell (p:=⟨mb,5,none⟩) h.own trivial _
 have gt:Zaj o W:=hlt.mono gi.size;obtain⟨d0,d1,d2,d3,d4,d5,g0⟩:=cells6 gd.blk;have gf:mb<W.heap.size:=Zaa d0;have gg:=gd.waits;have e0:({ m with calls:=Zcw m.calls }:ManD).waits=ev::ws:=hw1;rw[e0] at gg;obtain⟨g,off,cap,go,gz,gC,gE,k0,k1,k2,g8⟩:=gg.first
 rw[go] at d4;have hp:(0:Int)<((ws.length+1:Nat):Int):=by omega
 have gy:=Hd gi;have ge:=Hd gt;have gx:=Hd gd;have gB:=Hd hk;have gw:=Hd g8;have HW1:=Hd hw1;have HD:=Hd hdue;have HW:Hid (w.setCell ⟨mb,5,none⟩ (.int .i64 (wrap64 (m.calls+1)))=W):=Hd hW.symm;clear h hlt hx hk gd gi gt hW g8 gg e0 go gz hw1
 go_enter func139,ntmps139
 go_upto_region 3 with fail;rw[HW.out];obtain⟨cu,ga⟩:∃ cu,cu=wrap64 (m.calls+1):=⟨_,rfl⟩;have d5':W.cell? ⟨mb,5,none⟩=some (.int .i64 cu):=by rw[ga];exact d5
 have gD:ev.after<=cu:=by rw[ga];exact hdue
 rw[<- ga];clear c0 c1 c2 c3 c4 c5 f0 cx d5 ga hdue
 go_quiet (fail)
 obtain⟨W2,gh⟩:∃ W2,W2=W.drewN nq:=⟨_,rfl⟩;have g1:Below W.heap.size W W2:=by rw[gh];exact Zaf W nq
 rw[<- gh];have g6:=Hd (gx.out.below ge.out g1);have g3:=Hd (ge.out.mono g1.size);have gn:=Hd (gy.out.trans (Chg.of_below g1 _ _));have d4':W2.cell? ⟨mb,4,none⟩=_:=(g1.cell (p:=⟨mb,4,none⟩) gf).trans d4;have g9:g<W.heap.size:=Zaa k0;have l0:W2.cell? ⟨g,off,none⟩=_:=(g1.cell (p:=⟨g,off,none⟩) g9).trans k0;have l1:W2.cell? ⟨g,off+1,none⟩=_:=(g1.cell (p:=⟨g,off+1,none⟩) g9).trans k1;have l2:W2.cell? ⟨g,off+2,none⟩=_:=(g1.cell (p:=⟨g,off+2,none⟩) g9).trans k2;have gk:=Hd (gw.out.keep (w':=W2) (o':=o) (fun q hq=>g1.block q (ge.out q _ hq)) (fun _ h=>h));clear gh k0 k1 k2 d0 d1 d2 d3 d4 d5' g0 g1 gx ge gy gw HW;obtain⟨d0,d1,d2,d3,_,d5,g0⟩:=cells6 g6.out.blk;have gf:mb<W2.heap.size:=Zaa d0;have g9:g<W2.heap.size:=Zaa l0;go_upto_region 5 with fail;obtain⟨bx,gb⟩:∃ bx,bx=W2.heap.size:=⟨_,rfl⟩;obtain⟨W3,gc⟩:∃ W3,W3=W2.alloc (.cells #[.int .i64 ev.after,.int .i64 ev.kind,.int .i64 ev.level] 120):=⟨_,rfl⟩;have g4:Below W2.heap.size W2 W3:=by rw[gc];exact Zad W2 _
 have gr:o bx=none:=by rw[gb];exact g3.out.none (Nat.le_refl _)
 have x3:W3.heap[bx]?=some (.cells #[.int .i64 ev.after,.int .i64 ev.kind,.int .i64 ev.level] 120 (0,0)):=by rw[gc,gb];exact heap_alloc_new W2 _
 rw[<- gc,<- gb];have g2:=Hd (g6.out.below g3.out g4);have gl:=Hd (g3.out.mono g4.size);have gm:=Hd (gn.out.trans (Chg.of_below g4 _ _));have d4:W3.cell? ⟨mb,4,none⟩=_:=(g4.cell (p:=⟨mb,4,none⟩) gf).trans d4';have gj:=Hd (gk.out.keep (w':=W3) (o':=o) (fun q hq=>g4.block q (g3.out q _ hq)) (fun _ h=>h));clear gc gb l0 l1 l2 d0 d1 d2 d3 d4' d5 g0 g4 g6 g3 gn gk;obtain⟨d0,d1,d2,d3,_,d5,g0⟩:=cells6 g2.out.blk;have gq:bx≠mb:=by rintro rfl;rw[g2.out.own] at gr;cases gr
 obtain⟨W4,g5⟩:∃ W4,W4=(W3.setCell ⟨mb,4,none⟩ (.slice (if cap=1 then some ⟨g,off,none⟩ else some ⟨g,off+3,none⟩) ws.length (cap-1))).setCell ⟨mb,5,none⟩ (.int .i64 0):=⟨_,rfl⟩;have gs:Zb7 (K m.d V) o W4 mb { m with calls:=0,waits:=ws } { s with vw:=.slice (if cap=1 then some ⟨g,off,none⟩ else some ⟨g,off+3,none⟩) ws.length (cap-1) }:=by
  have a1:=g2.out.field (k:=4) (u:=.slice (if cap=1 then some ⟨g,off,none⟩ else some ⟨g,off+3,none⟩) ws.length (cap-1)) (m':={ m with calls:=Zcw m.calls,waits:=ws }) (s':={ s with vw:=.slice (if cap=1 then some ⟨g,off,none⟩ else some ⟨g,off+3,none⟩) ws.length (cap-1) }) rfl rfl rfl rfl rfl gj.out rfl;have a2:=a1.field (k:=5) (u:=.int .i64 0) (m':={ m with calls:=0,waits:=ws }) (s':={ s with vw:=.slice (if cap=1 then some ⟨g,off,none⟩ else some ⟨g,off+3,none⟩) ws.length (cap-1) }) rfl rfl rfl rfl rfl a1.waits rfl;rw[g5];exact a2
 have gu:Chg (fun _=>True) o o w W4:=by rw[g5];exact(gm.out.setCell (p:=⟨mb,4,none⟩) g2.out.own trivial _).setCell (p:=⟨mb,5,none⟩) g2.out.own trivial _
 have g7:W4.heap[bx]?=some (.cells #[.int .i64 ev.after,.int .i64 ev.kind,.int .i64 ev.level] 120 (0,0)):=by rw[g5];exact(Zai gq _).trans ((Zai gq _).trans x3)
 have gp:Step K o w mb m V o W4 { m with calls:=0,waits:=ws } V:=⟨⟨_,gs⟩,gl.out.mono (by rw[g5];simp[World.setCell]),gu,gB.out,Ext.refl _ _,rfl,rfl⟩;have gA:=Hd gp;have y0:W4.cell? ⟨bx,0,none⟩=some (.int .i64 ev.after):=by rw[cell_of_row W4 bx 0 _ _ _ g7];rfl
 have y1:W4.cell? ⟨bx,1,none⟩=some (.int .i64 ev.kind):=by rw[cell_of_row W4 bx 1 _ _ _ g7];rfl
 have y2:W4.cell? ⟨bx,2,none⟩=some (.int .i64 ev.level):=by rw[cell_of_row W4 bx 2 _ _ _ g7];rfl
 have gv:=Hd g5;clear gs gu g7 gp g5;go_upto_region 6 with fail;rw[<- gv.out];clear gv d0 d1 d2 d3 d4 d5 g0 x3 g2 gl gm gj;go_wp2_with fail
 all_goals exact⟨rfl,o,_,V,gA.out,.inl ⟨ev,HW1.out,HD.out,rfl,rfl,rfl,rfl⟩⟩
theorem Zkc {K:Law}{o:Own}{w:World}{xb mb:Nat}{m:ManD}{V:Nat->BF}(hK:Zbh K)(h:Zdo (K m.d V) o w mb m)(hlt:Zaj o w)(hx:Zdz o w xb mb)(hk:Zan m.d V)(v:Int)(lo hi:Nat)(hlo:okE (Zab m.d) lo)(hhi:okE (Zab m.d) hi) :
 Calls prog 139 #[.pointer (some ⟨xb,0,none⟩),.int .i64 v,.int .i64 lo,.int .i64 hi] w (Zhy K o w mb m V v lo hi):=by
 by_cases hd:∀ ev ws,m.waits=ev::ws->Zcw m.calls<ev.after
 . exact Zxb hK h hlt hx hk v lo hi hlo hhi hd
 .
  cases hw:m.waits with
  | nil=>exact absurd (fun ev ws e=>by rw[hw] at e;cases e) hd
  | cons ev ws=>exact Zur h hlt hx hk v lo hi hw (Int.not_lt.1 fun hl=>hd fun ev' ws' e=>by rw[hw] at e;cases e;exact hl)
end Go.Proofs.YtkbegdkpboklpaaGreat

namespace Go.Proofs.YtkbegdkpboklpaaGreat
open Go.Proofs.Tryz
section
variable {d d':Zag}{V V':Nat->BF}
theorem Zgk (hk:Zan d V){e:Nat}(h:e/2=0):lvE d.vars.length (levN d) (Zab d) e=d.vars.length:=by unfold lvE;rw[h,hk.dag.none0]
theorem Zg0 {e f:Nat}(h:e/2=f/2):lvE d.vars.length (levN d) (Zab d) e=lvE d.vars.length (levN d) (Zab d) f:=by unfold lvE;rw[h]
theorem Ziv {N:Nat->Option BN}{e f:Nat}(h:e/2=f/2)(hf:okE N f):okE N e:=by unfold okE;rw[h];exact hf
theorem Zfe (hk:Zan d V){f v:Nat}(hf:okE (Zab d) f)(hv:v<d.vars.length)(hl:levN d v<=lvE d.vars.length (levN d) (Zab d) f) :
 okE (Zab d) (cofs d f v).1/\okE (Zab d) (cofs d f v).2/\levN d v<lvE d.vars.length (levN d) (Zab d) (cofs d f v).1/\levN d v<lvE d.vars.length (levN d) (Zab d) (cofs d f v).2 /\
  ∀ ρ,ef V f ρ=if ρ v then ef V (cofs d f v).2 ρ else ef V (cofs d f v).1 ρ:=by
 unfold cofs;cases hb:Zab d (f/2) with
 | none =>
   have g0:levN d v<lvE d.vars.length (levN d) (Zab d) f:=by unfold lvE;rw[hb];exact hk.dag.lt v hv
   exact⟨hf,hf,g0,g0,fun ρ=>by simp⟩
 | some b =>
   by_cases e:(b.v:Int)=v
   .
    have e':b.v=v:=by omega
    simp only[if_pos e];refine⟨Zec (hk.dag.okLo _ _ hb),Zec (hk.dag.okHi _ _ hb),?_,?_,fun ρ=>?_⟩
    . rw[Zeb,<- e'];exact hk.dag.lvLo _ _ hb
    . rw[Zeb,<- e'];exact hk.dag.lvHi _ _ hb
    . rw[Zdb,Zdb];have h1:=hk.dag.eqn _ _ hb;unfold eneg;have h2:ef V f ρ=((f%2 == 1) != V (f/2) ρ):=rfl;rw[h2,h1];simp only[iteF,e'];split<;>rfl
   .
    simp only[if_neg e];have g0:levN d v<lvE d.vars.length (levN d) (Zab d) f:=by
     rcases Nat.lt_or_eq_of_le hl with h|h
     . exact h
     . exfalso;unfold lvE at h;rw[hb] at h;have:=hk.dag.inj _ _ hv (hk.dag.var _ _ hb) h;exact e (by omega)
    exact⟨hf,hf,g0,g0,fun ρ=>by simp⟩
theorem Zvs (hk:Zan d V)(f g h:Nat):minL d f g h<=d.vars.length:=by unfold minL;have:=hk.dag.lvE_le f;omega
theorem Zqo {k f g h:Nat}(h1:k<=lvE d.vars.length (levN d) (Zab d) f)(h2:k<=lvE d.vars.length (levN d) (Zab d) g)(h3:k<=lvE d.vars.length (levN d) (Zab d) h):k<=minL d f g h:=by unfold minL;omega
theorem Zei.ok (hk:Zan d V){e f g h:Nat}(hi:Zei e f g h)(hf:okE (Zab d) f)(hg:okE (Zab d) g)(hh:okE (Zab d) h) :
 okE (Zab d) e/\minL d f g h<=lvE d.vars.length (levN d) (Zab d) e:=by
 rcases hi with e0|e0|e0|e0
 . exact⟨.inl e0,by rw[Zgk hk e0];exact Zvs hk f g h⟩
 . exact⟨Ziv e0 hf,by rw[Zg0 e0];unfold minL;omega⟩
 . exact⟨Ziv e0 hg,by rw[Zg0 e0];unfold minL;omega⟩
 . exact⟨Ziv e0 hh,by rw[Zg0 e0];unfold minL;omega⟩
structure IteS (d:Zag)(V:Nat->BF)(f0 g0 h0:Nat)(f g h:Nat)(nt:Bool):Prop where
 okF:okE (Zab d) f
 okG:okE (Zab d) g
 okH:okE (Zab d) h
 lev:minL d f0 g0 h0<=minL d f g h
 val:∀ ρ,iteB (ef V f0 ρ) (ef V g0 ρ) (ef V h0 ρ)=(nt != iteB (ef V f ρ) (ef V g ρ) (ef V h ρ))
theorem IteS.start {f g h:Nat}(hf:okE (Zab d) f)(hg:okE (Zab d) g)(hh:okE (Zab d) h):IteS d V f g h f g h false:=⟨hf,hg,hh,Nat.le_refl _,fun ρ=>by simp⟩
theorem IteS.next {f0 g0 h0 f g h:Nat}{nt:Bool}(hk:Zan d V)(s:IteS d V f0 g0 h0 f g h nt)(hd:(iteR f g h).dn=false) :
 IteS d V f0 g0 h0 (iteR f g h).a (iteR f g h).b (iteR f g h).c (nt != (iteR f g h).n)/\(iteR f g h).a/2≠0:=by
 obtain⟨ha,hb,hc,hn,hv⟩:=Zvc hd;obtain⟨a1,a2⟩:=ha.ok hk s.okF s.okG s.okH;obtain⟨b1,b2⟩:=hb.ok hk s.okF s.okG s.okH;obtain⟨c1,c2⟩:=hc.ok hk s.okF s.okG s.okH;refine⟨⟨a1,b1,c1,Nat.le_trans s.lev (Zqo a2 b2 c2),fun ρ=>?_⟩,hn⟩;rw[s.val,hv hk.dag.one];cases nt<;>cases (iteR f g h).n<;>simp
theorem IteS.answer {f0 g0 h0 f g h r:Nat}{nt:Bool}(s:IteS d V f0 g0 h0 f g h nt)(h1:okE (Zab d) f0)(h2:okE (Zab d) g0)(h3:okE (Zab d) h0)(hr:okE (Zab d) r)(hl:minL d f g h<=lvE d.vars.length (levN d) (Zab d) r)
 (hv:∀ ρ,ef V r ρ=iteB (ef V f ρ) (ef V g ρ) (ef V h ρ)):IteP d V f0 g0 h0 (eflip r nt) :=
 ⟨h1,h2,h3,Zec hr,fun ρ=>by rw[Zdb,hv,<- s.val];rfl,by rw[Zeb];exact Nat.le_trans s.lev hl⟩
theorem IteS.done {f0 g0 h0 f g h:Nat}{nt:Bool}(hk:Zan d V)(s:IteS d V f0 g0 h0 f g h nt)(h1:okE (Zab d) f0)(h2:okE (Zab d) g0)(h3:okE (Zab d) h0)(hd:(iteR f g h).dn=true):IteP d V f0 g0 h0 (eflip (iteR f g h).r nt):=by
 obtain⟨hh,hv⟩:=Zo2 hd;obtain⟨q1,q2⟩:=hh.ok hk s.okF s.okG s.okH;exact s.answer h1 h2 h3 q1 q2 (hv hk.dag.one)
theorem Ext.minL (x:Ext d V d' V')(hk:Zan d V)(hk':Zan d' V'){f g h:Nat}(hf:okE (Zab d) f)(hg:okE (Zab d) g)(hh:okE (Zab d) h):minL d' f g h=Go.Proofs.YtkbegdkpboklpaaGreat.minL d f g h:=by
 unfold Go.Proofs.YtkbegdkpboklpaaGreat.minL;rw[x.vars,x.lvE hf hk.dag.none0 hk'.dag.none0,x.lvE hg hk.dag.none0 hk'.dag.none0,x.lvE hh hk.dag.none0 hk'.dag.none0]
theorem IteS.ext {f0 g0 h0 f g h:Nat}{nt:Bool}(s:IteS d V f0 g0 h0 f g h nt)(x:Ext d V d' V')(hk:Zan d V)(hk':Zan d' V')(h1:okE (Zab d) f0)(h2:okE (Zab d) g0)(h3:okE (Zab d) h0):IteS d' V' f0 g0 h0 f g h nt :=
 ⟨x.ok s.okF,x.ok s.okG,x.ok s.okH,by rw[x.minL hk hk' h1 h2 h3,x.minL hk hk' s.okF s.okG s.okH];exact s.lev,fun ρ=>by rw[x.ef s.okF,x.ef s.okG,x.ef s.okH,x.ef h1,x.ef h2,x.ef h3];exact s.val ρ⟩
theorem IteP.ext {f g h r:Nat}(s:IteP d V f g h r)(x:Ext d V d' V')(hk:Zan d V)(hk':Zan d' V'):IteP d' V' f g h r :=
 ⟨x.ok s.okA,x.ok s.okB,x.ok s.okC,x.ok s.okR,fun ρ=>by rw[x.ef s.okA,x.ef s.okB,x.ef s.okC,x.ef s.okR];exact s.val ρ,
  by rw[x.minL hk hk' s.okA s.okB s.okC,x.vars,x.lvE s.okR hk.dag.none0 hk'.dag.none0];exact s.lev⟩
theorem Zxp (hk:Zan d V){f g h v lo hi r:Nat}(hf:okE (Zab d) f)(hg:okE (Zab d) g)(hh:okE (Zab d) h)(hv:v<d.vars.length)(hl:levN d v<=minL d f g h)
 (c1:∀ ρ,ef V lo ρ=iteB (ef V (cofs d f v).1 ρ) (ef V (cofs d g v).1 ρ) (ef V (cofs d h v).1 ρ)) (c2:∀ ρ,ef V hi ρ=iteB (ef V (cofs d f v).2 ρ) (ef V (cofs d g v).2 ρ) (ef V (cofs d h v).2 ρ))
 (hr:ef V r=iteF v (ef V hi) (ef V lo)) (ρ:Nat->Bool):ef V r ρ=iteB (ef V f ρ) (ef V g ρ) (ef V h ρ):=by
 have lf:=(Zfe hk hf hv (by unfold minL at hl;omega)).2.2.2.2 ρ;have lg:=(Zfe hk hg hv (by unfold minL at hl;omega)).2.2.2.2 ρ;have lh:=(Zfe hk hh hv (by unfold minL at hl;omega)).2.2.2.2 ρ;rw[hr,lf,lg,lh];simp only[iteF];cases ρ v
 . simpa using c1 ρ
 . simpa using c2 ρ
theorem Zgu (x:Ext d V d' V')(h0:Zab d 0=none)(h0':Zab d' 0=none){f:Nat}(hf:okE (Zab d) f)(v:Int):cofs d' f v=cofs d f v:=by
 unfold cofs;rcases hf with h|⟨b,hb⟩
 . rw[h,h0,h0']
 . rw[hb,x.nodes _ _ hb]
end
open Go.RowKit
def Ztz (K:Law)(k:Nat)(o:Own)(w:World)(mb:Nat)(m:ManD)(V:Nat->BF)(f g h:Nat)(e:Ending)(w':World):Prop :=
 ∃ o' m' V',Step K o w mb m V o' w' m' V' /\
  ((∃ r:Nat,e=.returned (.int .i64 r)/\IteP m'.d V' f g h r/\m'.waits=m.waits/\m'.d.pool.many+1<=m.d.pool.many+2^k) \/
   (e=Zcg 7 false ev0/\m'.waits=m.waits/\m'.d.pool.many=m'.d.pool.room/\m'.d.pool.many+2<=m.d.pool.many+2^k) \/
   (∃ ev,e=Zcg 0 true ev/\m.waits=ev::m'.waits))
def Zzs (K:Law)(k:Nat):Prop:=∀ (o:Own) (w:World) (xb mb:Nat) (m:ManD) (V:Nat->BF) (f g h:Nat),Zdo (K m.d V) o w mb m->Zaj o w->Zdz o w xb mb->Zan m.d V ->
 okE (Zab m.d) f->okE (Zab m.d) g->okE (Zab m.d) h->m.d.vars.length<=minL m.d f g h+k ->
 Calls prog 141 #[.pointer (some ⟨xb,0,none⟩),.int .i64 f,.int .i64 g,.int .i64 h] w (Ztz K k o w mb m V f g h)
theorem Ztq {K:Law}{o:Own}{w w':World}{mb:Nat}{m:ManD}{V:Nat->BF}(hm:Zdo (K m.d V) o w mb m)(hl:Zaj o w)(hk:Zan m.d V)(hb:Below w.heap.size w w'):Step K o w mb m V o w' m V:=by
 obtain⟨s,h⟩:=hm;exact⟨⟨s,h.below hl hb⟩,hl.mono hb.size,Chg.of_below hb _ _,hk,Ext.refl _ _,rfl,rfl⟩
theorem Step.below {K:Law}{o o':Own}{w w' w'':World}{mb:Nat}{m m':ManD}{V V':Nat->BF}(h:Step K o w mb m V o' w' m' V')(hb:Below w'.heap.size w' w''):Step K o w mb m V o' w'' m' V':=h.trans (Ztq h.is h.lt h.ok hb)
theorem top3 {d:Zag}{V:Nat->BF}(hk:Zan d V){f g h:Nat}(hf:okE (Zab d) f)(hn:f/2≠0){top least:Int}(ht:TopS d [f,g,h] top least) :
 ∃ v:Nat,top=v/\v<d.vars.length/\levN d v=minL d f g h/\levN d v<d.vars.length:=by
 rcases ht with ⟨_,_,h3⟩|⟨v,h1,_,h3,⟨e,he,b,hb,g0⟩,h5⟩
 .
  exfalso;rcases hf with h0|⟨b,hb⟩
  . exact hn h0
  . rw[h3 f (by simp)] at hb;cases hb
 .
  refine⟨v,h1,h3,?_,hk.dag.lt v h3⟩;have e0:lvE d.vars.length (levN d) (Zab d) e=levN d v:=by unfold lvE;rw[hb,<- g0]
  have a1:=h5 f (by simp);have a2:=h5 g (by simp);have a3:=h5 h (by simp);simp only[List.mem_cons,List.not_mem_nil,or_false] at he;unfold minL;rcases he with rfl|rfl|rfl<;>omega
theorem Zkb {K:Law}(hK:Zbh K)(k:Nat)(IH:∀ k',k=k'+1->Zzs K k'):Zzs K k:=by
 intro o w xb mb m V f g h hm gR hx hk hf hg hh gD;obtain⟨st0,gM⟩:∃ s,Zao o w (Classical.choose hm).sb m.d s:=(Classical.choose_spec hm).store;have gp:Hid (∀ e,okE (Zab m.d) e->e<eMax):=Hd fun e he=>by have:=gM.edge_lt he;unfold eMax;omega
 have ho:=Hd hK;have HM:=Hd hm;have h9:=Hd gR;have HX:=Hd hx;have HK:=Hd hk;have HF:=Hd hf;have HG:=Hd hg;have HH:=Hd hh;have hW:=Hd gD;have h6:Hid (IteS m.d V f g h f g h false):=Hd (IteS.start hf hg hh);clear gM hm gR hx hk hf hg hh gD
 go_enter func141,ntmps141
 go_upto_block 0 with fail
 go_cut [1,2,3,9] from 27 (fun s1 s2 s3 s9 wx=>∃ (f' g' h':Nat) (nt:Bool),s1=.int .i64 f'/\s2=.int .i64 g'/\s3=.int .i64 h'/\s9=.bool nt/\IteS m.d V f g h f' g' h' nt/\f'/2≠0/\wx=w)
 case first =>
  go_wp2_with fail
  go_loopw [1,2,3,9,27] (fun s1 s2 s3 s9 i wr=>∃ (f' g' h':Nat) (nt:Bool) (j:Nat),s1=.int .i64 f'/\s2=.int .i64 g'/\s3=.int .i64 h'/\s9=.bool nt/\i=.int .i64 j/\j<=3/\IteS m.d V f g h f' g' h' nt/\(0<j->f'/2≠0)/\wr=w) (fun _ _ _ _ i _=>3-(intOf i).toNat)
  case atStart=>exact⟨f,g,h,false,0,rfl,rfl,rfl,rfl,rfl,by omega,h6.out,by omega,rfl⟩
  case round =>
   obtain⟨f',g',h',nt,j,rfl,rfl,rfl,rfl,rfl,hj,hS,hn,rfl⟩:=hrel;clear h6
   by_cases gR:j<3
   .
    have HI:=Hd (fun W:World=>Yaq f' g' h' W (gp.out _ hS.okF) (gp.out _ hS.okG) (gp.out _ hS.okH));have gl:(iteR f' g' h').dn=true->(iteR f' g' h').r<eMax:=fun e=>gp.out _ (((Zo2 e).1.ok HK.out hS.okF hS.okG hS.okH).1)
    have gn:=fun e=>hS.next HK.out (f:=f') (g:=g') (h:=h') e
    have go:=fun e=>hS.done HK.out HF.out HG.out HH.out e
    have kk:(j:Int)<3:=by omega
    unfold iteV at HI;obtain⟨R,hR⟩:∃ R,R=iteR f' g' h':=⟨_,rfl⟩;rw[<- hR] at HI gl gn go;clear hR hS hn;obtain⟨a,b,c,n,r,dn⟩:=R;dsimp only at HI gl gn go;cases dn with
    | true =>
      have gr:=Hd (fun W:World=>Zdc r nt W (gl rfl));have kj:=Hd (go rfl);clear gl gn go;go_wp2_with fail;refine(HI.out _).mono ?_;rintro x w' ⟨rfl,rfl⟩;go_wp2_with fail;refine(gr.out _).mono ?_;rintro x w' ⟨rfl,rfl⟩;go_wp2_with fail;go_ret;exact⟨o,m,V,⟨HM.out,h9.out,Chg.refl _ _ _,HK.out,Ext.refl _ _,rfl,rfl⟩,.inl ⟨_,rfl,kj.out,rfl,by have:=Nat.one_le_two_pow (n:=k);omega⟩⟩
    | false =>
      have hJ:(nt != n)=(!nt == n):=by cases nt<;>cases n<;>rfl
      have g8:=Hd (gn rfl);rw[hJ] at g8;clear gl gn go hJ
      by_cases hC:a=f'
      .
       subst hC
       by_cases hp2:b=g'
       .
        subst hp2
        by_cases hB:c=h'
        . subst hB;go_wp2_with fail;refine(HI.out _).mono ?_;rintro x w' ⟨rfl,rfl⟩;go_wp2_with fail;go_meet;exact⟨_,_,_,_,rfl,rfl,rfl,rfl,g8.out.1,g8.out.2,by trivial⟩
        .
         have H3:(c == h')=false:=by simp[hB]
         go_wp2_with fail;refine(HI.out _).mono ?_;rintro x w' ⟨rfl,rfl⟩;go_wp2_with fail;go_roundw
         case rel=>exact⟨_,_,_,_,j+1,rfl,rfl,rfl,rfl,by simp,by omega,g8.out.1,fun _=>g8.out.2,by trivial⟩
         case measure=>simp[intOf];omega
       .
        have H2:(b == g')=false:=by simp[hp2]
        go_wp2_with fail;refine(HI.out _).mono ?_;rintro x w' ⟨rfl,rfl⟩;go_wp2_with fail;go_roundw
        case rel=>exact⟨_,_,_,_,j+1,rfl,rfl,rfl,rfl,by simp,by omega,g8.out.1,fun _=>g8.out.2,by trivial⟩
        case measure=>simp[intOf];omega
      .
       have H1:(a == f')=false:=by simp[hC]
       go_wp2_with fail;refine(HI.out _).mono ?_;rintro x w' ⟨rfl,rfl⟩;go_wp2_with fail;go_roundw
       case rel=>exact⟨_,_,_,_,j+1,rfl,rfl,rfl,rfl,by simp,by omega,g8.out.1,fun _=>g8.out.2,by trivial⟩
       case measure=>simp[intOf];omega
   .
    obtain rfl:j=3:=by omega
    have HS:=Hd hS;have HN:=Hd (hn (by omega));clear hS hn;go_wp2_with fail;go_meet;exact⟨f',g',h',nt,rfl,rfl,rfl,rfl,HS.out,HN.out,rfl⟩
 case rest =>
  obtain⟨f',g',h',nt,rfl,rfl,rfl,rfl,hS,hn,rfl⟩:=hcut
  rename World=>w
  clear h6;obtain⟨s,gA⟩:=HM.out;obtain⟨c0,c1,c2,c3,c4,c5,f0⟩:=cells6 gA.blk;have cx:=HX.out.cell;have k7:=Hd (Yam o s.me (K m.d V) 1 f' g' h' w gA.memo h9.out);have kd:=Hd gA;have HS:=Hd hS;have HN:=Hd hn;clear gA hS hn;go_wp2_with fail;refine k7.out.mono ?_;rintro x w1 ⟨kb,gi,gm,ge⟩;have h0:Zb7 (K m.d V) o w1 mb m s:=kd.out.setMemo h9.out gi (gm.mono fun r e=>.inl e);have hO:=HX.out.chg gm;have kr:=Hd gm.any;have kp:=Hd h0;have kn:=Hd hO;have kq:=Hd ge;have gL:Step K o w mb m V o w1 m V:=⟨⟨s,h0⟩,ge,gm.any,HK.out,Ext.refl _ _,rfl,rfl⟩;have h5:=Hd gL;clear gi gm ge h0 hO gL;rcases kb with rfl|⟨r,rfl,hF⟩
  .
   clear c0 c1 c2 c3 c4 c5 f0 cx;go_upto_region 14 with fail;obtain⟨w2,gz⟩:∃ w2,w2=w1.alloc (.cells #[.int .i64 f',.int .i64 g',.int .i64 h'] 151):=⟨_,rfl⟩;have hM:Below w1.heap.size w1 w2:=by rw[gz];exact Zad w1 _
   have hz:w2.heap[w1.heap.size]?=some (.cells #[.int .i64 f',.int .i64 g',.int .i64 h'] 151 (0,0)):=by rw[gz];exact heap_alloc_new w1 _
   have gB:Zay w2 (some ⟨w1.heap.size,0,none⟩) ([f',g',h'].map Int.ofNat):=⟨by simp,fun j hj=>⟨w1.heap.size,0,rfl,by
    rw[cell_of_row w2 w1.heap.size (0+j) _ _ _ hz];simp at hj
    match j,hj with
    | 0,_=>rfl
    | 1,_=>rfl
    | 2,_=>rfl⟩⟩
   have gc:=h5.out.below hM;have hN:=HX.out.chg gc.chg;have h3:Hid (Calls prog 164 #[.pointer (some ⟨xb,0,none⟩),.slice (some ⟨w1.heap.size,0,none⟩) 3 3] w2 fun x w'=>∃ top least,x=.returned (.int .i64 top)/\TopS m.d [f',g',h'] top least/\Below w2.heap.size w2 w') :=
    Hd (Zlv gc.is gc.lt hN HK.out [f',g',h'] (by simp;exact⟨HS.out.okF,HS.out.okG,HS.out.okH⟩) (some ⟨w1.heap.size,0,none⟩) 3 gB)
   have h4:=Hd gc;have hQ:=Hd gz;clear hM hz gB gc hN gz;go_wp2_with fail;rw[<- hQ.out];refine h3.out.mono ?_;rintro x w3 ⟨top,least,rfl,gH,hL⟩;obtain⟨v,rfl,hv,gk,k9⟩:=top3 HK.out HS.out.okF HN.out gH;have k4:=Hd (h4.out.below hL);have HV:=Hd hv;have hT:=Hd gk;obtain⟨k',gU⟩:∃ k',k=k'+1:=⟨k-1,by have h1:=hW.out;have h2:=HS.out.lev;omega⟩;have hU:=Hd (IH k' gU);have cf:=Zfe HK.out HS.out.okF hv (by rw[gk];unfold minL;omega);have cg:=Zfe HK.out HS.out.okG hv (by rw[gk];unfold minL;omega);have ch:=Zfe HK.out HS.out.okH hv (by rw[gk];unfold minL;omega);have ge:levN m.d v+1<=minL m.d (cofs m.d f' v).1 (cofs m.d g' v).1 (cofs m.d h' v).1:=Zqo cf.2.2.1 cg.2.2.1 ch.2.2.1;have hE:levN m.d v+1<=minL m.d (cofs m.d f' v).2 (cofs m.d g' v).2 (cofs m.d h' v).2:=Zqo cf.2.2.2.1 cg.2.2.2.1 ch.2.2.2.1;have hH:m.d.vars.length<=levN m.d v+1+k':=by have h1:=hW.out;have h2:=HS.out.lev;omega
   have gu:=Hd cf;have gt:=Hd cg;have gs:=Hd ch;have hc:=Hd ge;have hb:=Hd hE;have hq:=Hd hH;have HKK:=Hd gU;have h7:Hid (∀ (W:World) (e:Nat),okE (Zab m.d) e->Step K o w mb m V o W m V->Calls prog 165 #[.pointer (some ⟨xb,0,none⟩),.int .i64 e,.int .i64 v] W fun x w'=>x=.returned (.tuple #[.int .i64 (cofs m.d e v).1,.int .i64 (cofs m.d e v).2])/\Step K o w mb m V o w' m V) :=
    Hd fun W e he st=>(Zi6 st.is st.lt (HX.out.chg st.chg) HK.out e he v).mono fun x w' ⟨h1,h2⟩=>⟨h1,st.below h2⟩
   clear gH hL hv gk k9 cf cg ch ge hE hH gU h3 hQ h4;go_wp2_with fail;refine(h7.out _ _ HS.out.okF k4.out).mono ?_;rintro x w4 ⟨rfl,gK⟩;have k3:=Hd gK;clear gK;go_wp2_with fail;refine(h7.out _ _ HS.out.okG k3.out).mono ?_;rintro x w5 ⟨rfl,gJ⟩;have k0:=Hd gJ;clear gJ;go_wp2_with fail;refine(h7.out _ _ HS.out.okH k0.out).mono ?_;rintro x w6 ⟨rfl,gI⟩;have ga:=Hd gI;clear gI;go_wp2_with fail;refine(hU.out o w6 xb mb m V _ _ _ ga.out.is ga.out.lt (HX.out.chg ga.out.chg) HK.out gu.out.1 gt.out.1 gs.out.1 (by have h1:=hq.out;have h2:=hc.out;omega)).mono ?_;have gF:Hid (2^k=2^k'+2^k'):=by show _=_;rw[HKK.out,Nat.pow_succ];omega
   have h8:Hid (1<=2^k'):=Hd Nat.one_le_two_pow;rintro x w7 ⟨o7,m7,V7,st7,(⟨lo,rfl,hD,g5,gh⟩|⟨rfl,g5,gO,gh⟩|⟨ev,rfl,g5⟩)⟩
   .
    have g2:=Hd (ga.out.trans st7);have gG:=Hd st7.ok;have g7:=Hd st7.ext;have gq:=Hd hD;have gd:=Hd g5;have gy:=Hd gh;have hG:m7.d.vars.length<=minL m7.d (cofs m.d f' v).2 (cofs m.d g' v).2 (cofs m.d h' v).2+k':=by
     rw[st7.ext.minL HK.out st7.ok gu.out.2.1 gt.out.2.1 gs.out.2.1,st7.ext.vars];have h1:=hq.out;have h2:=hb.out;omega
    have ki:=Hd hG;clear st7 hD g5 gh hG;go_wp2_with fail;refine(hU.out o7 w7 xb mb m7 V7 _ _ _ g2.out.is g2.out.lt (HX.out.chg g2.out.chg) gG.out (g7.out.ok gu.out.2.1) (g7.out.ok gt.out.2.1) (g7.out.ok gs.out.2.1) ki.out).mono ?_;rintro x w8 ⟨o8,m8,V8,st8,(⟨hi,rfl,gX,g4,gg⟩|⟨rfl,g4,gN,gg⟩|⟨ev,rfl,g4⟩)⟩
    .
     have g1:=Hd (g2.out.trans st8);have hd:=Hd st8.ok;have g6:=Hd st8.ext;have hp:=Hd gX;have gx:=Hd g4;have ha:=Hd gg;have hP:=Zkc ho.out g1.out.is g1.out.lt (HX.out.chg g1.out.chg) st8.ok v lo hi (st8.ext.ok gq.out.okR) gX.okR;have ke:=Hd hP;clear st8 gX g4 gg hP;go_wp2_with fail;refine ke.out.mono ?_;have gS:levN m8.d v<lvE m8.d.vars.length (levN m8.d) (Zab m8.d) lo:=by
      have e1:=g6.out.lvE (n:=m8.d.vars.length) gq.out.okR gG.out.dag.none0 hd.out.dag.none0;have e2:=gq.out.lev;have e3:=g7.out.minL HK.out gG.out gu.out.1 gt.out.1 gs.out.1;have e4:=hc.out;have e5:=g7.out.lev;have e6:=g6.out.lev;have e7:=g6.out.vars;rw[e1,e6,e5,e7];rw[e5] at e2;omega
     have gV:levN m8.d v<lvE m8.d.vars.length (levN m8.d) (Zab m8.d) hi:=by
      have e2:=hp.out.lev;have x78:=g7.out.trans g6.out;have e3:=x78.minL HK.out hd.out gu.out.2.1 gt.out.2.1 gs.out.2.1;have e4:=hb.out;have e5:=x78.lev;rw[e5] at e2 ⊢;omega
     have hw:v<m8.d.vars.length:=by rw[(g7.out.trans g6.out).vars];exact HV.out
     have gY:∀ er,Zn5 m8.d v lo hi er->er=7/\m8.d.pool.many=m8.d.pool.room:=by
      rintro er (⟨_,h1⟩|⟨_,_,_,h1⟩|h1)
      . exact absurd ⟨by omega,by omega⟩ h1
      . simp only[Int.toNat_natCast] at h1;omega
      . exact h1
     have kl:=Hd gS;have km:=Hd gV;have ko:=Hd hw;have k8:=Hd gY;clear gS gV hw gY;rintro x w9 ⟨o9,m9,V9,st9,(⟨ev,hu,_,_,gE,gZ,rfl⟩|⟨gf,_,_,(⟨er,hI,gE,gZ,rfl⟩|⟨_,_,r,rfl,hA,hy,gQ,hY⟩)⟩)⟩
     . have g0:=Hd (g1.out.trans st9);have kc:=Hd hu;clear st9 hu gE gZ;unfold Zcg;go_wp2_with fail;exact⟨rfl,o9,m9,V9,g0.out,.inr (.inr ⟨ev,rfl,by rw[<- gd.out,<- gx.out];exact kc.out⟩)⟩
     . have g0:=Hd (g1.out.trans st9);obtain⟨rfl,gC⟩:=k8.out er hI;have ht:=Hd gC;have hX:=Hd gE;have gw:=Hd gf;clear st9 hI gE gZ gf gC;unfold Zcg;go_wp2_with fail;exact⟨rfl,o9,m9,V9,g0.out,.inr (.inl ⟨rfl,by rw[gw.out,gx.out,gd.out],by rw[hX.out];exact ht.out,by rw[hX.out];have a1:=gy.out;have a2:=ha.out;have a3:=gF.out;have a4:=h8.out;omega⟩)⟩
     .
      have g9:=g1.out.trans st9;have x09:=g9.ext;have gb:=st9.ok;have x79:=g6.out.trans st9.ext;have a0:=HK.out.dag.none0;have a9:=gb.dag.none0;have g3:IteP m9.d V9 f' g' h' r:=by
       refine⟨x09.ok HS.out.okF,x09.ok HS.out.okG,x09.ok HS.out.okH,hA,fun ρ=>?_,?_⟩
       .
        refine Zxp (lo:=lo) (hi:=hi) (v:=v) gb (x09.ok HS.out.okF) (x09.ok HS.out.okG) (x09.ok HS.out.okH) (by rw[x09.vars];exact HV.out) (by rw[x09.lev,x09.minL HK.out gb HS.out.okF HS.out.okG HS.out.okH,hT.out];exact Nat.le_refl _) ?_ ?_ ?_ ρ
        . intro ρ;rw[Zgu x09 a0 a9 HS.out.okF,Zgu x09 a0 a9 HS.out.okG,Zgu x09 a0 a9 HS.out.okH];exact(gq.out.ext x79 gG.out gb).val ρ
        . intro ρ;rw[Zgu x09 a0 a9 HS.out.okF,Zgu x09 a0 a9 HS.out.okG,Zgu x09 a0 a9 HS.out.okH];exact(hp.out.ext st9.ext hd.out gb).val ρ
        . rw[hy,st9.ext.ef hp.out.okR,st9.ext.ef (g6.out.ok gq.out.okR)];rfl
       . rw[x09.minL HK.out gb HS.out.okF HS.out.okG HS.out.okH,<- hT.out];have e1:=(g7.out.trans g6.out).lev;have e2:=(g7.out.trans g6.out).vars;rw[e1,e2] at gQ;rw[x09.vars];exact gQ
      have hr:=Hd ((HS.out.ext x09 HK.out gb HF.out HG.out HH.out).answer (x09.ok HF.out) (x09.ok HG.out) (x09.ok HH.out) g3.okR g3.lev g3.val);obtain⟨s9,gj⟩:=g9.is;have k5:=Hd (Zyb o9 s9.me (K m9.d V9) 1 f' g' h' r w9 gj.memo g9.lt ((ho.out.ite _ _ _ _ _ _).2 g3));have gP:r<eMax:=by
       obtain⟨ss,ka⟩:=gj.store;have:=ka.edge_lt g3.okR;unfold eMax;omega
      have gr:=Hd (fun W:World=>Zdc r nt W gP);obtain⟨c0,c1,c2,c3,c4,c5,f0⟩:=cells6 gj.blk;have cx:=(HX.out.chg g9.chg).cell;have kh:=Hd gj;have g0:=Hd g9;have gw:=Hd (gf.trans (gx.out.trans gd.out));have k6:Hid (m9.d.pool.many+1<=m.d.pool.many+2^k):=Hd (by have a1:=gy.out;have a2:=ha.out;have a3:=gF.out;omega);clear st9 g9 x09 gb x79 a0 a9 g3 gj gP gf hA hy gQ hY;go_wp2_with fail;refine k5.out.mono ?_;rintro x w10 ⟨rfl,o10,gi,gv,gT⟩;have hZ:Hid (Step K o w mb m V o10 w10 m9 V9):=Hd ⟨⟨s9,kh.out.setMemo g0.out.lt gi gv⟩,gT,g0.out.chg.trans gv.any,g0.out.ok,g0.out.ext,g0.out.hs,g0.out.next⟩;clear gi gv gT c0 c1 c2 c3 c4 c5 f0 cx;go_wp2_with fail;refine(gr.out _).mono ?_;rintro x w' ⟨rfl,rfl⟩;go_wp2_with fail;go_ret;exact⟨o10,m9,V9,hZ.out,.inl ⟨_,rfl,hr.out,gw.out,k6.out⟩⟩
    . have g1:=Hd (g2.out.trans st8);have HQ:Hid (m8.waits=m.waits/\m8.d.pool.many=m8.d.pool.room/\m8.d.pool.many+2<=m.d.pool.many+2^k):=Hd ⟨g4.trans gd.out,gN,by have a1:=gy.out;have a3:=gF.out;have a4:=h8.out;omega⟩;clear st8 g4 gN gg;unfold Zcg;go_wp2_with fail;exact⟨rfl,o8,m8,V8,g1.out,.inr (.inl ⟨rfl,HQ.out.1,HQ.out.2.1,HQ.out.2.2⟩)⟩
    . have g1:=Hd (g2.out.trans st8);have HQ:=Hd g4;clear st8 g4;unfold Zcg;go_wp2_with fail;exact⟨rfl,o8,m8,V8,g1.out,.inr (.inr ⟨ev,rfl,by rw[<- gd.out];exact HQ.out⟩)⟩
   . have g2:=Hd (ga.out.trans st7);have HQ:Hid (m7.waits=m.waits/\m7.d.pool.many=m7.d.pool.room/\m7.d.pool.many+2<=m.d.pool.many+2^k):=Hd ⟨g5,gO,by have a3:=gF.out;have a4:=h8.out;omega⟩;clear st7 g5 gO gh;unfold Zcg;go_wp2_with fail;exact⟨rfl,o7,m7,V7,g2.out,.inr (.inl ⟨rfl,HQ.out.1,HQ.out.2.1,HQ.out.2.2⟩)⟩
   . have g2:=Hd (ga.out.trans st7);have HQ:=Hd g5;clear st7 g5;unfold Zcg;go_wp2_with fail;exact⟨rfl,o7,m7,V7,g2.out,.inr (.inr ⟨ev,rfl,HQ.out⟩)⟩
  . have g3:IteP m.d V f' g' h' r:=(ho.out.ite _ _ _ _ _ _).1 hF;have hr:=Hd (HS.out.answer HF.out HG.out HH.out g3.okR g3.lev g3.val);have gr:=Hd (fun W:World=>Zdc r nt W (gp.out _ g3.okR));clear hF g3 c0 c1 c2 c3 c4 c5 f0 cx;go_wp2_with fail;refine(gr.out _).mono ?_;rintro x w' ⟨rfl,rfl⟩;go_wp2_with fail;go_ret;exact⟨o,m,V,h5.out,.inl ⟨_,rfl,hr.out,rfl,by have:=Nat.one_le_two_pow (n:=k);omega⟩⟩
theorem Zlu {K:Law}(hK:Zbh K):∀ k,Zzs K k:=by
 intro k
 induction k with
 | zero=>exact Zkb hK 0 (fun k' e=>absurd e (by omega))
 | succ k ih =>
   refine Zkb hK (k+1) (fun k' e=>?_);have e2:k'=k:=by omega
   rw[e2];exact ih
end Go.Proofs.YtkbegdkpboklpaaGreat

namespace Go.Proofs.YtkbegdkpboklpaaGreat
open Go.Proofs.Tryz
open Go.RowKit Go.Shelf
structure Wr (M:Nat->Prop)(w w':World):Prop where
 os:w'.os=w.os
 tape:w'.tape=w.tape
 output:w'.output=w.output
 size:w.heap.size<=w'.heap.size
 keep:∀ k,k<w.heap.size->¬ M k->w'.heap[k]?=w.heap[k]?
theorem Wr.refl (M:Nat->Prop)(w:World):Wr M w w:=⟨rfl,rfl,rfl,Nat.le_refl _,fun _ _ _=>rfl⟩
theorem Wr.trans {M M' N:Nat->Prop}{w w' w'':World}(h:Wr M w w')(h':Wr M' w' w'')(hM:∀ k,k<w.heap.size->M k->N k)(hM':∀ k,k<w.heap.size->M' k->N k):Wr N w w'' :=
 ⟨h'.os.trans h.os,h'.tape.trans h.tape,h'.output.trans h.output,Nat.le_trans h.size h'.size,fun k hk hn=>(h'.keep k (Nat.lt_of_lt_of_le hk h.size) (fun e=>hn (hM' k hk e))).trans (h.keep k hk (fun e=>hn (hM k hk e)))⟩
theorem Wr.mono {M N:Nat->Prop}{w w':World}(h:Wr M w w')(hM:∀ k,M k->N k):Wr N w w':=⟨h.os,h.tape,h.output,h.size,fun k hk hn=>h.keep k hk (fun e=>hn (hM k e))⟩
theorem Wr.drew {M:Nat->Prop}{w w':World}(h:Wr M w w'):Wr M w w'.drew:=⟨h.os,h.tape,h.output,h.size,h.keep⟩
theorem Wr.alloc {M:Nat->Prop}{w w':World}(h:Wr M w w')(o:Obj):Wr M w (w'.alloc o) :=
 ⟨h.os,h.tape,h.output,by simp;have:=h.size;omega,fun k hk hn=>(Below.heap_alloc w' o k (Nat.lt_of_lt_of_le hk h.size)).trans (h.keep k hk hn)⟩
theorem Wr.setCell {M:Nat->Prop}{w w':World}(h:Wr M w w'){p:Addr}(hp:M p.block\/w.heap.size<=p.block)(u:Value):Wr M w (w'.setCell p u) :=
 ⟨h.os,h.tape,h.output,by simp[World.setCell];exact h.size,fun k hk hn=>(Below.heap_setCell _ _ _ _ (by rintro rfl;rcases hp with hp|hp;exact hn hp;omega)).trans (h.keep k hk hn)⟩
theorem Wr.putObj {M:Nat->Prop}{w w':World}(h:Wr M w w'){l:Nat}(hl:M l\/w.heap.size<=l)(o:Obj):Wr M w (w'.putObj l o) :=
 ⟨h.os,h.tape,h.output,by simp;exact h.size,fun k hk hn=>(World.putObj_heap_other (by rintro rfl;rcases hl with hl|hl;exact hn hl;omega)).trans (h.keep k hk hn)⟩
theorem Wr.of_below {w w':World}(h:Below w.heap.size w w')(M:Nat->Prop):Wr M w w':=⟨h.os,h.tape,h.output,h.size,fun k hk _=>h.block k hk⟩
theorem Wr.below {M:Nat->Prop}{n₀:Nat}{w w':World}(h:Wr M w w')(hM:∀ k,M k->n₀<=k)(hn:n₀<=w.heap.size):Below n₀ w w' :=
 ⟨h.os,h.tape,h.output,h.size,fun k hk=>h.keep k (by omega) (fun e=>by have:=hM k e;omega)⟩
theorem Wr.of_grown {w w':World}{row:Option Nat}(h:w.grownBy w' row)(M:Nat->Prop)(hM:∀ k,row=some k->M k):Wr M w w' :=
 ⟨h.os,h.tape,h.output,h.size,fun k hk hn=>h.block k hk (fun e=>hn (hM k e.symm))⟩
section
variable {F:Fence}{n:Nat}{P:Program}{α:Type}
def Zra (n₀:Nat)(J:List α->(Nat->Prop)->World->Prop):Prop:=∀ pre M W,J pre M W->∀ k,M k->n₀<=k/\k<W.heap.size
def Minds (n₀:Nat)(J:List α->(Nat->Prop)->World->Prop):Prop:=∀ pre M W W',J pre M W->Wr (fun k=>n₀<=k/\¬ M k) W W'->J pre M W'
def Gives (F:Fence)(n d:Nat)(P:Program)(g:Nat)(lb:Array Value)(encs:α->Array Value)(n₀:Nat)(Bx:Nat->Prop)(xs:List α)(w:World):Prop :=
 ∀ (l:Nat) (J:List α->(Nat->Prop)->World->Prop) (M:Nat->Prop) (W:World),Zra n₀ J->Minds n₀ J->Wr (fun k=>n₀<=k/\¬ Bx k) w W->(∀ k,Bx k->¬ M k) ->
  (∀ pre x M W1,J pre M W1->(∃ suf,pre++x::suf=xs)->YieldAt F (n-1-d) P l (encs x) W1 fun e W' =>
   e=.returned (.bool true)/\∃ M',J (pre++[x]) M' W'/\Wr M W1 W'/\∀ k,M' k->M k\/W1.heap.size<=k) ->
  J [] M W ->
  CallsIn F n P g (#[.func (.yield l) #[] #[]]++lb) W fun e W'=>(∃ v,e=.returned v)/\∃ M',J xs M' W'/\Wr (fun k=>n₀<=k) W W'/\∀ k,M' k->M k\/W.heap.size<=k
theorem Zsc {g:Operand}{ps:Array Tmp}{assign body:Code}{Q:Exit->Act->World->Prop}{a:Act}{w:World}(hro:F.round=none)(h1:1<=n){gf:Nat}{lb:Array Value}(hg:a.eval g=.func (.func gf) #[] lb)
 (hFg:F.fn gf) (eg:∀ args w,(callFunc gf args).run P w=.ok (.enter gf args) w) {encs:α->Array Value} {n₀:Nat} {Bx:Nat->Prop} {xs:List α} {d:Nat} (hseq:Gives F (n-1) d P gf lb encs n₀ Bx xs w) (hn0:n₀<=w.heap.size)
 (hBx:∀ k,Bx k->k<w.heap.size) (hps:∀ x,(encs x).size=ps.size) (I:List α->(Nat->Prop)->World->Prop) (hOw:Zra n₀ I) (hMi:Minds n₀ I) (M0:Nat->Prop) (hM0:∀ k,Bx k->¬ M0 k) (h0:I [] M0 w)
 (Ax:α->Act->World->World->Prop) (hAx:∀ x a' W W1 W2 l,l<W.heap.size->Ax x a' W W1->Wr (· = l) W1 W2->Ax x a' W W2)
 (hassign:∀ (l:Nat) (pre:List α) (x:α) (M:Nat->Prop) (W:World) (K:Act->World->Prop),I pre M W->(∀ a' W',Wr (fun _=>False) W W'->Ax x a' W W'->K a' W') ->
  assign.wpIn (F.inRound l) (n-1-1-d) P (Exit.then K (fun _ _ _=>False)) { tmps:=(ps.zip (encs x)).foldl (fun t (p,v)=>t.setIfInBounds p v) a.tmps,defers:=[] } W)
 (hbody:∀ (l:Nat) (pre:List α) (x:α) (a':Act) (M:Nat->Prop) (W0 W:World),I pre M W->Ax x a' W0 W->W0.heap.size<=W.heap.size->w.heap.size<=W0.heap.size->(∃ suf,pre++x::suf=xs)->body.wpIn (F.inRound l) (n-1-1-d) P
  (fun e _ W'=>match e with|.normal=>∃ M',I (pre++[x]) M' W'/\Wr (fun k=>M k\/W0.heap.size<=k) W W'/\(∀ k,M' k->M k\/W0.heap.size<=k)|_=>False) a' W)
 (hdone:∀ (D:Nat) (M:Nat->Prop) (W:World),w.heap.size<=D->¬ M D->I xs M W->(∀ k,M k->M0 k\/w.heap.size<=k)->Wr (fun k=>n₀<=k) w W->W.heap[D]?=some (.deferred (some []))->Q .normal { a with defers:={ target:=.collected D,args:=#[] }::a.defers } W) :
 (Code.rangeFunc g ps assign body).wpIn F n P Q a w:=by
 refine wpIn_rangeFunc ?_;intro fn gm;rw[hro]
 let rec0:LoopState->Loop:=fun st=>{ state:=st,pending:=none,fn,tmps:=a.tmps,params:=ps,assign,body,defers:=w.heap.size }
 obtain⟨W1,g1⟩:∃ W1,W1=(w.alloc (.deferred (some []))).alloc (.loop (rec0 .ready)):=⟨_,rfl⟩;have gr:W1.heap[w.heap.size+1]?=some (.loop (rec0 .ready)):=by
  rw[g1];have:=World.alloc_heap_new (w.alloc (.deferred (some []))) (.loop (rec0 .ready))
  rwa [World.size_alloc] at this
 have gt:W1.heap[w.heap.size]?=some (.deferred (some [])):=by
  rw[g1];exact(Below.heap_alloc _ _ _ (by simp)).trans (World.alloc_heap_new w _)
 have g5:∀ N:Nat->Prop,Wr N w W1:=fun N=>by rw[g1];exact((Wr.refl N w).alloc _).alloc _
 have g2:=hOw [] M0 w h0;have gs:I [] M0 W1:=hMi _ _ _ _ h0 (g5 _)
 refine⟨w.heap.size+1,[{ target:=.collected w.heap.size,args:=#[] }],W1,{ target:=.fn (.func gf) lb,args:=#[.func (.yield (w.heap.size+1)) #[] #[]] },W1,gf,
  #[.func (.yield (w.heap.size+1)) #[] #[]]++lb,W1,?_,?_,?_,?_,fun _=>h1,?_⟩
 . rw[g1];exact run_enterLoop_outer _ _ _ _ _
 . simp only[resolve,hg];simp[go_sem]
 . intro f' gb;simp[Target.leads] at gb;subst gb;exact hFg
 . simp[invoke,go_sem,eg]
 refine(hseq (w.heap.size+1)
  (fun pre N W=>∃ M,I pre M W/\(∀ k,N k↔(M k\/k=w.heap.size+1\/k=w.heap.size))/\¬ M (w.heap.size+1)/\¬ M w.heap.size/\(∀ k,M k->M0 k\/w.heap.size<=k) /\
   W.heap[w.heap.size+1]?=some (.loop (rec0 .ready))/\W.heap[w.heap.size]?=some (.deferred (some [])))
  (fun k=>M0 k\/k=w.heap.size+1\/k=w.heap.size) W1 ?_ ?_ (g5 _) ?_ ?_ ?_).mono ?_
 .
  rintro pre N W ⟨M,hi,hN,_,_,_,hl,hd⟩ k hk;rcases(hN k).1 hk with hk|hk|hk
  . exact hOw _ _ _ hi k hk
  . subst hk;exact⟨by omega,(Array.getElem?_eq_some_iff.1 hl).1⟩
  . subst hk;exact⟨hn0,(Array.getElem?_eq_some_iff.1 hd).1⟩
 .
  rintro pre N W W' ⟨M,hi,hN,h2,h3,h4,hl,hd⟩ hw;refine⟨M,hMi _ _ _ _ hi ?_,hN,h2,h3,h4,?_,?_⟩
  . exact⟨hw.os,hw.tape,hw.output,hw.size,fun k hk hn=>hw.keep k hk (fun⟨a,b⟩=>hn ⟨a,fun e=>b ((hN k).2 (.inl e))⟩)⟩
  . exact(hw.keep _ (Array.getElem?_eq_some_iff.1 hl).1 (fun⟨_,b⟩=>b ((hN _).2 (.inr (.inl rfl))))).trans hl
  . exact(hw.keep _ (Array.getElem?_eq_some_iff.1 hd).1 (fun⟨_,b⟩=>b ((hN _).2 (.inr (.inr rfl))))).trans hd
 .
  intro k hk hm;have:=hBx k hk;rcases hm with hm|hm|hm
  . exact hM0 k hk hm
  . omega
  . omega
 .
  rintro pre x N W ⟨M,hi,hN,h2,h3,h4,hl,hd⟩ gc;have g9:w.heap.size+1<W.heap.size:=(Array.getElem?_eq_some_iff.1 hl).1;have hy:=run_yield (P:=P) (args:=encs x) hl (hps x);refine⟨fn,_,assign,body,hy,roundIn_of_wpIn gm (hassign _ pre x M W _ hi ?_)⟩;intro a' Wa g0 gq;have gi:=(g0.keep _ g9 (fun h=>h)).trans hl;have go:=(g0.keep _ (by omega) (fun h=>h)).trans hd;have g6:w.heap.size+1<Wa.heap.size:=by have:=g0.size;omega
  refine⟨_,run_beginRound gi rfl,?_⟩;have gk:I pre M Wa:=hMi _ _ _ _ hi (g0.mono (fun _ h=>h.elim));have g7:Wr (· = w.heap.size+1) Wa (Wa.putObj (w.heap.size+1) (.loop { rec0 .ready with state:=.busy })):=(Wr.refl (· = w.heap.size+1) Wa).putObj (l:=w.heap.size+1) (.inl rfl) _;have gj:I pre M (Wa.putObj (w.heap.size+1) (.loop { rec0 .ready with state:=.busy })):=hMi _ _ _ _ gk (g7.mono (fun k e=>by have e':k=w.heap.size+1:=e;subst e';exact⟨by omega,h2⟩));have gh:(Wa.putObj (w.heap.size+1) (.loop { rec0 .ready with state:=.busy })).heap[w.heap.size+1]?=some (.loop { rec0 .ready with state:=.busy }):=World.putObj_heap_same g6;have gn:(Wa.putObj (w.heap.size+1) (.loop { rec0 .ready with state:=.busy })).heap[w.heap.size]?=some (.deferred (some [])):=(World.putObj_heap_other (by omega)).trans go;refine wpIn_mono (hbody _ pre x a' M W _ gj (hAx _ _ _ _ _ _ g9 gq g7) (by simp;exact g0.size) (by omega) gc) ?_;intro e a3 W3 hp;cases e with
  | normal =>
    obtain⟨M',gl,g4,g3⟩:=hp;have ga:=(g4.keep _ (by simp;exact g6) (fun e=>by rcases e with e|e;exact h2 e;omega)).trans gh;have gp:=(g4.keep _ (by simp;omega) (fun e=>by rcases e with e|e;exact h3 e;omega)).trans gn;have gd:=(Array.getElem?_eq_some_iff.1 ga).1;have g8:¬ M' (w.heap.size+1):=fun e=>by rcases g3 _ e with h|h;exact h2 h;omega
    have gg:¬ M' w.heap.size:=fun e=>by rcases g3 _ e with h|h;exact h3 h;omega
    refine⟨_,_,run_endRound (P:=P) none ga,rfl,fun k=>M' k\/k=w.heap.size+1\/k=w.heap.size,⟨M',?_,fun k=>Iff.rfl,g8,gg,?_,World.putObj_heap_same gd,(World.putObj_heap_other (by omega)).trans gp⟩,?_,?_⟩
    . exact hMi _ _ _ _ gl ((Wr.refl _ _).putObj (.inl ⟨by omega,g8⟩) _)
    .
     intro k hk;rcases g3 k hk with h|h
     . exact h4 k h
     . right;omega
    .
     refine((((g0.mono (N:=N) (fun _ h=>h.elim)).putObj (l:=w.heap.size+1) (.inl ((hN _).2 (.inr (.inl rfl)))) _).trans (N:=N) g4 (fun k _ h=>h) (fun k hk h=>?_)).putObj (l:=w.heap.size+1) (.inl ((hN _).2 (.inr (.inl rfl)))) _);rcases h with h|h
     . exact(hN k).2 (.inl h)
     . omega
    .
     rintro k (hk|hk)
     .
      rcases g3 k hk with h|h
      . exact .inl ((hN k).2 (.inl h))
      . exact .inr h
     . exact .inl ((hN k).2 (.inr hk))
  | ret=>exact hp.elim
  | exit id=>exact hp.elim
  | goto t=>exact hp.elim
  | panic ch=>exact hp.elim
  | outgrown=>exact hp.elim
 . exact⟨M0,gs,fun k=>Iff.rfl,fun e=>by have:=(g2 _ e).2;omega,fun e=>by have:=(g2 _ e).2;omega,fun k h=>.inl h,gr,gt⟩
 .
  rintro e W2 ⟨⟨v,rfl⟩,N,⟨M,hi,hN,h2,h3,h4,hl,hd⟩,ge,_⟩;refine⟨none,_,run_endLoop (P:=P) hl (by simp[rec0]),hdone _ M _ (Nat.le_refl _) h3 ?_ h4 ?_ ((World.putObj_heap_other (by omega)).trans hd)⟩
  . exact hMi _ _ _ _ hi ((Wr.refl _ _).putObj (.inl ⟨by omega,h2⟩) _)
  . exact((g5 (fun k=>n₀<=k)).trans ge (fun _ _ h=>h) (fun _ _ h=>h)).putObj (.inl (by omega)) _
end
open Go.RowKit
structure Caught (sb:Nat)(er:Int)(evt:Bool)(ev:Ev)(w w':World):Prop where
 size:w.heap.size<=w'.heap.size
 os:w'.os=w.os
 tape:w'.tape=w.tape
 output:w'.output=w.output
 keep:∀ k,k<w.heap.size->k≠sb->w'.heap[k]?=w.heap[k]?
 blk:w'.heap[sb]?=some (.cells #[.int .i64 er,.bool evt,.int .i64 ev.after,.int .i64 ev.kind,.int .i64 ev.level] 245 (0,0))
theorem Zob {sb:Nat}{er:Int}{evt:Bool}{ev:Ev}{w:World}{a0 a1 a2 a3 a4:Value}(hs:w.heap[sb]?=some (.cells #[a0,a1,a2,a3,a4] 245 (0,0)))(ob:Obj) :
 Caught sb er evt ev w ((((((w.setCell ⟨sb,0,none⟩ (.int .i64 er)).setCell ⟨sb,1,none⟩ (.bool evt)).setCell ⟨sb,2,none⟩ (.int .i64 ev.after)).setCell ⟨sb,3,none⟩ (.int .i64 ev.kind)).setCell ⟨sb,4,none⟩ (.int .i64 ev.level)).alloc ob):=by
 have w1:=(Wr.refl (· = sb) w).setCell (p:=⟨sb,0,none⟩) (.inl rfl) (.int .i64 er);have h1:(w.setCell ⟨sb,0,none⟩ (.int .i64 er)).heap[sb]?=some (.cells #[.int .i64 er,a1,a2,a3,a4] 245 (0,0)):=Zae hs _
 generalize w.setCell ⟨sb,0,none⟩ (.int .i64 er)=W1 at *
 have w2:=w1.setCell (p:=⟨sb,1,none⟩) (.inl rfl) (.bool evt);have h2:(W1.setCell ⟨sb,1,none⟩ (.bool evt)).heap[sb]?=some (.cells #[.int .i64 er,.bool evt,a2,a3,a4] 245 (0,0)):=Zae h1 _
 generalize W1.setCell ⟨sb,1,none⟩ (.bool evt)=W2 at *
 have w3:=w2.setCell (p:=⟨sb,2,none⟩) (.inl rfl) (.int .i64 ev.after);have h3:(W2.setCell ⟨sb,2,none⟩ (.int .i64 ev.after)).heap[sb]?=some (.cells #[.int .i64 er,.bool evt,.int .i64 ev.after,a3,a4] 245 (0,0)):=Zae h2 _
 generalize W2.setCell ⟨sb,2,none⟩ (.int .i64 ev.after)=W3 at *
 have w4:=w3.setCell (p:=⟨sb,3,none⟩) (.inl rfl) (.int .i64 ev.kind);have h4:(W3.setCell ⟨sb,3,none⟩ (.int .i64 ev.kind)).heap[sb]?=some (.cells #[.int .i64 er,.bool evt,.int .i64 ev.after,.int .i64 ev.kind,a4] 245 (0,0)):=Zae h3 _
 generalize W3.setCell ⟨sb,3,none⟩ (.int .i64 ev.kind)=W4 at *
 have w5:=w4.setCell (p:=⟨sb,4,none⟩) (.inl rfl) (.int .i64 ev.level);have h5:(W4.setCell ⟨sb,4,none⟩ (.int .i64 ev.level)).heap[sb]?=some (.cells #[.int .i64 er,.bool evt,.int .i64 ev.after,.int .i64 ev.kind,.int .i64 ev.level] 245 (0,0)):=Zae h4 _
 generalize W4.setCell ⟨sb,4,none⟩ (.int .i64 ev.level)=W5 at *
 have w6:=w5.alloc ob;exact⟨w6.size,w6.os,w6.tape,w6.output,fun k hk g0=>w6.keep k hk g0,(Go.heap_alloc_old _ _ (Array.getElem?_eq_some_iff.1 h5).1).trans h5⟩
theorem Zlk (v:Value)(w:World):(Instr.typeAssert (.iface 245 v) 20 245 true).run prog w=.ok (.tuple #[v,.bool true]) w:=by
 simp[Instr.typeAssert,run_underlying underlying245,go_sem,Result.andThen]
theorem Zsi (dn st:Addr)(w:World)(hd:w.cell? dn=some (.bool true)) :
 CallsD prog 240 #[.pointer (some dn),.pointer (some st)] .returning w fun e u' w'=>e=.returned (.tuple #[])/\u'=.returning/\w'=w:=by
 refine callsD_of_wpS func240 rfl fun c₀ cs hu=>?_
 apply wpS_seq;apply wpS_seq;apply wpS_region;simp[wpOpsS,go_sem,hd,ntmps240,Exit.thenS];refine wpS_cond (t:=true) (by simp[Act.eval,Array.replicate]) ?_;simp only[if_true];refine wpS_of_wp (wp_ret ?_);cases c₀
 simp_all [Exit.thenS,bodyPostS,results,Tryz.results240]
theorem Zj8 (dn sb:Nat)(er:Int)(evt:Bool)(ev:Ev)(older:List PanicEntry)(w:World)(a0 a1 a2 a3 a4:Value)(hd:w.cell? ⟨dn,0,none⟩=some (.bool false))(hs:w.heap[sb]?=some (.cells #[a0,a1,a2,a3,a4] 245 (0,0))) :
 CallsD prog 240 #[.pointer (some ⟨dn,0,none⟩),.pointer (some ⟨sb,0,none⟩)] (.panicking ({ v:=.iface 245 (.agg #[.int .i64 er,.bool evt,.int .i64 ev.after,.int .i64 ev.kind,.int .i64 ev.level]),recovered:=false }::older)) w fun e u' w' =>
  e=.returned (.tuple #[])/\u'=.panicking ({ v:=.iface 245 (.agg #[.int .i64 er,.bool evt,.int .i64 ev.after,.int .i64 ev.kind,.int .i64 ev.level]),recovered:=true }::older) /\
  Caught sb er evt ev w w':=by
 refine callsD_of_wpS func240 rfl fun c₀ cs hu=>?_
 simp only[ntmps240,List.size_toArray,List.length_cons,List.length_nil,Nat.reduceAdd,Nat.reduceSub,Array.replicate_succ,Array.replicate_zero,List.push_toArray,List.append_toArray,List.nil_append,List.cons_append];apply wpS_seq;apply wpS_seq;apply wpS_region;simp[wpOpsS,go_sem,hd,Exit.thenS];refine wpS_cond (t:=false) (by simp[Act.eval]) ?_;simp only[Bool.false_eq_true,if_false];refine wpS_of_wp (wp_skip ?_);simp only[Exit.thenS];apply wpS_seq;apply wpS_region;simp[wpOpsS,go_sem,recoverD,hu,Exit.thenS];have lsb:sb<w.heap.size:=(Array.getElem?_eq_some_iff.1 hs).1;obtain⟨c0,c1,c2,c3,c4,f0⟩:=cells5 hs;refine wpS_of_wp (wp_mono (Q:=fun e a' w'=>e=.normal/\a'.defers=[]/\Caught sb er evt ev w w') ?_ ?_)
 .
  have HS:=Hd hs;have g0:=fun v=>Zlk v w
  clear hs;go_wp2_with fail
  first|exact⟨rfl,rfl,Zob HS.out _⟩|exact Zob HS.out _
 . rintro e a' w' ⟨rfl,h1,h2⟩;refine⟨h1,_,rfl,_,results_none rfl _ _ _,?_⟩;exact⟨rfl,rfl,h2⟩
open Go.RowKit
abbrev Stop:=Int×Bool×Ev
def Ya8 (r:Option Stop):Value :=
 match r with
 | some (er,evt,ev)=>.agg #[.int .i64 er,.bool evt,.int .i64 ev.after,.int .i64 ev.kind,.int .i64 ev.level]
 | none=>.agg #[.int .i64 0,.bool false,.int .i64 0,.int .i64 0,.int .i64 0]
def tryW (mb:Nat)(w:World):World :=
 ((w.alloc (.cells #[.int .i64 0,.bool false,.int .i64 0,.int .i64 0,.int .i64 0] 245)).alloc (.cells #[.bool false] 4)).alloc (.cells #[.pointer (some ⟨mb,0,none⟩)] 243)
def Zzv (w:World)(R:Option Stop->World->Prop)(x:Ending)(w':World):Prop :=
 ∃ r W',R r W'/\Wr (fun k=>k=w.heap.size\/k=w.heap.size+1) W' w'/\x=.returned (.tuple #[Ya8 r,.bool r.isNone])
def Zw6 (gf:Nat)(lb:Array Value)(mb:Nat)(w:World)(R:Option Stop->World->Prop):Prop :=
 Calls prog gf (#[.pointer (some ⟨w.heap.size+2,0,none⟩)]++lb) (tryW mb w) fun e W' =>
  (tryW mb w).heap.size<=W'.heap.size/\W'.heap[w.heap.size]?=(tryW mb w).heap[w.heap.size]?/\W'.heap[w.heap.size+1]?=(tryW mb w).heap[w.heap.size+1]? /\
   ((e=.returned (.tuple #[])/\R none W')\/∃ er evt ev,e=Zcg er evt ev/\R (some (er,evt,ev)) W')
theorem Zsk {s:Nat}{W:World}(h0:W.heap[s]?=some (.cells #[.int .i64 0,.bool false,.int .i64 0,.int .i64 0,.int .i64 0] 245 (0,0)))(h1:W.heap[s+1]?=some (.cells #[.bool false] 4 (0,0))){W2:World}
 (hW:W2=(((((W.setCell ⟨s,0,none⟩ (.int .i64 0)).setCell ⟨s,1,none⟩ (.bool false)).setCell ⟨s,2,none⟩ (.int .i64 0)).setCell ⟨s,3,none⟩ (.int .i64 0)).setCell ⟨s,4,none⟩ (.int .i64 0)).setCell ⟨s+1,0,none⟩ (.bool true)) :
 Wr (fun k=>k=s\/k=s+1) W W2/\W2.heap[s]?=some (.cells #[.int .i64 0,.bool false,.int .i64 0,.int .i64 0,.int .i64 0] 245 (0,0))/\W2.heap[s+1]?=some (.cells #[.bool true] 4 (0,0)):=by
 have n1:s+1≠s:=by omega
 have w1:=(Wr.refl (fun k=>k=s\/k=s+1) W).setCell (p:=⟨s,0,none⟩) (.inl (.inl rfl)) (.int .i64 0);have a1:(W.setCell ⟨s,0,none⟩ (.int .i64 0)).heap[s]?=some (.cells #[.int .i64 0,.bool false,.int .i64 0,.int .i64 0,.int .i64 0] 245 (0,0)):=Zae h0 _;have b1:=(Zai (p:=⟨s,0,none⟩) (w:=W) n1 (.int .i64 0)).trans h1
 generalize W.setCell ⟨s,0,none⟩ (.int .i64 0)=W1 at *
 have w2:=w1.setCell (p:=⟨s,1,none⟩) (.inl (.inl rfl)) (.bool false);have a2:(W1.setCell ⟨s,1,none⟩ (.bool false)).heap[s]?=some (.cells #[.int .i64 0,.bool false,.int .i64 0,.int .i64 0,.int .i64 0] 245 (0,0)):=Zae a1 _;have b2:=(Zai (p:=⟨s,1,none⟩) (w:=W1) n1 (.bool false)).trans b1
 generalize W1.setCell ⟨s,1,none⟩ (.bool false)=W3 at *
 have w3:=w2.setCell (p:=⟨s,2,none⟩) (.inl (.inl rfl)) (.int .i64 0);have a3:(W3.setCell ⟨s,2,none⟩ (.int .i64 0)).heap[s]?=some (.cells #[.int .i64 0,.bool false,.int .i64 0,.int .i64 0,.int .i64 0] 245 (0,0)):=Zae a2 _;have b3:=(Zai (p:=⟨s,2,none⟩) (w:=W3) n1 (.int .i64 0)).trans b2
 generalize W3.setCell ⟨s,2,none⟩ (.int .i64 0)=W4 at *
 have w4:=w3.setCell (p:=⟨s,3,none⟩) (.inl (.inl rfl)) (.int .i64 0);have a4:(W4.setCell ⟨s,3,none⟩ (.int .i64 0)).heap[s]?=some (.cells #[.int .i64 0,.bool false,.int .i64 0,.int .i64 0,.int .i64 0] 245 (0,0)):=Zae a3 _;have b4:=(Zai (p:=⟨s,3,none⟩) (w:=W4) n1 (.int .i64 0)).trans b3
 generalize W4.setCell ⟨s,3,none⟩ (.int .i64 0)=W5 at *
 have w5:=w4.setCell (p:=⟨s,4,none⟩) (.inl (.inl rfl)) (.int .i64 0);have a5:(W5.setCell ⟨s,4,none⟩ (.int .i64 0)).heap[s]?=some (.cells #[.int .i64 0,.bool false,.int .i64 0,.int .i64 0,.int .i64 0] 245 (0,0)):=Zae a4 _;have b5:=(Zai (p:=⟨s,4,none⟩) (w:=W5) n1 (.int .i64 0)).trans b4
 generalize W5.setCell ⟨s,4,none⟩ (.int .i64 0)=W6 at *
 subst hW;exact⟨w5.setCell (p:=⟨s+1,0,none⟩) (.inl (.inr rfl)) _,(Zai (Ne.symm n1) _).trans a5,Zae b5 _⟩
theorem Yba (mb gf:Nat)(lb:Array Value)(w:World)(R:Option Stop->World->Prop)(eg:∀ args w,(callFunc gf args).run prog w=.ok (.enter gf args) w)(hop:Zw6 gf lb mb w R) :
 Calls prog 221 #[.pointer (some ⟨mb,0,none⟩),.func (.func gf) #[] lb] w (Zzv w R):=by
 have ge:∀ (fn:Fn) (first cap:Array Value) (w:World),(Instr.makeFunc fn first cap).run prog w=.ok (.func fn first cap) w:=fun _ _ _ _=>rfl
 unfold Zw6 at hop;obtain⟨W,hW⟩:∃ W,W=tryW mb w:=⟨_,rfl⟩;have HW:Hid (_=W):=Hd hW.symm;rw[<- hW] at hop;have g8:=Hd hop;clear hop hW
 go_enter_defers func221,ntmps221
 go_wp2_with fail
 change Calls _ _ _ (tryW mb w) _
 have g4:(tryW mb w).heap[w.heap.size]?=some (.cells #[.int .i64 0,.bool false,.int .i64 0,.int .i64 0,.int .i64 0] 245 (0,0)):=by
  unfold tryW;exact(Go.heap_alloc_old _ _ (by simp;omega)).trans ((Go.heap_alloc_old _ _ (by simp)).trans (heap_alloc_new w _))
 have g3:(tryW mb w).heap[w.heap.size+1]?=some (.cells #[.bool false] 4 (0,0)):=by
  unfold tryW;refine(Go.heap_alloc_old _ _ (by simp)).trans ?_;have:=heap_alloc_new (w.alloc (.cells #[.int .i64 0,.bool false,.int .i64 0,.int .i64 0,.int .i64 0] 245)) (.cells #[.bool false] 4)
  rwa [World.size_alloc] at this
 rw[HW.out] at g4 g3 ⊢;have gb:W.heap.size=w.heap.size+3:=by rw[<- HW.out];simp[tryW]
 refine g8.out.mono ?_;rintro e W' ⟨gc,g7,g6,g5⟩;have g1:=g7.trans g4;have g0:=g6.trans g3;obtain⟨c0,c1,c2,c3,c4,f0⟩:=cells5 g1;have c5:W'.cell? ⟨w.heap.size+1,0,none⟩=some (.bool false):=by rw[cell_of_row W' _ 0 _ _ _ g0];rfl
 have f1:∀ k,W'.frozen? ⟨w.heap.size+1,k,none⟩=false:=fun k=>by simp[World.frozen?,g0]
 obtain⟨s,hs⟩:∃ s,s=w.heap.size:=⟨_,rfl⟩;rw[<- hs] at g1 g0 c0 c1 c2 c3 c4 f0 c5 f1 ⊢;have hs1:s<W'.heap.size:=by omega
 have gd:s+1<W'.heap.size:=by omega
 have ga:=Hd g1;have g9:=Hd g0;have HS:=Hd hs;clear g4 g3 g7 g6 g1 g0 hs gb gc g8 HW;rcases g5 with ⟨rfl,hr⟩|⟨er,evt,ev,rfl,hr⟩
 .
  have HR:=Hd hr;clear hr;go_wp2_with fail;obtain⟨W2,g2⟩:∃ W2,W2=(((((W'.setCell ⟨s,0,none⟩ (.int .i64 0)).setCell ⟨s,1,none⟩ (.bool false)).setCell ⟨s,2,none⟩ (.int .i64 0)).setCell ⟨s,3,none⟩ (.int .i64 0)).setCell ⟨s,4,none⟩ (.int .i64 0)).setCell ⟨s+1,0,none⟩ (.bool true):=⟨_,rfl⟩;obtain⟨q1,q2,q3⟩:=Zsk ga.out g9.out g2;rw[<- g2];clear g2 c0 c1 c2 c3 c4 f0 c5 f1;obtain⟨c0,c1,c2,c3,c4,f0⟩:=cells5 q2;have c5:W2.cell? ⟨s+1,0,none⟩=some (.bool true):=by rw[cell_of_row W2 _ 0 _ _ _ q3];rfl
  refine leaves_cons (f:=240) (args:=#[.pointer (some ⟨s+1,0,none⟩),.pointer (some ⟨s,0,none⟩)]) (by simp) (by simp[go_sem]) ?_;refine(Zsi ⟨s+1,0,none⟩ ⟨s,0,none⟩ _ c5).mono ?_;rintro e u' w'' ⟨rfl,rfl,rfl⟩;simp[Leaves,settle,results,Tryz.results221,go_sem,c0,c1,c2,c3,c4,c5];exact⟨none,W',HR.out,by rw[<- HS.out];exact q1,rfl⟩
 .
  have HR:=Hd hr;clear hr;unfold Zcg;go_wp2_with fail;refine leaves_cons (f:=240) (args:=#[.pointer (some ⟨s+1,0,none⟩),.pointer (some ⟨s,0,none⟩)]) (by simp) (by simp[go_sem]) ?_;refine(Zj8 (s+1) s er evt ev [] _ _ _ _ _ _ c5 ga.out).mono ?_;rintro e u' w'' ⟨rfl,rfl,hc⟩;have q3:=(hc.keep (s+1) gd (by omega)).trans g9.out;clear c0 c1 c2 c3 c4 f0 c5 f1;obtain⟨c0,c1,c2,c3,c4,f0⟩:=cells5 hc.blk;have c5:w''.cell? ⟨s+1,0,none⟩=some (.bool false):=by rw[cell_of_row w'' _ 0 _ _ _ q3];rfl
  simp[Leaves,settle,results,Tryz.results221,go_sem,c0,c1,c2,c3,c4,c5];exact⟨some (er,evt,ev),W',HR.out,⟨hc.os,hc.tape,hc.output,hc.size,fun k hk hn=>hc.keep k hk (fun e=>hn (.inl (e.trans HS.out)))⟩,rfl⟩
open Go.RowKit
abbrev Ali (s:Nat)(W W':World):Prop:=Wr (fun k=>k=s\/k=s+1) W W'
structure Yca (gf:Nat)(lb:Array Value)(mb:Nat)(I:Nat->Bool->World->Prop)(Fin:Int->World->Prop)(n:Nat)(room:Bool)(W:World)(R:Option Stop->World->Prop):Prop where
 op:Zw6 gf lb mb W R
 fin:∀ W1 W2,R none W1->Ali W.heap.size W1 W2->Fin 0 W2
 event:∀ er ev W1 W2,R (some (er,true,ev)) W1->Ali W.heap.size W1 W2->Calls prog 222 #[.pointer (some ⟨mb,0,none⟩),evA ev] W2 fun x w'=>x=.returned (.tuple #[])/\∃ n',n'<n/\I n' false w'
 full:∀ ev W1 W2,R (some (7,false,ev)) W1->Ali W.heap.size W1 W2->room=false->Calls prog 223 #[.pointer (some ⟨mb,0,none⟩)] W2 fun x w'=>(∃ v,x=.returned v)/\I n true w'
 err:∀ er ev W1 W2,R (some (er,false,ev)) W1->Ali W.heap.size W1 W2->¬ (er=7/\room=false)->Fin er W2
theorem Ya5 (mb gf:Nat)(lb:Array Value)(w:World)(eg:∀ args w,(callFunc gf args).run prog w=.ok (.enter gf args) w)(I:Nat->Bool->World->Prop)(Fin:Int->World->Prop)
 (hI:∀ n room W,I n room W->∃ R,Yca gf lb mb I Fin n room W R) (n0:Nat) (h0:I n0 false w) :
 Calls prog 186 #[.pointer (some ⟨mb,0,none⟩),.func (.func gf) #[] lb] w fun x w'=>∃ er,x=.returned (.int .i64 er)/\Fin er w':=by
 have HI:=Hd hI;clear hI
 go_enter func186,ntmps186
 go_wp2_with fail
 go_loopg [5] (2*n0+1) (fun gk s5 wx=>∃ (n:Nat) (room:Bool),s5=.bool room/\I n room wx/\gk=2*n+(if room then 0 else 1))
 case atStart=>exact⟨n0,false,rfl,h0,rfl⟩
 case round =>
  obtain⟨n,room,rfl,hi,g4⟩:=hrel;obtain⟨R,hR⟩:=HI.out n room wr hi;have g6:=Hd (Yba mb gf lb wr R eg hR.op);have HR:=Hd hR;have g5:=Hd g4;clear hi hR g4 h0;go_wp2_with fail;refine g6.out.mono ?_;rintro x w2 ⟨r,W1,hr,hw,rfl⟩;obtain⟨bx,g8⟩:∃ bx,bx=w2.heap.size:=⟨_,rfl⟩;cases r with
  | none =>
    have HF:=Hd fun W2 (h:Wr (fun _=>False) w2 W2)=>HR.out.fin W1 W2 hr (hw.trans h (fun _ _ e=>e) (fun _ _ e=>e.elim))
    clear hr hw;unfold Ya8;go_wp2_with fail;go_ret;exact⟨0,rfl,HF.out _ ((Wr.refl _ w2).alloc _)⟩
  | some st =>
    obtain⟨er,evt,ev⟩:=st;unfold Ya8;cases evt with
    | true =>
      have HF:=Hd fun W2 (h:Wr (fun _=>False) w2 W2)=>HR.out.event er ev W1 W2 hr (hw.trans h (fun _ _ e=>e) (fun _ _ e=>e.elim))
      clear hr hw;go_wp2_with fail;refine(HF.out _ ((Wr.refl _ w2).alloc _)).mono ?_;rintro x w3 ⟨rfl,n',g3,g0⟩;have g7:=Hd g3;have g2:=Hd g0;clear g3 g0;go_wp2_with fail
      go_roundg (2*n'+1)
      case rel=>exact⟨n',false,rfl,g2.out,rfl⟩
      case measure=>have h1:=g7.out;have h2:=g5.out;omega
    | false =>
      have HW:=Hd fun W2 (h:Wr (fun _=>False) w2 W2)=>hw.trans h (N:=fun k=>k=wr.heap.size\/k=wr.heap.size+1) (fun _ _ e=>e) (fun _ _ e=>e.elim)
      have g1:=Hd hr;clear hr hw
      by_cases h7:er=7
      .
       subst h7;cases room with
       | false =>
         have HF:=Hd fun W2 (h:Wr (fun _=>False) w2 W2)=>HR.out.full ev W1 W2 g1.out (HW.out W2 h) rfl
         go_wp2_with fail;refine(HF.out _ ((Wr.refl _ w2).alloc _)).mono ?_;rintro x w3 ⟨⟨vv,rfl⟩,g0⟩;have g2:=Hd g0;clear g0;go_wp2_with fail
         go_roundg (2*n)
         case rel=>exact⟨n,true,rfl,g2.out,rfl⟩
         case measure=>have h2:=g5.out;simp at h2;omega
       | true =>
         have HF:=Hd fun W2 (h:Wr (fun _=>False) w2 W2)=>HR.out.err 7 ev W1 W2 g1.out (HW.out W2 h) (by simp)
         go_wp2_with fail;go_ret;exact⟨_,rfl,HF.out _ ((Wr.refl _ w2).alloc _)⟩
      .
       have H7:((er:Int) == 7)=false:=by simpa using h7
       have HF:=Hd fun W2 (h:Wr (fun _=>False) w2 W2)=>HR.out.err er ev W1 W2 g1.out (HW.out W2 h) (fun e=>h7 e.1)
       go_wp2_with fail;go_ret;exact⟨_,rfl,HF.out _ ((Wr.refl _ w2).alloc _)⟩
open Go.RowKit
theorem Zzd {d:Zag}{V:Nat->BF}(hk:Zan d V):Acy (Zab d) (fun i=>d.vars.length-lvE d.vars.length (levN d) (Zab d) (2*i)):=by
 have e2:∀ i:Nat,2*i/2=i:=fun i=>by omega
 have hl:∀ i b,Zab d i=some b->lvE d.vars.length (levN d) (Zab d) (2*i)=levN d b.v:=fun i b h=>by unfold lvE;rw[e2,h]
 have hh:∀ e,lvE d.vars.length (levN d) (Zab d) (2*(e/2))=lvE d.vars.length (levN d) (Zab d) e:=fun e=>Zg0 (e2 _)
 refine⟨hk.dag.none0,hk.dag.okLo,hk.dag.okHi,fun i b c h1 h2=>?_,fun i b c h1 h2=>?_⟩
 . have a1:=hk.dag.lvLo _ _ h1;have a2:=hk.dag.lt _ (hk.dag.var _ _ h1);have a3:=hh b.lo;rw[hl i b h1];omega
 . have a1:=hk.dag.lvHi _ _ h1;have a2:=hk.dag.lt _ (hk.dag.var _ _ h1);have a3:=hh b.hi;rw[hl i b h1];omega
theorem Yao {o:Own}{w:World}{sb:Nat}{d:Zag}{V:Nat->BF}(h:Zav o w sb d)(hlt:Zaj o w)(hk:Zan d V)(f:Nat)(hf:okE (Zab d) f)(htop:∀ y b,Zab d y=some b->Za0 d y<1099511627776) :
 Calls prog 158 #[.pointer (some ⟨sb,0,none⟩),.int .i64 f] w fun x w'=>x=.returned (.int .i64 0)/\∃ d',Zav o w' sb d'/\Zaj o w'/\Zga d d' f 1/\Chg Zar o o w w':=by
 obtain⟨s,h⟩:=h;have g0:=h.edge_lt hf;rcases hf with h0|⟨b,hb⟩
 . refine(Zlo h hlt hk.live f (by unfold eMax;omega) h0).mono ?_;rintro e w' ⟨d',h1,h2,h3,h4,h5⟩;exact⟨h1,d',⟨s,h2⟩,h3,h4,h5⟩
 . refine(Zln h hlt hk.live (Zzd hk) f (b:=b) hb htop).mono ?_;rintro e w' ⟨d',h1,h2,h3,h4,h5⟩;exact⟨h1,d',⟨s,h2⟩,h3,h4,h5⟩
theorem Zga.ok {d d':Zag}{V:Nat->BF}{f:Nat}{sg:Int}(r:Zga d d' f sg)(hk:Zan d V):Zan d' V:=by
 have hl:levN d'=levN d:=by funext v;unfold levN;rw[r.level]
 exact⟨by rw[r.vars,hl,r.nodes];exact hk.dag,r.live,by rw[r.vars,r.nodes,r.tab];exact hk.tab,by rw[r.clen];exact hk.clen,by rw[r.vars];exact hk.small,by rw[r.vars,hl];exact hk.inv,by rw[r.vars,hl];exact hk.vlt⟩
theorem Znj (hs:List (Int×Nat))(n:Int)(f i:Nat)(hn:1<n):Zb8 (hs++[(n,f)]) i=Zb8 hs i+(if f/2=i then 1 else 0):=by
 unfold Zb8;rw[List.filter_append,List.length_append];congr 1
 by_cases e:f/2=i
 . simp[e,hn]
 .
  have:(f/2 == i)=false:=by simp[e]
  simp[e,this,List.filter]
theorem Zwf (hs:List (Int×Nat))(i:Nat):Zb8 hs i<=hs.length:=List.length_filter_le _ _
structure Gave (K:Law)(o:Own)(w:World)(mb:Nat)(m:ManD)(V:Nat->BF)(f:Nat)(o':Own)(w':World)(m':ManD):Prop where
 is:Zdo (K m'.d V) o' w' mb m'
 lt:Zaj o' w'
 chg:Chg (fun _=>True) o o' w w'
 ok:Zsf m' V
 hs:m'.hs=m.hs++[(m.next,f)]
 next:m'.next=m.next+1
 waits:m'.waits=m.waits
 calls:m'.calls=m.calls
 nodes:Zab m'.d=Zab m.d
 vars:m'.d.vars=m.d.vars
 level:m'.d.level=m.d.level
 room:m'.d.pool.room=m.d.pool.room
 many:m'.d.pool.many=m.d.pool.many
theorem Zox {m:ManD}{d':Zag}{f:Nat}(h:Zcb m)(r:Zga m.d d' f 1)(hf:okE (Zab m.d) f)(h0:Zab m.d 0=none):Zcb { m with d:=d',hs:=m.hs++[(m.next,f)],next:=m.next+1 }:=by
 have hn:=h.next
 refine⟨?_,by simp[h.zero],by simp[h.one],?_,by dsimp only;omega,?_,?_,?_⟩
 . dsimp only;rw[List.map_append,List.nodup_append];refine⟨h.nodup,by simp,fun a ha b hb=>?_⟩;simp at hb;subst hb;rintro rfl;obtain⟨p,hp,e⟩:=List.mem_map.1 ha;have:=(h.lt p hp).2;omega
 .
  intro p hp;rcases List.mem_append.1 hp with hp|hp
  . have:=h.lt p hp;dsimp only;omega
  . simp at hp;subst hp;dsimp only;omega
 .
  intro p hp;dsimp only;rw[r.nodes];rcases List.mem_append.1 hp with hp|hp
  . exact h.ok p hp
  . simp at hp;subst hp;exact hf
 . have:=h.len;simp;omega
 .
  intro i b hb;dsimp only at hb ⊢;rw[r.nodes] at hb;have hi:i≠0:=by rintro rfl;rw[h0] at hb;cases hb
  rw[r.ext i hi,h.refs i b hb,Znj _ _ _ _ (by omega)];unfold toE;split<;>simp
theorem Zya {k:Int}{v:Value}{l:List (Int×Value)}(h:∀ p∈l,p.1≠k):putL k v l=l++[(k,v)]:=by
 have h1:=Zea.2 h;unfold getL at h1;unfold putL;cases e:Zdi k l 0 with
 | none=>rfl
 | some p=>rw[e] at h1;cases h1
theorem Zb7.setMap {F:Phi}{o:Own}{w w':World}{mb:Nat}{m:ManD}{s:ManW}(h:Zb7 F o w mb m s)(hlt:Zaj o w){hs':List (Int×Nat)}(hm:Zb9 w' s.hb (Value.int .i64) (encH hs'))(hg:w.grownBy w' (some s.hb)):Zb7 F o w' mb { m with hs:=hs' } s:=by
 have k:∀ {g r},o g=some r->r ≠ .handles->w'.heap[g]?=w.heap[g]?:=fun hq hr=>hg.block _ (hlt _ _ hq) (fun e=>by cases e;have:=h.ownh;rw[hq] at this;cases this;exact hr rfl)
 exact⟨h.own,(k h.own (by simp)).trans h.blk,h.store.keepR (fun g r hq hr=>k hq (by rintro rfl;simp[Zar,Zfd] at hr)) (fun _ _ h=>h),h.memo.keep (fun g r hq hr=>k hq (by rintro rfl;rcases hr with e|e<;>cases e)) (fun _ _ h=>h),h.ownh,hm,
  h.waits.keep (fun g hq=>k hq (by simp)) (fun _ h=>h)⟩
theorem kI:Zmk prog 3 (Value.int .i64):=Zo6 underlying3
theorem Zm1 {K:Law}(hK:Zbh K){o:Own}{w:World}{mb:Nat}{m:ManD}{V:Nat->BF}(hm:Zdo (K m.d V) o w mb m)(hlt:Zaj o w)(hk:Zsf m V)(f:Nat)(hf:okE (Zab m.d) f)(hb:m.next<1099511627776) :
 Calls prog 107 #[.pointer (some ⟨mb,0,none⟩),.int .i64 f] w fun x w'=>x=.returned (.int .i64 m.next)/\∃ o' m',Gave K o w mb m V f o' w' m':=by
 obtain⟨s,hm⟩:=hm;obtain⟨c0,c1,c2,c3,c4,c5,f0⟩:=cells6 hm.blk
 have gg:=Hd (Yao hm.store hlt hk.store f hf (fun y b hy=>by
  rw[hk.handles.refs y b hy];have h1:=Zwf m.hs y;have h2:=hk.handles.len;omega))
 have gk:=hk.handles.next
 have HM:=Hd hm;have HL:=Hd hlt;have HK:=Hd hk;have HF:=Hd hf;have gd:=Hd hK;clear hm hlt hk hf hK
 go_enter func107,ntmps107
 go_wp2_with fail;refine gg.out.mono ?_;rintro x w1 ⟨rfl,d',g8,ga,hr,g3⟩;have g5:=HM.out.setStore HL.out g8 g3;have g0:∀ p∈encH m.hs,p.1≠m.next:=by
  intro p hp e0;obtain⟨q,hq,rfl⟩:=List.mem_map.1 hp;have h1:=HK.out.handles.lt q hq;have h2:q.1<m.next:=h1.2
  have h3:q.1=m.next:=e0
  omega
 have gh:=Hd g0;have g7:=Hd g5;have gc:=Hd ga;have HR:=Hd hr;have gj:=Hd g3;clear g8 ga hr g3 g0 c0 c1 c2 c3 c4 c5 f0;obtain⟨c0,c1,c2,c3,c4,c5,f0⟩:=cells6 g5.blk;clear g5;go_upto_region 3 with fail
 go_wp2_with (refine Zda (l := encH m.hs) rfl _ _ _ rfl kI underlying131 m.next (.int .i64 (f : Nat)) rfl rfl rfl g7.out.map ?_
              intro w2 g2 g1;have g9:Zaj o w2:=gc.out.mono g1.size;rw[Zya gh.out] at g2;have g4:=g7.out.setMap gc.out (hs':=m.hs++[(m.next,f)]) (by simpa [encH] using g2) g1;have gb:Chg (fun _=>True) o o w w2:=gj.out.any.grown g1 (fun g hg=>by cases hg;exact⟨_,g7.out.ownh,trivial⟩);have g6:=Hd g4;have gf:=Hd g9;have gi:=Hd gb;clear c0 c1 c2 c3 c4 c5 f0 g2 g1 g9 gb;obtain⟨c0,c1,c2,c3,c4,c5,f0⟩:=cells6 g4.blk;clear g4)
 go_ret;have hr:=HR.out;have ge:Zb7 (K m.d V) o (w2.setCell ⟨mb,3,none⟩ (.int .i64 (m.next+1))) mb { m with d:=d',hs:=m.hs++[(m.next,f)],next:=m.next+1 } s:=g6.out.field rfl rfl rfl rfl rfl g6.out.waits rfl;refine⟨rfl,o,_,⟨⟨s,ge.mono fun op a b c r h=>gd.out.same _ _ _ _ _ _ _ _ hr.vars hr.level hr.nodes h⟩,gf.out.mono (by simp[World.setCell]),gi.out.setCell (p:=⟨mb,3,none⟩) g6.out.own trivial _,⟨hr.ok HK.out.store,Zox HK.out.handles hr HF.out HK.out.store.dag.none0⟩,rfl,rfl,rfl,rfl,hr.nodes,hr.vars,hr.level,hr.room,hr.many⟩⟩
open Go.RowKit
def doW (gop:Nat)(lop:Array Value)(w:World):World:=(w.alloc (.cells #[.func (.func gop) #[] lop] 202)).alloc (.cells #[.int .i64 0] 151)
theorem Zsn:∀ args w,(callFunc 187 args).run prog w=.ok (.enter 187 args) w:=enters_of func187 (by kernel_rfl) rfl
theorem Ybm (w:World)(g:Fn)(fs cs:Array Value):(binOp .eql 202 (.func g fs cs) .nilFunc).run prog w=.ok (.bool false) w:=by
 have hd:Op.maxDepth=9999+1:=rfl;have h:(Op.equal 202 (.func g fs cs) .nilFunc).run prog w=.ok false w:=by
  unfold Op.equal;rw[hd];unfold Op.equalIn;simp only[Sem.run_bind,run_underlying underlying202,Result.andThen_ok];simp
 simp only[binOp];simp[h]
open Go.RowKit
def varF (v:Nat):BF:=fun ρ=>ρ v
theorem Zqj:∀ args w,(callFunc 138 args).run prog w=.ok (.enter 138 args) w:=enters_of func138 (by kernel_rfl) rfl
open Go.RowKit
theorem Zn2 (w:World):(zeroValue 151).run prog w=.ok (.int .i64 0) w:=by
 have s:(prog.info? 151).map (fun i=>i.zero)=some (some (.int .i64 0)):=by kernel_rfl
 cases hi:prog.info? 151 with
 | none=>rw[hi] at s;cases s
 | some i =>
   rw[hi] at s;simp only[Option.map_some,Option.some.injEq] at s;simp[zeroValue,typeInfo,hi,s]
theorem Zer {hs:List (Int×Nat)}(h:(hs.map Prod.fst).Nodup):((encH hs).map Prod.fst).Nodup:=by
 have:(encH hs).map Prod.fst=hs.map Prod.fst:=by simp[encH]
 rw[this];exact h
section
variable {F:Phi}{o:Own}{w:World}{mb:Nat}{m:ManD}{s:ManW}
theorem Zeo (h:Zb7 F o w mb m s)(hn:(m.hs.map Prod.fst).Nodup){k:Int}{f:Nat}(hk:(k,f)∈m.hs) :
 (Instr.lookup 131 (.map (some s.hb)) (.int .i64 k) true).run prog w=.ok (.tuple #[.int .i64 f,.bool true]) w:=by
 have h1:=h.map.lookup kI underlying131 Zn2 k true;have h2:getL (encH m.hs) k=some (.int .i64 (f:Nat)):=Zcx (Zer hn) (List.mem_map.2 ⟨(k,f),hk,rfl⟩);rw[h1,h2];rfl
theorem Yas (h:Zb7 F o w mb m s){k:Int}(hk:∀ f,(k,f)∉m.hs) :
 (Instr.lookup 131 (.map (some s.hb)) (.int .i64 k) true).run prog w=.ok (.tuple #[.int .i64 0,.bool false]) w:=by
 have h1:=h.map.lookup kI underlying131 Zn2 k true
 have h2:getL (encH m.hs) k=none:=Zea.2 (by
  rintro p hp rfl;obtain⟨q,hq,rfl⟩:=List.mem_map.1 hp;exact hk q.2 hq)
 rw[h1,h2];rfl
end
theorem Zdh {F:Phi}{o:Own}{w:World}{xb mb:Nat}{m:ManD}(h:Zdo F o w mb m)(hx:Zdz o w xb mb)(hn:(m.hs.map Prod.fst).Nodup){k:Int}{f:Nat}(hk:(k,f)∈m.hs) :
 Calls prog 142 #[.pointer (some ⟨xb,0,none⟩),.int .i64 k] w fun x w'=>x=.returned (.int .i64 f)/\w=w':=by
 obtain⟨s,h⟩:=h;obtain⟨c0,c1,c2,c3,c4,c5,f0⟩:=cells6 h.blk;have cx:=hx.cell;have hl:=Zeo h hn hk;clear h hx hn hk
 go_enter func142,ntmps142
 go_wp2_with fail;go_ret;exact⟨rfl,rfl⟩
theorem Zyj {F:Phi}{o:Own}{w:World}{mb:Nat}{m:ManD}(h:Zdo F o w mb m)(hn:(m.hs.map Prod.fst).Nodup){k l:Int}{f g:Nat}(hk:(k,f)∈m.hs)(hl:(l,g)∈m.hs) :
 Calls prog 84 #[.pointer (some ⟨mb,0,none⟩),.int .i64 k,.int .i64 l] w fun x w'=>x=.returned (.tuple #[.bool (f == g),.int .i64 0])/\w=w':=by
 obtain⟨s,h⟩:=h;obtain⟨c0,c1,c2,c3,c4,c5,f0⟩:=cells6 h.blk;have h1:=Zeo h hn hk;have h2:=Zeo h hn hl;have HE:Hid (((f:Int) == (g:Int))=(f == g)):=by
  show ((f:Int) == (g:Int))=(f == g)
  by_cases e:f=g
  . subst e;rw[beq_self_eq_true,beq_self_eq_true]
  . rw[beq_eq_false_iff_ne.2 (show (f:Int)≠g by omega),beq_eq_false_iff_ne.2 e]
 clear h hn hk hl
 go_enter func84,ntmps84
 go_wp2_with fail
 go_ret2
 exact⟨by rw[<- HE.out];rfl,rfl⟩
theorem Yan {F:Phi}{o:Own}{w:World}{mb:Nat}{m:ManD}(h:Zdo F o w mb m) :
 Calls prog 80 #[.pointer (some ⟨mb,0,none⟩)] w fun x w'=>x=.returned (.int .i64 m.hs.length)/\w=w':=by
 obtain⟨s,h⟩:=h;obtain⟨c0,c1,c2,c3,c4,c5,f0⟩:=cells6 h.blk;have hl:=h.map.size (P:=prog) underlying131 3;have e:(encH m.hs).length=m.hs.length:=by simp[encH]
 rw[e] at hl;clear h e
 go_enter func80,ntmps80
 go_wp2_with fail;go_ret;exact⟨rfl,rfl⟩
open Go.RowKit
end Go.Proofs.YtkbegdkpboklpaaGreat

namespace Go.Proofs.YtkbegdkpboklpaaGreat
open Go.Proofs.Tryz
open Go.RowKit
theorem Zqi:∀ args w,(callFunc 140 args).run prog w=.ok (.enter 140 args) w:=enters_of func140 (by kernel_rfl) rfl
def box3 (a b c:Int)(w:World):World:=((w.alloc (.cells #[.int .i64 a] 3)).alloc (.cells #[.int .i64 b] 3)).alloc (.cells #[.int .i64 c] 3)
theorem Zz2 (a b c:Int)(w:World):Below w.heap.size w (box3 a b c w)/\(box3 a b c w).cell? ⟨w.heap.size,0,none⟩=some (.int .i64 a)/\(box3 a b c w).cell? ⟨w.heap.size+1,0,none⟩=some (.int .i64 b)/\(box3 a b c w).cell? ⟨w.heap.size+2,0,none⟩=some (.int .i64 c):=by
 have h0:=heap_alloc_new w (.cells #[.int .i64 a] 3);have h1:=heap_alloc_new (w.alloc (.cells #[.int .i64 a] 3)) (.cells #[.int .i64 b] 3);have h2:=heap_alloc_new ((w.alloc (.cells #[.int .i64 a] 3)).alloc (.cells #[.int .i64 b] 3)) (.cells #[.int .i64 c] 3);rw[World.size_alloc] at h1;rw[World.size_alloc,World.size_alloc] at h2;have a0:(box3 a b c w).heap[w.heap.size]?=some (.cells #[.int .i64 a] 3 (0,0)):=(Go.heap_alloc_old _ _ (by simp;omega)).trans ((Go.heap_alloc_old _ _ (by simp)).trans h0);have a1:(box3 a b c w).heap[w.heap.size+1]?=some (.cells #[.int .i64 b] 3 (0,0)):=(Go.heap_alloc_old _ _ (by simp)).trans h1;have a2:(box3 a b c w).heap[w.heap.size+2]?=some (.cells #[.int .i64 c] 3 (0,0)):=h2;exact⟨((Zad w _).alloc (by simp) _).alloc (by simp;omega) _,by rw[cell_of_row _ _ 0 _ _ _ a0];rfl,by rw[cell_of_row _ _ 0 _ _ _ a1];rfl,by rw[cell_of_row _ _ 0 _ _ _ a2];rfl⟩
open Go.RowKit
def man0 (n room:Nat):ManD:=⟨store0 n room,[(0,1),(1,0)],2,[],0⟩
theorem nodes0 (n room:Nat):Zab (store0 n room)=fun _=>none:=by
 funext i;have ht:(pool0 room).tk i=false:=by
  unfold Zam.tk pool0;cases i with
  | zero=>rfl
  | succ i=>rfl
 unfold Zab store0 Zam.get;simp[ht]
theorem Ziy (n v:Nat)(h:v<n):(List.range n).getD v 0=v:=by simp[List.getD,h]
theorem Zwr (n room:Nat)(hn:n<=64):Zan (store0 n room) (fun _ _=>true):=by
 have hl:∀ v,v<n->levN (store0 n room) v=v:=fun v hv=>Ziy n v hv
 have hlen:(store0 n room).vars.length=n:=by simp[store0]
 have g0:∀ i b,Zab (store0 n room) i=some b->False:=fun i b h=>by rw[nodes0] at h;cases h
 refine⟨⟨fun _=>rfl,by rw[nodes0],fun i b h=>(g0 i b h).elim,fun u v hu hv e=>?_,fun v hv=>?_,fun i b h=>(g0 i b h).elim,fun i b h=>(g0 i b h).elim,fun i b h=>(g0 i b h).elim,fun i b h=>(g0 i b h).elim,fun i b h=>(g0 i b h).elim,fun i b h=>(g0 i b h).elim,fun i j b h=>(g0 i b h).elim,fun i b h=>(g0 i b h).elim⟩,
  ?_,fun v hv lo hi id=>⟨fun h=>absurd (show (none:Option Nat)=some id from h) (by simp),fun h=>(g0 _ _ h).elim⟩,by simp[store0],by rw[hlen];exact hn,fun v hv=>?_,fun i hi=>?_⟩
 . rw[hlen] at hu hv;rw[hl u hu,hl v hv] at e;exact e
 . rw[hlen] at hv ⊢;rw[hl v hv];exact hv
 .
  refine⟨⟨fun i b h=>(g0 i b h).elim,fun i b h=>(g0 i b h).elim⟩,?_,fun i b h=>(g0 i b h).elim⟩;have h1:Zem (store0 n room).pool.at_.length (Zab (store0 n room)) (Zaz (store0 n room))=Zaw (store0 n room).pool.at_.length (dead1 (Zab (store0 n room)) (Zaz (store0 n room))):=rfl;rw[h1,nodes0];have h2:dead1 (fun _=>none) (Zaz (store0 n room)) 0=0:=rfl
  show (0:Int)=Zaw 1 _
  simp[Zaw,h2]
 . rw[hlen] at hv;rw[hl v hv];exact Ziy n v hv
 . rw[hlen] at hi ⊢;have e:(store0 n room).vars.getD i 0=i:=Ziy n i hi;rw[e];exact⟨hi,hl i hi⟩
theorem Yau (n room:Nat)(hn:n<=64):Zsf (man0 n room) (fun _ _=>true) :=
 ⟨Zwr n room hn,⟨by simp[man0],by simp[man0],by simp[man0],by simp[man0],by simp[man0],fun p hp=>by simp[man0] at hp;rcases hp with rfl|rfl<;>exact .inl rfl,by simp[man0],fun i b h=>by rw[show (man0 n room).d=store0 n room from rfl,nodes0] at h;cases h⟩⟩
def Zh5:Law:=fun d V op a b c r=>op=1->IteP d V a b c r
theorem Zeu:Zbh Zh5:=⟨fun d V a b c r=>⟨fun h=>h rfl,fun h _=>h⟩,fun d V d' V' op a b c r hk hk' x h e=>(h e).ext x hk hk',fun d d' V op a b c r h1 h2 h3 h e=>by
 have q:=h e;have hl:levN d'=levN d:=by funext v;unfold levN;rw[h2]
 have hm:minL d' a b c=minL d a b c:=by unfold minL;rw[h1,hl,h3]
 exact⟨by rw[h3];exact q.okA,by rw[h3];exact q.okB,by rw[h3];exact q.okC,by rw[h3];exact q.okR,q.val,by rw[hm,h1,hl,h3];exact q.lev⟩⟩
theorem Yaw {F:Phi}(o:Own)(n room:Nat)(w:World)(hlt:Zaj o w)(hn:n<=64)(h1:1<=room)(h2:room<=1048576) :
 Calls prog 43 #[.int .i64 n,.int .i64 room] w fun x w'=>∃ mb o',x=.returned (.tuple #[.pointer (some ⟨mb,0,none⟩),.int .i64 0])/\Zdo F o' w' mb (man0 n room)/\Chg (fun _=>True) o o' w w'/\Zaj o' w'/\w.heap.size<=mb:=by
 have HS:=Hd (Zvx o n room w hlt hn h1 h2);clear hlt hn h1 h2
 go_enter func43,ntmps43
 go_wp2_with fail;refine HS.out.mono ?_;rintro x w1 ⟨sb,o1,rfl,ge,gk,gh,gr⟩;have gn:=Hd ge;have gq:=Hd gk;have g3:=Hd gh;clear ge gk gh;have gu:=Zew (P:=prog) w1 131;obtain⟨wA,gt,gg,g2⟩:=(Zh8 w1 (Value.int .i64)).update (P:=prog) kI underlying131 0 (.int .i64 1);obtain⟨wB,gs,gb,g6⟩:=gg.update (P:=prog) kI underlying131 1 (.int .i64 0);have gi:=g3.out.allocR (.map #[] 0) .handles;have gj:Chg (fun _=>True) o (Zcu o1 w1.heap.size .handles) w wB :=
  ((gq.out.any.allocR (r:=.handles) g3.out (.map #[] 0) trivial).grown g2 (fun g hg=>by cases hg;exact⟨_,Zbf _ _ _,trivial⟩)).grown g6 (fun g hg=>by cases hg;exact⟨_,Zbf _ _ _,trivial⟩)
 have gc:Zaj (Zcu o1 w1.heap.size .handles) wB:=gi.mono (Nat.le_trans g2.size g6.size);have ga:∀ g r,o1 g=some r->g≠w1.heap.size:=fun g r hg e=>by have:=g3.out g r hg;omega
 have g5:∀ g r,o1 g=some r->wB.heap[g]?=w1.heap[g]?:=fun g r hg=>by
  have a0:=g3.out g r hg;have a1:g<(w1.alloc (.map #[] 0)).heap.size:=by simp;omega
  rw[g6.block g (Nat.lt_of_lt_of_le a1 g2.size) (by intro e;cases e;exact ga _ _ hg rfl),g2.block g a1 (by intro e;cases e;exact ga _ _ hg rfl)];exact Go.heap_alloc_old _ _ a0
 have go:=Hd (gn.out.keepR (o':=Zcu o1 w1.heap.size .handles) (fun g r hg _=>g5 g r hg) (fun g r hg=>Zc9 g3.out (Nat.le_refl _) hg));have gp:Hid (Zb9 wB w1.heap.size (Value.int .i64) [(0,.int .i64 1),(1,.int .i64 0)]):=Hd gb;have gm:=Hd gj;have gl:=Hd gc;have HME:=Hd (Zxx (Zcu o1 w1.heap.size .handles) F wB gc);have gv:w1.heap.size<wB.heap.size:=gb.lt;clear gg g2 gb g6 gi gj gc ga g5;go_wp2_with fail;refine HME.out.mono ?_;rintro x w2 ⟨me,o2,rfl,gf,g0,g1,gw⟩;have g7:=go.out.keepR (o':=o2) (w':=w2) (fun g r hg hr=>g0.same gl.out hg (by rintro rfl;simp[Zar,Zfd] at hr)) g0.ext;have g4:=gp.out.keepB (g0.same gl.out (Zbf o1 w1.heap.size .handles) (by simp));have g8:=g0.ext _ _ (Zbf o1 w1.heap.size .handles);have HF:Hid (∀ w3,w3=w2.alloc (.cells #[.pointer (some ⟨sb,0,none⟩),.pointer (some ⟨me,0,none⟩),.map (some w1.heap.size),.int .i64 2,.slice none 0 0,.int .i64 0] 133)->Zdo F (Zcu o2 w2.heap.size .man) w3 w2.heap.size (man0 n room)/\Chg (fun _=>True) o (Zcu o2 w2.heap.size .man) w w3/\Zaj (Zcu o2 w2.heap.size .man) w3/\w.heap.size<=w2.heap.size):=by
  refine Hd ?_;rintro w3 rfl;have gd:∀ g r,o2 g=some r->(w2.alloc (.cells #[.pointer (some ⟨sb,0,none⟩),.pointer (some ⟨me,0,none⟩),.map (some w1.heap.size),.int .i64 2,.slice none 0 0,.int .i64 0] 133)).heap[g]?=w2.heap[g]?:=fun g r hg=>Go.heap_alloc_old _ _ (g1 g r hg)
  have g9:∀ g r,o2 g=some r->Zcu o2 w2.heap.size .man g=some r:=fun g r hg=>Zc9 g1 (Nat.le_refl _) hg
  exact⟨⟨⟨sb,me,w1.heap.size,.slice none 0 0⟩,Zbf _ _ _,heap_alloc_new w2 _,g7.keepR (fun g r hg _=>gd g r hg) g9,gf.keep (fun g r hg _=>gd g r hg) g9,g9 _ _ g8,g4.keepB (gd _ _ g8),Zb1.nil _ _⟩,
   (gm.out.trans g0.any).allocR g1 _ trivial,g1.allocR _ _,(gm.out.trans g0.any).size⟩
 clear g7 g4 g8 gf g0 g1;go_wp2_with fail
 go_ret2
 obtain⟨a1,a2,a3,a4⟩:=HF.out _ rfl;exact⟨_,_,rfl,a1,a2,a3,a4⟩
open Go.RowKit
section
variable {F:Phi}{o:Own}{w:World}{sb mb:Nat}{d:Zag}{m:ManD}
theorem Znw (h:Zav o w sb d):Calls prog 123 #[.pointer (some ⟨sb,0,none⟩)] w fun x w'=>x=.returned (.int .i64 d.vars.length)/\w=w':=by
 obtain⟨s,h⟩:=h;obtain⟨c0,c1,c2,c3,c4,f0⟩:=cells5 h.blk;obtain⟨d0,d1,_⟩:=cells2 h.lev;obtain⟨a,cap,hv,_⟩:=h.vars.slice;rw[hv] at d0;clear h hv
 go_enter func123,ntmps123
 go_wp2_with fail;go_ret;exact⟨rfl,rfl⟩
theorem Zkp (h:Zdo F o w mb m):Calls prog 58 #[.pointer (some ⟨mb,0,none⟩)] w fun x w'=>x=.returned (.int .i64 m.d.vars.length)/\w=w':=by
 obtain⟨s,h⟩:=h;obtain⟨c0,c1,c2,c3,c4,c5,f0⟩:=cells6 h.blk;have HP:=Hd (Znw h.store);clear h
 go_enter func58,ntmps58
 go_wp2_with fail;refine HP.out.mono ?_;rintro x w' ⟨rfl,rfl⟩;go_wp2_with fail;go_ret;exact⟨rfl,rfl⟩
end
open Go.RowKit
structure Zbz (w:World)(a:Option Addr)(bs:List Bool):Prop where
 len:bs.length<=1000000
 cells:∀ k,k<bs.length->∃ b off,a=some ⟨b,off,none⟩/\w.cell? ⟨b,off+k,none⟩=some (.bool (bs.getD k false))
theorem Zbz.below {w w':World}{a:Option Addr}{bs:List Bool}(h:Zbz w a bs)(hb:Below w.heap.size w w'):Zbz w' a bs :=
 ⟨h.len,fun k hk=>by
  obtain⟨b,off,rfl,hc⟩:=h.cells k hk;exact⟨b,off,rfl,(hb.cell (p:=⟨b,off+k,none⟩) (Zaa hc)).trans hc⟩⟩
def Zcc (bs:List Bool):Nat->Bool:=fun v=>bs.getD v false
theorem Zxe {F:Phi}{o:Own}{w:World}{mb:Nat}{m:ManD}{V:Nat->BF}(h:Zdo F o w mb m)(hlt:Zaj o w)(hk:Zsf m V){k:Int}{f:Nat}(hkf:(k,f)∈m.hs)(a:Option Addr)(c:Nat)(bs:List Bool)(hbs:Zbz w a bs) :
 Calls prog 134 #[.pointer (some ⟨mb,0,none⟩),.int .i64 k,.slice a bs.length c] w fun x w'=>x=.returned (.tuple #[.bool (ef V f (Zcc bs)),.int .i64 0])/\Below w.heap.size w w':=by
 obtain⟨s,h⟩:=h;obtain⟨c0,c1,c2,c3,c4,c5,f0⟩:=cells6 h.blk;have gp:=Zeo h hk.handles.nodup hkf;have HM:=Hd h;have gi:=Hd hlt;have HK:=Hd hk.store;have gm:=Hd (hk.handles.ok _ hkf);have gs:=Hd hbs;have gt:=hbs.len;clear h hlt hk hkf hbs
 go_enter func134,ntmps134
 go_wp2_with fail
 go_loopg [8] (m.d.vars.length-lvE m.d.vars.length (levN m.d) (Zab m.d) f) (fun gk s8 wx=>∃ e:Nat,s8=.int .i64 e/\okE (Zab m.d) e/\ef V e (Zcc bs)=ef V f (Zcc bs)/\Below w.heap.size w wx/\gk=m.d.vars.length-lvE m.d.vars.length (levN m.d) (Zab m.d) e)
 case atStart=>exact⟨f,rfl,gm.out,rfl,Below.refl _ _,rfl⟩
 case round =>
  obtain⟨e,rfl,g0,gc,hB,gb⟩:=hrel;clear c0 c1 c2 c3 c4 c5 f0 gp;have hm:=HM.out.below gi.out hB;obtain⟨c0,c1,c2,c3,c4,c5,f0⟩:=cells6 hm.blk;have gd:e<eMax:=by
   obtain⟨ss,go⟩:=hm.store;have:=go.edge_lt g0;unfold eMax;omega
  have HC:=Hd (fun W=>Zh1 e W gd);have HA:=Hd (Zg6 hm.store (gi.out.mono hB.size) HK.out e g0);have g5:=Hd gc;have HB:=Hd hB;have g4:=Hd gb;clear hm gd gc hB gb;cases hb:Zab m.d (e/2) with
  | none =>
    have h0:e/2=0:=by
     rcases g0 with h|⟨b,gh⟩
     . exact h
     . rw[hb] at gh;cases gh
    have he:decide (enode e=0)=true:=by simp[enode,h0]
    rw[he] at HC;have HR:Hid (ef V f (Zcc bs)=((e:Int) == 0)):=by
     show _=_
     rw[<- g5.out];have h1:=HK.out.dag.one (Zcc bs);have h2:e=0\/e=1:=by omega
     rcases h2 with rfl|rfl<;>simp[ef,h1]
    clear g0 hb h0 he;go_wp2_with fail;refine(HC.out _).mono ?_;rintro x w' ⟨rfl,rfl⟩;go_wp2_with fail
    go_ret2
    exact⟨by rw[HR.out];rfl,HB.out⟩
  | some b =>
    have g8:=HK.out.dag.var _ _ hb;have g6:lvE m.d.vars.length (levN m.d) (Zab m.d) e=levN m.d b.v:=by unfold lvE;rw[hb]
    have ge:=Zfe HK.out g0 g8 (by rw[g6];exact Nat.le_refl _);have gf:cofs m.d e b.v=(eflip b.lo (eneg e),eflip b.hi (eneg e)):=by unfold cofs;rw[hb];simp
    rw[gf] at ge;obtain⟨k1,k2,k3,k4,k5⟩:=ge;have k5:=k5 (Zcc bs);dsimp only at k1 k2 k3 k4 k5;have g7:=HK.out.dag.lt _ g8;have ga:decide (enode e=0)=false:=by
     have:enode e≠0:=by rintro h0;have h1:e/2=0:=h0;rw[h1,HK.out.dag.none0] at hb;cases hb
     simp[this]
    rw[ga] at HC;unfold atV at HA;rw[hb] at HA;obtain⟨L,hL⟩:∃ L,L=eflip b.lo (eneg e):=⟨_,rfl⟩;obtain⟨H,hH⟩:∃ H,H=eflip b.hi (eneg e):=⟨_,rfl⟩;rw[<- hL,<- hH] at k5;rw[<- hL] at k1 k3;rw[<- hH] at k2 k4;dsimp only at HA;rw[<- hL,<- hH] at HA;rw[g6] at g4;have gl:=Hd k1;have gr:=Hd k2;have gj:=Hd k3;have gq:=Hd k4;have g1:=Hd k5;have g9:=Hd g7;clear g0 hb g8 g6 gf k1 k2 k3 k4 k5 g7 ga hL hH;go_wp2_with fail;refine(HC.out _).mono ?_;rintro x w' ⟨rfl,rfl⟩;go_wp2_with fail;refine HA.out.mono ?_;rintro x w2 ⟨rfl,gg⟩;have HB2:=Hd (HB.out.trans (gg.mono HB.out.size));clear gg c0 c1 c2 c3 c4 c5 f0
    by_cases hv:b.v<bs.length
    .
     obtain⟨b0,off,ha,g2⟩:=(gs.out.below HB2.out).cells b.v hv;subst ha;have gn:(b.v:Int)<bs.length:=by omega
     have hx:Zcc bs b.v=bs.getD b.v false:=rfl;rw[<- hx] at g2;cases g3:Zcc bs b.v with
     | true =>
       rw[g3] at g2 g1;clear g3 hx;go_wp2_with fail
       go_roundg (m.d.vars.length-lvE m.d.vars.length (levN m.d) (Zab m.d) H)
       case rel=>exact⟨H,rfl,gr.out,by rw[<- g5.out,g1.out];rfl,HB2.out,rfl⟩
       case measure=>have h1:=g4.out;have h2:=gq.out;have h3:=g9.out;omega
     | false =>
       rw[g3] at g2 g1;clear g3 hx;go_wp2_with fail
       go_roundg (m.d.vars.length-lvE m.d.vars.length (levN m.d) (Zab m.d) L)
       case rel=>exact⟨L,rfl,gl.out,by rw[<- g5.out,g1.out];rfl,HB2.out,rfl⟩
       case measure=>have h1:=g4.out;have h2:=gj.out;have h3:=g9.out;omega
    .
     have gn:¬ (b.v:Int)<bs.length:=by omega
     have hx:Zcc bs b.v=false:=by unfold Zcc;simp[List.getD,List.getElem?_eq_none (Nat.le_of_not_lt hv)]
     rw[hx] at g1;clear hx;go_wp2_with fail
     go_roundg (m.d.vars.length-lvE m.d.vars.length (levN m.d) (Zab m.d) L)
     case rel=>exact⟨L,rfl,gl.out,by rw[<- g5.out,g1.out];rfl,HB2.out,rfl⟩
     case measure=>have h1:=g4.out;have h2:=gj.out;have h3:=g9.out;omega
open Go.RowKit
structure Zse (T ST:TypeId)(z:Value)(b:Nat):Prop where
 under:prog.underlying ST=some (.slice T)
 info:(prog.info? T).map (fun i=>(i.zero,i.size,i.bytes))=some (some z,1,b)
 one:z.cells=#[z]
 small:b<=100
theorem Zhp:Zse 3 23 (.int .i64 0) 8:=⟨underlying23,by kernel_rfl,rfl,by omega⟩
theorem Zen:Zse 4 55 (.bool false) 1:=⟨underlying55,by kernel_rfl,rfl,by omega⟩
theorem Yab:Zse 55 42 (.slice none 0 0) 24:=⟨underlying42,by kernel_rfl,rfl,by omega⟩
def OwnC (T:TypeId)(w:World)(base:Nat)(v:Value)(xs:List Value):Prop:=w.ownsRow base T 1 v xs.length xs
section
variable {T ST:TypeId}{z:Value}{b:Nat}{w w':World}{base:Nat}{v:Value}{xs:List Value}
theorem OwnC.alloc (h:OwnC T w base v xs)(o:Obj):OwnC T (w.alloc o) base v xs:=World.ownsRow.alloc h o
theorem OwnC.lt (h:OwnC T w base v xs):∀ k,v.ownBlock=some k->base<=k/\k<w.heap.size:=World.ownsRow.lt h
theorem OwnC.same (h:OwnC T w base v xs)(hk:∀ k,v.ownBlock=some k->w'.heap[k]?=w.heap[k]?):OwnC T w' base v xs:=by
 refine⟨h.1,?_⟩;rcases h.2 with hn|⟨g,cap,cur,rfl,hb,g0,rest⟩
 . exact .inl hn
 . refine .inr ⟨g,cap,cur,rfl,hb,?_,rest⟩;rw[hk g rfl];exact g0
theorem OwnC.below (h:OwnC T w base v xs)(hb:Below w.heap.size w w'):OwnC T w' base v xs:=h.same fun k hk=>hb.block k (h.lt k hk).2
theorem OwnC.shape (h:OwnC T w base v xs)(hp:0<xs.length):∃ g cap,v=.slice (some ⟨g,0,none⟩) xs.length cap/\base<=g/\g<w.heap.size:=by
 rcases h.2 with ⟨_,h0⟩|⟨g,cap,cur,hv,hg,hh,_⟩
 . omega
 . exact⟨g,cap,hv,hg,(Array.getElem?_eq_some_iff.1 hh).1⟩
theorem OwnC.slice (h:OwnC T w base v xs):∃ a cap,v=.slice a xs.length cap/\(a=none->cap=0):=by
 rcases h.2 with ⟨hv,h0⟩|⟨g,cap,cur,hv,hg,hh,_⟩
 . exact⟨none,0,by rw[hv,h0],fun _=>rfl⟩
 . exact⟨_,cap,hv,by simp⟩
theorem OwnC.cell {g cap n:Nat}(h:OwnC T w base (.slice (some ⟨g,0,none⟩) n cap) xs)(k:Nat)(hk:k<xs.length):w.cell? ⟨g,k,none⟩=xs[k]?:=by
 have hn:n=xs.length:=by
  rcases h.2 with ⟨hv,_⟩|⟨_,_,_,hv,_⟩
  . cases hv
  . cases hv;rfl
 subst hn;exact World.ownsRow.cellAt h k (by omega)
theorem OwnC.frozen {g cap n:Nat}(h:OwnC T w base (.slice (some ⟨g,0,none⟩) n cap) xs)(k:Nat):w.frozen? ⟨g,k,none⟩=false:=by
 rcases h.2 with ⟨hv,_⟩|⟨_,_,_,hv,_⟩
 . cases hv
 . cases hv;exact World.ownsRow.frozenAt h k
theorem OwnC.stored {g cap n:Nat}(h:OwnC T w base (.slice (some ⟨g,0,none⟩) n cap) xs)(k:Nat)(y:Value):OwnC T (w.setCell ⟨g,k,none⟩ y) base (.slice (some ⟨g,0,none⟩) n cap) (xs.set k y):=by
 rcases h.2 with ⟨hv,_⟩|⟨_,_,_,hv,_⟩
 . cases hv
 . cases hv;have:=(World.ownsRow.stored h k y).1;unfold OwnC;rw[List.length_set];exact this
theorem OwnC.typed (h:OwnC T w base v xs):∀ k,v.ownBlock=some k->∃ cur,w.heap[k]?=some (.cells cur T (0,0)):=by
 intro k hk;rcases h.2 with ⟨rfl,_⟩|⟨g,cap,cur,rfl,_,hg,_⟩
 . cases hk
 . cases hk;exact⟨cur,hg⟩
theorem Zf0 (T:TypeId)(w:World)(base:Nat)(hb:base<=w.heap.size):OwnC T (w.alloc (.cells #[] T)) base (.slice (some ⟨w.heap.size,0,none⟩) 0 0) [] :=
 World.ownsRow_made w #[] 0 hb (by unfold maxLen;omega) (by simp)
theorem Zne (T:TypeId)(w:World)(base:Nat):OwnC T w base (.slice none 0 0) []:=World.ownsRow_nil w base T 1
theorem Zb6 (E:Zse T ST z b)(wr:World){ops:Array Oper}{rest:List Oper}{o:Oper}{a:Act}{Q:Exit->Act->World->Prop}{W:World}(hgd:o.guard=none)(s x:Operand)
 (ho:o.op=.call { callee:=.builtin .append,args:=#[s,x],argTypes:=#[ST,ST] })
 (base:Nat) (v:Value) (xs:List Value) (y:Value) (hs:a.eval s=v) {N:Nat} (hx:a.eval x=.slice (some ⟨N,0,none⟩) 1 1)
 (hW:W=wr.alloc (.cells #[y] T)) (hN:N=wr.heap.size) (hy:y.oneCell'=true)
 (hown:OwnC T wr base v xs) (hlen:xs.length<1099511627776) (hbase:base<=wr.heap.size)
 (h:∀ v' w',OwnC T w' base v' (xs++[y])->w'.os=wr.os->w'.tape=wr.tape->w'.output=wr.output->wr.heap.size<=w'.heap.size->Zcp v v' wr w'->wpList prog ops Q rest (a.put o.dst v') w') :
 wpList prog ops Q (o::rest) a W:=by
 obtain⟨i,hi,hz,g1,g3⟩:=info_parts E.info;subst hN;subst hW
 have g2:=E.small;refine wpList_append_own_at (w:=wr.alloc (.cells #[y] T)) hgd s x ST ho base T i z 1 b E.under hi hz g1 g3 (by rw[E.one];rfl) (by decide)
  v xs.length xs hs (hown.alloc _) ⟨wr.heap.size,0,none⟩ 1 1 [y] hx rfl (cell_one_new _ _ _) (by intro u hu;simp at hu;subst hu;exact hy) (by unfold maxLen;omega) (by
   have h1:(xs.length+1)*b<=1099511627776*100:=Nat.mul_le_mul (by omega) g2;omega) (by simp;omega) ?_
 intro v' w' h1 h2 _ g0;refine h v' w' ?_ h2.os h2.tape h2.output ?_ ⟨Zef h2,g0.imp id fun e=>⟨_,e,by simp⟩⟩
 . unfold OwnC;rw[List.length_append];exact h1
 . have:=h2.size;simp at this;omega
theorem Zhz {w0 wr w':World}{v':Value}(hb:Below base w0 wr)(hown:OwnC T wr base v xs)(h1:w'.os=wr.os)(h2:w'.tape=wr.tape)(h3:w'.output=wr.output)(h4:wr.heap.size<=w'.heap.size)(hk:Zcp v v' wr w')(hbase:base<=wr.heap.size):Below base w0 w' :=
 ⟨h1.trans hb.os,h2.trans hb.tape,h3.trans hb.output,Nat.le_trans hb.size h4,fun k hkb=>(hk.keep k (by omega) (fun e=>by have:=(hown.lt k e.symm).1;omega)).trans (hb.block k hkb)⟩
theorem Zee (E:Zse T ST z b){ops:Array Oper}{rest:List Oper}{o:Oper}{a:Act}{Q:Exit->Act->World->Prop}{wr:World}(hgd:o.guard=none)(l c:Operand)
 (ho:o.op=.makeSlice ST l c) (base:Nat) (w0:World) (L:Int) (n:Nat) (hl:a.eval l=.int .i64 L) (hc:a.eval c=.int .i64 L) (hL:L=n) (hn:n<1099511627776)
 (hbase:base<=wr.heap.size) (hb:Below base w0 wr)
 (h:∀ g w',OwnC T w' base (.slice (some ⟨g,0,none⟩) n n) (List.replicate n z)->Below base w0 w'->base<=w'.heap.size->Zfc none wr w'->base<=g->g=wr.heap.size ->
  wpList prog ops Q rest (a.put o.dst (.slice (some ⟨g,0,none⟩) n n)) w') :
 wpList prog ops Q (o::rest) a wr:=by
 obtain⟨i,hi,hz,g0,g2⟩:=info_parts E.info;have g1:=E.small
 refine wpList_make_full wr hgd l c ST ho base T i z 1 E.under hi hz g0 .i64 .i64 L L n hl hc hL hL (by
  have h1:i.bytes*n<=100*1099511627776:=Nat.mul_le_mul (by omega) (by omega);omega) (by unfold maxLen;omega) hbase ?_
 intro w' h1 h2;refine h wr.heap.size w' ?_ (hb.grown h2 hbase (by simp)) (by have:=h2.size;omega) (Zc5 h2) hbase rfl;unfold OwnC;have e1:List.replicate n z=(madeCells z.cells (n*1)).toList:=by
  rw[E.one];simp[madeCells];apply List.ext_getElem
  . simp
  . intro j h3 h4;simp[Nat.mod_one]
 rw[List.length_replicate,e1];exact h1
end
def Zbq (bs:List Bool):List Value:=bs.map Value.bool
theorem Zel (bs:List Bool):(Zbq bs).length=bs.length:=by simp[Zbq]
theorem getElem?_boolsV {bs:List Bool}{k:Nat}(h:k<bs.length):(Zbq bs)[k]?=some (.bool (bs.getD k false)):=by
 simp[Zbq,List.getD,h]
abbrev OwnB (w:World)(base:Nat)(v:Value)(bs:List Bool):Prop:=OwnC 4 w base v (Zbq bs)
def Zbw (w:World)(v:Value)(bs:List Bool):Prop:=∃ a c,v=.slice a bs.length c/\Zbz w a bs/\(a=none->c=0)
theorem Zbw.below {w w':World}{v:Value}{bs:List Bool}(h:Zbw w v bs)(hb:Below w.heap.size w w'):Zbw w' v bs:=by
 obtain⟨a,c,rfl,h1,h2⟩:=h;exact⟨a,c,rfl,h1.below hb,h2⟩
theorem Zbw.same {w w':World}{v:Value}{bs:List Bool}(h:Zbw w v bs)(hk:∀ k,v.ownBlock=some k->w'.heap[k]?=w.heap[k]?):Zbw w' v bs:=by
 obtain⟨a,c,rfl,h1,h2⟩:=h;refine⟨a,c,rfl,⟨h1.len,fun k g0=>?_⟩,h2⟩;obtain⟨g,off,rfl,hc⟩:=h1.cells k g0;exact⟨g,off,rfl,(World.cell?_of_block (w:=w) (a:=⟨g,off+k,none⟩) (hk g rfl)).trans hc⟩
theorem OwnC.boolsIs {w:World}{base:Nat}{v:Value}{bs:List Bool}(h:OwnB w base v bs)(hl:bs.length<=1000000):Zbw w v bs:=by
 obtain⟨a,c,hv,hn⟩:=h.slice;have g1:=hv;rw[Zel] at g1;refine⟨a,c,g1,⟨hl,fun k hk=>?_⟩,hn⟩;obtain⟨g,cap,g0,hb,hg⟩:=h.shape (by rw[Zel];omega);have ea:a=some ⟨g,0,none⟩:=by rw[hv] at g0;injection g0
 subst ea;refine⟨g,0,rfl,?_⟩;subst hv;rw[Nat.zero_add,h.cell k (by rw[Zel];exact hk),getElem?_boolsV hk]
theorem OwnC.setB {w:World}{base g cap n:Nat}{bs:List Bool}(h:OwnB w base (.slice (some ⟨g,0,none⟩) n cap) bs)(k:Nat)(y:Bool):OwnB (w.setCell ⟨g,k,none⟩ (.bool y)) base (.slice (some ⟨g,0,none⟩) n cap) (bs.set k y):=by
 have:=h.stored k (.bool y);unfold OwnB;rw[show Zbq (bs.set k y)=(Zbq bs).set k (.bool y) by simp[Zbq,List.map_set]];exact this
theorem OwnC.cellB {w:World}{base g cap n:Nat}{bs:List Bool}(h:OwnB w base (.slice (some ⟨g,0,none⟩) n cap) bs)(k:Nat)(hk:k<bs.length):w.cell? ⟨g,k,none⟩=some (.bool (bs.getD k false)):=by
 rw[h.cell k (by rw[Zel];exact hk),getElem?_boolsV hk]
open Go.RowKit
def bitB (i v:Nat):Bool:=decide (i/2^v%2=1)
def Zcq (i n:Nat):List Bool:=(List.range n).map (bitB i)
def tabB (n:Nat)(F:BF):List Bool:=(List.range (2^n)).map fun i=>F (Zcc (Zcq i n))
theorem Ze5 (i n:Nat):(Zcq i n).length=n:=by simp[Zcq]
theorem Za6 (n:Nat)(F:BF):(tabB n F).length=2^n:=by simp[tabB]
theorem Zfa {n:Nat}{F:BF}{i:Nat}(hi:i<2^n):(tabB n F).getD i false=F (Zcc (Zcq i n)):=by simp[tabB,List.getD,hi]
theorem Zfk {i n v:Nat}:Zcc (Zcq i n) v=(decide (v<n)&&bitB i v):=by
 unfold Zcc Zcq
 by_cases h:v<n
 . simp[List.getD,h]
 . simp[List.getD,h]
theorem Znx {bs:List Bool}{n:Nat}{F:BF}(hl:bs.length=2^n)(h:∀ i,i<2^n->bs.getD i false=F (Zcc (Zcq i n))):bs=tabB n F:=by
 refine List.ext_getElem (by rw[hl,Za6]) fun i h1 h2=>?_
 have:=h i (by omega);have e:(tabB n F).getD i false=F (Zcc (Zcq i n)):=Zfa (by omega);rw[<- this] at e;simpa [List.getD,h1,h2] using e.symm
theorem Zfn {k:Nat}(h:k<=20):2^k<=1048576:=Nat.pow_le_pow_right (by omega) h
theorem Zqc (v:Nat)(hv:v<=20)(w:World):Calls prog 169 #[.int .i64 v] w fun x w'=>x=.returned (.int .i64 (2^v:Nat))/\w=w':=by
 have HS:Hid (∀ k,k<=v->2^k<=1048576):=Hd fun k hk=>Zfn (by omega)
 go_enter func169,ntmps169
 go_wp2_with fail
 go_loopw [3,4] (fun s3 s4 wr=>∃ k p:Nat,k<=v/\s3=.int .i64 p/\s4=.int .i64 k/\w=wr/\Hid (2^k=p)) (fun _ s4 _=>v-(intOf s4).toNat)
 case atStart=>exact⟨0,1,Nat.zero_le _,rfl,rfl,rfl,Hd rfl⟩
 case round =>
  obtain⟨k,p,hk,rfl,rfl,rfl,HP⟩:=hrel
  by_cases g0:k<v
  .
   have hp:p<=1048576:=by rw[<- HP.out];exact HS.out k hk
   go_wp2_with fail;go_roundw
   case rel=>exact⟨k+1,2*p,by omega,by go_num,by go_num,by simp,Hd (by rw[Nat.pow_succ,HP.out];omega)⟩
   case measure=>simp[intOf];omega
  .
   have he:k=v:=by omega
   have HE:Hid (2^v=p):=by rw[<- he];exact HP
   clear he;go_wp2_with fail;go_ret;exact⟨by rw[HE.out];rfl,rfl⟩
theorem Zp2 (i v:Nat)(hi:i<=1048576)(hv:v<=20)(w:World):Calls prog 117 #[.int .i64 i,.int .i64 v] w fun x w'=>x=.returned (.bool (bitB i v))/\w=w':=by
 have HB:=Hd (Zqc v hv w);have g0:0<2^v:=Nat.pow_pos (by omega);have g2:=Zfn hv;obtain⟨p,hp⟩:∃ p,p=2^v:=⟨_,rfl⟩;rw[<- hp] at g0 g2 HB;have g1:i/p<=i:=Nat.div_le_self _ _;have HF:Hid (((wrap64 ((i:Int)/(p:Int))).tmod 2 == 1)=bitB i v):=by
  refine Hd ?_;unfold bitB;rw[<- hp];have e0:(i:Int)/(p:Int)=((i/p:Nat):Int):=rfl;rw[e0]
  generalize i/p=q at g1 ⊢
  rw[IntWalk.wrap64_in _ (by omega)];have e1:Int.tmod (q:Int) 2=((q%2:Nat):Int):=by rw[Int.tmod_eq_emod_of_nonneg (by omega)];rfl
  rw[e1]
  by_cases h:q%2=1
  . rw[h];rfl
  .
   have:((q%2:Nat):Int)≠1:=by omega
   rw[beq_eq_false_iff_ne.2 this,decide_eq_false h]
 clear hp
 go_enter func117,ntmps117
 go_wp2_with fail;refine HB.out.mono ?_;rintro x w' ⟨rfl,rfl⟩;go_wp2_with fail;go_ret;exact⟨by rw[<- HF.out];rfl,rfl⟩
theorem Znq {α:Type}(a b:α)(k n:Nat)(h:k<n):(List.replicate k a++List.replicate (n-k) b).set k a=List.replicate (k+1) a++List.replicate (n-(k+1)) b:=by
 have e:n-k=(n-(k+1))+1:=by omega
 rw[e,List.replicate_succ,List.set_append_right _ _ (by simp),List.length_replicate,Nat.sub_self,List.set_cons_zero,List.replicate_succ',List.append_assoc];rfl
theorem Ze8 (b:Bool)(n:Nat)(hn:n<=16)(w:World):Calls prog 38 #[.bool b,.int .i64 n] w fun x w'=>∃ g,x=.returned (.slice (some ⟨g,0,none⟩) (2^n) (2^n))/\OwnB w' w.heap.size (.slice (some ⟨g,0,none⟩) (2^n) (2^n)) (List.replicate (2^n) b)/\Below w.heap.size w w':=by
 have HS:Hid (∀ k,k<=n->2^k<=1048576):=Hd fun k hk=>Zfn (by omega)
 obtain⟨L,hL⟩:∃ L,L=2^n:=⟨_,rfl⟩;have HL:=Hd hL;have g8:L<=1048576:=by rw[hL];exact Zfn (by omega)
 rw[<- hL];clear hL
 go_enter func38,ntmps38
 go_wp2_with fail
 go_loopw [5,6] (fun s5 s6 wr=>∃ k p:Nat,k<=n/\s5=.int .i64 p/\s6=.int .i64 k/\w=wr/\Hid (2^k=p)) (fun _ s6 _=>n-(intOf s6).toNat)
 case atStart=>exact⟨0,1,Nat.zero_le _,rfl,rfl,rfl,Hd rfl⟩
 case round =>
  obtain⟨k,p,hk,rfl,rfl,rfl,HP⟩:=hrel
  by_cases g3:k<n
  .
   have hp:p<=1048576:=by rw[<- HP.out];exact HS.out k hk
   go_wp2_with fail;go_roundw
   case rel=>exact⟨k+1,2*p,by omega,by go_num,by go_num,by simp,Hd (by rw[Nat.pow_succ,HP.out];omega)⟩
   case measure=>simp[intOf];omega
  .
   have he:k=n:=by omega
   have hp:p=L:=by rw[<- HP.out,he,HL.out]
   subst hp;clear he;go_wp2_with (at_make;refine Zee Zen rfl _ _ rfl w.heap.size w _ p rfl rfl rfl (by omega) (Nat.le_refl _) (Below.refl _ _) ?_;intro g w1 g2 g6 hs1 g7 g5 g4;clear g4)
   go_loopw [8] (fun i wr=>∃ j:Nat,j<=p/\i=.int .i64 j/\OwnB wr w.heap.size (.slice (some ⟨g,0,none⟩) p p) (List.replicate j b++List.replicate (p-j) false)/\Below w.heap.size w wr) (fun i _=>p-(intOf i).toNat)
   case atStart=>exact⟨0,by omega,rfl,by unfold OwnB;rw[show Zbq (List.replicate 0 b++List.replicate (p-0) false)=List.replicate p (Value.bool false) by simp[Zbq]];exact g2,g6⟩
   case round =>
    obtain⟨j,hj,rfl,g0,g1⟩:=hrel
    by_cases g3:j<p
    .
     have q0:=g0.cellB j (by simp;omega);have p0:=g0.frozen j;go_wp2_with fail;go_roundw
     case rel=>exact⟨j+1,by omega,by go_num,by rw[<- Znq b false j p g3];exact g0.setB j b,g1.setCell g5 _⟩
     case measure=>simp[intOf];omega
    .
     obtain rfl:j=p:=by omega
     go_wp2_with fail;go_ret;exact⟨_,rfl,by simpa using g0,g1⟩
theorem Zdr {α:Type}{l m:List α}{k:Nat}{y:α}(hk:k<l.length)(hm:k<m.length)(hy:m[k]=y):(m.take k++l.drop k).set k y=m.take (k+1)++l.drop (k+1):=by
 have h1:(m.take k).length=k:=by simp;omega
 rw[List.set_append_right _ _ (by omega),h1,Nat.sub_self,List.drop_eq_getElem_cons hk,List.set_cons_zero,List.take_succ_eq_append_getElem hm,hy,List.append_assoc];rfl
theorem Zti (v n:Nat)(hv:v<=16)(hn:n<=16)(w:World):Calls prog 201 #[.int .i64 v,.int .i64 n] w fun x w'=>∃ g,x=.returned (.slice (some ⟨g,0,none⟩) (2^n) (2^n))/\OwnB w' w.heap.size (.slice (some ⟨g,0,none⟩) (2^n) (2^n)) ((List.range (2^n)).map (fun i=>bitB i v))/\Below w.heap.size w w':=by
 have g1:=Hd (Ze8 false n hn w);have g7:2^n<=1048576:=Zfn (by omega);have g8:Hid (∀ i,i<=1048576->∀ W,Calls prog 117 #[.int .i64 (i:Nat),.int .i64 (v:Nat)] W fun x w'=>x=.returned (.bool (bitB i v))/\W=w'):=Hd fun i hi W=>Zp2 i v hi (by omega) W
 obtain⟨L,hL⟩:∃ L,L=2^n:=⟨_,rfl⟩;rw[<- hL] at g7 g1 ⊢;clear hL
 go_enter func201,ntmps201
 go_wp2_with fail;refine g1.out.mono ?_;rintro x w1 ⟨g,rfl,g0,g3⟩;have g6:w.heap.size<=g:=(g0.lt g rfl).1;clear g1;go_wp2_with fail
 go_loopw [6] (fun s6 wr=>∃ j:Nat,j<=L/\s6=.int .i64 j/\OwnB wr w.heap.size (.slice (some ⟨g,0,none⟩) L L) (((List.range L).map (fun i=>bitB i v)).take j++(List.replicate L false).drop j)/\Below w.heap.size w wr) (fun s6 _=>L-(intOf s6).toNat)
 case atStart=>exact⟨0,by omega,rfl,by simpa using g0,g3⟩
 case round =>
  clear g0 g3;obtain⟨j,hj,rfl,g0,g2⟩:=hrel
  by_cases g9:j<L
  .
   have q0:=g0.cellB j (by simp;omega);have p0:=g0.frozen j;have g4:=Hd g0;have g5:=Hd g2;clear g0 g2;go_wp2_with fail;refine(g8.out j (by omega) _).mono ?_;rintro x w2 ⟨rfl,rfl⟩;go_wp2_with fail;go_roundw
   case rel=>exact⟨j+1,by omega,by go_num,by rw[<- Zdr (by simp;omega) (by simp;omega) (y:=bitB j v) (by simp)];exact g4.out.setB j _,g5.out.setCell g6 _⟩
   case measure=>simp[intOf];omega
  .
   obtain rfl:j=L:=by omega
   go_wp2_with fail;go_ret;exact⟨g,rfl,by simpa [List.take_of_length_le] using g0,g2⟩
def iteL (u v w:List Bool):List Bool:=(List.range u.length).map fun i=>iteB (u.getD i false) (v.getD i false) (w.getD i false)
theorem Zxo (n:Nat)(F G H:BF):iteL (tabB n F) (tabB n G) (tabB n H)=tabB n fun ρ=>iteB (F ρ) (G ρ) (H ρ):=by
 unfold iteL;rw[Za6];refine Znx (by simp) fun i hi=>?_
 simp only[List.getD,List.getElem?_map,List.getElem?_range hi,Option.map_some,Option.getD_some];have:=@Zfa n F i hi;have h2:=@Zfa n G i hi;have h3:=@Zfa n H i hi;simp only[List.getD] at this h2 h3;rw[this,h2,h3]
theorem Ztf (bu bv bw:List Bool)(hv:bv.length=bu.length)(hw:bw.length=bu.length)(au av aw:Option Addr)(cu cv cw:Nat)(w:World)(h1:Zbz w au bu)(h2:Zbz w av bv)(h3:Zbz w aw bw) :
 Calls prog 153 #[.slice au bu.length cu,.slice av bu.length cv,.slice aw bu.length cw] w fun x w'=>∃ g,x=.returned (.slice (some ⟨g,0,none⟩) bu.length bu.length)/\OwnB w' w.heap.size (.slice (some ⟨g,0,none⟩) bu.length bu.length) (iteL bu bv bw)/\Below w.heap.size w w':=by
 have hlen:=h1.len;obtain⟨L,hL⟩:∃ L,L=bu.length:=⟨_,rfl⟩;have H1:=Hd h1;have H2:=Hd h2;have H3:=Hd h3;have HV:=Hd hv;have HW:=Hd hw;have g2:=Hd hL;rw[<- hL] at hlen ⊢;clear hL h1 h2 h3 hv hw
 go_enter func153,ntmps153
 go_wp2_with (at_make;refine Zee Zen rfl _ _ rfl w.heap.size w _ L rfl rfl rfl (by omega) (Nat.le_refl _) (Below.refl _ _) ?_;intro g w1 g4 gc hs1 gg g9 ge;clear ge)
 go_loopw [8] (fun s8 wr=>∃ j:Nat,j<=L/\s8=.int .i64 j/\OwnB wr w.heap.size (.slice (some ⟨g,0,none⟩) L L) ((iteL bu bv bw).take j++(List.replicate L false).drop j)/\Below w.heap.size w wr) (fun s8 _=>L-(intOf s8).toNat)
 case atStart=>exact⟨0,by omega,rfl,by unfold OwnB;simpa [Zbq] using g4,gc⟩
 case round =>
  clear g4 gc;obtain⟨j,hj,rfl,g0,g1⟩:=hrel
  by_cases g3:j<L
  .
   have gb:j<(iteL bu bv bw).length:=by simp[iteL,<- g2.out];exact g3
   obtain⟨b1,of1,e1,c1⟩:=(H1.out.below g1).cells j (by rw[<- g2.out];exact g3);obtain⟨b2,of2,e2,c2⟩:=(H2.out.below g1).cells j (by rw[HV.out,<- g2.out];exact g3);obtain⟨b3,of3,e3,c3⟩:=(H3.out.below g1).cells j (by rw[HW.out,<- g2.out];exact g3);have l1:b1<w.heap.size:=by
    obtain⟨b,o,e,c⟩:=H1.out.cells j (by rw[<- g2.out];exact g3);rw[e1] at e;cases e;exact Zaa c
   have l2:b2<w.heap.size:=by
    obtain⟨b,o,e,c⟩:=H2.out.cells j (by rw[HV.out,<- g2.out];exact g3);rw[e2] at e;cases e;exact Zaa c
   have l3:b3<w.heap.size:=by
    obtain⟨b,o,e,c⟩:=H3.out.cells j (by rw[HW.out,<- g2.out];exact g3);rw[e3] at e;cases e;exact Zaa c
   subst e1 e2 e3;have q0:=g0.cellB j (by simp;omega);have p0:=g0.frozen j;have gd:=Hd g0;have ga:=Hd g1;have n1:g≠b1:=by omega
   have n2:g≠b2:=by omega
   obtain⟨y1,g8⟩:∃ y,y=bu.getD j false:=⟨_,rfl⟩;obtain⟨y2,g7⟩:∃ y,y=bv.getD j false:=⟨_,rfl⟩;obtain⟨y3,g6⟩:∃ y,y=bw.getD j false:=⟨_,rfl⟩;rw[<- g8] at c1;rw[<- g7] at c2;rw[<- g6] at c3;have HY:Hid ((iteL bu bv bw)[j]=iteB y1 y2 y3):=Hd (by rw[g8,g7,g6];simp[iteL]);clear g0 g1 g8 g7 g6 H1 H2 H3;have d1:=Za3 (w:=wr) (g:=g) (o:=j) (v:=.bool y3) c1 (.inl n1);have d2:=Za3 (w:=wr) (g:=g) (o:=j) (v:=.bool y3) c2 (.inl n2);have g5:=Hd (gd.out.setB j y3);have q3:=g5.out.cellB j (by simp;omega);have p3:=g5.out.frozen j;cases y1 with
   | true =>
     go_wp2_with fail;go_roundw
     case rel =>
      refine⟨j+1,by omega,by go_num,?_,(ga.out.setCell g9 _).setCell g9 _⟩;rw[<- Zdr (by simp;omega) gb HY.out];have:=g5.out.setB j y2;rw[List.set_set] at this;exact this
     case measure=>simp[intOf];omega
   | false =>
     go_wp2_with fail;go_roundw
     case rel =>
      refine⟨j+1,by omega,by go_num,?_,ga.out.setCell g9 _⟩;rw[<- Zdr (by simp;omega) gb HY.out];exact g5.out
     case measure=>simp[intOf];omega
  .
   obtain rfl:j=L:=by omega
   have gf:(iteL bu bv bw).length=j:=by simp[iteL,<- g2.out]
   go_wp2_with fail;go_ret;refine⟨g,rfl,?_,g1⟩;rw[List.take_of_length_le (by omega),List.drop_of_length_le (by simp),List.append_nil] at g0;exact g0
theorem Zss (n:Nat)(hn:n<=64)(w:World):Calls prog 184 #[.int .i64 n,.int .i64 0,.int .i64 64] w fun x w'=>x=.returned (.int .i64 n)/\w=w':=by
 go_enter func184,ntmps184
 go_wp2_with fail;go_ret;exact⟨rfl,rfl⟩
theorem Zlt (i n:Nat):Zcq i (n+1)=Zcq i n++[bitB i n]:=by simp[Zcq,List.range_succ]
theorem Zwa (i n:Nat)(hi:i<=1048576)(hn:n<=16)(w:World):Calls prog 135 #[.int .u64 i,.int .i64 n] w fun x w'=>∃ v,x=.returned v/\OwnB w' w.heap.size v (Zcq i n)/\Below w.heap.size w w':=by
 have HH:Hid (∀ W,Calls prog 184 #[.int .i64 (n:Nat),.int .i64 0,.int .i64 64] W fun x w'=>x=.returned (.int .i64 (n:Nat))/\W=w'):=Hd fun W=>Zss n (by omega) W
 go_enter func135,ntmps135
 go_wp2_with fail
 go_loopw [0,5,6] (fun s0 s5 s6 wr=>∃ j q:Nat,j<=n/\q<=1048576/\s6=.int .i64 j/\s0=.int .u64 q/\Hid (i/2^j=q)/\OwnB wr w.heap.size s5 (Zcq i j)/\w.heap.size<=wr.heap.size/\Below w.heap.size w wr) (fun _ _ s6 _=>n-(intOf s6).toNat)
 case atStart=>exact⟨0,i,Nat.zero_le _,hi,rfl,rfl,Hd (by simp),Zf0 _ w _ (Nat.le_refl _),by simp,Zad w _⟩
 case round =>
  obtain⟨j,q,hj,hq,rfl,rfl,HQ,g0,g5,g1⟩:=hrel
  by_cases g7:j<n
  .
   have HB:Hid (((q:Int).tmod 2 == 1)=bitB i j):=by
    refine Hd ?_
    show ((q:Int).tmod 2 == 1)=bitB i j
    unfold bitB;rw[HQ.out];have e1:Int.tmod (q:Int) 2=((q%2:Nat):Int):=by rw[Int.tmod_eq_emod_of_nonneg (by omega)];rfl
    rw[e1]
    by_cases h:q%2=1
    . rw[h];rfl
    .
     have:((q%2:Nat):Int)≠1:=by omega
     rw[beq_eq_false_iff_ne.2 this,decide_eq_false h]
   have g2:=Hd g0;have g3:=Hd g1;clear g0 g1;go_wp2_with fail;refine(HH.out _).mono ?_;rintro x w2 ⟨rfl,rfl⟩;go_wp2_with (at_builtin;refine Zb6 Zen _ rfl _ _ rfl w.heap.size _ (Zbq (Zcq i j)) _ rfl rfl rfl rfl rfl (by exact g2.out) (by simp[Zbq,Ze5];omega) g5 ?_;intro v1 w1 g4 e1 e2 e3 e4 g6);go_roundw
   case rel =>
    refine⟨j+1,q/2,by omega,by omega,by go_num,rfl,Hd ?_,?_,by omega,Zhz g3.out g2.out e1 e2 e3 e4 g6 g5⟩
    . rw[Nat.pow_succ,<- Nat.div_div_eq_div_mul,HQ.out]
    .
     rw[Zlt];have e5:Zbq (Zcq i j++[bitB i j])=Zbq (Zcq i j)++[.bool (bitB i j)]:=by simp[Zbq]
     unfold OwnB;rw[e5,<- HB.out];exact g4
   case measure=>simp[intOf];omega
  .
   have he:j=n:=by omega
   subst he;have g2:=Hd g0;have g3:=Hd g1;clear g0 g1;go_wp2_with fail;refine(HH.out _).mono ?_;rintro x w2 ⟨rfl,rfl⟩;go_wp2_with fail;go_ret;exact⟨_,rfl,g2.out,g3.out⟩
open Go.RowKit
end Go.Proofs.YtkbegdkpboklpaaGreat

namespace Go.Proofs.YtkbegdkpboklpaaGreat
open Go.Proofs.Tryz
open Go.RowKit
theorem Zsw {o:Own}{w:World}{r:Role}{a:Option Addr}{cap:Nat}{xs:List Nat}(h:RowR o w r 3 1 (.slice a xs.length cap) xs.length (xs.map nat64))(hl:xs.length<=1000000):Zay w a (xs.map Int.ofNat):=by
 refine⟨by simp;omega,fun k hk=>?_⟩;simp only[List.length_map] at hk;obtain⟨g,cap',he,_⟩:=h.shape (by omega);cases he;refine⟨g,0,rfl,?_⟩;have h1:=h.cell k (by simpa using hk);rw[Nat.zero_add,h1,Zby (by simpa using hk)];simp[nat64,hk]
theorem Zhf {o:Own}{w:World}{sb:Nat}{d:Zag}(h:Zav o w sb d)(hlt:Zaj o w)(hl:d.vars.length<=64) :
 Calls prog 78 #[.pointer (some ⟨sb,0,none⟩)] w fun x w'=>∃ v,x=.returned v/\OwnI w' w.heap.size v (d.vars.map Int.ofNat)/\Below w.heap.size w w':=by
 obtain⟨s,h⟩:=h;obtain⟨c0,c1,c2,c3,c4,f0⟩:=cells5 h.blk;obtain⟨d0,d1,_⟩:=cells2 h.lev;have lsb:sb<w.heap.size:=Zaa c0;have llb:s.lb<w.heap.size:=Zaa d0;obtain⟨a,cap,hv,_,_,g1,_⟩:=h.vars.slice;have g0:=h.vars;rw[hv] at d0 g0;have HI:=Hd (Zsw g0 (by omega));have HN:=Hd g1;have e:d.vars.length=(d.vars.map Int.ofNat).length:=by simp
 rw[e] at d0;have g6:(d.vars.map Int.ofNat).length<=64:=by rw[<- e];exact hl
 generalize d.vars.map Int.ofNat=zs at *
 clear h hv g0 e g1 hl
 go_enter func78,ntmps78
 go_wp2_with (at_builtin;refine Zf6 rfl _ _ rfl w.heap.size w _ [] zs _ _ rfl rfl (Zjw w w.heap.size (Nat.le_refl _)) (HI.out.below (Zad _ _)) (by simp;omega) (by simp) (Zad _ _) HN.out ?_;intro v1 w1 g2 g3 g4 g5);go_ret;exact⟨_,rfl,by simpa using g2,g3⟩
theorem Zpc {F:Phi}{o:Own}{w:World}{mb:Nat}{m:ManD}(h:Zdo F o w mb m)(hlt:Zaj o w)(hl:m.d.vars.length<=64) :
 Calls prog 25 #[.pointer (some ⟨mb,0,none⟩)] w fun x w'=>∃ v,x=.returned v/\OwnI w' w.heap.size v (m.d.vars.map Int.ofNat)/\Below w.heap.size w w':=by
 obtain⟨s,h⟩:=h;obtain⟨c0,c1,c2,c3,c4,c5,f0⟩:=cells6 h.blk;have HP:=Hd (Zhf h.store hlt hl);clear h hlt hl
 go_enter func25,ntmps25
 go_wp2_with fail;refine HP.out.mono ?_;rintro x w' ⟨v,rfl,h1,h2⟩;have H1:=Hd h1;have H2:=Hd h2;clear h1 h2;go_wp2_with fail;go_ret;exact⟨v,rfl,H1.out,H2.out⟩
open Go.RowKit
end Go.Proofs.YtkbegdkpboklpaaGreat

namespace Go.Proofs.YtkbegdkpboklpaaGreat
open Go.Proofs.Tryz
open Go.RowKit Go.Shelf
attribute [local go_sem] Oper.semAt_some
def Zej (p:Zam)(k:Nat):List Nat:=(List.range k).filter p.tk
def Zd2 (p:Zam):List Nat:=Zej p p.at_.length
theorem Zi1 {p:Zam}{k:Nat}(h:p.tk k=true):Zej p (k+1)=Zej p k++[k]:=by
 unfold Zej;rw[List.range_succ,List.filter_append];simp[h]
theorem Zp1 {p:Zam}{k:Nat}(h:p.tk k=false):Zej p (k+1)=Zej p k:=by
 unfold Zej;rw[List.range_succ,List.filter_append];simp[h]
theorem Ztr (p:Zam){k m:Nat}:k<=m->∃ suf,Zej p k++suf=Zej p m:=by
 induction m with
 | zero => intro h; obtain rfl : k = 0 := by omega
           exact⟨[],by simp⟩
 | succ m ih =>
   intro h
   by_cases e:k=m+1
   . subst e;exact⟨[],by simp⟩
   .
    obtain⟨suf,hs⟩:=ih (by omega);cases h2:p.tk m with
    | false=>exact⟨suf,by rw[Zp1 h2];exact hs⟩
    | true=>exact⟨suf++[m],by rw[Zi1 h2,<- hs,List.append_assoc]⟩
theorem Zts {p:Zam}{k:Nat}(h:p.tk k=true)(hk:k<p.at_.length):∃ suf,Zej p k++k::suf=Zd2 p:=by
 obtain⟨suf,hs⟩:=Ztr p (k:=k+1) (m:=p.at_.length) (by omega);rw[Zi1 h,List.append_assoc] at hs;exact⟨suf,hs⟩
theorem Zl3 {p:Zam}{pre suf:List Nat}{x:Nat}(h:pre++x::suf=Zd2 p):p.tk x=true:=by
 have:x∈Zd2 p:=by rw[<- h];simp
 exact(List.mem_filter.1 this).2
structure ItS (n₀:Nat)(o:Own)(w0:World)(pb:Nat)(p:Zam)(Bp:Nat)(M0 M:Nat->Prop)(W0 W:World):Prop where
 low:Below n₀ w0 W
 box:W.cell? ⟨Bp,0,none⟩=some (.pointer (some ⟨pb,0,none⟩))
 wr:Wr (fun k=>n₀<=k) W0 W
 sub:∀ k,M k->M0 k\/W0.heap.size<=k
 nb:¬ M Bp
theorem ItS.go {n₀:Nat}{o:Own}{w0:World}{pb:Nat}{p:Zam}{Bp:Nat}{M0 M M':Nat->Prop}{W0 W W':World}(h:ItS n₀ o w0 pb p Bp M0 M W0 W)(hn:n₀<=W0.heap.size)(hge:∀ k,M k->n₀<=k)(hw:Wr M W W')
 (hM:∀ k,M' k->M k\/W.heap.size<=k):ItS n₀ o w0 pb p Bp M0 M' W0 W':=by
 have hs:=h.wr.size;have hb:=Zaa h.box;refine⟨h.low.trans (hw.below hge (by omega)),?_,h.wr.trans hw (fun _ _ h=>h) (fun k _ hk=>hge k hk),fun k hk=>?_,fun e=>?_⟩
 . exact(World.cell?_of_block (w:=W) (a:=⟨Bp,0,none⟩) (hw.keep Bp hb h.nb)).trans h.box
 .
  rcases hM k hk with h1|h1
  . exact h.sub k h1
  . right;omega
 .
  rcases hM Bp e with h1|h1
  . exact h.nb h1
  . have g0:Bp<W.heap.size:=hb;omega
theorem Zsu (F:Fence)(n:Nat)(hF:F.fn 252)(hro:F.round=none)(hn:1<=n)(Bp n₀ pb:Nat){o:Own}{w0:World}{p:Zam}(hp:Zat o w0 pb p)(hlt:Zaj o w0)(h0:w0.heap.size<=n₀)(w:World)
 (hw:Below n₀ w0 w) (hn0:n₀<=w.heap.size) (hBp:w.cell? ⟨Bp,0,none⟩=some (.pointer (some ⟨pb,0,none⟩))) :
 Gives F n 0 prog 252 #[.pointer (some ⟨Bp,0,none⟩)] (fun i:Nat=>#[.int .i64 i]) n₀ (· = Bp) (Zd2 p) w:=by
 intro l J M W g8 ge g1 gb hY hJ;have g7:=Zaa hBp;have g2:ItS n₀ o w0 pb p Bp M M W W:=⟨hw.trans (g1.below (fun k h=>h.1) hn0),(World.cell?_of_block (w:=w) (a:=⟨Bp,0,none⟩) (g1.keep Bp g7 (fun h=>h.2 rfl))).trans hBp,Wr.refl _ _,fun k h=>.inl h,gb Bp rfl⟩;have gc:n₀<=W.heap.size:=Nat.le_trans hn0 g1.size;have HP:∀ W',Below n₀ w0 W'->Zat o W' pb p:=fun W' hb=>hp.below (hb.mono h0) hlt
 obtain⟨vs,vt,vf,c0,c1,c2,c3,c4,hs,ht,_⟩:=(HP W g2.low).cells;have gd:=g2.box;have g3:=hp.pos;obtain⟨gs,cs,rfl,_⟩:=hs.shape g3;have hlen:=hp.len;have gn:=hp.top;have gm:=hp.room;have gh:=Hd HP;have gf:=Hd hY;have gg:=Hd g2;have gi:=Hd g8;clear HP hY hs ht hp hlt h0 g2 g8 ge g1 gb hw hn0 hBp g7;refine callsIn_of_wp func252 rfl hF ?_ hro;simp only[ntmps252,List.size_toArray,List.length_cons,List.length_nil,Nat.reduceAdd,Nat.reduceSub,Array.replicate_succ,Array.replicate_zero,List.push_toArray,List.append_toArray,List.nil_append,List.cons_append]
 gi_wp2
 gi_loopw [11] (fun i wr=>∃ (k:Nat) (M1:Nat->Prop),k<=p.at_.length/\i=.int .i64 k/\J (Zej p k) M1 wr/\ItS n₀ o w0 pb p Bp M M1 W wr) (fun i _=>p.at_.length-(intOf i).toNat)
 case atStart=>exact⟨0,M,Nat.zero_le _,rfl,hJ,gg.out⟩
 case round =>
  obtain⟨k,M1,hk,rfl,g0,hS⟩:=hrel
  by_cases hlt:k<p.at_.length
  .
   obtain⟨vs,vt,vf,d0,d1,d2,d3,d4,hs,ht,_⟩:=(gh.out wr hS.low).cells;have gd:=hS.box;obtain⟨gt,ct,rfl,_⟩:=ht.shape (by rw[hlen];exact g3);have g6:=Zat.flag ht (k:=k) (by omega);rw[hlen] at d2;have gp:(k:Int)<p.at_.length:=by omega
   have HS:=Hd hS;cases hB:p.tk k with
   | false =>
     rw[hB] at g6;have g4:Hid (J (Zej p (k+1)) M1 wr):=by show J _ _ _;rw[Zp1 hB];exact g0
     clear hB hs ht hS g0 hJ
     gi_wp2
     refine⟨fun _ h=>(by cases h),?_⟩
     gi_wp2
     go_roundw
     case rel=>exact⟨k+1,M1,by omega,by simp,g4.out,HS.out⟩
     case measure=>simp[intOf];omega
   | true =>
     rw[hB] at g6;have gl:=Hd (fun q (hq:M1 q)=>(gi.out _ _ _ g0 q hq).1);obtain⟨fn,tmps,assign,body,hy,hR⟩:=gf.out _ k M1 wr g0 (Zts hB hlt);have HU:=Hd (Zi1 hB);have HR:=Hd hR;clear hs ht hS g0 hR hB hJ
     gi_wp2
     refine HR.out.mono ?_;rintro e W3 ⟨rfl,M3,ga,g5,g9⟩;have gk:=Hd ga;have gj:=Hd (HS.out.go gc gl.out g5 g9);clear ga g5 g9
     gi_wp2
     go_roundw
     case rel=>exact⟨k+1,M3,by omega,by simp,by rw[HU.out];exact gk.out,gj.out⟩
     case measure=>simp[intOf];omega
  .
   obtain rfl:k=p.at_.length:=by omega
   have g4:=Hd g0;have HS:=Hd hS;clear g0 hS hJ
   gi_wp2
   go_end0;exact⟨⟨_,rfl⟩,M1,g4.out,HS.out.wr,HS.out.sub⟩
theorem Ybp (F:Fence)(n:Nat)(hF:F.fn 245)(hro:F.round=none)(pb:Nat)(w:World) :
 CallsIn F n prog 245 #[.pointer (some ⟨pb,0,none⟩)] w fun e w'=>e=.returned (.func (.func 252) #[] #[.pointer (some ⟨w.heap.size,0,none⟩)])/\w'=w.alloc (.cells #[.pointer (some ⟨pb,0,none⟩)] 190):=by
 refine callsIn_of_wp func245 rfl hF ?_ hro;simp only[ntmps245,List.size_toArray,List.length_cons,List.length_nil,Nat.reduceAdd,Nat.reduceSub,Array.replicate_succ,Array.replicate_zero,List.push_toArray,List.append_toArray,List.nil_append,List.cons_append]
 gi_wp2
 go_ret;exact⟨rfl,rfl⟩
theorem Yaa (F:Fence)(n:Nat)(hF:F.fn 234)(hro:F.round=none)(pb:Nat)(w:World) :
 CallsIn F n prog 234 #[.pointer (some ⟨pb,0,none⟩)] w fun e w'=>e=.returned (.func (.func 244) #[] #[.pointer (some ⟨w.heap.size,0,none⟩)])/\w'=w.alloc (.cells #[.pointer (some ⟨pb,0,none⟩)] 190):=by
 refine callsIn_of_wp func234 rfl hF ?_ hro;simp only[ntmps234,List.size_toArray,List.length_cons,List.length_nil,Nat.reduceAdd,Nat.reduceSub,Array.replicate_succ,Array.replicate_zero,List.push_toArray,List.append_toArray,List.nil_append,List.cons_append]
 gi_wp2
 go_ret;exact⟨rfl,rfl⟩
end Go.Proofs.YtkbegdkpboklpaaGreat
