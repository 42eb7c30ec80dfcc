/- The walk of a law: NobodyW. -/
import Derived.Test.YtkbegdkpboklpaaGreatN8
set_option linter.unusedSimpArgs false
set_option linter.unusedVariables false
set_option linter.unusedSectionVars false
set_option linter.unnecessarySimpa false
set_option maxRecDepth 100000
set_option maxHeartbeats 8000000
namespace Go.Proofs.YtkbegdkpboklpaaGreat
open Go.Proofs.Tryz
open Go.RowKit
theorem nobody_walk (v:Value)(gs:List (List Int))(a:Option Addr)(zl c:Nat)(grow:Int)(w:World)(h:SlsC w v gs) :
 Calls prog 3 #[v,.slice a zl c,.int .i64 grow] w fun y w'=>y=.returned (.bool true)/\Below w.heap.size w w':=by
 have HC:=Hd (Zot h);obtain⟨a0,c0,xs,rfl,-,-,-,-,-⟩:=h
 go_enter func3,ntmps3
 go_wp2_with fail;refine HC.out.mono ?_;rintro x w1 ⟨u,rfl,hs,g3⟩;obtain⟨a1,c1,rfl,_⟩:=hs.slice;have g0:=Hd g3;clear hs g3 HC;go_wp2_with fail;refine(Zo5 _ _).mono ?_;rintro x w' ⟨rfl,rfl⟩;go_wp2_with fail;refine(Znj _ _ _ _ _).mono ?_;rintro x w2 ⟨rfl,g2⟩;have HB2:Hid (Below w.heap.size w w2):=Hd ((g0.out.trans ((Zad w1 _).mono g0.out.size)).trans (g2.mono (by have:=g0.out.size;simp;omega)));clear g2;go_wp2_with fail;refine(Zni _).mono ?_;rintro x w' ⟨rfl,rfl⟩;go_wp2_with fail;refine(Znh _ _).mono ?_;rintro x w' ⟨rfl,rfl⟩;go_wp2_with fail;refine(Zkx _).mono ?_;rintro x w' ⟨rfl,rfl⟩;have g4:=Hd (Ze4 (K:=Zft) w2);go_wp2_with fail;refine g4.out.mono ?_;rintro x w3 ⟨rfl,g1⟩;have g5:=Hd (HB2.out.trans (g1.mono HB2.out.size));clear g1 g4;go_wp2_with fail;go_ret;exact⟨rfl,g5.out⟩
end Go.Proofs.YtkbegdkpboklpaaGreat
