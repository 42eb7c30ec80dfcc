/-
  NARROWER THAN 'FOR EVERY INPUT', by the rows' own cells (each row's printed sentence says how): DdRooms: loops · DdWaits: loops · DdTops: loops · DdSwaps: loops · DdItes: loops · DdBuilds: loops · DdRefuses: loops · DdAsks: loops.
  DERIVED. THE GIVEN ROWS OF THIS SEAT. 9 by the template 'for every input the law returns true; each argument reads behind the call as it read before'; 0 by the template 'total and deterministic' (their statements: YtchliiaknmknhaaGreatTotals.lean).
  GIVEN WITH THE SEED: the statements are not yours to turn. If you find one false, say at which input.
  Laid BY PROGRAM, IN A SANDBOX (cutbox-rows.mjs): the forced cells as the released guide's own fill.sh prints them over the translation a49b0a46368fa15d… (all of the seat's roots in one cut). By AI agents, Wed Nov 11 2026. No macro, syntax, notation, axiom, sorry.
-/
import Derived.Test.YtchliiaknmknhaaGreatChecked
import GoSem.Claim
import GoSem.ClaimJoined
import GoSem.ClaimMapViews
import Derived.JoinedTies
import Derived.KernelRfl
namespace Go.Proofs.YtchliiaknmknhaaGreat
/- THE CELL 'sum', in the pinned program and in every row, IS THE sha256 OF THE DUMP (.gsa) THAT YtchliiaknmknhaaGreatProg.lean LOADS. Nothing in Lean hashes anything: it is a label: what it is worth is what the hold of that sum in a sandbox is worth. -/
noncomputable def Tryz.pinned : Pinned := { name := "ytchliiaknmknhaagreat", sum := "a49b0a46368fa15db88ccb124af2d4d18601aa898151ddb6e4c6c208fc9047ae", checked := Tryz.checked }
namespace Rows
def none {H : Type} : Left H := { results := [], args := [] }

/-- 'voussoirlaw13.DdRooms': WHATEVER THE INPUT: true; the input reads as it did. -/
def ddRoomsSpec : ChangeSpec := { name := "ddRooms", fn := fun _ => fun
  | [d1, d2] => { results := [.lit (.bool true)], args := [d1, d2] }
  | _ => none }
def ddRoomsRow : OpenClaim := { program := "ytchliiaknmknhaagreat", sum := "a49b0a46368fa15db88ccb124af2d4d18601aa898151ddb6e4c6c208fc9047ae", func := "voussoir/voussoirlaw13.DdRooms", spec := "ddRooms", unfollowed := true, recurses := true, loops := true, plainKeys := false, apart := false }
def DdRoomsSaid : Prop := ddRoomsRow.holds Tryz.pinned (OpenSpec.ofChange ddRoomsSpec)

/-- ITS FALSE NEIGHBOUR: 'it returns false'. Refute it at one input. -/
def ddRoomsWrong : ChangeSpec := { name := "ddRooms", fn := fun _ => fun
  | [d1, d2] => { results := [.lit (.bool false)], args := [d1, d2] }
  | _ => none }
def DdRoomsWrongFalsely : Prop := ddRoomsRow.holds Tryz.pinned (OpenSpec.ofChange ddRoomsWrong)

/-- 'voussoirlaw13.DdWaits': WHATEVER THE INPUT: true; the input reads as it did. -/
def ddWaitsSpec : ChangeSpec := { name := "ddWaits", fn := fun _ => fun
  | [d1, d2] => { results := [.lit (.bool true)], args := [d1, d2] }
  | _ => none }
def ddWaitsRow : OpenClaim := { program := "ytchliiaknmknhaagreat", sum := "a49b0a46368fa15db88ccb124af2d4d18601aa898151ddb6e4c6c208fc9047ae", func := "voussoir/voussoirlaw13.DdWaits", spec := "ddWaits", unfollowed := true, recurses := true, loops := true, plainKeys := false, apart := false }
def DdWaitsSaid : Prop := ddWaitsRow.holds Tryz.pinned (OpenSpec.ofChange ddWaitsSpec)

/-- ITS FALSE NEIGHBOUR: 'it returns false'. Refute it at one input. -/
def ddWaitsWrong : ChangeSpec := { name := "ddWaits", fn := fun _ => fun
  | [d1, d2] => { results := [.lit (.bool false)], args := [d1, d2] }
  | _ => none }
def DdWaitsWrongFalsely : Prop := ddWaitsRow.holds Tryz.pinned (OpenSpec.ofChange ddWaitsWrong)

/-- 'voussoirlaw13.DdTops': WHATEVER THE INPUT: true; the input reads as it did. -/
def ddTopsSpec : ChangeSpec := { name := "ddTops", fn := fun _ => fun
  | [d1, d2] => { results := [.lit (.bool true)], args := [d1, d2] }
  | _ => none }
def ddTopsRow : OpenClaim := { program := "ytchliiaknmknhaagreat", sum := "a49b0a46368fa15db88ccb124af2d4d18601aa898151ddb6e4c6c208fc9047ae", func := "voussoir/voussoirlaw13.DdTops", spec := "ddTops", unfollowed := true, recurses := true, loops := true, plainKeys := false, apart := false }
def DdTopsSaid : Prop := ddTopsRow.holds Tryz.pinned (OpenSpec.ofChange ddTopsSpec)

/-- ITS FALSE NEIGHBOUR: 'it returns false'. Refute it at one input. -/
def ddTopsWrong : ChangeSpec := { name := "ddTops", fn := fun _ => fun
  | [d1, d2] => { results := [.lit (.bool false)], args := [d1, d2] }
  | _ => none }
def DdTopsWrongFalsely : Prop := ddTopsRow.holds Tryz.pinned (OpenSpec.ofChange ddTopsWrong)

/-- 'voussoirlaw13.DdSwaps': WHATEVER THE INPUT: true; the input reads as it did. -/
def ddSwapsSpec : ChangeSpec := { name := "ddSwaps", fn := fun _ => fun
  | [d1, d2] => { results := [.lit (.bool true)], args := [d1, d2] }
  | _ => none }
def ddSwapsRow : OpenClaim := { program := "ytchliiaknmknhaagreat", sum := "a49b0a46368fa15db88ccb124af2d4d18601aa898151ddb6e4c6c208fc9047ae", func := "voussoir/voussoirlaw13.DdSwaps", spec := "ddSwaps", unfollowed := true, recurses := true, loops := true, plainKeys := false, apart := false }
def DdSwapsSaid : Prop := ddSwapsRow.holds Tryz.pinned (OpenSpec.ofChange ddSwapsSpec)

/-- ITS FALSE NEIGHBOUR: 'it returns false'. Refute it at one input. -/
def ddSwapsWrong : ChangeSpec := { name := "ddSwaps", fn := fun _ => fun
  | [d1, d2] => { results := [.lit (.bool false)], args := [d1, d2] }
  | _ => none }
def DdSwapsWrongFalsely : Prop := ddSwapsRow.holds Tryz.pinned (OpenSpec.ofChange ddSwapsWrong)

/-- 'voussoirlaw13.DdItes': WHATEVER THE INPUT: true; the input reads as it did. -/
def ddItesSpec : ChangeSpec := { name := "ddItes", fn := fun _ => fun
  | [d1, d2, d3, d4] => { results := [.lit (.bool true)], args := [d1, d2, d3, d4] }
  | _ => none }
def ddItesRow : OpenClaim := { program := "ytchliiaknmknhaagreat", sum := "a49b0a46368fa15db88ccb124af2d4d18601aa898151ddb6e4c6c208fc9047ae", func := "voussoir/voussoirlaw13.DdItes", spec := "ddItes", unfollowed := true, recurses := true, loops := true, plainKeys := false, apart := false }
def DdItesSaid : Prop := ddItesRow.holds Tryz.pinned (OpenSpec.ofChange ddItesSpec)

/-- ITS FALSE NEIGHBOUR: 'it returns false'. Refute it at one input. -/
def ddItesWrong : ChangeSpec := { name := "ddItes", fn := fun _ => fun
  | [d1, d2, d3, d4] => { results := [.lit (.bool false)], args := [d1, d2, d3, d4] }
  | _ => none }
def DdItesWrongFalsely : Prop := ddItesRow.holds Tryz.pinned (OpenSpec.ofChange ddItesWrong)

/-- 'voussoirlaw13.DdBuilds': WHATEVER THE INPUT: true; the input reads as it did. -/
def ddBuildsSpec : ChangeSpec := { name := "ddBuilds", fn := fun _ => fun
  | [d] => { results := [.lit (.bool true)], args := [d] }
  | _ => none }
def ddBuildsRow : OpenClaim := { program := "ytchliiaknmknhaagreat", sum := "a49b0a46368fa15db88ccb124af2d4d18601aa898151ddb6e4c6c208fc9047ae", func := "voussoir/voussoirlaw13.DdBuilds", spec := "ddBuilds", unfollowed := true, recurses := true, loops := true, plainKeys := false, apart := false }
def DdBuildsSaid : Prop := ddBuildsRow.holds Tryz.pinned (OpenSpec.ofChange ddBuildsSpec)

/-- ITS FALSE NEIGHBOUR: 'it returns false'. Refute it at one input. -/
def ddBuildsWrong : ChangeSpec := { name := "ddBuilds", fn := fun _ => fun
  | [d] => { results := [.lit (.bool false)], args := [d] }
  | _ => none }
def DdBuildsWrongFalsely : Prop := ddBuildsRow.holds Tryz.pinned (OpenSpec.ofChange ddBuildsWrong)

/-- 'voussoirlaw13.DdRefuses': WHATEVER THE INPUT: true; the input reads as it did. -/
def ddRefusesSpec : ChangeSpec := { name := "ddRefuses", fn := fun _ => fun
  | [d1, d2, d3, d4] => { results := [.lit (.bool true)], args := [d1, d2, d3, d4] }
  | _ => none }
def ddRefusesRow : OpenClaim := { program := "ytchliiaknmknhaagreat", sum := "a49b0a46368fa15db88ccb124af2d4d18601aa898151ddb6e4c6c208fc9047ae", func := "voussoir/voussoirlaw13.DdRefuses", spec := "ddRefuses", unfollowed := true, recurses := true, loops := true, plainKeys := false, apart := false }
def DdRefusesSaid : Prop := ddRefusesRow.holds Tryz.pinned (OpenSpec.ofChange ddRefusesSpec)

/-- ITS FALSE NEIGHBOUR: 'it returns false'. Refute it at one input. -/
def ddRefusesWrong : ChangeSpec := { name := "ddRefuses", fn := fun _ => fun
  | [d1, d2, d3, d4] => { results := [.lit (.bool false)], args := [d1, d2, d3, d4] }
  | _ => none }
def DdRefusesWrongFalsely : Prop := ddRefusesRow.holds Tryz.pinned (OpenSpec.ofChange ddRefusesWrong)

/-- 'voussoirlaw13.DdAsks': WHATEVER THE INPUT: true; the input reads as it did. -/
def ddAsksSpec : ChangeSpec := { name := "ddAsks", fn := fun _ => fun
  | [d1, d2, d3, d4] => { results := [.lit (.bool true)], args := [d1, d2, d3, d4] }
  | _ => none }
def ddAsksRow : OpenClaim := { program := "ytchliiaknmknhaagreat", sum := "a49b0a46368fa15db88ccb124af2d4d18601aa898151ddb6e4c6c208fc9047ae", func := "voussoir/voussoirlaw13.DdAsks", spec := "ddAsks", unfollowed := true, recurses := true, loops := true, plainKeys := false, apart := false }
def DdAsksSaid : Prop := ddAsksRow.holds Tryz.pinned (OpenSpec.ofChange ddAsksSpec)

/-- ITS FALSE NEIGHBOUR: 'it returns false'. Refute it at one input. -/
def ddAsksWrong : ChangeSpec := { name := "ddAsks", fn := fun _ => fun
  | [d1, d2, d3, d4] => { results := [.lit (.bool false)], args := [d1, d2, d3, d4] }
  | _ => none }
def DdAsksWrongFalsely : Prop := ddAsksRow.holds Tryz.pinned (OpenSpec.ofChange ddAsksWrong)

/-- 'voussoirlaw13.DdNone': WHATEVER THE INPUT: true; the input reads as it did. -/
def ddNoneSpec : ChangeSpec := { name := "ddNone", fn := fun _ => fun
  | [d1, d2, d3, d4] => { results := [.lit (.bool true)], args := [d1, d2, d3, d4] }
  | _ => none }
def ddNoneRow : OpenClaim := { program := "ytchliiaknmknhaagreat", sum := "a49b0a46368fa15db88ccb124af2d4d18601aa898151ddb6e4c6c208fc9047ae", func := "voussoir/voussoirlaw13.DdNone", spec := "ddNone", unfollowed := true, recurses := true, plainKeys := false, apart := false }
def DdNoneSaid : Prop := ddNoneRow.holds Tryz.pinned (OpenSpec.ofChange ddNoneSpec)

/-- ITS FALSE NEIGHBOUR: 'it returns false'. Refute it at one input. -/
def ddNoneWrong : ChangeSpec := { name := "ddNone", fn := fun _ => fun
  | [d1, d2, d3, d4] => { results := [.lit (.bool false)], args := [d1, d2, d3, d4] }
  | _ => none }
def DdNoneWrongFalsely : Prop := ddNoneRow.holds Tryz.pinned (OpenSpec.ofChange ddNoneWrong)

/- THE SECOND FORM. 'bulk': how many values and letters a reading holds, each counted each time it is reached (what is shared counts as often as it is met; a slice's spare places count too). A statement '..UptoSaid' is the law's where the arguments, and the package variables that the reading takes, are together of bulk at most 1048576: NARROWER than '..Said'. Prove '..Said' where nothing that the law and all that it calls make is longer than what came in: it says more and counts as full. Else prove '..UptoSaid'. A law counts once. -/
mutual
def uptoBulk {H : Type} : DataW H → Nat
  | .lit (.string bytes) => bytes.length + 1
  | .lit _ => 1
  | .nil => 1
  | .ptr d => uptoBulk d + 1
  | .slice elems spare => uptoBulkAll elems + uptoBulkAll spare + 1
  | .agg parts => uptoBulkAll parts + 1
  | .iface _ d => uptoBulk d + 1
  | .map entries => uptoBulkEntries entries + 1
  | .held _ => 1
def uptoBulkAll {H : Type} : List (DataW H) → Nat
  | [] => 0
  | d :: r => uptoBulk d + uptoBulkAll r
def uptoBulkEntries {H : Type} : List (Lit × DataW H) → Nat
  | [] => 0
  | x :: r => uptoBulkEntry x + uptoBulkEntries r
def uptoBulkEntry {H : Type} : Lit × DataW H → Nat
  | (.string bytes, d) => bytes.length + uptoBulk d + 1
  | (_, d) => uptoBulk d + 1
 end
def uptoSmall : (H : Type) → List (DataW H) → Bool := fun _ ds => decide (uptoBulkAll ds ≤ 1048576)
def OpenSpec.upto (s : _root_.Go.ChangeSpec) : _root_.Go.OpenSpec := { _root_.Go.OpenSpec.ofChange s with cond := some uptoSmall }

/-- 'voussoirlaw13.DdRooms', WHERE WHAT IT READS IS OF BULK AT MOST 1048576: true; the input reads as it did. -/
def ddRoomsUptoRow : OpenClaim := { program := "ytchliiaknmknhaagreat", sum := "a49b0a46368fa15db88ccb124af2d4d18601aa898151ddb6e4c6c208fc9047ae", func := "voussoir/voussoirlaw13.DdRooms", spec := "ddRooms", unfollowed := true, recurses := true, loops := true, plainKeys := false, apart := false, narrowed := true }
def DdRoomsUptoSaid : Prop := ddRoomsUptoRow.holds Tryz.pinned (OpenSpec.upto ddRoomsSpec)

/-- 'voussoirlaw13.DdWaits', WHERE WHAT IT READS IS OF BULK AT MOST 1048576: true; the input reads as it did. -/
def ddWaitsUptoRow : OpenClaim := { program := "ytchliiaknmknhaagreat", sum := "a49b0a46368fa15db88ccb124af2d4d18601aa898151ddb6e4c6c208fc9047ae", func := "voussoir/voussoirlaw13.DdWaits", spec := "ddWaits", unfollowed := true, recurses := true, loops := true, plainKeys := false, apart := false, narrowed := true }
def DdWaitsUptoSaid : Prop := ddWaitsUptoRow.holds Tryz.pinned (OpenSpec.upto ddWaitsSpec)

/-- 'voussoirlaw13.DdTops', WHERE WHAT IT READS IS OF BULK AT MOST 1048576: true; the input reads as it did. -/
def ddTopsUptoRow : OpenClaim := { program := "ytchliiaknmknhaagreat", sum := "a49b0a46368fa15db88ccb124af2d4d18601aa898151ddb6e4c6c208fc9047ae", func := "voussoir/voussoirlaw13.DdTops", spec := "ddTops", unfollowed := true, recurses := true, loops := true, plainKeys := false, apart := false, narrowed := true }
def DdTopsUptoSaid : Prop := ddTopsUptoRow.holds Tryz.pinned (OpenSpec.upto ddTopsSpec)

/-- 'voussoirlaw13.DdSwaps', WHERE WHAT IT READS IS OF BULK AT MOST 1048576: true; the input reads as it did. -/
def ddSwapsUptoRow : OpenClaim := { program := "ytchliiaknmknhaagreat", sum := "a49b0a46368fa15db88ccb124af2d4d18601aa898151ddb6e4c6c208fc9047ae", func := "voussoir/voussoirlaw13.DdSwaps", spec := "ddSwaps", unfollowed := true, recurses := true, loops := true, plainKeys := false, apart := false, narrowed := true }
def DdSwapsUptoSaid : Prop := ddSwapsUptoRow.holds Tryz.pinned (OpenSpec.upto ddSwapsSpec)

/-- 'voussoirlaw13.DdItes', WHERE WHAT IT READS IS OF BULK AT MOST 1048576: true; the input reads as it did. -/
def ddItesUptoRow : OpenClaim := { program := "ytchliiaknmknhaagreat", sum := "a49b0a46368fa15db88ccb124af2d4d18601aa898151ddb6e4c6c208fc9047ae", func := "voussoir/voussoirlaw13.DdItes", spec := "ddItes", unfollowed := true, recurses := true, loops := true, plainKeys := false, apart := false, narrowed := true }
def DdItesUptoSaid : Prop := ddItesUptoRow.holds Tryz.pinned (OpenSpec.upto ddItesSpec)

/-- 'voussoirlaw13.DdBuilds', WHERE WHAT IT READS IS OF BULK AT MOST 1048576: true; the input reads as it did. -/
def ddBuildsUptoRow : OpenClaim := { program := "ytchliiaknmknhaagreat", sum := "a49b0a46368fa15db88ccb124af2d4d18601aa898151ddb6e4c6c208fc9047ae", func := "voussoir/voussoirlaw13.DdBuilds", spec := "ddBuilds", unfollowed := true, recurses := true, loops := true, plainKeys := false, apart := false, narrowed := true }
def DdBuildsUptoSaid : Prop := ddBuildsUptoRow.holds Tryz.pinned (OpenSpec.upto ddBuildsSpec)

/-- 'voussoirlaw13.DdRefuses', WHERE WHAT IT READS IS OF BULK AT MOST 1048576: true; the input reads as it did. -/
def ddRefusesUptoRow : OpenClaim := { program := "ytchliiaknmknhaagreat", sum := "a49b0a46368fa15db88ccb124af2d4d18601aa898151ddb6e4c6c208fc9047ae", func := "voussoir/voussoirlaw13.DdRefuses", spec := "ddRefuses", unfollowed := true, recurses := true, loops := true, plainKeys := false, apart := false, narrowed := true }
def DdRefusesUptoSaid : Prop := ddRefusesUptoRow.holds Tryz.pinned (OpenSpec.upto ddRefusesSpec)

/-- 'voussoirlaw13.DdAsks', WHERE WHAT IT READS IS OF BULK AT MOST 1048576: true; the input reads as it did. -/
def ddAsksUptoRow : OpenClaim := { program := "ytchliiaknmknhaagreat", sum := "a49b0a46368fa15db88ccb124af2d4d18601aa898151ddb6e4c6c208fc9047ae", func := "voussoir/voussoirlaw13.DdAsks", spec := "ddAsks", unfollowed := true, recurses := true, loops := true, plainKeys := false, apart := false, narrowed := true }
def DdAsksUptoSaid : Prop := ddAsksUptoRow.holds Tryz.pinned (OpenSpec.upto ddAsksSpec)

/-- 'voussoirlaw13.DdNone', WHERE WHAT IT READS IS OF BULK AT MOST 1048576: true; the input reads as it did. -/
def ddNoneUptoRow : OpenClaim := { program := "ytchliiaknmknhaagreat", sum := "a49b0a46368fa15db88ccb124af2d4d18601aa898151ddb6e4c6c208fc9047ae", func := "voussoir/voussoirlaw13.DdNone", spec := "ddNone", unfollowed := true, recurses := true, plainKeys := false, apart := false, narrowed := true }
def DdNoneUptoSaid : Prop := ddNoneUptoRow.holds Tryz.pinned (OpenSpec.upto ddNoneSpec)

end Rows
end Go.Proofs.YtchliiaknmknhaaGreat
