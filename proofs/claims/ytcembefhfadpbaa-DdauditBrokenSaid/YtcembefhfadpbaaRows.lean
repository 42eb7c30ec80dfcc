/-
  No cell of these rows narrows 'for every input' (looked for: loops, veiled, ifaces, maps, wideKeys, modest, calm, conditions, laid).
  DERIVED. THE GIVEN ROWS OF THIS SEAT. 6 by the template 'for every input the law returns true; each argument reads behind the call as it read before'; 0 by the template 'total and deterministic' (their statements: YtcembefhfadpbaaTotals.lean).
  GIVEN WITH THE SEED: the statements are not yours to turn. If you find one false, say at which input.
  Laid BY PROGRAM, IN A SANDBOX (cutbox-rows.mjs): the forced cells as the released guide's own fill.sh prints them over the translation 994db68b998da3db… (all of the seat's roots in one cut). By AI agents, Wed Nov 11 2026. No macro, syntax, notation, axiom, sorry.
-/
import Derived.Test.YtcembefhfadpbaaChecked
import GoSem.Claim
import GoSem.ClaimJoined
import GoSem.ClaimMapViews
import Derived.JoinedTies
import Derived.KernelRfl
namespace Go.Proofs.Ytcembefhfadpbaa
/- THE CELL 'sum', in the pinned program and in every row, IS THE sha256 OF THE DUMP (.gsa) THAT YtcembefhfadpbaaProg.lean LOADS. Nothing in Lean hashes anything: it is a label: what it is worth is what the hold of that sum in a sandbox is worth. -/
noncomputable def Try.pinned : Pinned := { name := "ytcembefhfadpbaa", sum := "994db68b998da3db9e810f66219be16a48b3d557a12851c5bd939158564bf2c7", checked := Try.checked }
namespace Rows
def none {H : Type} : Left H := { results := [], args := [] }

/-- 'voussoirlaw25.DdauditFinds': WHATEVER THE INPUT: true; the input reads as it did. -/
def ddauditFindsSpec : ChangeSpec := { name := "ddauditFinds", fn := fun _ => fun
  | [d1, d2] => { results := [.lit (.bool true)], args := [d1, d2] }
  | _ => none }
def ddauditFindsRow : OpenClaim := { program := "ytcembefhfadpbaa", sum := "994db68b998da3db9e810f66219be16a48b3d557a12851c5bd939158564bf2c7", func := "voussoir/voussoirlaw25.DdauditFinds", spec := "ddauditFinds", unfollowed := true, recurses := true, plainKeys := false, apart := false }
def DdauditFindsSaid : Prop := ddauditFindsRow.holds Try.pinned (OpenSpec.ofChange ddauditFindsSpec)

/-- ITS FALSE NEIGHBOUR: 'it returns false'. Refute it at one input. -/
def ddauditFindsWrong : ChangeSpec := { name := "ddauditFinds", fn := fun _ => fun
  | [d1, d2] => { results := [.lit (.bool false)], args := [d1, d2] }
  | _ => none }
def DdauditFindsWrongFalsely : Prop := ddauditFindsRow.holds Try.pinned (OpenSpec.ofChange ddauditFindsWrong)

/-- 'voussoirlaw25.DdauditBroken': WHATEVER THE INPUT: true; the input reads as it did. -/
def ddauditBrokenSpec : ChangeSpec := { name := "ddauditBroken", fn := fun _ => fun
  | [d1, d2, d3] => { results := [.lit (.bool true)], args := [d1, d2, d3] }
  | _ => none }
def ddauditBrokenRow : OpenClaim := { program := "ytcembefhfadpbaa", sum := "994db68b998da3db9e810f66219be16a48b3d557a12851c5bd939158564bf2c7", func := "voussoir/voussoirlaw25.DdauditBroken", spec := "ddauditBroken", unfollowed := true, recurses := true, plainKeys := false, apart := false }
def DdauditBrokenSaid : Prop := ddauditBrokenRow.holds Try.pinned (OpenSpec.ofChange ddauditBrokenSpec)

/-- ITS FALSE NEIGHBOUR: 'it returns false'. Refute it at one input. -/
def ddauditBrokenWrong : ChangeSpec := { name := "ddauditBroken", fn := fun _ => fun
  | [d1, d2, d3] => { results := [.lit (.bool false)], args := [d1, d2, d3] }
  | _ => none }
def DdauditBrokenWrongFalsely : Prop := ddauditBrokenRow.holds Try.pinned (OpenSpec.ofChange ddauditBrokenWrong)

/-- 'voussoirlaw05.PermSteps': WHATEVER THE INPUT: true; the input reads as it did. -/
def permStepsSpec : ChangeSpec := { name := "permSteps", fn := fun _ => fun
  | [d1, d2] => { results := [.lit (.bool true)], args := [d1, d2] }
  | _ => none }
def permStepsRow : OpenClaim := { program := "ytcembefhfadpbaa", sum := "994db68b998da3db9e810f66219be16a48b3d557a12851c5bd939158564bf2c7", func := "voussoir/voussoirlaw05.PermSteps", spec := "permSteps", inPlace := ["slices.overlaps[int]"], plainKeys := false, apart := false }
def PermStepsSaid : Prop := permStepsRow.holds Try.pinned (OpenSpec.ofChange permStepsSpec)

/-- ITS FALSE NEIGHBOUR: 'it returns false'. Refute it at one input. -/
def permStepsWrong : ChangeSpec := { name := "permSteps", fn := fun _ => fun
  | [d1, d2] => { results := [.lit (.bool false)], args := [d1, d2] }
  | _ => none }
def PermStepsWrongFalsely : Prop := permStepsRow.holds Try.pinned (OpenSpec.ofChange permStepsWrong)

/-- 'voussoirlaw05.PermLeads': WHATEVER THE INPUT: true; the input reads as it did. -/
def permLeadsSpec : ChangeSpec := { name := "permLeads", fn := fun _ => fun
  | [d1, d2] => { results := [.lit (.bool true)], args := [d1, d2] }
  | _ => none }
def permLeadsRow : OpenClaim := { program := "ytcembefhfadpbaa", sum := "994db68b998da3db9e810f66219be16a48b3d557a12851c5bd939158564bf2c7", func := "voussoir/voussoirlaw05.PermLeads", spec := "permLeads", inPlace := ["slices.overlaps[int]"], plainKeys := false, apart := false }
def PermLeadsSaid : Prop := permLeadsRow.holds Try.pinned (OpenSpec.ofChange permLeadsSpec)

/-- ITS FALSE NEIGHBOUR: 'it returns false'. Refute it at one input. -/
def permLeadsWrong : ChangeSpec := { name := "permLeads", fn := fun _ => fun
  | [d1, d2] => { results := [.lit (.bool false)], args := [d1, d2] }
  | _ => none }
def PermLeadsWrongFalsely : Prop := permLeadsRow.holds Try.pinned (OpenSpec.ofChange permLeadsWrong)

/-- 'voussoirlaw05.PermMakes': WHATEVER THE INPUT: true; the input reads as it did. -/
def permMakesSpec : ChangeSpec := { name := "permMakes", fn := fun _ => fun
  | [d1, d2, d3] => { results := [.lit (.bool true)], args := [d1, d2, d3] }
  | _ => none }
def permMakesRow : OpenClaim := { program := "ytcembefhfadpbaa", sum := "994db68b998da3db9e810f66219be16a48b3d557a12851c5bd939158564bf2c7", func := "voussoir/voussoirlaw05.PermMakes", spec := "permMakes", inPlace := ["slices.overlaps[int]"], plainKeys := false, apart := false }
def PermMakesSaid : Prop := permMakesRow.holds Try.pinned (OpenSpec.ofChange permMakesSpec)

/-- ITS FALSE NEIGHBOUR: 'it returns false'. Refute it at one input. -/
def permMakesWrong : ChangeSpec := { name := "permMakes", fn := fun _ => fun
  | [d1, d2, d3] => { results := [.lit (.bool false)], args := [d1, d2, d3] }
  | _ => none }
def PermMakesWrongFalsely : Prop := permMakesRow.holds Try.pinned (OpenSpec.ofChange permMakesWrong)

/-- 'voussoirlaw05.PermBack': WHATEVER THE INPUT: true; the input reads as it did. -/
def permBackSpec : ChangeSpec := { name := "permBack", fn := fun _ => fun
  | [d1, d2, d3] => { results := [.lit (.bool true)], args := [d1, d2, d3] }
  | _ => none }
def permBackRow : OpenClaim := { program := "ytcembefhfadpbaa", sum := "994db68b998da3db9e810f66219be16a48b3d557a12851c5bd939158564bf2c7", func := "voussoir/voussoirlaw05.PermBack", spec := "permBack", inPlace := ["slices.overlaps[int]"], plainKeys := false, apart := false }
def PermBackSaid : Prop := permBackRow.holds Try.pinned (OpenSpec.ofChange permBackSpec)

/-- ITS FALSE NEIGHBOUR: 'it returns false'. Refute it at one input. -/
def permBackWrong : ChangeSpec := { name := "permBack", fn := fun _ => fun
  | [d1, d2, d3] => { results := [.lit (.bool false)], args := [d1, d2, d3] }
  | _ => none }
def PermBackWrongFalsely : Prop := permBackRow.holds Try.pinned (OpenSpec.ofChange permBackWrong)

/- THE SECOND FORM. 'bulk': how many values and letters a reading holds, each counted each time it is reached (what is shared counts as often as it is met; a slice's spare places count too). A statement '..UptoSaid' is the law's where the arguments, and the package variables that the reading takes, are together of bulk at most 1048576: NARROWER than '..Said'. Prove '..Said' where nothing that the law and all that it calls make is longer than what came in: it says more and counts as full. Else prove '..UptoSaid'. A law counts once. -/
mutual
def uptoBulk {H : Type} : DataW H → Nat
  | .lit (.string bytes) => bytes.length + 1
  | .lit _ => 1
  | .nil => 1
  | .ptr d => uptoBulk d + 1
  | .slice elems spare => uptoBulkAll elems + uptoBulkAll spare + 1
  | .agg parts => uptoBulkAll parts + 1
  | .iface _ d => uptoBulk d + 1
  | .map entries => uptoBulkEntries entries + 1
  | .held _ => 1
def uptoBulkAll {H : Type} : List (DataW H) → Nat
  | [] => 0
  | d :: r => uptoBulk d + uptoBulkAll r
def uptoBulkEntries {H : Type} : List (Lit × DataW H) → Nat
  | [] => 0
  | x :: r => uptoBulkEntry x + uptoBulkEntries r
def uptoBulkEntry {H : Type} : Lit × DataW H → Nat
  | (.string bytes, d) => bytes.length + uptoBulk d + 1
  | (_, d) => uptoBulk d + 1
 end
def uptoSmall : (H : Type) → List (DataW H) → Bool := fun _ ds => decide (uptoBulkAll ds ≤ 1048576)
def OpenSpec.upto (s : _root_.Go.ChangeSpec) : _root_.Go.OpenSpec := { _root_.Go.OpenSpec.ofChange s with cond := some uptoSmall }

/-- 'voussoirlaw25.DdauditFinds', WHERE WHAT IT READS IS OF BULK AT MOST 1048576: true; the input reads as it did. -/
def ddauditFindsUptoRow : OpenClaim := { program := "ytcembefhfadpbaa", sum := "994db68b998da3db9e810f66219be16a48b3d557a12851c5bd939158564bf2c7", func := "voussoir/voussoirlaw25.DdauditFinds", spec := "ddauditFinds", unfollowed := true, recurses := true, plainKeys := false, apart := false, narrowed := true }
def DdauditFindsUptoSaid : Prop := ddauditFindsUptoRow.holds Try.pinned (OpenSpec.upto ddauditFindsSpec)

/-- 'voussoirlaw25.DdauditBroken', WHERE WHAT IT READS IS OF BULK AT MOST 1048576: true; the input reads as it did. -/
def ddauditBrokenUptoRow : OpenClaim := { program := "ytcembefhfadpbaa", sum := "994db68b998da3db9e810f66219be16a48b3d557a12851c5bd939158564bf2c7", func := "voussoir/voussoirlaw25.DdauditBroken", spec := "ddauditBroken", unfollowed := true, recurses := true, plainKeys := false, apart := false, narrowed := true }
def DdauditBrokenUptoSaid : Prop := ddauditBrokenUptoRow.holds Try.pinned (OpenSpec.upto ddauditBrokenSpec)

/-- 'voussoirlaw05.PermSteps', WHERE WHAT IT READS IS OF BULK AT MOST 1048576: true; the input reads as it did. -/
def permStepsUptoRow : OpenClaim := { program := "ytcembefhfadpbaa", sum := "994db68b998da3db9e810f66219be16a48b3d557a12851c5bd939158564bf2c7", func := "voussoir/voussoirlaw05.PermSteps", spec := "permSteps", inPlace := ["slices.overlaps[int]"], plainKeys := false, apart := false, narrowed := true }
def PermStepsUptoSaid : Prop := permStepsUptoRow.holds Try.pinned (OpenSpec.upto permStepsSpec)

/-- 'voussoirlaw05.PermLeads', WHERE WHAT IT READS IS OF BULK AT MOST 1048576: true; the input reads as it did. -/
def permLeadsUptoRow : OpenClaim := { program := "ytcembefhfadpbaa", sum := "994db68b998da3db9e810f66219be16a48b3d557a12851c5bd939158564bf2c7", func := "voussoir/voussoirlaw05.PermLeads", spec := "permLeads", inPlace := ["slices.overlaps[int]"], plainKeys := false, apart := false, narrowed := true }
def PermLeadsUptoSaid : Prop := permLeadsUptoRow.holds Try.pinned (OpenSpec.upto permLeadsSpec)

/-- 'voussoirlaw05.PermMakes', WHERE WHAT IT READS IS OF BULK AT MOST 1048576: true; the input reads as it did. -/
def permMakesUptoRow : OpenClaim := { program := "ytcembefhfadpbaa", sum := "994db68b998da3db9e810f66219be16a48b3d557a12851c5bd939158564bf2c7", func := "voussoir/voussoirlaw05.PermMakes", spec := "permMakes", inPlace := ["slices.overlaps[int]"], plainKeys := false, apart := false, narrowed := true }
def PermMakesUptoSaid : Prop := permMakesUptoRow.holds Try.pinned (OpenSpec.upto permMakesSpec)

/-- 'voussoirlaw05.PermBack', WHERE WHAT IT READS IS OF BULK AT MOST 1048576: true; the input reads as it did. -/
def permBackUptoRow : OpenClaim := { program := "ytcembefhfadpbaa", sum := "994db68b998da3db9e810f66219be16a48b3d557a12851c5bd939158564bf2c7", func := "voussoir/voussoirlaw05.PermBack", spec := "permBack", inPlace := ["slices.overlaps[int]"], plainKeys := false, apart := false, narrowed := true }
def PermBackUptoSaid : Prop := permBackUptoRow.holds Try.pinned (OpenSpec.upto permBackSpec)

end Rows
end Go.Proofs.Ytcembefhfadpbaa
