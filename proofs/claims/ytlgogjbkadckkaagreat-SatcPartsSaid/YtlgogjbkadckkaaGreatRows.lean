/-
  NARROWER THAN 'FOR EVERY INPUT', by the rows' own cells (each row's printed sentence says how): SatcParts: loops · DdauditClean: loops.
  DERIVED. THE GIVEN ROWS OF THIS SEAT. 2 by the template 'for every input the law returns true; each argument reads behind the call as it read before'; 0 by the template 'total and deterministic' (their statements: YtlgogjbkadckkaaGreatTotals.lean).
  GIVEN WITH THE SEED: the statements are not yours to turn. If you find one false, say at which input.
  Laid BY PROGRAM, IN A SANDBOX (cutbox-rows.mjs): the forced cells as the released guide's own fill.sh prints them over the translation c3058e9e5e8be40e… (all of the seat's roots in one cut). By AI agents, Wed Nov 11 2026. No macro, syntax, notation, axiom, sorry.
-/
import Derived.Test.YtlgogjbkadckkaaGreatChecked
import GoSem.Claim
import GoSem.ClaimJoined
import GoSem.ClaimMapViews
import Derived.JoinedTies
import Derived.KernelRfl
namespace Go.Proofs.YtlgogjbkadckkaaGreat
/- THE CELL 'sum', in the pinned program and in every row, IS THE sha256 OF THE DUMP (.gsa) THAT YtlgogjbkadckkaaGreatProg.lean LOADS. Nothing in Lean hashes anything: it is a label: what it is worth is what the hold of that sum in a sandbox is worth. -/
noncomputable def Tryz.pinned : Pinned := { name := "ytlgogjbkadckkaagreat", sum := "c3058e9e5e8be40e693a5df0f59a0a8a73e31caf2172162cdf21f9f8e96d5854", checked := Tryz.checked }
namespace Rows
def none {H : Type} : Left H := { results := [], args := [] }

/-- 'voussoirlaw19.SatcParts': WHATEVER THE INPUT: true; the input reads as it did. -/
def satcPartsSpec : ChangeSpec := { name := "satcParts", fn := fun _ => fun
  | [d1, d2, d3, d4] => { results := [.lit (.bool true)], args := [d1, d2, d3, d4] }
  | _ => none }
def satcPartsRow : OpenClaim := { program := "ytlgogjbkadckkaagreat", sum := "c3058e9e5e8be40e693a5df0f59a0a8a73e31caf2172162cdf21f9f8e96d5854", func := "voussoir/voussoirlaw19.SatcParts", spec := "satcParts", unfollowed := true, recurses := true, loops := true, plainKeys := false, apart := false }
def SatcPartsSaid : Prop := satcPartsRow.holds Tryz.pinned (OpenSpec.ofChange satcPartsSpec)

/-- ITS FALSE NEIGHBOUR: 'it returns false'. Refute it at one input. -/
def satcPartsWrong : ChangeSpec := { name := "satcParts", fn := fun _ => fun
  | [d1, d2, d3, d4] => { results := [.lit (.bool false)], args := [d1, d2, d3, d4] }
  | _ => none }
def SatcPartsWrongFalsely : Prop := satcPartsRow.holds Tryz.pinned (OpenSpec.ofChange satcPartsWrong)

/-- 'voussoirlaw25.DdauditClean': WHATEVER THE INPUT: true; the input reads as it did. -/
def ddauditCleanSpec : ChangeSpec := { name := "ddauditClean", fn := fun _ => fun
  | [d1, d2, d3] => { results := [.lit (.bool true)], args := [d1, d2, d3] }
  | _ => none }
def ddauditCleanRow : OpenClaim := { program := "ytlgogjbkadckkaagreat", sum := "c3058e9e5e8be40e693a5df0f59a0a8a73e31caf2172162cdf21f9f8e96d5854", func := "voussoir/voussoirlaw25.DdauditClean", spec := "ddauditClean", unfollowed := true, recurses := true, loops := true, plainKeys := false, apart := false }
def DdauditCleanSaid : Prop := ddauditCleanRow.holds Tryz.pinned (OpenSpec.ofChange ddauditCleanSpec)

/-- ITS FALSE NEIGHBOUR: 'it returns false'. Refute it at one input. -/
def ddauditCleanWrong : ChangeSpec := { name := "ddauditClean", fn := fun _ => fun
  | [d1, d2, d3] => { results := [.lit (.bool false)], args := [d1, d2, d3] }
  | _ => none }
def DdauditCleanWrongFalsely : Prop := ddauditCleanRow.holds Tryz.pinned (OpenSpec.ofChange ddauditCleanWrong)

/- THE SECOND FORM. 'bulk': how many values and letters a reading holds, each counted each time it is reached (what is shared counts as often as it is met; a slice's spare places count too). A statement '..UptoSaid' is the law's where the arguments, and the package variables that the reading takes, are together of bulk at most 1048576: NARROWER than '..Said'. Prove '..Said' where nothing that the law and all that it calls make is longer than what came in: it says more and counts as full. Else prove '..UptoSaid'. A law counts once. -/
mutual
def uptoBulk {H : Type} : DataW H → Nat
  | .lit (.string bytes) => bytes.length + 1
  | .lit _ => 1
  | .nil => 1
  | .ptr d => uptoBulk d + 1
  | .slice elems spare => uptoBulkAll elems + uptoBulkAll spare + 1
  | .agg parts => uptoBulkAll parts + 1
  | .iface _ d => uptoBulk d + 1
  | .map entries => uptoBulkEntries entries + 1
  | .held _ => 1
def uptoBulkAll {H : Type} : List (DataW H) → Nat
  | [] => 0
  | d :: r => uptoBulk d + uptoBulkAll r
def uptoBulkEntries {H : Type} : List (Lit × DataW H) → Nat
  | [] => 0
  | x :: r => uptoBulkEntry x + uptoBulkEntries r
def uptoBulkEntry {H : Type} : Lit × DataW H → Nat
  | (.string bytes, d) => bytes.length + uptoBulk d + 1
  | (_, d) => uptoBulk d + 1
 end
def uptoSmall : (H : Type) → List (DataW H) → Bool := fun _ ds => decide (uptoBulkAll ds ≤ 1048576)
def OpenSpec.upto (s : _root_.Go.ChangeSpec) : _root_.Go.OpenSpec := { _root_.Go.OpenSpec.ofChange s with cond := some uptoSmall }

/-- 'voussoirlaw19.SatcParts', WHERE WHAT IT READS IS OF BULK AT MOST 1048576: true; the input reads as it did. -/
def satcPartsUptoRow : OpenClaim := { program := "ytlgogjbkadckkaagreat", sum := "c3058e9e5e8be40e693a5df0f59a0a8a73e31caf2172162cdf21f9f8e96d5854", func := "voussoir/voussoirlaw19.SatcParts", spec := "satcParts", unfollowed := true, recurses := true, loops := true, plainKeys := false, apart := false, narrowed := true }
def SatcPartsUptoSaid : Prop := satcPartsUptoRow.holds Tryz.pinned (OpenSpec.upto satcPartsSpec)

/-- 'voussoirlaw25.DdauditClean', WHERE WHAT IT READS IS OF BULK AT MOST 1048576: true; the input reads as it did. -/
def ddauditCleanUptoRow : OpenClaim := { program := "ytlgogjbkadckkaagreat", sum := "c3058e9e5e8be40e693a5df0f59a0a8a73e31caf2172162cdf21f9f8e96d5854", func := "voussoir/voussoirlaw25.DdauditClean", spec := "ddauditClean", unfollowed := true, recurses := true, loops := true, plainKeys := false, apart := false, narrowed := true }
def DdauditCleanUptoSaid : Prop := ddauditCleanUptoRow.holds Tryz.pinned (OpenSpec.upto ddauditCleanSpec)

end Rows
end Go.Proofs.YtlgogjbkadckkaaGreat
