/-
  NARROWER THAN 'FOR EVERY INPUT', by the rows' own cells (each row's printed sentence says how): GroupLists: loops · GroupGathers: loops · FixRanks: loops · FixRuns: loops · SatcParts: loops · SatcShares: loops · SatcWays: loops · SatcCounts: loops.
  DERIVED. THE GIVEN ROWS OF THIS SEAT. 9 by the template 'for every input the law returns true; each argument reads behind the call as it read before'; 0 by the template 'total and deterministic' (their statements: YtkbegdkpboklpaaGreatTotals.lean).
  GIVEN WITH THE SEED: the statements are not yours to turn. If you find one false, say at which input.
  Laid BY PROGRAM, IN A SANDBOX (cutbox-rows.mjs): the forced cells as the released guide's own fill.sh prints them over the translation d855de4155f06870… (all of the seat's roots in one cut). By AI agents, Wed Nov 11 2026. No macro, syntax, notation, axiom, sorry.
-/
import Derived.Test.YtkbegdkpboklpaaGreatChecked
import GoSem.Claim
import GoSem.ClaimJoined
import GoSem.ClaimMapViews
import Derived.JoinedTies
import Derived.KernelRfl
namespace Go.Proofs.YtkbegdkpboklpaaGreat
/- THE CELL 'sum', in the pinned program and in every row, IS THE sha256 OF THE DUMP (.gsa) THAT YtkbegdkpboklpaaGreatProg.lean LOADS. Nothing in Lean hashes anything: it is a label: what it is worth is what the hold of that sum in a sandbox is worth. -/
noncomputable def Tryz.pinned : Pinned := { name := "ytkbegdkpboklpaagreat", sum := "d855de4155f06870d1140ebdeecf2f625c146bc91ef07e938fc88479432bb902", checked := Tryz.checked }
namespace Rows
def none {H : Type} : Left H := { results := [], args := [] }

/-- 'voussoirlaw24.GroupNobody': WHATEVER THE INPUT: true; the input reads as it did. -/
def groupNobodySpec : ChangeSpec := { name := "groupNobody", fn := fun _ => fun
  | [d1, d2, d3] => { results := [.lit (.bool true)], args := [d1, d2, d3] }
  | _ => none }
def groupNobodyRow : OpenClaim := { program := "ytkbegdkpboklpaagreat", sum := "d855de4155f06870d1140ebdeecf2f625c146bc91ef07e938fc88479432bb902", func := "voussoir/voussoirlaw24.GroupNobody", spec := "groupNobody", inPlace := ["slices.overlaps[int]"], unfollowed := true, recurses := true, plainKeys := false, apart := false }
def GroupNobodySaid : Prop := groupNobodyRow.holds Tryz.pinned (OpenSpec.ofChange groupNobodySpec)

/-- ITS FALSE NEIGHBOUR: 'it returns false'. Refute it at one input. -/
def groupNobodyWrong : ChangeSpec := { name := "groupNobody", fn := fun _ => fun
  | [d1, d2, d3] => { results := [.lit (.bool false)], args := [d1, d2, d3] }
  | _ => none }
def GroupNobodyWrongFalsely : Prop := groupNobodyRow.holds Tryz.pinned (OpenSpec.ofChange groupNobodyWrong)

/-- 'voussoirlaw24.GroupLists': WHATEVER THE INPUT: true; the input reads as it did. -/
def groupListsSpec : ChangeSpec := { name := "groupLists", fn := fun _ => fun
  | [d1, d2, d3] => { results := [.lit (.bool true)], args := [d1, d2, d3] }
  | _ => none }
def groupListsRow : OpenClaim := { program := "ytkbegdkpboklpaagreat", sum := "d855de4155f06870d1140ebdeecf2f625c146bc91ef07e938fc88479432bb902", func := "voussoir/voussoirlaw24.GroupLists", spec := "groupLists", unfollowed := true, recurses := true, loops := true, plainKeys := false, apart := false }
def GroupListsSaid : Prop := groupListsRow.holds Tryz.pinned (OpenSpec.ofChange groupListsSpec)

/-- ITS FALSE NEIGHBOUR: 'it returns false'. Refute it at one input. -/
def groupListsWrong : ChangeSpec := { name := "groupLists", fn := fun _ => fun
  | [d1, d2, d3] => { results := [.lit (.bool false)], args := [d1, d2, d3] }
  | _ => none }
def GroupListsWrongFalsely : Prop := groupListsRow.holds Tryz.pinned (OpenSpec.ofChange groupListsWrong)

/-- 'voussoirlaw24.GroupGathers': WHATEVER THE INPUT: true; the input reads as it did. -/
def groupGathersSpec : ChangeSpec := { name := "groupGathers", fn := fun _ => fun
  | [d1, d2] => { results := [.lit (.bool true)], args := [d1, d2] }
  | _ => none }
def groupGathersRow : OpenClaim := { program := "ytkbegdkpboklpaagreat", sum := "d855de4155f06870d1140ebdeecf2f625c146bc91ef07e938fc88479432bb902", func := "voussoir/voussoirlaw24.GroupGathers", spec := "groupGathers", unfollowed := true, recurses := true, loops := true, plainKeys := false, apart := false }
def GroupGathersSaid : Prop := groupGathersRow.holds Tryz.pinned (OpenSpec.ofChange groupGathersSpec)

/-- ITS FALSE NEIGHBOUR: 'it returns false'. Refute it at one input. -/
def groupGathersWrong : ChangeSpec := { name := "groupGathers", fn := fun _ => fun
  | [d1, d2] => { results := [.lit (.bool false)], args := [d1, d2] }
  | _ => none }
def GroupGathersWrongFalsely : Prop := groupGathersRow.holds Tryz.pinned (OpenSpec.ofChange groupGathersWrong)

/-- 'voussoirlaw45.FixRanks': WHATEVER THE INPUT: true; the input reads as it did. -/
def fixRanksSpec : ChangeSpec := { name := "fixRanks", fn := fun _ => fun
  | [d1, d2, d3, d4, d5, d6, d7] => { results := [.lit (.bool true)], args := [d1, d2, d3, d4, d5, d6, d7] }
  | _ => none }
def fixRanksRow : OpenClaim := { program := "ytkbegdkpboklpaagreat", sum := "d855de4155f06870d1140ebdeecf2f625c146bc91ef07e938fc88479432bb902", func := "voussoir/voussoirlaw45.FixRanks", spec := "fixRanks", unfollowed := true, recurses := true, loops := true, plainKeys := false, apart := false }
def FixRanksSaid : Prop := fixRanksRow.holds Tryz.pinned (OpenSpec.ofChange fixRanksSpec)

/-- ITS FALSE NEIGHBOUR: 'it returns false'. Refute it at one input. -/
def fixRanksWrong : ChangeSpec := { name := "fixRanks", fn := fun _ => fun
  | [d1, d2, d3, d4, d5, d6, d7] => { results := [.lit (.bool false)], args := [d1, d2, d3, d4, d5, d6, d7] }
  | _ => none }
def FixRanksWrongFalsely : Prop := fixRanksRow.holds Tryz.pinned (OpenSpec.ofChange fixRanksWrong)

/-- 'voussoirlaw45.FixRuns': WHATEVER THE INPUT: true; the input reads as it did. -/
def fixRunsSpec : ChangeSpec := { name := "fixRuns", fn := fun _ => fun
  | [d1, d2, d3, d4, d5, d6] => { results := [.lit (.bool true)], args := [d1, d2, d3, d4, d5, d6] }
  | _ => none }
def fixRunsRow : OpenClaim := { program := "ytkbegdkpboklpaagreat", sum := "d855de4155f06870d1140ebdeecf2f625c146bc91ef07e938fc88479432bb902", func := "voussoir/voussoirlaw45.FixRuns", spec := "fixRuns", unfollowed := true, recurses := true, loops := true, plainKeys := false, apart := false }
def FixRunsSaid : Prop := fixRunsRow.holds Tryz.pinned (OpenSpec.ofChange fixRunsSpec)

/-- ITS FALSE NEIGHBOUR: 'it returns false'. Refute it at one input. -/
def fixRunsWrong : ChangeSpec := { name := "fixRuns", fn := fun _ => fun
  | [d1, d2, d3, d4, d5, d6] => { results := [.lit (.bool false)], args := [d1, d2, d3, d4, d5, d6] }
  | _ => none }
def FixRunsWrongFalsely : Prop := fixRunsRow.holds Tryz.pinned (OpenSpec.ofChange fixRunsWrong)

/-- 'voussoirlaw19.SatcParts': WHATEVER THE INPUT: true; the input reads as it did. -/
def satcPartsSpec : ChangeSpec := { name := "satcParts", fn := fun _ => fun
  | [d1, d2, d3, d4] => { results := [.lit (.bool true)], args := [d1, d2, d3, d4] }
  | _ => none }
def satcPartsRow : OpenClaim := { program := "ytkbegdkpboklpaagreat", sum := "d855de4155f06870d1140ebdeecf2f625c146bc91ef07e938fc88479432bb902", func := "voussoir/voussoirlaw19.SatcParts", spec := "satcParts", unfollowed := true, recurses := true, loops := true, plainKeys := false, apart := false }
def SatcPartsSaid : Prop := satcPartsRow.holds Tryz.pinned (OpenSpec.ofChange satcPartsSpec)

/-- ITS FALSE NEIGHBOUR: 'it returns false'. Refute it at one input. -/
def satcPartsWrong : ChangeSpec := { name := "satcParts", fn := fun _ => fun
  | [d1, d2, d3, d4] => { results := [.lit (.bool false)], args := [d1, d2, d3, d4] }
  | _ => none }
def SatcPartsWrongFalsely : Prop := satcPartsRow.holds Tryz.pinned (OpenSpec.ofChange satcPartsWrong)

/-- 'voussoirlaw19.SatcShares': WHATEVER THE INPUT: true; the input reads as it did. -/
def satcSharesSpec : ChangeSpec := { name := "satcShares", fn := fun _ => fun
  | [d1, d2] => { results := [.lit (.bool true)], args := [d1, d2] }
  | _ => none }
def satcSharesRow : OpenClaim := { program := "ytkbegdkpboklpaagreat", sum := "d855de4155f06870d1140ebdeecf2f625c146bc91ef07e938fc88479432bb902", func := "voussoir/voussoirlaw19.SatcShares", spec := "satcShares", unfollowed := true, recurses := true, loops := true, plainKeys := false, apart := false }
def SatcSharesSaid : Prop := satcSharesRow.holds Tryz.pinned (OpenSpec.ofChange satcSharesSpec)

/-- ITS FALSE NEIGHBOUR: 'it returns false'. Refute it at one input. -/
def satcSharesWrong : ChangeSpec := { name := "satcShares", fn := fun _ => fun
  | [d1, d2] => { results := [.lit (.bool false)], args := [d1, d2] }
  | _ => none }
def SatcSharesWrongFalsely : Prop := satcSharesRow.holds Tryz.pinned (OpenSpec.ofChange satcSharesWrong)

/-- 'voussoirlaw19.SatcWays': WHATEVER THE INPUT: true; the input reads as it did. -/
def satcWaysSpec : ChangeSpec := { name := "satcWays", fn := fun _ => fun
  | [d1, d2, d3, d4] => { results := [.lit (.bool true)], args := [d1, d2, d3, d4] }
  | _ => none }
def satcWaysRow : OpenClaim := { program := "ytkbegdkpboklpaagreat", sum := "d855de4155f06870d1140ebdeecf2f625c146bc91ef07e938fc88479432bb902", func := "voussoir/voussoirlaw19.SatcWays", spec := "satcWays", unfollowed := true, recurses := true, loops := true, plainKeys := false, apart := false }
def SatcWaysSaid : Prop := satcWaysRow.holds Tryz.pinned (OpenSpec.ofChange satcWaysSpec)

/-- ITS FALSE NEIGHBOUR: 'it returns false'. Refute it at one input. -/
def satcWaysWrong : ChangeSpec := { name := "satcWays", fn := fun _ => fun
  | [d1, d2, d3, d4] => { results := [.lit (.bool false)], args := [d1, d2, d3, d4] }
  | _ => none }
def SatcWaysWrongFalsely : Prop := satcWaysRow.holds Tryz.pinned (OpenSpec.ofChange satcWaysWrong)

/-- 'voussoirlaw19.SatcCounts': WHATEVER THE INPUT: true; the input reads as it did. -/
def satcCountsSpec : ChangeSpec := { name := "satcCounts", fn := fun _ => fun
  | [d1, d2, d3] => { results := [.lit (.bool true)], args := [d1, d2, d3] }
  | _ => none }
def satcCountsRow : OpenClaim := { program := "ytkbegdkpboklpaagreat", sum := "d855de4155f06870d1140ebdeecf2f625c146bc91ef07e938fc88479432bb902", func := "voussoir/voussoirlaw19.SatcCounts", spec := "satcCounts", unfollowed := true, recurses := true, loops := true, plainKeys := false, apart := false }
def SatcCountsSaid : Prop := satcCountsRow.holds Tryz.pinned (OpenSpec.ofChange satcCountsSpec)

/-- ITS FALSE NEIGHBOUR: 'it returns false'. Refute it at one input. -/
def satcCountsWrong : ChangeSpec := { name := "satcCounts", fn := fun _ => fun
  | [d1, d2, d3] => { results := [.lit (.bool false)], args := [d1, d2, d3] }
  | _ => none }
def SatcCountsWrongFalsely : Prop := satcCountsRow.holds Tryz.pinned (OpenSpec.ofChange satcCountsWrong)

/- THE SECOND FORM. 'bulk': how many values and letters a reading holds, each counted each time it is reached (what is shared counts as often as it is met; a slice's spare places count too). A statement '..UptoSaid' is the law's where the arguments, and the package variables that the reading takes, are together of bulk at most 1048576: NARROWER than '..Said'. Prove '..Said' where nothing that the law and all that it calls make is longer than what came in: it says more and counts as full. Else prove '..UptoSaid'. A law counts once. -/
mutual
def uptoBulk {H : Type} : DataW H → Nat
  | .lit (.string bytes) => bytes.length + 1
  | .lit _ => 1
  | .nil => 1
  | .ptr d => uptoBulk d + 1
  | .slice elems spare => uptoBulkAll elems + uptoBulkAll spare + 1
  | .agg parts => uptoBulkAll parts + 1
  | .iface _ d => uptoBulk d + 1
  | .map entries => uptoBulkEntries entries + 1
  | .held _ => 1
def uptoBulkAll {H : Type} : List (DataW H) → Nat
  | [] => 0
  | d :: r => uptoBulk d + uptoBulkAll r
def uptoBulkEntries {H : Type} : List (Lit × DataW H) → Nat
  | [] => 0
  | x :: r => uptoBulkEntry x + uptoBulkEntries r
def uptoBulkEntry {H : Type} : Lit × DataW H → Nat
  | (.string bytes, d) => bytes.length + uptoBulk d + 1
  | (_, d) => uptoBulk d + 1
 end
def uptoSmall : (H : Type) → List (DataW H) → Bool := fun _ ds => decide (uptoBulkAll ds ≤ 1048576)
def OpenSpec.upto (s : _root_.Go.ChangeSpec) : _root_.Go.OpenSpec := { _root_.Go.OpenSpec.ofChange s with cond := some uptoSmall }

/-- 'voussoirlaw24.GroupNobody', WHERE WHAT IT READS IS OF BULK AT MOST 1048576: true; the input reads as it did. -/
def groupNobodyUptoRow : OpenClaim := { program := "ytkbegdkpboklpaagreat", sum := "d855de4155f06870d1140ebdeecf2f625c146bc91ef07e938fc88479432bb902", func := "voussoir/voussoirlaw24.GroupNobody", spec := "groupNobody", inPlace := ["slices.overlaps[int]"], unfollowed := true, recurses := true, plainKeys := false, apart := false, narrowed := true }
def GroupNobodyUptoSaid : Prop := groupNobodyUptoRow.holds Tryz.pinned (OpenSpec.upto groupNobodySpec)

/-- 'voussoirlaw24.GroupLists', WHERE WHAT IT READS IS OF BULK AT MOST 1048576: true; the input reads as it did. -/
def groupListsUptoRow : OpenClaim := { program := "ytkbegdkpboklpaagreat", sum := "d855de4155f06870d1140ebdeecf2f625c146bc91ef07e938fc88479432bb902", func := "voussoir/voussoirlaw24.GroupLists", spec := "groupLists", unfollowed := true, recurses := true, loops := true, plainKeys := false, apart := false, narrowed := true }
def GroupListsUptoSaid : Prop := groupListsUptoRow.holds Tryz.pinned (OpenSpec.upto groupListsSpec)

/-- 'voussoirlaw24.GroupGathers', WHERE WHAT IT READS IS OF BULK AT MOST 1048576: true; the input reads as it did. -/
def groupGathersUptoRow : OpenClaim := { program := "ytkbegdkpboklpaagreat", sum := "d855de4155f06870d1140ebdeecf2f625c146bc91ef07e938fc88479432bb902", func := "voussoir/voussoirlaw24.GroupGathers", spec := "groupGathers", unfollowed := true, recurses := true, loops := true, plainKeys := false, apart := false, narrowed := true }
def GroupGathersUptoSaid : Prop := groupGathersUptoRow.holds Tryz.pinned (OpenSpec.upto groupGathersSpec)

/-- 'voussoirlaw45.FixRanks', WHERE WHAT IT READS IS OF BULK AT MOST 1048576: true; the input reads as it did. -/
def fixRanksUptoRow : OpenClaim := { program := "ytkbegdkpboklpaagreat", sum := "d855de4155f06870d1140ebdeecf2f625c146bc91ef07e938fc88479432bb902", func := "voussoir/voussoirlaw45.FixRanks", spec := "fixRanks", unfollowed := true, recurses := true, loops := true, plainKeys := false, apart := false, narrowed := true }
def FixRanksUptoSaid : Prop := fixRanksUptoRow.holds Tryz.pinned (OpenSpec.upto fixRanksSpec)

/-- 'voussoirlaw45.FixRuns', WHERE WHAT IT READS IS OF BULK AT MOST 1048576: true; the input reads as it did. -/
def fixRunsUptoRow : OpenClaim := { program := "ytkbegdkpboklpaagreat", sum := "d855de4155f06870d1140ebdeecf2f625c146bc91ef07e938fc88479432bb902", func := "voussoir/voussoirlaw45.FixRuns", spec := "fixRuns", unfollowed := true, recurses := true, loops := true, plainKeys := false, apart := false, narrowed := true }
def FixRunsUptoSaid : Prop := fixRunsUptoRow.holds Tryz.pinned (OpenSpec.upto fixRunsSpec)

/-- 'voussoirlaw19.SatcParts', WHERE WHAT IT READS IS OF BULK AT MOST 1048576: true; the input reads as it did. -/
def satcPartsUptoRow : OpenClaim := { program := "ytkbegdkpboklpaagreat", sum := "d855de4155f06870d1140ebdeecf2f625c146bc91ef07e938fc88479432bb902", func := "voussoir/voussoirlaw19.SatcParts", spec := "satcParts", unfollowed := true, recurses := true, loops := true, plainKeys := false, apart := false, narrowed := true }
def SatcPartsUptoSaid : Prop := satcPartsUptoRow.holds Tryz.pinned (OpenSpec.upto satcPartsSpec)

/-- 'voussoirlaw19.SatcShares', WHERE WHAT IT READS IS OF BULK AT MOST 1048576: true; the input reads as it did. -/
def satcSharesUptoRow : OpenClaim := { program := "ytkbegdkpboklpaagreat", sum := "d855de4155f06870d1140ebdeecf2f625c146bc91ef07e938fc88479432bb902", func := "voussoir/voussoirlaw19.SatcShares", spec := "satcShares", unfollowed := true, recurses := true, loops := true, plainKeys := false, apart := false, narrowed := true }
def SatcSharesUptoSaid : Prop := satcSharesUptoRow.holds Tryz.pinned (OpenSpec.upto satcSharesSpec)

/-- 'voussoirlaw19.SatcWays', WHERE WHAT IT READS IS OF BULK AT MOST 1048576: true; the input reads as it did. -/
def satcWaysUptoRow : OpenClaim := { program := "ytkbegdkpboklpaagreat", sum := "d855de4155f06870d1140ebdeecf2f625c146bc91ef07e938fc88479432bb902", func := "voussoir/voussoirlaw19.SatcWays", spec := "satcWays", unfollowed := true, recurses := true, loops := true, plainKeys := false, apart := false, narrowed := true }
def SatcWaysUptoSaid : Prop := satcWaysUptoRow.holds Tryz.pinned (OpenSpec.upto satcWaysSpec)

/-- 'voussoirlaw19.SatcCounts', WHERE WHAT IT READS IS OF BULK AT MOST 1048576: true; the input reads as it did. -/
def satcCountsUptoRow : OpenClaim := { program := "ytkbegdkpboklpaagreat", sum := "d855de4155f06870d1140ebdeecf2f625c146bc91ef07e938fc88479432bb902", func := "voussoir/voussoirlaw19.SatcCounts", spec := "satcCounts", unfollowed := true, recurses := true, loops := true, plainKeys := false, apart := false, narrowed := true }
def SatcCountsUptoSaid : Prop := satcCountsUptoRow.holds Tryz.pinned (OpenSpec.upto satcCountsSpec)

end Rows
end Go.Proofs.YtkbegdkpboklpaaGreat
