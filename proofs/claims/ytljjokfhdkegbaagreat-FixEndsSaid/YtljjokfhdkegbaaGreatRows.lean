/-
  NARROWER THAN 'FOR EVERY INPUT', by the rows' own cells (each row's printed sentence says how): GroupLists: loops · GroupGathers: loops · FixEnds: loops · CofSqueezes: loops · FixRanks: loops · FixStays: loops · FixRuns: loops · SatcParts: loops · SatcShares: loops · SatcWays: loops · SatcCounts: loops · ReorderWindows: loops · ReorderBack: loops · ReorderTo: loops · ReorderMoves: loops.
  DERIVED. THE GIVEN ROWS OF THIS SEAT. 16 by the template 'for every input the law returns true; each argument reads behind the call as it read before'; 0 by the template 'total and deterministic' (their statements: YtljjokfhdkegbaaGreatTotals.lean).
  GIVEN WITH THE SEED: the statements are not yours to turn. If you find one false, say at which input.
  Laid BY PROGRAM, IN A SANDBOX (cutbox-rows.mjs): the forced cells as the released guide's own fill.sh prints them over the translation fda26e6dc90ba46a… (all of the seat's roots in one cut). By AI agents, Wed Nov 11 2026. No macro, syntax, notation, axiom, sorry.
-/
import Derived.Test.YtljjokfhdkegbaaGreatChecked
import GoSem.Claim
import GoSem.ClaimJoined
import GoSem.ClaimMapViews
import Derived.JoinedTies
import Derived.KernelRfl
namespace Go.Proofs.YtljjokfhdkegbaaGreat
/- THE CELL 'sum', in the pinned program and in every row, IS THE sha256 OF THE DUMP (.gsa) THAT YtljjokfhdkegbaaGreatProg.lean LOADS. Nothing in Lean hashes anything: it is a label: what it is worth is what the hold of that sum in a sandbox is worth. -/
noncomputable def Tryz.pinned : Pinned := { name := "ytljjokfhdkegbaagreat", sum := "fda26e6dc90ba46ada21adadb39466eaf6e170b991eab07b581d35e31630b876", checked := Tryz.checked }
namespace Rows
def none {H : Type} : Left H := { results := [], args := [] }

/-- 'voussoirlaw24.GroupNobody': WHATEVER THE INPUT: true; the input reads as it did. -/
def groupNobodySpec : ChangeSpec := { name := "groupNobody", fn := fun _ => fun
  | [d1, d2, d3] => { results := [.lit (.bool true)], args := [d1, d2, d3] }
  | _ => none }
def groupNobodyRow : OpenClaim := { program := "ytljjokfhdkegbaagreat", sum := "fda26e6dc90ba46ada21adadb39466eaf6e170b991eab07b581d35e31630b876", func := "voussoir/voussoirlaw24.GroupNobody", spec := "groupNobody", inPlace := ["slices.overlaps[int]"], unfollowed := true, recurses := true, plainKeys := false, apart := false }
def GroupNobodySaid : Prop := groupNobodyRow.holds Tryz.pinned (OpenSpec.ofChange groupNobodySpec)

/-- ITS FALSE NEIGHBOUR: 'it returns false'. Refute it at one input. -/
def groupNobodyWrong : ChangeSpec := { name := "groupNobody", fn := fun _ => fun
  | [d1, d2, d3] => { results := [.lit (.bool false)], args := [d1, d2, d3] }
  | _ => none }
def GroupNobodyWrongFalsely : Prop := groupNobodyRow.holds Tryz.pinned (OpenSpec.ofChange groupNobodyWrong)

/-- 'voussoirlaw24.GroupLists': WHATEVER THE INPUT: true; the input reads as it did. -/
def groupListsSpec : ChangeSpec := { name := "groupLists", fn := fun _ => fun
  | [d1, d2, d3] => { results := [.lit (.bool true)], args := [d1, d2, d3] }
  | _ => none }
def groupListsRow : OpenClaim := { program := "ytljjokfhdkegbaagreat", sum := "fda26e6dc90ba46ada21adadb39466eaf6e170b991eab07b581d35e31630b876", func := "voussoir/voussoirlaw24.GroupLists", spec := "groupLists", unfollowed := true, recurses := true, loops := true, plainKeys := false, apart := false }
def GroupListsSaid : Prop := groupListsRow.holds Tryz.pinned (OpenSpec.ofChange groupListsSpec)

/-- ITS FALSE NEIGHBOUR: 'it returns false'. Refute it at one input. -/
def groupListsWrong : ChangeSpec := { name := "groupLists", fn := fun _ => fun
  | [d1, d2, d3] => { results := [.lit (.bool false)], args := [d1, d2, d3] }
  | _ => none }
def GroupListsWrongFalsely : Prop := groupListsRow.holds Tryz.pinned (OpenSpec.ofChange groupListsWrong)

/-- 'voussoirlaw24.GroupGathers': WHATEVER THE INPUT: true; the input reads as it did. -/
def groupGathersSpec : ChangeSpec := { name := "groupGathers", fn := fun _ => fun
  | [d1, d2] => { results := [.lit (.bool true)], args := [d1, d2] }
  | _ => none }
def groupGathersRow : OpenClaim := { program := "ytljjokfhdkegbaagreat", sum := "fda26e6dc90ba46ada21adadb39466eaf6e170b991eab07b581d35e31630b876", func := "voussoir/voussoirlaw24.GroupGathers", spec := "groupGathers", unfollowed := true, recurses := true, loops := true, plainKeys := false, apart := false }
def GroupGathersSaid : Prop := groupGathersRow.holds Tryz.pinned (OpenSpec.ofChange groupGathersSpec)

/-- ITS FALSE NEIGHBOUR: 'it returns false'. Refute it at one input. -/
def groupGathersWrong : ChangeSpec := { name := "groupGathers", fn := fun _ => fun
  | [d1, d2] => { results := [.lit (.bool false)], args := [d1, d2] }
  | _ => none }
def GroupGathersWrongFalsely : Prop := groupGathersRow.holds Tryz.pinned (OpenSpec.ofChange groupGathersWrong)

/-- 'voussoirlaw45.FixEnds': WHATEVER THE INPUT: true; the input reads as it did. -/
def fixEndsSpec : ChangeSpec := { name := "fixEnds", fn := fun _ => fun
  | [d1, d2, d3] => { results := [.lit (.bool true)], args := [d1, d2, d3] }
  | _ => none }
def fixEndsRow : OpenClaim := { program := "ytljjokfhdkegbaagreat", sum := "fda26e6dc90ba46ada21adadb39466eaf6e170b991eab07b581d35e31630b876", func := "voussoir/voussoirlaw45.FixEnds", spec := "fixEnds", unfollowed := true, recurses := true, loops := true, plainKeys := false, apart := false }
def FixEndsSaid : Prop := fixEndsRow.holds Tryz.pinned (OpenSpec.ofChange fixEndsSpec)

/-- ITS FALSE NEIGHBOUR: 'it returns false'. Refute it at one input. -/
def fixEndsWrong : ChangeSpec := { name := "fixEnds", fn := fun _ => fun
  | [d1, d2, d3] => { results := [.lit (.bool false)], args := [d1, d2, d3] }
  | _ => none }
def FixEndsWrongFalsely : Prop := fixEndsRow.holds Tryz.pinned (OpenSpec.ofChange fixEndsWrong)

/-- 'voussoirlaw17.CofSqueezes': WHATEVER THE INPUT: true; the input reads as it did. -/
def cofSqueezesSpec : ChangeSpec := { name := "cofSqueezes", fn := fun _ => fun
  | [d1, d2, d3] => { results := [.lit (.bool true)], args := [d1, d2, d3] }
  | _ => none }
def cofSqueezesRow : OpenClaim := { program := "ytljjokfhdkegbaagreat", sum := "fda26e6dc90ba46ada21adadb39466eaf6e170b991eab07b581d35e31630b876", func := "voussoir/voussoirlaw17.CofSqueezes", spec := "cofSqueezes", unfollowed := true, recurses := true, loops := true, plainKeys := false, apart := false }
def CofSqueezesSaid : Prop := cofSqueezesRow.holds Tryz.pinned (OpenSpec.ofChange cofSqueezesSpec)

/-- ITS FALSE NEIGHBOUR: 'it returns false'. Refute it at one input. -/
def cofSqueezesWrong : ChangeSpec := { name := "cofSqueezes", fn := fun _ => fun
  | [d1, d2, d3] => { results := [.lit (.bool false)], args := [d1, d2, d3] }
  | _ => none }
def CofSqueezesWrongFalsely : Prop := cofSqueezesRow.holds Tryz.pinned (OpenSpec.ofChange cofSqueezesWrong)

/-- 'voussoirlaw45.FixRanks': WHATEVER THE INPUT: true; the input reads as it did. -/
def fixRanksSpec : ChangeSpec := { name := "fixRanks", fn := fun _ => fun
  | [d1, d2, d3, d4, d5, d6, d7] => { results := [.lit (.bool true)], args := [d1, d2, d3, d4, d5, d6, d7] }
  | _ => none }
def fixRanksRow : OpenClaim := { program := "ytljjokfhdkegbaagreat", sum := "fda26e6dc90ba46ada21adadb39466eaf6e170b991eab07b581d35e31630b876", func := "voussoir/voussoirlaw45.FixRanks", spec := "fixRanks", unfollowed := true, recurses := true, loops := true, plainKeys := false, apart := false }
def FixRanksSaid : Prop := fixRanksRow.holds Tryz.pinned (OpenSpec.ofChange fixRanksSpec)

/-- ITS FALSE NEIGHBOUR: 'it returns false'. Refute it at one input. -/
def fixRanksWrong : ChangeSpec := { name := "fixRanks", fn := fun _ => fun
  | [d1, d2, d3, d4, d5, d6, d7] => { results := [.lit (.bool false)], args := [d1, d2, d3, d4, d5, d6, d7] }
  | _ => none }
def FixRanksWrongFalsely : Prop := fixRanksRow.holds Tryz.pinned (OpenSpec.ofChange fixRanksWrong)

/-- 'voussoirlaw45.FixStays': WHATEVER THE INPUT: true; the input reads as it did. -/
def fixStaysSpec : ChangeSpec := { name := "fixStays", fn := fun _ => fun
  | [d1, d2, d3, d4, d5] => { results := [.lit (.bool true)], args := [d1, d2, d3, d4, d5] }
  | _ => none }
def fixStaysRow : OpenClaim := { program := "ytljjokfhdkegbaagreat", sum := "fda26e6dc90ba46ada21adadb39466eaf6e170b991eab07b581d35e31630b876", func := "voussoir/voussoirlaw45.FixStays", spec := "fixStays", unfollowed := true, recurses := true, loops := true, plainKeys := false, apart := false }
def FixStaysSaid : Prop := fixStaysRow.holds Tryz.pinned (OpenSpec.ofChange fixStaysSpec)

/-- ITS FALSE NEIGHBOUR: 'it returns false'. Refute it at one input. -/
def fixStaysWrong : ChangeSpec := { name := "fixStays", fn := fun _ => fun
  | [d1, d2, d3, d4, d5] => { results := [.lit (.bool false)], args := [d1, d2, d3, d4, d5] }
  | _ => none }
def FixStaysWrongFalsely : Prop := fixStaysRow.holds Tryz.pinned (OpenSpec.ofChange fixStaysWrong)

/-- 'voussoirlaw45.FixRuns': WHATEVER THE INPUT: true; the input reads as it did. -/
def fixRunsSpec : ChangeSpec := { name := "fixRuns", fn := fun _ => fun
  | [d1, d2, d3, d4, d5, d6] => { results := [.lit (.bool true)], args := [d1, d2, d3, d4, d5, d6] }
  | _ => none }
def fixRunsRow : OpenClaim := { program := "ytljjokfhdkegbaagreat", sum := "fda26e6dc90ba46ada21adadb39466eaf6e170b991eab07b581d35e31630b876", func := "voussoir/voussoirlaw45.FixRuns", spec := "fixRuns", unfollowed := true, recurses := true, loops := true, plainKeys := false, apart := false }
def FixRunsSaid : Prop := fixRunsRow.holds Tryz.pinned (OpenSpec.ofChange fixRunsSpec)

/-- ITS FALSE NEIGHBOUR: 'it returns false'. Refute it at one input. -/
def fixRunsWrong : ChangeSpec := { name := "fixRuns", fn := fun _ => fun
  | [d1, d2, d3, d4, d5, d6] => { results := [.lit (.bool false)], args := [d1, d2, d3, d4, d5, d6] }
  | _ => none }
def FixRunsWrongFalsely : Prop := fixRunsRow.holds Tryz.pinned (OpenSpec.ofChange fixRunsWrong)

/-- 'voussoirlaw19.SatcParts': WHATEVER THE INPUT: true; the input reads as it did. -/
def satcPartsSpec : ChangeSpec := { name := "satcParts", fn := fun _ => fun
  | [d1, d2, d3, d4] => { results := [.lit (.bool true)], args := [d1, d2, d3, d4] }
  | _ => none }
def satcPartsRow : OpenClaim := { program := "ytljjokfhdkegbaagreat", sum := "fda26e6dc90ba46ada21adadb39466eaf6e170b991eab07b581d35e31630b876", func := "voussoir/voussoirlaw19.SatcParts", spec := "satcParts", unfollowed := true, recurses := true, loops := true, plainKeys := false, apart := false }
def SatcPartsSaid : Prop := satcPartsRow.holds Tryz.pinned (OpenSpec.ofChange satcPartsSpec)

/-- ITS FALSE NEIGHBOUR: 'it returns false'. Refute it at one input. -/
def satcPartsWrong : ChangeSpec := { name := "satcParts", fn := fun _ => fun
  | [d1, d2, d3, d4] => { results := [.lit (.bool false)], args := [d1, d2, d3, d4] }
  | _ => none }
def SatcPartsWrongFalsely : Prop := satcPartsRow.holds Tryz.pinned (OpenSpec.ofChange satcPartsWrong)

/-- 'voussoirlaw19.SatcShares': WHATEVER THE INPUT: true; the input reads as it did. -/
def satcSharesSpec : ChangeSpec := { name := "satcShares", fn := fun _ => fun
  | [d1, d2] => { results := [.lit (.bool true)], args := [d1, d2] }
  | _ => none }
def satcSharesRow : OpenClaim := { program := "ytljjokfhdkegbaagreat", sum := "fda26e6dc90ba46ada21adadb39466eaf6e170b991eab07b581d35e31630b876", func := "voussoir/voussoirlaw19.SatcShares", spec := "satcShares", unfollowed := true, recurses := true, loops := true, plainKeys := false, apart := false }
def SatcSharesSaid : Prop := satcSharesRow.holds Tryz.pinned (OpenSpec.ofChange satcSharesSpec)

/-- ITS FALSE NEIGHBOUR: 'it returns false'. Refute it at one input. -/
def satcSharesWrong : ChangeSpec := { name := "satcShares", fn := fun _ => fun
  | [d1, d2] => { results := [.lit (.bool false)], args := [d1, d2] }
  | _ => none }
def SatcSharesWrongFalsely : Prop := satcSharesRow.holds Tryz.pinned (OpenSpec.ofChange satcSharesWrong)

/-- 'voussoirlaw19.SatcWays': WHATEVER THE INPUT: true; the input reads as it did. -/
def satcWaysSpec : ChangeSpec := { name := "satcWays", fn := fun _ => fun
  | [d1, d2, d3, d4] => { results := [.lit (.bool true)], args := [d1, d2, d3, d4] }
  | _ => none }
def satcWaysRow : OpenClaim := { program := "ytljjokfhdkegbaagreat", sum := "fda26e6dc90ba46ada21adadb39466eaf6e170b991eab07b581d35e31630b876", func := "voussoir/voussoirlaw19.SatcWays", spec := "satcWays", unfollowed := true, recurses := true, loops := true, plainKeys := false, apart := false }
def SatcWaysSaid : Prop := satcWaysRow.holds Tryz.pinned (OpenSpec.ofChange satcWaysSpec)

/-- ITS FALSE NEIGHBOUR: 'it returns false'. Refute it at one input. -/
def satcWaysWrong : ChangeSpec := { name := "satcWays", fn := fun _ => fun
  | [d1, d2, d3, d4] => { results := [.lit (.bool false)], args := [d1, d2, d3, d4] }
  | _ => none }
def SatcWaysWrongFalsely : Prop := satcWaysRow.holds Tryz.pinned (OpenSpec.ofChange satcWaysWrong)

/-- 'voussoirlaw19.SatcCounts': WHATEVER THE INPUT: true; the input reads as it did. -/
def satcCountsSpec : ChangeSpec := { name := "satcCounts", fn := fun _ => fun
  | [d1, d2, d3] => { results := [.lit (.bool true)], args := [d1, d2, d3] }
  | _ => none }
def satcCountsRow : OpenClaim := { program := "ytljjokfhdkegbaagreat", sum := "fda26e6dc90ba46ada21adadb39466eaf6e170b991eab07b581d35e31630b876", func := "voussoir/voussoirlaw19.SatcCounts", spec := "satcCounts", unfollowed := true, recurses := true, loops := true, plainKeys := false, apart := false }
def SatcCountsSaid : Prop := satcCountsRow.holds Tryz.pinned (OpenSpec.ofChange satcCountsSpec)

/-- ITS FALSE NEIGHBOUR: 'it returns false'. Refute it at one input. -/
def satcCountsWrong : ChangeSpec := { name := "satcCounts", fn := fun _ => fun
  | [d1, d2, d3] => { results := [.lit (.bool false)], args := [d1, d2, d3] }
  | _ => none }
def SatcCountsWrongFalsely : Prop := satcCountsRow.holds Tryz.pinned (OpenSpec.ofChange satcCountsWrong)

/-- 'voussoirlaw22.ReorderWindows': WHATEVER THE INPUT: true; the input reads as it did. -/
def reorderWindowsSpec : ChangeSpec := { name := "reorderWindows", fn := fun _ => fun
  | [d1, d2, d3, d4] => { results := [.lit (.bool true)], args := [d1, d2, d3, d4] }
  | _ => none }
def reorderWindowsRow : OpenClaim := { program := "ytljjokfhdkegbaagreat", sum := "fda26e6dc90ba46ada21adadb39466eaf6e170b991eab07b581d35e31630b876", func := "voussoir/voussoirlaw22.ReorderWindows", spec := "reorderWindows", inPlace := ["slices.overlaps[int]"], unfollowed := true, recurses := true, loops := true, plainKeys := false, apart := false }
def ReorderWindowsSaid : Prop := reorderWindowsRow.holds Tryz.pinned (OpenSpec.ofChange reorderWindowsSpec)

/-- ITS FALSE NEIGHBOUR: 'it returns false'. Refute it at one input. -/
def reorderWindowsWrong : ChangeSpec := { name := "reorderWindows", fn := fun _ => fun
  | [d1, d2, d3, d4] => { results := [.lit (.bool false)], args := [d1, d2, d3, d4] }
  | _ => none }
def ReorderWindowsWrongFalsely : Prop := reorderWindowsRow.holds Tryz.pinned (OpenSpec.ofChange reorderWindowsWrong)

/-- 'voussoirlaw22.ReorderBack': WHATEVER THE INPUT: true; the input reads as it did. -/
def reorderBackSpec : ChangeSpec := { name := "reorderBack", fn := fun _ => fun
  | [d1, d2, d3, d4] => { results := [.lit (.bool true)], args := [d1, d2, d3, d4] }
  | _ => none }
def reorderBackRow : OpenClaim := { program := "ytljjokfhdkegbaagreat", sum := "fda26e6dc90ba46ada21adadb39466eaf6e170b991eab07b581d35e31630b876", func := "voussoir/voussoirlaw22.ReorderBack", spec := "reorderBack", inPlace := ["slices.overlaps[int]"], unfollowed := true, recurses := true, loops := true, plainKeys := false, apart := false }
def ReorderBackSaid : Prop := reorderBackRow.holds Tryz.pinned (OpenSpec.ofChange reorderBackSpec)

/-- ITS FALSE NEIGHBOUR: 'it returns false'. Refute it at one input. -/
def reorderBackWrong : ChangeSpec := { name := "reorderBack", fn := fun _ => fun
  | [d1, d2, d3, d4] => { results := [.lit (.bool false)], args := [d1, d2, d3, d4] }
  | _ => none }
def ReorderBackWrongFalsely : Prop := reorderBackRow.holds Tryz.pinned (OpenSpec.ofChange reorderBackWrong)

/-- 'voussoirlaw22.ReorderTo': WHATEVER THE INPUT: true; the input reads as it did. -/
def reorderToSpec : ChangeSpec := { name := "reorderTo", fn := fun _ => fun
  | [d1, d2] => { results := [.lit (.bool true)], args := [d1, d2] }
  | _ => none }
def reorderToRow : OpenClaim := { program := "ytljjokfhdkegbaagreat", sum := "fda26e6dc90ba46ada21adadb39466eaf6e170b991eab07b581d35e31630b876", func := "voussoir/voussoirlaw22.ReorderTo", spec := "reorderTo", inPlace := ["slices.overlaps[int]"], unfollowed := true, recurses := true, loops := true, plainKeys := false, apart := false }
def ReorderToSaid : Prop := reorderToRow.holds Tryz.pinned (OpenSpec.ofChange reorderToSpec)

/-- ITS FALSE NEIGHBOUR: 'it returns false'. Refute it at one input. -/
def reorderToWrong : ChangeSpec := { name := "reorderTo", fn := fun _ => fun
  | [d1, d2] => { results := [.lit (.bool false)], args := [d1, d2] }
  | _ => none }
def ReorderToWrongFalsely : Prop := reorderToRow.holds Tryz.pinned (OpenSpec.ofChange reorderToWrong)

/-- 'voussoirlaw22.ReorderMoves': WHATEVER THE INPUT: true; the input reads as it did. -/
def reorderMovesSpec : ChangeSpec := { name := "reorderMoves", fn := fun _ => fun
  | [d1, d2, d3] => { results := [.lit (.bool true)], args := [d1, d2, d3] }
  | _ => none }
def reorderMovesRow : OpenClaim := { program := "ytljjokfhdkegbaagreat", sum := "fda26e6dc90ba46ada21adadb39466eaf6e170b991eab07b581d35e31630b876", func := "voussoir/voussoirlaw22.ReorderMoves", spec := "reorderMoves", inPlace := ["slices.overlaps[int]"], unfollowed := true, recurses := true, loops := true, plainKeys := false, apart := false }
def ReorderMovesSaid : Prop := reorderMovesRow.holds Tryz.pinned (OpenSpec.ofChange reorderMovesSpec)

/-- ITS FALSE NEIGHBOUR: 'it returns false'. Refute it at one input. -/
def reorderMovesWrong : ChangeSpec := { name := "reorderMoves", fn := fun _ => fun
  | [d1, d2, d3] => { results := [.lit (.bool false)], args := [d1, d2, d3] }
  | _ => none }
def ReorderMovesWrongFalsely : Prop := reorderMovesRow.holds Tryz.pinned (OpenSpec.ofChange reorderMovesWrong)

/- THE SECOND FORM. 'bulk': how many values and letters a reading holds, each counted each time it is reached (what is shared counts as often as it is met; a slice's spare places count too). A statement '..UptoSaid' is the law's where the arguments, and the package variables that the reading takes, are together of bulk at most 1048576: NARROWER than '..Said'. Prove '..Said' where nothing that the law and all that it calls make is longer than what came in: it says more and counts as full. Else prove '..UptoSaid'. A law counts once. -/
mutual
def uptoBulk {H : Type} : DataW H → Nat
  | .lit (.string bytes) => bytes.length + 1
  | .lit _ => 1
  | .nil => 1
  | .ptr d => uptoBulk d + 1
  | .slice elems spare => uptoBulkAll elems + uptoBulkAll spare + 1
  | .agg parts => uptoBulkAll parts + 1
  | .iface _ d => uptoBulk d + 1
  | .map entries => uptoBulkEntries entries + 1
  | .held _ => 1
def uptoBulkAll {H : Type} : List (DataW H) → Nat
  | [] => 0
  | d :: r => uptoBulk d + uptoBulkAll r
def uptoBulkEntries {H : Type} : List (Lit × DataW H) → Nat
  | [] => 0
  | x :: r => uptoBulkEntry x + uptoBulkEntries r
def uptoBulkEntry {H : Type} : Lit × DataW H → Nat
  | (.string bytes, d) => bytes.length + uptoBulk d + 1
  | (_, d) => uptoBulk d + 1
 end
def uptoSmall : (H : Type) → List (DataW H) → Bool := fun _ ds => decide (uptoBulkAll ds ≤ 1048576)
def OpenSpec.upto (s : _root_.Go.ChangeSpec) : _root_.Go.OpenSpec := { _root_.Go.OpenSpec.ofChange s with cond := some uptoSmall }

/-- 'voussoirlaw24.GroupNobody', WHERE WHAT IT READS IS OF BULK AT MOST 1048576: true; the input reads as it did. -/
def groupNobodyUptoRow : OpenClaim := { program := "ytljjokfhdkegbaagreat", sum := "fda26e6dc90ba46ada21adadb39466eaf6e170b991eab07b581d35e31630b876", func := "voussoir/voussoirlaw24.GroupNobody", spec := "groupNobody", inPlace := ["slices.overlaps[int]"], unfollowed := true, recurses := true, plainKeys := false, apart := false, narrowed := true }
def GroupNobodyUptoSaid : Prop := groupNobodyUptoRow.holds Tryz.pinned (OpenSpec.upto groupNobodySpec)

/-- 'voussoirlaw24.GroupLists', WHERE WHAT IT READS IS OF BULK AT MOST 1048576: true; the input reads as it did. -/
def groupListsUptoRow : OpenClaim := { program := "ytljjokfhdkegbaagreat", sum := "fda26e6dc90ba46ada21adadb39466eaf6e170b991eab07b581d35e31630b876", func := "voussoir/voussoirlaw24.GroupLists", spec := "groupLists", unfollowed := true, recurses := true, loops := true, plainKeys := false, apart := false, narrowed := true }
def GroupListsUptoSaid : Prop := groupListsUptoRow.holds Tryz.pinned (OpenSpec.upto groupListsSpec)

/-- 'voussoirlaw24.GroupGathers', WHERE WHAT IT READS IS OF BULK AT MOST 1048576: true; the input reads as it did. -/
def groupGathersUptoRow : OpenClaim := { program := "ytljjokfhdkegbaagreat", sum := "fda26e6dc90ba46ada21adadb39466eaf6e170b991eab07b581d35e31630b876", func := "voussoir/voussoirlaw24.GroupGathers", spec := "groupGathers", unfollowed := true, recurses := true, loops := true, plainKeys := false, apart := false, narrowed := true }
def GroupGathersUptoSaid : Prop := groupGathersUptoRow.holds Tryz.pinned (OpenSpec.upto groupGathersSpec)

/-- 'voussoirlaw45.FixEnds', WHERE WHAT IT READS IS OF BULK AT MOST 1048576: true; the input reads as it did. -/
def fixEndsUptoRow : OpenClaim := { program := "ytljjokfhdkegbaagreat", sum := "fda26e6dc90ba46ada21adadb39466eaf6e170b991eab07b581d35e31630b876", func := "voussoir/voussoirlaw45.FixEnds", spec := "fixEnds", unfollowed := true, recurses := true, loops := true, plainKeys := false, apart := false, narrowed := true }
def FixEndsUptoSaid : Prop := fixEndsUptoRow.holds Tryz.pinned (OpenSpec.upto fixEndsSpec)

/-- 'voussoirlaw17.CofSqueezes', WHERE WHAT IT READS IS OF BULK AT MOST 1048576: true; the input reads as it did. -/
def cofSqueezesUptoRow : OpenClaim := { program := "ytljjokfhdkegbaagreat", sum := "fda26e6dc90ba46ada21adadb39466eaf6e170b991eab07b581d35e31630b876", func := "voussoir/voussoirlaw17.CofSqueezes", spec := "cofSqueezes", unfollowed := true, recurses := true, loops := true, plainKeys := false, apart := false, narrowed := true }
def CofSqueezesUptoSaid : Prop := cofSqueezesUptoRow.holds Tryz.pinned (OpenSpec.upto cofSqueezesSpec)

/-- 'voussoirlaw45.FixRanks', WHERE WHAT IT READS IS OF BULK AT MOST 1048576: true; the input reads as it did. -/
def fixRanksUptoRow : OpenClaim := { program := "ytljjokfhdkegbaagreat", sum := "fda26e6dc90ba46ada21adadb39466eaf6e170b991eab07b581d35e31630b876", func := "voussoir/voussoirlaw45.FixRanks", spec := "fixRanks", unfollowed := true, recurses := true, loops := true, plainKeys := false, apart := false, narrowed := true }
def FixRanksUptoSaid : Prop := fixRanksUptoRow.holds Tryz.pinned (OpenSpec.upto fixRanksSpec)

/-- 'voussoirlaw45.FixStays', WHERE WHAT IT READS IS OF BULK AT MOST 1048576: true; the input reads as it did. -/
def fixStaysUptoRow : OpenClaim := { program := "ytljjokfhdkegbaagreat", sum := "fda26e6dc90ba46ada21adadb39466eaf6e170b991eab07b581d35e31630b876", func := "voussoir/voussoirlaw45.FixStays", spec := "fixStays", unfollowed := true, recurses := true, loops := true, plainKeys := false, apart := false, narrowed := true }
def FixStaysUptoSaid : Prop := fixStaysUptoRow.holds Tryz.pinned (OpenSpec.upto fixStaysSpec)

/-- 'voussoirlaw45.FixRuns', WHERE WHAT IT READS IS OF BULK AT MOST 1048576: true; the input reads as it did. -/
def fixRunsUptoRow : OpenClaim := { program := "ytljjokfhdkegbaagreat", sum := "fda26e6dc90ba46ada21adadb39466eaf6e170b991eab07b581d35e31630b876", func := "voussoir/voussoirlaw45.FixRuns", spec := "fixRuns", unfollowed := true, recurses := true, loops := true, plainKeys := false, apart := false, narrowed := true }
def FixRunsUptoSaid : Prop := fixRunsUptoRow.holds Tryz.pinned (OpenSpec.upto fixRunsSpec)

/-- 'voussoirlaw19.SatcParts', WHERE WHAT IT READS IS OF BULK AT MOST 1048576: true; the input reads as it did. -/
def satcPartsUptoRow : OpenClaim := { program := "ytljjokfhdkegbaagreat", sum := "fda26e6dc90ba46ada21adadb39466eaf6e170b991eab07b581d35e31630b876", func := "voussoir/voussoirlaw19.SatcParts", spec := "satcParts", unfollowed := true, recurses := true, loops := true, plainKeys := false, apart := false, narrowed := true }
def SatcPartsUptoSaid : Prop := satcPartsUptoRow.holds Tryz.pinned (OpenSpec.upto satcPartsSpec)

/-- 'voussoirlaw19.SatcShares', WHERE WHAT IT READS IS OF BULK AT MOST 1048576: true; the input reads as it did. -/
def satcSharesUptoRow : OpenClaim := { program := "ytljjokfhdkegbaagreat", sum := "fda26e6dc90ba46ada21adadb39466eaf6e170b991eab07b581d35e31630b876", func := "voussoir/voussoirlaw19.SatcShares", spec := "satcShares", unfollowed := true, recurses := true, loops := true, plainKeys := false, apart := false, narrowed := true }
def SatcSharesUptoSaid : Prop := satcSharesUptoRow.holds Tryz.pinned (OpenSpec.upto satcSharesSpec)

/-- 'voussoirlaw19.SatcWays', WHERE WHAT IT READS IS OF BULK AT MOST 1048576: true; the input reads as it did. -/
def satcWaysUptoRow : OpenClaim := { program := "ytljjokfhdkegbaagreat", sum := "fda26e6dc90ba46ada21adadb39466eaf6e170b991eab07b581d35e31630b876", func := "voussoir/voussoirlaw19.SatcWays", spec := "satcWays", unfollowed := true, recurses := true, loops := true, plainKeys := false, apart := false, narrowed := true }
def SatcWaysUptoSaid : Prop := satcWaysUptoRow.holds Tryz.pinned (OpenSpec.upto satcWaysSpec)

/-- 'voussoirlaw19.SatcCounts', WHERE WHAT IT READS IS OF BULK AT MOST 1048576: true; the input reads as it did. -/
def satcCountsUptoRow : OpenClaim := { program := "ytljjokfhdkegbaagreat", sum := "fda26e6dc90ba46ada21adadb39466eaf6e170b991eab07b581d35e31630b876", func := "voussoir/voussoirlaw19.SatcCounts", spec := "satcCounts", unfollowed := true, recurses := true, loops := true, plainKeys := false, apart := false, narrowed := true }
def SatcCountsUptoSaid : Prop := satcCountsUptoRow.holds Tryz.pinned (OpenSpec.upto satcCountsSpec)

/-- 'voussoirlaw22.ReorderWindows', WHERE WHAT IT READS IS OF BULK AT MOST 1048576: true; the input reads as it did. -/
def reorderWindowsUptoRow : OpenClaim := { program := "ytljjokfhdkegbaagreat", sum := "fda26e6dc90ba46ada21adadb39466eaf6e170b991eab07b581d35e31630b876", func := "voussoir/voussoirlaw22.ReorderWindows", spec := "reorderWindows", inPlace := ["slices.overlaps[int]"], unfollowed := true, recurses := true, loops := true, plainKeys := false, apart := false, narrowed := true }
def ReorderWindowsUptoSaid : Prop := reorderWindowsUptoRow.holds Tryz.pinned (OpenSpec.upto reorderWindowsSpec)

/-- 'voussoirlaw22.ReorderBack', WHERE WHAT IT READS IS OF BULK AT MOST 1048576: true; the input reads as it did. -/
def reorderBackUptoRow : OpenClaim := { program := "ytljjokfhdkegbaagreat", sum := "fda26e6dc90ba46ada21adadb39466eaf6e170b991eab07b581d35e31630b876", func := "voussoir/voussoirlaw22.ReorderBack", spec := "reorderBack", inPlace := ["slices.overlaps[int]"], unfollowed := true, recurses := true, loops := true, plainKeys := false, apart := false, narrowed := true }
def ReorderBackUptoSaid : Prop := reorderBackUptoRow.holds Tryz.pinned (OpenSpec.upto reorderBackSpec)

/-- 'voussoirlaw22.ReorderTo', WHERE WHAT IT READS IS OF BULK AT MOST 1048576: true; the input reads as it did. -/
def reorderToUptoRow : OpenClaim := { program := "ytljjokfhdkegbaagreat", sum := "fda26e6dc90ba46ada21adadb39466eaf6e170b991eab07b581d35e31630b876", func := "voussoir/voussoirlaw22.ReorderTo", spec := "reorderTo", inPlace := ["slices.overlaps[int]"], unfollowed := true, recurses := true, loops := true, plainKeys := false, apart := false, narrowed := true }
def ReorderToUptoSaid : Prop := reorderToUptoRow.holds Tryz.pinned (OpenSpec.upto reorderToSpec)

/-- 'voussoirlaw22.ReorderMoves', WHERE WHAT IT READS IS OF BULK AT MOST 1048576: true; the input reads as it did. -/
def reorderMovesUptoRow : OpenClaim := { program := "ytljjokfhdkegbaagreat", sum := "fda26e6dc90ba46ada21adadb39466eaf6e170b991eab07b581d35e31630b876", func := "voussoir/voussoirlaw22.ReorderMoves", spec := "reorderMoves", inPlace := ["slices.overlaps[int]"], unfollowed := true, recurses := true, loops := true, plainKeys := false, apart := false, narrowed := true }
def ReorderMovesUptoSaid : Prop := reorderMovesUptoRow.holds Tryz.pinned (OpenSpec.upto reorderMovesSpec)

end Rows
end Go.Proofs.YtljjokfhdkegbaaGreat
