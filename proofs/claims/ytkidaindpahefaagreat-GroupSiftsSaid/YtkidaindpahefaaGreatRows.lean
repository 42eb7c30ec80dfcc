/-
  NARROWER THAN 'FOR EVERY INPUT', by the rows' own cells (each row's printed sentence says how): GroupSifts: loops · SiftMoves: loops · SiftBest: loops · SiftBetters: loops · SiftNoBetter: loops · SiftRefuses: loops · ReorderWindows: loops · ReorderBack: loops · ReorderTo: loops · ReorderMoves: loops.
  DERIVED. THE GIVEN ROWS OF THIS SEAT. 10 by the template 'for every input the law returns true; each argument reads behind the call as it read before'; 0 by the template 'total and deterministic' (their statements: YtkidaindpahefaaGreatTotals.lean).
  GIVEN WITH THE SEED: the statements are not yours to turn. If you find one false, say at which input.
  Laid BY PROGRAM, IN A SANDBOX (cutbox-rows.mjs): the forced cells as the released guide's own fill.sh prints them over the translation 6c64dc30f485a790… (all of the seat's roots in one cut). By AI agents, Wed Nov 11 2026. No macro, syntax, notation, axiom, sorry.
-/
import Derived.Test.YtkidaindpahefaaGreatChecked
import GoSem.Claim
import GoSem.ClaimJoined
import GoSem.ClaimMapViews
import Derived.JoinedTies
import Derived.KernelRfl
namespace Go.Proofs.YtkidaindpahefaaGreat
/- THE CELL 'sum', in the pinned program and in every row, IS THE sha256 OF THE DUMP (.gsa) THAT YtkidaindpahefaaGreatProg.lean LOADS. Nothing in Lean hashes anything: it is a label: what it is worth is what the hold of that sum in a sandbox is worth. -/
noncomputable def Tryz.pinned : Pinned := { name := "ytkidaindpahefaagreat", sum := "6c64dc30f485a7901eedafac55aedc66255c95f7d431bd4bf8f06cfc6f43f291", checked := Tryz.checked }
namespace Rows
def none {H : Type} : Left H := { results := [], args := [] }

/-- 'voussoirlaw24.GroupSifts': WHATEVER THE INPUT: true; the input reads as it did. -/
def groupSiftsSpec : ChangeSpec := { name := "groupSifts", fn := fun _ => fun
  | [d1, d2, d3, d4] => { results := [.lit (.bool true)], args := [d1, d2, d3, d4] }
  | _ => none }
def groupSiftsRow : OpenClaim := { program := "ytkidaindpahefaagreat", sum := "6c64dc30f485a7901eedafac55aedc66255c95f7d431bd4bf8f06cfc6f43f291", func := "voussoir/voussoirlaw24.GroupSifts", spec := "groupSifts", inPlace := ["slices.overlaps[int]"], unfollowed := true, recurses := true, loops := true, plainKeys := false, apart := false }
def GroupSiftsSaid : Prop := groupSiftsRow.holds Tryz.pinned (OpenSpec.ofChange groupSiftsSpec)

/-- ITS FALSE NEIGHBOUR: 'it returns false'. Refute it at one input. -/
def groupSiftsWrong : ChangeSpec := { name := "groupSifts", fn := fun _ => fun
  | [d1, d2, d3, d4] => { results := [.lit (.bool false)], args := [d1, d2, d3, d4] }
  | _ => none }
def GroupSiftsWrongFalsely : Prop := groupSiftsRow.holds Tryz.pinned (OpenSpec.ofChange groupSiftsWrong)

/-- 'voussoirlaw23.SiftMoves': WHATEVER THE INPUT: true; the input reads as it did. -/
def siftMovesSpec : ChangeSpec := { name := "siftMoves", fn := fun _ => fun
  | [d1, d2, d3] => { results := [.lit (.bool true)], args := [d1, d2, d3] }
  | _ => none }
def siftMovesRow : OpenClaim := { program := "ytkidaindpahefaagreat", sum := "6c64dc30f485a7901eedafac55aedc66255c95f7d431bd4bf8f06cfc6f43f291", func := "voussoir/voussoirlaw23.SiftMoves", spec := "siftMoves", unfollowed := true, recurses := true, loops := true, plainKeys := false, apart := false }
def SiftMovesSaid : Prop := siftMovesRow.holds Tryz.pinned (OpenSpec.ofChange siftMovesSpec)

/-- ITS FALSE NEIGHBOUR: 'it returns false'. Refute it at one input. -/
def siftMovesWrong : ChangeSpec := { name := "siftMoves", fn := fun _ => fun
  | [d1, d2, d3] => { results := [.lit (.bool false)], args := [d1, d2, d3] }
  | _ => none }
def SiftMovesWrongFalsely : Prop := siftMovesRow.holds Tryz.pinned (OpenSpec.ofChange siftMovesWrong)

/-- 'voussoirlaw23.SiftBest': WHATEVER THE INPUT: true; the input reads as it did. -/
def siftBestSpec : ChangeSpec := { name := "siftBest", fn := fun _ => fun
  | [d] => { results := [.lit (.bool true)], args := [d] }
  | _ => none }
def siftBestRow : OpenClaim := { program := "ytkidaindpahefaagreat", sum := "6c64dc30f485a7901eedafac55aedc66255c95f7d431bd4bf8f06cfc6f43f291", func := "voussoir/voussoirlaw23.SiftBest", spec := "siftBest", unfollowed := true, recurses := true, loops := true, plainKeys := false, apart := false }
def SiftBestSaid : Prop := siftBestRow.holds Tryz.pinned (OpenSpec.ofChange siftBestSpec)

/-- ITS FALSE NEIGHBOUR: 'it returns false'. Refute it at one input. -/
def siftBestWrong : ChangeSpec := { name := "siftBest", fn := fun _ => fun
  | [d] => { results := [.lit (.bool false)], args := [d] }
  | _ => none }
def SiftBestWrongFalsely : Prop := siftBestRow.holds Tryz.pinned (OpenSpec.ofChange siftBestWrong)

/-- 'voussoirlaw23.SiftBetters': WHATEVER THE INPUT: true; the input reads as it did. -/
def siftBettersSpec : ChangeSpec := { name := "siftBetters", fn := fun _ => fun
  | [d1, d2] => { results := [.lit (.bool true)], args := [d1, d2] }
  | _ => none }
def siftBettersRow : OpenClaim := { program := "ytkidaindpahefaagreat", sum := "6c64dc30f485a7901eedafac55aedc66255c95f7d431bd4bf8f06cfc6f43f291", func := "voussoir/voussoirlaw23.SiftBetters", spec := "siftBetters", unfollowed := true, recurses := true, loops := true, plainKeys := false, apart := false }
def SiftBettersSaid : Prop := siftBettersRow.holds Tryz.pinned (OpenSpec.ofChange siftBettersSpec)

/-- ITS FALSE NEIGHBOUR: 'it returns false'. Refute it at one input. -/
def siftBettersWrong : ChangeSpec := { name := "siftBetters", fn := fun _ => fun
  | [d1, d2] => { results := [.lit (.bool false)], args := [d1, d2] }
  | _ => none }
def SiftBettersWrongFalsely : Prop := siftBettersRow.holds Tryz.pinned (OpenSpec.ofChange siftBettersWrong)

/-- 'voussoirlaw23.SiftNoBetter': WHATEVER THE INPUT: true; the input reads as it did. -/
def siftNoBetterSpec : ChangeSpec := { name := "siftNoBetter", fn := fun _ => fun
  | [d1, d2] => { results := [.lit (.bool true)], args := [d1, d2] }
  | _ => none }
def siftNoBetterRow : OpenClaim := { program := "ytkidaindpahefaagreat", sum := "6c64dc30f485a7901eedafac55aedc66255c95f7d431bd4bf8f06cfc6f43f291", func := "voussoir/voussoirlaw23.SiftNoBetter", spec := "siftNoBetter", unfollowed := true, recurses := true, loops := true, plainKeys := false, apart := false }
def SiftNoBetterSaid : Prop := siftNoBetterRow.holds Tryz.pinned (OpenSpec.ofChange siftNoBetterSpec)

/-- ITS FALSE NEIGHBOUR: 'it returns false'. Refute it at one input. -/
def siftNoBetterWrong : ChangeSpec := { name := "siftNoBetter", fn := fun _ => fun
  | [d1, d2] => { results := [.lit (.bool false)], args := [d1, d2] }
  | _ => none }
def SiftNoBetterWrongFalsely : Prop := siftNoBetterRow.holds Tryz.pinned (OpenSpec.ofChange siftNoBetterWrong)

/-- 'voussoirlaw23.SiftRefuses': WHATEVER THE INPUT: true; the input reads as it did. -/
def siftRefusesSpec : ChangeSpec := { name := "siftRefuses", fn := fun _ => fun
  | [d1, d2, d3] => { results := [.lit (.bool true)], args := [d1, d2, d3] }
  | _ => none }
def siftRefusesRow : OpenClaim := { program := "ytkidaindpahefaagreat", sum := "6c64dc30f485a7901eedafac55aedc66255c95f7d431bd4bf8f06cfc6f43f291", func := "voussoir/voussoirlaw23.SiftRefuses", spec := "siftRefuses", unfollowed := true, recurses := true, loops := true, plainKeys := false, apart := false }
def SiftRefusesSaid : Prop := siftRefusesRow.holds Tryz.pinned (OpenSpec.ofChange siftRefusesSpec)

/-- ITS FALSE NEIGHBOUR: 'it returns false'. Refute it at one input. -/
def siftRefusesWrong : ChangeSpec := { name := "siftRefuses", fn := fun _ => fun
  | [d1, d2, d3] => { results := [.lit (.bool false)], args := [d1, d2, d3] }
  | _ => none }
def SiftRefusesWrongFalsely : Prop := siftRefusesRow.holds Tryz.pinned (OpenSpec.ofChange siftRefusesWrong)

/-- 'voussoirlaw22.ReorderWindows': WHATEVER THE INPUT: true; the input reads as it did. -/
def reorderWindowsSpec : ChangeSpec := { name := "reorderWindows", fn := fun _ => fun
  | [d1, d2, d3, d4] => { results := [.lit (.bool true)], args := [d1, d2, d3, d4] }
  | _ => none }
def reorderWindowsRow : OpenClaim := { program := "ytkidaindpahefaagreat", sum := "6c64dc30f485a7901eedafac55aedc66255c95f7d431bd4bf8f06cfc6f43f291", func := "voussoir/voussoirlaw22.ReorderWindows", spec := "reorderWindows", inPlace := ["slices.overlaps[int]"], unfollowed := true, recurses := true, loops := true, plainKeys := false, apart := false }
def ReorderWindowsSaid : Prop := reorderWindowsRow.holds Tryz.pinned (OpenSpec.ofChange reorderWindowsSpec)

/-- ITS FALSE NEIGHBOUR: 'it returns false'. Refute it at one input. -/
def reorderWindowsWrong : ChangeSpec := { name := "reorderWindows", fn := fun _ => fun
  | [d1, d2, d3, d4] => { results := [.lit (.bool false)], args := [d1, d2, d3, d4] }
  | _ => none }
def ReorderWindowsWrongFalsely : Prop := reorderWindowsRow.holds Tryz.pinned (OpenSpec.ofChange reorderWindowsWrong)

/-- 'voussoirlaw22.ReorderBack': WHATEVER THE INPUT: true; the input reads as it did. -/
def reorderBackSpec : ChangeSpec := { name := "reorderBack", fn := fun _ => fun
  | [d1, d2, d3, d4] => { results := [.lit (.bool true)], args := [d1, d2, d3, d4] }
  | _ => none }
def reorderBackRow : OpenClaim := { program := "ytkidaindpahefaagreat", sum := "6c64dc30f485a7901eedafac55aedc66255c95f7d431bd4bf8f06cfc6f43f291", func := "voussoir/voussoirlaw22.ReorderBack", spec := "reorderBack", inPlace := ["slices.overlaps[int]"], unfollowed := true, recurses := true, loops := true, plainKeys := false, apart := false }
def ReorderBackSaid : Prop := reorderBackRow.holds Tryz.pinned (OpenSpec.ofChange reorderBackSpec)

/-- ITS FALSE NEIGHBOUR: 'it returns false'. Refute it at one input. -/
def reorderBackWrong : ChangeSpec := { name := "reorderBack", fn := fun _ => fun
  | [d1, d2, d3, d4] => { results := [.lit (.bool false)], args := [d1, d2, d3, d4] }
  | _ => none }
def ReorderBackWrongFalsely : Prop := reorderBackRow.holds Tryz.pinned (OpenSpec.ofChange reorderBackWrong)

/-- 'voussoirlaw22.ReorderTo': WHATEVER THE INPUT: true; the input reads as it did. -/
def reorderToSpec : ChangeSpec := { name := "reorderTo", fn := fun _ => fun
  | [d1, d2] => { results := [.lit (.bool true)], args := [d1, d2] }
  | _ => none }
def reorderToRow : OpenClaim := { program := "ytkidaindpahefaagreat", sum := "6c64dc30f485a7901eedafac55aedc66255c95f7d431bd4bf8f06cfc6f43f291", func := "voussoir/voussoirlaw22.ReorderTo", spec := "reorderTo", inPlace := ["slices.overlaps[int]"], unfollowed := true, recurses := true, loops := true, plainKeys := false, apart := false }
def ReorderToSaid : Prop := reorderToRow.holds Tryz.pinned (OpenSpec.ofChange reorderToSpec)

/-- ITS FALSE NEIGHBOUR: 'it returns false'. Refute it at one input. -/
def reorderToWrong : ChangeSpec := { name := "reorderTo", fn := fun _ => fun
  | [d1, d2] => { results := [.lit (.bool false)], args := [d1, d2] }
  | _ => none }
def ReorderToWrongFalsely : Prop := reorderToRow.holds Tryz.pinned (OpenSpec.ofChange reorderToWrong)

/-- 'voussoirlaw22.ReorderMoves': WHATEVER THE INPUT: true; the input reads as it did. -/
def reorderMovesSpec : ChangeSpec := { name := "reorderMoves", fn := fun _ => fun
  | [d1, d2, d3] => { results := [.lit (.bool true)], args := [d1, d2, d3] }
  | _ => none }
def reorderMovesRow : OpenClaim := { program := "ytkidaindpahefaagreat", sum := "6c64dc30f485a7901eedafac55aedc66255c95f7d431bd4bf8f06cfc6f43f291", func := "voussoir/voussoirlaw22.ReorderMoves", spec := "reorderMoves", inPlace := ["slices.overlaps[int]"], unfollowed := true, recurses := true, loops := true, plainKeys := false, apart := false }
def ReorderMovesSaid : Prop := reorderMovesRow.holds Tryz.pinned (OpenSpec.ofChange reorderMovesSpec)

/-- ITS FALSE NEIGHBOUR: 'it returns false'. Refute it at one input. -/
def reorderMovesWrong : ChangeSpec := { name := "reorderMoves", fn := fun _ => fun
  | [d1, d2, d3] => { results := [.lit (.bool false)], args := [d1, d2, d3] }
  | _ => none }
def ReorderMovesWrongFalsely : Prop := reorderMovesRow.holds Tryz.pinned (OpenSpec.ofChange reorderMovesWrong)

/- THE SECOND FORM. 'bulk': how many values and letters a reading holds, each counted each time it is reached (what is shared counts as often as it is met; a slice's spare places count too). A statement '..UptoSaid' is the law's where the arguments, and the package variables that the reading takes, are together of bulk at most 1048576: NARROWER than '..Said'. Prove '..Said' where nothing that the law and all that it calls make is longer than what came in: it says more and counts as full. Else prove '..UptoSaid'. A law counts once. -/
mutual
def uptoBulk {H : Type} : DataW H → Nat
  | .lit (.string bytes) => bytes.length + 1
  | .lit _ => 1
  | .nil => 1
  | .ptr d => uptoBulk d + 1
  | .slice elems spare => uptoBulkAll elems + uptoBulkAll spare + 1
  | .agg parts => uptoBulkAll parts + 1
  | .iface _ d => uptoBulk d + 1
  | .map entries => uptoBulkEntries entries + 1
  | .held _ => 1
def uptoBulkAll {H : Type} : List (DataW H) → Nat
  | [] => 0
  | d :: r => uptoBulk d + uptoBulkAll r
def uptoBulkEntries {H : Type} : List (Lit × DataW H) → Nat
  | [] => 0
  | x :: r => uptoBulkEntry x + uptoBulkEntries r
def uptoBulkEntry {H : Type} : Lit × DataW H → Nat
  | (.string bytes, d) => bytes.length + uptoBulk d + 1
  | (_, d) => uptoBulk d + 1
 end
def uptoSmall : (H : Type) → List (DataW H) → Bool := fun _ ds => decide (uptoBulkAll ds ≤ 1048576)
def OpenSpec.upto (s : _root_.Go.ChangeSpec) : _root_.Go.OpenSpec := { _root_.Go.OpenSpec.ofChange s with cond := some uptoSmall }

/-- 'voussoirlaw24.GroupSifts', WHERE WHAT IT READS IS OF BULK AT MOST 1048576: true; the input reads as it did. -/
def groupSiftsUptoRow : OpenClaim := { program := "ytkidaindpahefaagreat", sum := "6c64dc30f485a7901eedafac55aedc66255c95f7d431bd4bf8f06cfc6f43f291", func := "voussoir/voussoirlaw24.GroupSifts", spec := "groupSifts", inPlace := ["slices.overlaps[int]"], unfollowed := true, recurses := true, loops := true, plainKeys := false, apart := false, narrowed := true }
def GroupSiftsUptoSaid : Prop := groupSiftsUptoRow.holds Tryz.pinned (OpenSpec.upto groupSiftsSpec)

/-- 'voussoirlaw23.SiftMoves', WHERE WHAT IT READS IS OF BULK AT MOST 1048576: true; the input reads as it did. -/
def siftMovesUptoRow : OpenClaim := { program := "ytkidaindpahefaagreat", sum := "6c64dc30f485a7901eedafac55aedc66255c95f7d431bd4bf8f06cfc6f43f291", func := "voussoir/voussoirlaw23.SiftMoves", spec := "siftMoves", unfollowed := true, recurses := true, loops := true, plainKeys := false, apart := false, narrowed := true }
def SiftMovesUptoSaid : Prop := siftMovesUptoRow.holds Tryz.pinned (OpenSpec.upto siftMovesSpec)

/-- 'voussoirlaw23.SiftBest', WHERE WHAT IT READS IS OF BULK AT MOST 1048576: true; the input reads as it did. -/
def siftBestUptoRow : OpenClaim := { program := "ytkidaindpahefaagreat", sum := "6c64dc30f485a7901eedafac55aedc66255c95f7d431bd4bf8f06cfc6f43f291", func := "voussoir/voussoirlaw23.SiftBest", spec := "siftBest", unfollowed := true, recurses := true, loops := true, plainKeys := false, apart := false, narrowed := true }
def SiftBestUptoSaid : Prop := siftBestUptoRow.holds Tryz.pinned (OpenSpec.upto siftBestSpec)

/-- 'voussoirlaw23.SiftBetters', WHERE WHAT IT READS IS OF BULK AT MOST 1048576: true; the input reads as it did. -/
def siftBettersUptoRow : OpenClaim := { program := "ytkidaindpahefaagreat", sum := "6c64dc30f485a7901eedafac55aedc66255c95f7d431bd4bf8f06cfc6f43f291", func := "voussoir/voussoirlaw23.SiftBetters", spec := "siftBetters", unfollowed := true, recurses := true, loops := true, plainKeys := false, apart := false, narrowed := true }
def SiftBettersUptoSaid : Prop := siftBettersUptoRow.holds Tryz.pinned (OpenSpec.upto siftBettersSpec)

/-- 'voussoirlaw23.SiftNoBetter', WHERE WHAT IT READS IS OF BULK AT MOST 1048576: true; the input reads as it did. -/
def siftNoBetterUptoRow : OpenClaim := { program := "ytkidaindpahefaagreat", sum := "6c64dc30f485a7901eedafac55aedc66255c95f7d431bd4bf8f06cfc6f43f291", func := "voussoir/voussoirlaw23.SiftNoBetter", spec := "siftNoBetter", unfollowed := true, recurses := true, loops := true, plainKeys := false, apart := false, narrowed := true }
def SiftNoBetterUptoSaid : Prop := siftNoBetterUptoRow.holds Tryz.pinned (OpenSpec.upto siftNoBetterSpec)

/-- 'voussoirlaw23.SiftRefuses', WHERE WHAT IT READS IS OF BULK AT MOST 1048576: true; the input reads as it did. -/
def siftRefusesUptoRow : OpenClaim := { program := "ytkidaindpahefaagreat", sum := "6c64dc30f485a7901eedafac55aedc66255c95f7d431bd4bf8f06cfc6f43f291", func := "voussoir/voussoirlaw23.SiftRefuses", spec := "siftRefuses", unfollowed := true, recurses := true, loops := true, plainKeys := false, apart := false, narrowed := true }
def SiftRefusesUptoSaid : Prop := siftRefusesUptoRow.holds Tryz.pinned (OpenSpec.upto siftRefusesSpec)

/-- 'voussoirlaw22.ReorderWindows', WHERE WHAT IT READS IS OF BULK AT MOST 1048576: true; the input reads as it did. -/
def reorderWindowsUptoRow : OpenClaim := { program := "ytkidaindpahefaagreat", sum := "6c64dc30f485a7901eedafac55aedc66255c95f7d431bd4bf8f06cfc6f43f291", func := "voussoir/voussoirlaw22.ReorderWindows", spec := "reorderWindows", inPlace := ["slices.overlaps[int]"], unfollowed := true, recurses := true, loops := true, plainKeys := false, apart := false, narrowed := true }
def ReorderWindowsUptoSaid : Prop := reorderWindowsUptoRow.holds Tryz.pinned (OpenSpec.upto reorderWindowsSpec)

/-- 'voussoirlaw22.ReorderBack', WHERE WHAT IT READS IS OF BULK AT MOST 1048576: true; the input reads as it did. -/
def reorderBackUptoRow : OpenClaim := { program := "ytkidaindpahefaagreat", sum := "6c64dc30f485a7901eedafac55aedc66255c95f7d431bd4bf8f06cfc6f43f291", func := "voussoir/voussoirlaw22.ReorderBack", spec := "reorderBack", inPlace := ["slices.overlaps[int]"], unfollowed := true, recurses := true, loops := true, plainKeys := false, apart := false, narrowed := true }
def ReorderBackUptoSaid : Prop := reorderBackUptoRow.holds Tryz.pinned (OpenSpec.upto reorderBackSpec)

/-- 'voussoirlaw22.ReorderTo', WHERE WHAT IT READS IS OF BULK AT MOST 1048576: true; the input reads as it did. -/
def reorderToUptoRow : OpenClaim := { program := "ytkidaindpahefaagreat", sum := "6c64dc30f485a7901eedafac55aedc66255c95f7d431bd4bf8f06cfc6f43f291", func := "voussoir/voussoirlaw22.ReorderTo", spec := "reorderTo", inPlace := ["slices.overlaps[int]"], unfollowed := true, recurses := true, loops := true, plainKeys := false, apart := false, narrowed := true }
def ReorderToUptoSaid : Prop := reorderToUptoRow.holds Tryz.pinned (OpenSpec.upto reorderToSpec)

/-- 'voussoirlaw22.ReorderMoves', WHERE WHAT IT READS IS OF BULK AT MOST 1048576: true; the input reads as it did. -/
def reorderMovesUptoRow : OpenClaim := { program := "ytkidaindpahefaagreat", sum := "6c64dc30f485a7901eedafac55aedc66255c95f7d431bd4bf8f06cfc6f43f291", func := "voussoir/voussoirlaw22.ReorderMoves", spec := "reorderMoves", inPlace := ["slices.overlaps[int]"], unfollowed := true, recurses := true, loops := true, plainKeys := false, apart := false, narrowed := true }
def ReorderMovesUptoSaid : Prop := reorderMovesUptoRow.holds Tryz.pinned (OpenSpec.upto reorderMovesSpec)

end Rows
end Go.Proofs.YtkidaindpahefaaGreat
