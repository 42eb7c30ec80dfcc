/-
  NARROWER THAN 'FOR EVERY INPUT', by the rows' own cells (each row's printed sentence says how): SatcParts: loops · SatcShares: loops · SatcWays: loops · SatcCounts: loops · SatpPlaces: loops · SatpAny: loops · SatpBack: loops · SatpPicks: loops · SatpRefuses: loops.
  DERIVED. THE GIVEN ROWS OF THIS SEAT. 9 by the template 'for every input the law returns true; each argument reads behind the call as it read before'; 0 by the template 'total and deterministic' (their statements: YtgmbklaolcmljaaGreatTotals.lean).
  GIVEN WITH THE SEED: the statements are not yours to turn. If you find one false, say at which input.
  Laid BY PROGRAM, IN A SANDBOX (cutbox-rows.mjs): the forced cells as the released guide's own fill.sh prints them over the translation b2c861e3b3d0852f… (all of the seat's roots in one cut). By AI agents, Wed Nov 11 2026. No macro, syntax, notation, axiom, sorry.
-/
import Derived.Test.YtgmbklaolcmljaaGreatChecked
import GoSem.Claim
import GoSem.ClaimJoined
import GoSem.ClaimMapViews
import Derived.JoinedTies
import Derived.KernelRfl
namespace Go.Proofs.YtgmbklaolcmljaaGreat
/- THE CELL 'sum', in the pinned program and in every row, IS THE sha256 OF THE DUMP (.gsa) THAT YtgmbklaolcmljaaGreatProg.lean LOADS. Nothing in Lean hashes anything: it is a label: what it is worth is what the hold of that sum in a sandbox is worth. -/
noncomputable def Tryz.pinned : Pinned := { name := "ytgmbklaolcmljaagreat", sum := "b2c861e3b3d0852fecd6998502a251475fa472d78b9b134cc77ec8254423c675", checked := Tryz.checked }
namespace Rows
def none {H : Type} : Left H := { results := [], args := [] }

/-- 'voussoirlaw19.SatcParts': WHATEVER THE INPUT: true; the input reads as it did. -/
def satcPartsSpec : ChangeSpec := { name := "satcParts", fn := fun _ => fun
  | [d1, d2, d3, d4] => { results := [.lit (.bool true)], args := [d1, d2, d3, d4] }
  | _ => none }
def satcPartsRow : OpenClaim := { program := "ytgmbklaolcmljaagreat", sum := "b2c861e3b3d0852fecd6998502a251475fa472d78b9b134cc77ec8254423c675", func := "voussoir/voussoirlaw19.SatcParts", spec := "satcParts", unfollowed := true, recurses := true, loops := true, plainKeys := false, apart := false }
def SatcPartsSaid : Prop := satcPartsRow.holds Tryz.pinned (OpenSpec.ofChange satcPartsSpec)

/-- ITS FALSE NEIGHBOUR: 'it returns false'. Refute it at one input. -/
def satcPartsWrong : ChangeSpec := { name := "satcParts", fn := fun _ => fun
  | [d1, d2, d3, d4] => { results := [.lit (.bool false)], args := [d1, d2, d3, d4] }
  | _ => none }
def SatcPartsWrongFalsely : Prop := satcPartsRow.holds Tryz.pinned (OpenSpec.ofChange satcPartsWrong)

/-- 'voussoirlaw19.SatcShares': WHATEVER THE INPUT: true; the input reads as it did. -/
def satcSharesSpec : ChangeSpec := { name := "satcShares", fn := fun _ => fun
  | [d1, d2] => { results := [.lit (.bool true)], args := [d1, d2] }
  | _ => none }
def satcSharesRow : OpenClaim := { program := "ytgmbklaolcmljaagreat", sum := "b2c861e3b3d0852fecd6998502a251475fa472d78b9b134cc77ec8254423c675", func := "voussoir/voussoirlaw19.SatcShares", spec := "satcShares", unfollowed := true, recurses := true, loops := true, plainKeys := false, apart := false }
def SatcSharesSaid : Prop := satcSharesRow.holds Tryz.pinned (OpenSpec.ofChange satcSharesSpec)

/-- ITS FALSE NEIGHBOUR: 'it returns false'. Refute it at one input. -/
def satcSharesWrong : ChangeSpec := { name := "satcShares", fn := fun _ => fun
  | [d1, d2] => { results := [.lit (.bool false)], args := [d1, d2] }
  | _ => none }
def SatcSharesWrongFalsely : Prop := satcSharesRow.holds Tryz.pinned (OpenSpec.ofChange satcSharesWrong)

/-- 'voussoirlaw19.SatcWays': WHATEVER THE INPUT: true; the input reads as it did. -/
def satcWaysSpec : ChangeSpec := { name := "satcWays", fn := fun _ => fun
  | [d1, d2, d3, d4] => { results := [.lit (.bool true)], args := [d1, d2, d3, d4] }
  | _ => none }
def satcWaysRow : OpenClaim := { program := "ytgmbklaolcmljaagreat", sum := "b2c861e3b3d0852fecd6998502a251475fa472d78b9b134cc77ec8254423c675", func := "voussoir/voussoirlaw19.SatcWays", spec := "satcWays", unfollowed := true, recurses := true, loops := true, plainKeys := false, apart := false }
def SatcWaysSaid : Prop := satcWaysRow.holds Tryz.pinned (OpenSpec.ofChange satcWaysSpec)

/-- ITS FALSE NEIGHBOUR: 'it returns false'. Refute it at one input. -/
def satcWaysWrong : ChangeSpec := { name := "satcWays", fn := fun _ => fun
  | [d1, d2, d3, d4] => { results := [.lit (.bool false)], args := [d1, d2, d3, d4] }
  | _ => none }
def SatcWaysWrongFalsely : Prop := satcWaysRow.holds Tryz.pinned (OpenSpec.ofChange satcWaysWrong)

/-- 'voussoirlaw19.SatcCounts': WHATEVER THE INPUT: true; the input reads as it did. -/
def satcCountsSpec : ChangeSpec := { name := "satcCounts", fn := fun _ => fun
  | [d1, d2, d3] => { results := [.lit (.bool true)], args := [d1, d2, d3] }
  | _ => none }
def satcCountsRow : OpenClaim := { program := "ytgmbklaolcmljaagreat", sum := "b2c861e3b3d0852fecd6998502a251475fa472d78b9b134cc77ec8254423c675", func := "voussoir/voussoirlaw19.SatcCounts", spec := "satcCounts", unfollowed := true, recurses := true, loops := true, plainKeys := false, apart := false }
def SatcCountsSaid : Prop := satcCountsRow.holds Tryz.pinned (OpenSpec.ofChange satcCountsSpec)

/-- ITS FALSE NEIGHBOUR: 'it returns false'. Refute it at one input. -/
def satcCountsWrong : ChangeSpec := { name := "satcCounts", fn := fun _ => fun
  | [d1, d2, d3] => { results := [.lit (.bool false)], args := [d1, d2, d3] }
  | _ => none }
def SatcCountsWrongFalsely : Prop := satcCountsRow.holds Tryz.pinned (OpenSpec.ofChange satcCountsWrong)

/-- 'voussoirlaw20.SatpPlaces': WHATEVER THE INPUT: true; the input reads as it did. -/
def satpPlacesSpec : ChangeSpec := { name := "satpPlaces", fn := fun _ => fun
  | [d1, d2] => { results := [.lit (.bool true)], args := [d1, d2] }
  | _ => none }
def satpPlacesRow : OpenClaim := { program := "ytgmbklaolcmljaagreat", sum := "b2c861e3b3d0852fecd6998502a251475fa472d78b9b134cc77ec8254423c675", func := "voussoir/voussoirlaw20.SatpPlaces", spec := "satpPlaces", unfollowed := true, recurses := true, loops := true, plainKeys := false, apart := false }
def SatpPlacesSaid : Prop := satpPlacesRow.holds Tryz.pinned (OpenSpec.ofChange satpPlacesSpec)

/-- ITS FALSE NEIGHBOUR: 'it returns false'. Refute it at one input. -/
def satpPlacesWrong : ChangeSpec := { name := "satpPlaces", fn := fun _ => fun
  | [d1, d2] => { results := [.lit (.bool false)], args := [d1, d2] }
  | _ => none }
def SatpPlacesWrongFalsely : Prop := satpPlacesRow.holds Tryz.pinned (OpenSpec.ofChange satpPlacesWrong)

/-- 'voussoirlaw20.SatpAny': WHATEVER THE INPUT: true; the input reads as it did. -/
def satpAnySpec : ChangeSpec := { name := "satpAny", fn := fun _ => fun
  | [d1, d2] => { results := [.lit (.bool true)], args := [d1, d2] }
  | _ => none }
def satpAnyRow : OpenClaim := { program := "ytgmbklaolcmljaagreat", sum := "b2c861e3b3d0852fecd6998502a251475fa472d78b9b134cc77ec8254423c675", func := "voussoir/voussoirlaw20.SatpAny", spec := "satpAny", unfollowed := true, recurses := true, loops := true, plainKeys := false, apart := false }
def SatpAnySaid : Prop := satpAnyRow.holds Tryz.pinned (OpenSpec.ofChange satpAnySpec)

/-- ITS FALSE NEIGHBOUR: 'it returns false'. Refute it at one input. -/
def satpAnyWrong : ChangeSpec := { name := "satpAny", fn := fun _ => fun
  | [d1, d2] => { results := [.lit (.bool false)], args := [d1, d2] }
  | _ => none }
def SatpAnyWrongFalsely : Prop := satpAnyRow.holds Tryz.pinned (OpenSpec.ofChange satpAnyWrong)

/-- 'voussoirlaw20.SatpBack': WHATEVER THE INPUT: true; the input reads as it did. -/
def satpBackSpec : ChangeSpec := { name := "satpBack", fn := fun _ => fun
  | [d1, d2, d3] => { results := [.lit (.bool true)], args := [d1, d2, d3] }
  | _ => none }
def satpBackRow : OpenClaim := { program := "ytgmbklaolcmljaagreat", sum := "b2c861e3b3d0852fecd6998502a251475fa472d78b9b134cc77ec8254423c675", func := "voussoir/voussoirlaw20.SatpBack", spec := "satpBack", unfollowed := true, recurses := true, loops := true, plainKeys := false, apart := false }
def SatpBackSaid : Prop := satpBackRow.holds Tryz.pinned (OpenSpec.ofChange satpBackSpec)

/-- ITS FALSE NEIGHBOUR: 'it returns false'. Refute it at one input. -/
def satpBackWrong : ChangeSpec := { name := "satpBack", fn := fun _ => fun
  | [d1, d2, d3] => { results := [.lit (.bool false)], args := [d1, d2, d3] }
  | _ => none }
def SatpBackWrongFalsely : Prop := satpBackRow.holds Tryz.pinned (OpenSpec.ofChange satpBackWrong)

/-- 'voussoirlaw20.SatpPicks': WHATEVER THE INPUT: true; the input reads as it did. -/
def satpPicksSpec : ChangeSpec := { name := "satpPicks", fn := fun _ => fun
  | [d1, d2, d3] => { results := [.lit (.bool true)], args := [d1, d2, d3] }
  | _ => none }
def satpPicksRow : OpenClaim := { program := "ytgmbklaolcmljaagreat", sum := "b2c861e3b3d0852fecd6998502a251475fa472d78b9b134cc77ec8254423c675", func := "voussoir/voussoirlaw20.SatpPicks", spec := "satpPicks", unfollowed := true, recurses := true, loops := true, plainKeys := false, apart := false }
def SatpPicksSaid : Prop := satpPicksRow.holds Tryz.pinned (OpenSpec.ofChange satpPicksSpec)

/-- ITS FALSE NEIGHBOUR: 'it returns false'. Refute it at one input. -/
def satpPicksWrong : ChangeSpec := { name := "satpPicks", fn := fun _ => fun
  | [d1, d2, d3] => { results := [.lit (.bool false)], args := [d1, d2, d3] }
  | _ => none }
def SatpPicksWrongFalsely : Prop := satpPicksRow.holds Tryz.pinned (OpenSpec.ofChange satpPicksWrong)

/-- 'voussoirlaw20.SatpRefuses': WHATEVER THE INPUT: true; the input reads as it did. -/
def satpRefusesSpec : ChangeSpec := { name := "satpRefuses", fn := fun _ => fun
  | [d1, d2, d3] => { results := [.lit (.bool true)], args := [d1, d2, d3] }
  | _ => none }
def satpRefusesRow : OpenClaim := { program := "ytgmbklaolcmljaagreat", sum := "b2c861e3b3d0852fecd6998502a251475fa472d78b9b134cc77ec8254423c675", func := "voussoir/voussoirlaw20.SatpRefuses", spec := "satpRefuses", unfollowed := true, recurses := true, loops := true, plainKeys := false, apart := false }
def SatpRefusesSaid : Prop := satpRefusesRow.holds Tryz.pinned (OpenSpec.ofChange satpRefusesSpec)

/-- ITS FALSE NEIGHBOUR: 'it returns false'. Refute it at one input. -/
def satpRefusesWrong : ChangeSpec := { name := "satpRefuses", fn := fun _ => fun
  | [d1, d2, d3] => { results := [.lit (.bool false)], args := [d1, d2, d3] }
  | _ => none }
def SatpRefusesWrongFalsely : Prop := satpRefusesRow.holds Tryz.pinned (OpenSpec.ofChange satpRefusesWrong)

/- THE SECOND FORM. 'bulk': how many values and letters a reading holds, each counted each time it is reached (what is shared counts as often as it is met; a slice's spare places count too). A statement '..UptoSaid' is the law's where the arguments, and the package variables that the reading takes, are together of bulk at most 1048576: NARROWER than '..Said'. Prove '..Said' where nothing that the law and all that it calls make is longer than what came in: it says more and counts as full. Else prove '..UptoSaid'. A law counts once. -/
mutual
def uptoBulk {H : Type} : DataW H → Nat
  | .lit (.string bytes) => bytes.length + 1
  | .lit _ => 1
  | .nil => 1
  | .ptr d => uptoBulk d + 1
  | .slice elems spare => uptoBulkAll elems + uptoBulkAll spare + 1
  | .agg parts => uptoBulkAll parts + 1
  | .iface _ d => uptoBulk d + 1
  | .map entries => uptoBulkEntries entries + 1
  | .held _ => 1
def uptoBulkAll {H : Type} : List (DataW H) → Nat
  | [] => 0
  | d :: r => uptoBulk d + uptoBulkAll r
def uptoBulkEntries {H : Type} : List (Lit × DataW H) → Nat
  | [] => 0
  | x :: r => uptoBulkEntry x + uptoBulkEntries r
def uptoBulkEntry {H : Type} : Lit × DataW H → Nat
  | (.string bytes, d) => bytes.length + uptoBulk d + 1
  | (_, d) => uptoBulk d + 1
 end
def uptoSmall : (H : Type) → List (DataW H) → Bool := fun _ ds => decide (uptoBulkAll ds ≤ 1048576)
def OpenSpec.upto (s : _root_.Go.ChangeSpec) : _root_.Go.OpenSpec := { _root_.Go.OpenSpec.ofChange s with cond := some uptoSmall }

/-- 'voussoirlaw19.SatcParts', WHERE WHAT IT READS IS OF BULK AT MOST 1048576: true; the input reads as it did. -/
def satcPartsUptoRow : OpenClaim := { program := "ytgmbklaolcmljaagreat", sum := "b2c861e3b3d0852fecd6998502a251475fa472d78b9b134cc77ec8254423c675", func := "voussoir/voussoirlaw19.SatcParts", spec := "satcParts", unfollowed := true, recurses := true, loops := true, plainKeys := false, apart := false, narrowed := true }
def SatcPartsUptoSaid : Prop := satcPartsUptoRow.holds Tryz.pinned (OpenSpec.upto satcPartsSpec)

/-- 'voussoirlaw19.SatcShares', WHERE WHAT IT READS IS OF BULK AT MOST 1048576: true; the input reads as it did. -/
def satcSharesUptoRow : OpenClaim := { program := "ytgmbklaolcmljaagreat", sum := "b2c861e3b3d0852fecd6998502a251475fa472d78b9b134cc77ec8254423c675", func := "voussoir/voussoirlaw19.SatcShares", spec := "satcShares", unfollowed := true, recurses := true, loops := true, plainKeys := false, apart := false, narrowed := true }
def SatcSharesUptoSaid : Prop := satcSharesUptoRow.holds Tryz.pinned (OpenSpec.upto satcSharesSpec)

/-- 'voussoirlaw19.SatcWays', WHERE WHAT IT READS IS OF BULK AT MOST 1048576: true; the input reads as it did. -/
def satcWaysUptoRow : OpenClaim := { program := "ytgmbklaolcmljaagreat", sum := "b2c861e3b3d0852fecd6998502a251475fa472d78b9b134cc77ec8254423c675", func := "voussoir/voussoirlaw19.SatcWays", spec := "satcWays", unfollowed := true, recurses := true, loops := true, plainKeys := false, apart := false, narrowed := true }
def SatcWaysUptoSaid : Prop := satcWaysUptoRow.holds Tryz.pinned (OpenSpec.upto satcWaysSpec)

/-- 'voussoirlaw19.SatcCounts', WHERE WHAT IT READS IS OF BULK AT MOST 1048576: true; the input reads as it did. -/
def satcCountsUptoRow : OpenClaim := { program := "ytgmbklaolcmljaagreat", sum := "b2c861e3b3d0852fecd6998502a251475fa472d78b9b134cc77ec8254423c675", func := "voussoir/voussoirlaw19.SatcCounts", spec := "satcCounts", unfollowed := true, recurses := true, loops := true, plainKeys := false, apart := false, narrowed := true }
def SatcCountsUptoSaid : Prop := satcCountsUptoRow.holds Tryz.pinned (OpenSpec.upto satcCountsSpec)

/-- 'voussoirlaw20.SatpPlaces', WHERE WHAT IT READS IS OF BULK AT MOST 1048576: true; the input reads as it did. -/
def satpPlacesUptoRow : OpenClaim := { program := "ytgmbklaolcmljaagreat", sum := "b2c861e3b3d0852fecd6998502a251475fa472d78b9b134cc77ec8254423c675", func := "voussoir/voussoirlaw20.SatpPlaces", spec := "satpPlaces", unfollowed := true, recurses := true, loops := true, plainKeys := false, apart := false, narrowed := true }
def SatpPlacesUptoSaid : Prop := satpPlacesUptoRow.holds Tryz.pinned (OpenSpec.upto satpPlacesSpec)

/-- 'voussoirlaw20.SatpAny', WHERE WHAT IT READS IS OF BULK AT MOST 1048576: true; the input reads as it did. -/
def satpAnyUptoRow : OpenClaim := { program := "ytgmbklaolcmljaagreat", sum := "b2c861e3b3d0852fecd6998502a251475fa472d78b9b134cc77ec8254423c675", func := "voussoir/voussoirlaw20.SatpAny", spec := "satpAny", unfollowed := true, recurses := true, loops := true, plainKeys := false, apart := false, narrowed := true }
def SatpAnyUptoSaid : Prop := satpAnyUptoRow.holds Tryz.pinned (OpenSpec.upto satpAnySpec)

/-- 'voussoirlaw20.SatpBack', WHERE WHAT IT READS IS OF BULK AT MOST 1048576: true; the input reads as it did. -/
def satpBackUptoRow : OpenClaim := { program := "ytgmbklaolcmljaagreat", sum := "b2c861e3b3d0852fecd6998502a251475fa472d78b9b134cc77ec8254423c675", func := "voussoir/voussoirlaw20.SatpBack", spec := "satpBack", unfollowed := true, recurses := true, loops := true, plainKeys := false, apart := false, narrowed := true }
def SatpBackUptoSaid : Prop := satpBackUptoRow.holds Tryz.pinned (OpenSpec.upto satpBackSpec)

/-- 'voussoirlaw20.SatpPicks', WHERE WHAT IT READS IS OF BULK AT MOST 1048576: true; the input reads as it did. -/
def satpPicksUptoRow : OpenClaim := { program := "ytgmbklaolcmljaagreat", sum := "b2c861e3b3d0852fecd6998502a251475fa472d78b9b134cc77ec8254423c675", func := "voussoir/voussoirlaw20.SatpPicks", spec := "satpPicks", unfollowed := true, recurses := true, loops := true, plainKeys := false, apart := false, narrowed := true }
def SatpPicksUptoSaid : Prop := satpPicksUptoRow.holds Tryz.pinned (OpenSpec.upto satpPicksSpec)

/-- 'voussoirlaw20.SatpRefuses', WHERE WHAT IT READS IS OF BULK AT MOST 1048576: true; the input reads as it did. -/
def satpRefusesUptoRow : OpenClaim := { program := "ytgmbklaolcmljaagreat", sum := "b2c861e3b3d0852fecd6998502a251475fa472d78b9b134cc77ec8254423c675", func := "voussoir/voussoirlaw20.SatpRefuses", spec := "satpRefuses", unfollowed := true, recurses := true, loops := true, plainKeys := false, apart := false, narrowed := true }
def SatpRefusesUptoSaid : Prop := satpRefusesUptoRow.holds Tryz.pinned (OpenSpec.upto satpRefusesSpec)

end Rows
end Go.Proofs.YtgmbklaolcmljaaGreat
