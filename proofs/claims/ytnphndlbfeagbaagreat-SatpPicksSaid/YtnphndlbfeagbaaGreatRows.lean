/-
  NARROWER THAN 'FOR EVERY INPUT', by the rows' own cells (each row's printed sentence says how): SatpPlaces: loops · SatpAny: loops · SatpBack: loops · SatpPicks: loops.
  DERIVED. THE GIVEN ROWS OF THIS SEAT. 4 by the template 'for every input the law returns true; each argument reads behind the call as it read before'; 0 by the template 'total and deterministic' (their statements: YtnphndlbfeagbaaGreatTotals.lean).
  GIVEN WITH THE SEED: the statements are not yours to turn. If you find one false, say at which input.
  Laid BY PROGRAM, IN A SANDBOX (cutbox-rows.mjs): the forced cells as the released guide's own fill.sh prints them over the translation f047d8372201cef4… (all of the seat's roots in one cut). By AI agents, Wed Nov 11 2026. No macro, syntax, notation, axiom, sorry.
-/
import Derived.Test.YtnphndlbfeagbaaGreatChecked
import GoSem.Claim
import GoSem.ClaimJoined
import GoSem.ClaimMapViews
import Derived.JoinedTies
import Derived.KernelRfl
namespace Go.Proofs.YtnphndlbfeagbaaGreat
/- THE CELL 'sum', in the pinned program and in every row, IS THE sha256 OF THE DUMP (.gsa) THAT YtnphndlbfeagbaaGreatProg.lean LOADS. Nothing in Lean hashes anything: it is a label: what it is worth is what the hold of that sum in a sandbox is worth. -/
noncomputable def Tryz.pinned : Pinned := { name := "ytnphndlbfeagbaagreat", sum := "f047d8372201cef4c107c1a95b84b4b3f062ea80a80763ff6bac269bbd5f5c55", checked := Tryz.checked }
namespace Rows
def none {H : Type} : Left H := { results := [], args := [] }

/-- 'voussoirlaw20.SatpPlaces': WHATEVER THE INPUT: true; the input reads as it did. -/
def satpPlacesSpec : ChangeSpec := { name := "satpPlaces", fn := fun _ => fun
  | [d1, d2] => { results := [.lit (.bool true)], args := [d1, d2] }
  | _ => none }
def satpPlacesRow : OpenClaim := { program := "ytnphndlbfeagbaagreat", sum := "f047d8372201cef4c107c1a95b84b4b3f062ea80a80763ff6bac269bbd5f5c55", func := "voussoir/voussoirlaw20.SatpPlaces", spec := "satpPlaces", unfollowed := true, recurses := true, loops := true, plainKeys := false, apart := false }
def SatpPlacesSaid : Prop := satpPlacesRow.holds Tryz.pinned (OpenSpec.ofChange satpPlacesSpec)

/-- ITS FALSE NEIGHBOUR: 'it returns false'. Refute it at one input. -/
def satpPlacesWrong : ChangeSpec := { name := "satpPlaces", fn := fun _ => fun
  | [d1, d2] => { results := [.lit (.bool false)], args := [d1, d2] }
  | _ => none }
def SatpPlacesWrongFalsely : Prop := satpPlacesRow.holds Tryz.pinned (OpenSpec.ofChange satpPlacesWrong)

/-- 'voussoirlaw20.SatpAny': WHATEVER THE INPUT: true; the input reads as it did. -/
def satpAnySpec : ChangeSpec := { name := "satpAny", fn := fun _ => fun
  | [d1, d2] => { results := [.lit (.bool true)], args := [d1, d2] }
  | _ => none }
def satpAnyRow : OpenClaim := { program := "ytnphndlbfeagbaagreat", sum := "f047d8372201cef4c107c1a95b84b4b3f062ea80a80763ff6bac269bbd5f5c55", func := "voussoir/voussoirlaw20.SatpAny", spec := "satpAny", unfollowed := true, recurses := true, loops := true, plainKeys := false, apart := false }
def SatpAnySaid : Prop := satpAnyRow.holds Tryz.pinned (OpenSpec.ofChange satpAnySpec)

/-- ITS FALSE NEIGHBOUR: 'it returns false'. Refute it at one input. -/
def satpAnyWrong : ChangeSpec := { name := "satpAny", fn := fun _ => fun
  | [d1, d2] => { results := [.lit (.bool false)], args := [d1, d2] }
  | _ => none }
def SatpAnyWrongFalsely : Prop := satpAnyRow.holds Tryz.pinned (OpenSpec.ofChange satpAnyWrong)

/-- 'voussoirlaw20.SatpBack': WHATEVER THE INPUT: true; the input reads as it did. -/
def satpBackSpec : ChangeSpec := { name := "satpBack", fn := fun _ => fun
  | [d1, d2, d3] => { results := [.lit (.bool true)], args := [d1, d2, d3] }
  | _ => none }
def satpBackRow : OpenClaim := { program := "ytnphndlbfeagbaagreat", sum := "f047d8372201cef4c107c1a95b84b4b3f062ea80a80763ff6bac269bbd5f5c55", func := "voussoir/voussoirlaw20.SatpBack", spec := "satpBack", unfollowed := true, recurses := true, loops := true, plainKeys := false, apart := false }
def SatpBackSaid : Prop := satpBackRow.holds Tryz.pinned (OpenSpec.ofChange satpBackSpec)

/-- ITS FALSE NEIGHBOUR: 'it returns false'. Refute it at one input. -/
def satpBackWrong : ChangeSpec := { name := "satpBack", fn := fun _ => fun
  | [d1, d2, d3] => { results := [.lit (.bool false)], args := [d1, d2, d3] }
  | _ => none }
def SatpBackWrongFalsely : Prop := satpBackRow.holds Tryz.pinned (OpenSpec.ofChange satpBackWrong)

/-- 'voussoirlaw20.SatpPicks': WHATEVER THE INPUT: true; the input reads as it did. -/
def satpPicksSpec : ChangeSpec := { name := "satpPicks", fn := fun _ => fun
  | [d1, d2, d3] => { results := [.lit (.bool true)], args := [d1, d2, d3] }
  | _ => none }
def satpPicksRow : OpenClaim := { program := "ytnphndlbfeagbaagreat", sum := "f047d8372201cef4c107c1a95b84b4b3f062ea80a80763ff6bac269bbd5f5c55", func := "voussoir/voussoirlaw20.SatpPicks", spec := "satpPicks", unfollowed := true, recurses := true, loops := true, plainKeys := false, apart := false }
def SatpPicksSaid : Prop := satpPicksRow.holds Tryz.pinned (OpenSpec.ofChange satpPicksSpec)

/-- ITS FALSE NEIGHBOUR: 'it returns false'. Refute it at one input. -/
def satpPicksWrong : ChangeSpec := { name := "satpPicks", fn := fun _ => fun
  | [d1, d2, d3] => { results := [.lit (.bool false)], args := [d1, d2, d3] }
  | _ => none }
def SatpPicksWrongFalsely : Prop := satpPicksRow.holds Tryz.pinned (OpenSpec.ofChange satpPicksWrong)

/- THE SECOND FORM. 'bulk': how many values and letters a reading holds, each counted each time it is reached (what is shared counts as often as it is met; a slice's spare places count too). A statement '..UptoSaid' is the law's where the arguments, and the package variables that the reading takes, are together of bulk at most 1048576: NARROWER than '..Said'. Prove '..Said' where nothing that the law and all that it calls make is longer than what came in: it says more and counts as full. Else prove '..UptoSaid'. A law counts once. -/
mutual
def uptoBulk {H : Type} : DataW H → Nat
  | .lit (.string bytes) => bytes.length + 1
  | .lit _ => 1
  | .nil => 1
  | .ptr d => uptoBulk d + 1
  | .slice elems spare => uptoBulkAll elems + uptoBulkAll spare + 1
  | .agg parts => uptoBulkAll parts + 1
  | .iface _ d => uptoBulk d + 1
  | .map entries => uptoBulkEntries entries + 1
  | .held _ => 1
def uptoBulkAll {H : Type} : List (DataW H) → Nat
  | [] => 0
  | d :: r => uptoBulk d + uptoBulkAll r
def uptoBulkEntries {H : Type} : List (Lit × DataW H) → Nat
  | [] => 0
  | x :: r => uptoBulkEntry x + uptoBulkEntries r
def uptoBulkEntry {H : Type} : Lit × DataW H → Nat
  | (.string bytes, d) => bytes.length + uptoBulk d + 1
  | (_, d) => uptoBulk d + 1
 end
def uptoSmall : (H : Type) → List (DataW H) → Bool := fun _ ds => decide (uptoBulkAll ds ≤ 1048576)
def OpenSpec.upto (s : _root_.Go.ChangeSpec) : _root_.Go.OpenSpec := { _root_.Go.OpenSpec.ofChange s with cond := some uptoSmall }

/-- 'voussoirlaw20.SatpPlaces', WHERE WHAT IT READS IS OF BULK AT MOST 1048576: true; the input reads as it did. -/
def satpPlacesUptoRow : OpenClaim := { program := "ytnphndlbfeagbaagreat", sum := "f047d8372201cef4c107c1a95b84b4b3f062ea80a80763ff6bac269bbd5f5c55", func := "voussoir/voussoirlaw20.SatpPlaces", spec := "satpPlaces", unfollowed := true, recurses := true, loops := true, plainKeys := false, apart := false, narrowed := true }
def SatpPlacesUptoSaid : Prop := satpPlacesUptoRow.holds Tryz.pinned (OpenSpec.upto satpPlacesSpec)

/-- 'voussoirlaw20.SatpAny', WHERE WHAT IT READS IS OF BULK AT MOST 1048576: true; the input reads as it did. -/
def satpAnyUptoRow : OpenClaim := { program := "ytnphndlbfeagbaagreat", sum := "f047d8372201cef4c107c1a95b84b4b3f062ea80a80763ff6bac269bbd5f5c55", func := "voussoir/voussoirlaw20.SatpAny", spec := "satpAny", unfollowed := true, recurses := true, loops := true, plainKeys := false, apart := false, narrowed := true }
def SatpAnyUptoSaid : Prop := satpAnyUptoRow.holds Tryz.pinned (OpenSpec.upto satpAnySpec)

/-- 'voussoirlaw20.SatpBack', WHERE WHAT IT READS IS OF BULK AT MOST 1048576: true; the input reads as it did. -/
def satpBackUptoRow : OpenClaim := { program := "ytnphndlbfeagbaagreat", sum := "f047d8372201cef4c107c1a95b84b4b3f062ea80a80763ff6bac269bbd5f5c55", func := "voussoir/voussoirlaw20.SatpBack", spec := "satpBack", unfollowed := true, recurses := true, loops := true, plainKeys := false, apart := false, narrowed := true }
def SatpBackUptoSaid : Prop := satpBackUptoRow.holds Tryz.pinned (OpenSpec.upto satpBackSpec)

/-- 'voussoirlaw20.SatpPicks', WHERE WHAT IT READS IS OF BULK AT MOST 1048576: true; the input reads as it did. -/
def satpPicksUptoRow : OpenClaim := { program := "ytnphndlbfeagbaagreat", sum := "f047d8372201cef4c107c1a95b84b4b3f062ea80a80763ff6bac269bbd5f5c55", func := "voussoir/voussoirlaw20.SatpPicks", spec := "satpPicks", unfollowed := true, recurses := true, loops := true, plainKeys := false, apart := false, narrowed := true }
def SatpPicksUptoSaid : Prop := satpPicksUptoRow.holds Tryz.pinned (OpenSpec.upto satpPicksSpec)

end Rows
end Go.Proofs.YtnphndlbfeagbaaGreat
