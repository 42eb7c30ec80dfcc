/-
  NARROWER THAN 'FOR EVERY INPUT', by the rows' own cells (each row's printed sentence says how): CofSplits: loops · SubstComposes: loops · SubstBack: loops · SubstVectors: loops · SubstRenames: loops · CofCofactors: loops · CofConstrains: loops · CofRestricts: loops · OpsRefuses: loops · OpsOf: loops · CofRefuses: loops · CofSqueezes: loops.
  DERIVED. THE GIVEN ROWS OF THIS SEAT. 12 by the template 'for every input the law returns true; each argument reads behind the call as it read before'; 0 by the template 'total and deterministic' (their statements: YtmofaapnkidioaaGreatTotals.lean).
  GIVEN WITH THE SEED: the statements are not yours to turn. If you find one false, say at which input.
  Laid BY PROGRAM, IN A SANDBOX (cutbox-rows.mjs): the forced cells as the released guide's own fill.sh prints them over the translation d9f6cbd1955d7665… (all of the seat's roots in one cut). By AI agents, Wed Nov 11 2026. No macro, syntax, notation, axiom, sorry.
-/
import Derived.Test.YtmofaapnkidioaaGreatChecked
import GoSem.Claim
import GoSem.ClaimJoined
import GoSem.ClaimMapViews
import Derived.JoinedTies
import Derived.KernelRfl
namespace Go.Proofs.YtmofaapnkidioaaGreat
/- THE CELL 'sum', in the pinned program and in every row, IS THE sha256 OF THE DUMP (.gsa) THAT YtmofaapnkidioaaGreatProg.lean LOADS. Nothing in Lean hashes anything: it is a label: what it is worth is what the hold of that sum in a sandbox is worth. -/
noncomputable def Tryz.pinned : Pinned := { name := "ytmofaapnkidioaagreat", sum := "d9f6cbd1955d76657174a0d5cc8ef146c94845cfefc37b715e96f235876c47f2", checked := Tryz.checked }
namespace Rows
def none {H : Type} : Left H := { results := [], args := [] }

/-- 'voussoirlaw17.CofSplits': WHATEVER THE INPUT: true; the input reads as it did. -/
def cofSplitsSpec : ChangeSpec := { name := "cofSplits", fn := fun _ => fun
  | [d1, d2, d3] => { results := [.lit (.bool true)], args := [d1, d2, d3] }
  | _ => none }
def cofSplitsRow : OpenClaim := { program := "ytmofaapnkidioaagreat", sum := "d9f6cbd1955d76657174a0d5cc8ef146c94845cfefc37b715e96f235876c47f2", func := "voussoir/voussoirlaw17.CofSplits", spec := "cofSplits", unfollowed := true, recurses := true, loops := true, plainKeys := false, apart := false }
def CofSplitsSaid : Prop := cofSplitsRow.holds Tryz.pinned (OpenSpec.ofChange cofSplitsSpec)

/-- ITS FALSE NEIGHBOUR: 'it returns false'. Refute it at one input. -/
def cofSplitsWrong : ChangeSpec := { name := "cofSplits", fn := fun _ => fun
  | [d1, d2, d3] => { results := [.lit (.bool false)], args := [d1, d2, d3] }
  | _ => none }
def CofSplitsWrongFalsely : Prop := cofSplitsRow.holds Tryz.pinned (OpenSpec.ofChange cofSplitsWrong)

/-- 'voussoirlaw16.SubstComposes': WHATEVER THE INPUT: true; the input reads as it did. -/
def substComposesSpec : ChangeSpec := { name := "substComposes", fn := fun _ => fun
  | [d1, d2, d3, d4] => { results := [.lit (.bool true)], args := [d1, d2, d3, d4] }
  | _ => none }
def substComposesRow : OpenClaim := { program := "ytmofaapnkidioaagreat", sum := "d9f6cbd1955d76657174a0d5cc8ef146c94845cfefc37b715e96f235876c47f2", func := "voussoir/voussoirlaw16.SubstComposes", spec := "substComposes", unfollowed := true, recurses := true, loops := true, plainKeys := false, apart := false }
def SubstComposesSaid : Prop := substComposesRow.holds Tryz.pinned (OpenSpec.ofChange substComposesSpec)

/-- ITS FALSE NEIGHBOUR: 'it returns false'. Refute it at one input. -/
def substComposesWrong : ChangeSpec := { name := "substComposes", fn := fun _ => fun
  | [d1, d2, d3, d4] => { results := [.lit (.bool false)], args := [d1, d2, d3, d4] }
  | _ => none }
def SubstComposesWrongFalsely : Prop := substComposesRow.holds Tryz.pinned (OpenSpec.ofChange substComposesWrong)

/-- 'voussoirlaw16.SubstBack': WHATEVER THE INPUT: true; the input reads as it did. -/
def substBackSpec : ChangeSpec := { name := "substBack", fn := fun _ => fun
  | [d1, d2, d3, d4] => { results := [.lit (.bool true)], args := [d1, d2, d3, d4] }
  | _ => none }
def substBackRow : OpenClaim := { program := "ytmofaapnkidioaagreat", sum := "d9f6cbd1955d76657174a0d5cc8ef146c94845cfefc37b715e96f235876c47f2", func := "voussoir/voussoirlaw16.SubstBack", spec := "substBack", unfollowed := true, recurses := true, loops := true, plainKeys := false, apart := false }
def SubstBackSaid : Prop := substBackRow.holds Tryz.pinned (OpenSpec.ofChange substBackSpec)

/-- ITS FALSE NEIGHBOUR: 'it returns false'. Refute it at one input. -/
def substBackWrong : ChangeSpec := { name := "substBack", fn := fun _ => fun
  | [d1, d2, d3, d4] => { results := [.lit (.bool false)], args := [d1, d2, d3, d4] }
  | _ => none }
def SubstBackWrongFalsely : Prop := substBackRow.holds Tryz.pinned (OpenSpec.ofChange substBackWrong)

/-- 'voussoirlaw16.SubstVectors': WHATEVER THE INPUT: true; the input reads as it did. -/
def substVectorsSpec : ChangeSpec := { name := "substVectors", fn := fun _ => fun
  | [d1, d2, d3] => { results := [.lit (.bool true)], args := [d1, d2, d3] }
  | _ => none }
def substVectorsRow : OpenClaim := { program := "ytmofaapnkidioaagreat", sum := "d9f6cbd1955d76657174a0d5cc8ef146c94845cfefc37b715e96f235876c47f2", func := "voussoir/voussoirlaw16.SubstVectors", spec := "substVectors", unfollowed := true, recurses := true, loops := true, plainKeys := false, apart := false }
def SubstVectorsSaid : Prop := substVectorsRow.holds Tryz.pinned (OpenSpec.ofChange substVectorsSpec)

/-- ITS FALSE NEIGHBOUR: 'it returns false'. Refute it at one input. -/
def substVectorsWrong : ChangeSpec := { name := "substVectors", fn := fun _ => fun
  | [d1, d2, d3] => { results := [.lit (.bool false)], args := [d1, d2, d3] }
  | _ => none }
def SubstVectorsWrongFalsely : Prop := substVectorsRow.holds Tryz.pinned (OpenSpec.ofChange substVectorsWrong)

/-- 'voussoirlaw16.SubstRenames': WHATEVER THE INPUT: true; the input reads as it did. -/
def substRenamesSpec : ChangeSpec := { name := "substRenames", fn := fun _ => fun
  | [d1, d2, d3, d4] => { results := [.lit (.bool true)], args := [d1, d2, d3, d4] }
  | _ => none }
def substRenamesRow : OpenClaim := { program := "ytmofaapnkidioaagreat", sum := "d9f6cbd1955d76657174a0d5cc8ef146c94845cfefc37b715e96f235876c47f2", func := "voussoir/voussoirlaw16.SubstRenames", spec := "substRenames", unfollowed := true, recurses := true, loops := true, plainKeys := false, apart := false }
def SubstRenamesSaid : Prop := substRenamesRow.holds Tryz.pinned (OpenSpec.ofChange substRenamesSpec)

/-- ITS FALSE NEIGHBOUR: 'it returns false'. Refute it at one input. -/
def substRenamesWrong : ChangeSpec := { name := "substRenames", fn := fun _ => fun
  | [d1, d2, d3, d4] => { results := [.lit (.bool false)], args := [d1, d2, d3, d4] }
  | _ => none }
def SubstRenamesWrongFalsely : Prop := substRenamesRow.holds Tryz.pinned (OpenSpec.ofChange substRenamesWrong)

/-- 'voussoirlaw17.CofCofactors': WHATEVER THE INPUT: true; the input reads as it did. -/
def cofCofactorsSpec : ChangeSpec := { name := "cofCofactors", fn := fun _ => fun
  | [d1, d2, d3] => { results := [.lit (.bool true)], args := [d1, d2, d3] }
  | _ => none }
def cofCofactorsRow : OpenClaim := { program := "ytmofaapnkidioaagreat", sum := "d9f6cbd1955d76657174a0d5cc8ef146c94845cfefc37b715e96f235876c47f2", func := "voussoir/voussoirlaw17.CofCofactors", spec := "cofCofactors", unfollowed := true, recurses := true, loops := true, plainKeys := false, apart := false }
def CofCofactorsSaid : Prop := cofCofactorsRow.holds Tryz.pinned (OpenSpec.ofChange cofCofactorsSpec)

/-- ITS FALSE NEIGHBOUR: 'it returns false'. Refute it at one input. -/
def cofCofactorsWrong : ChangeSpec := { name := "cofCofactors", fn := fun _ => fun
  | [d1, d2, d3] => { results := [.lit (.bool false)], args := [d1, d2, d3] }
  | _ => none }
def CofCofactorsWrongFalsely : Prop := cofCofactorsRow.holds Tryz.pinned (OpenSpec.ofChange cofCofactorsWrong)

/-- 'voussoirlaw17.CofConstrains': WHATEVER THE INPUT: true; the input reads as it did. -/
def cofConstrainsSpec : ChangeSpec := { name := "cofConstrains", fn := fun _ => fun
  | [d1, d2] => { results := [.lit (.bool true)], args := [d1, d2] }
  | _ => none }
def cofConstrainsRow : OpenClaim := { program := "ytmofaapnkidioaagreat", sum := "d9f6cbd1955d76657174a0d5cc8ef146c94845cfefc37b715e96f235876c47f2", func := "voussoir/voussoirlaw17.CofConstrains", spec := "cofConstrains", unfollowed := true, recurses := true, loops := true, plainKeys := false, apart := false }
def CofConstrainsSaid : Prop := cofConstrainsRow.holds Tryz.pinned (OpenSpec.ofChange cofConstrainsSpec)

/-- ITS FALSE NEIGHBOUR: 'it returns false'. Refute it at one input. -/
def cofConstrainsWrong : ChangeSpec := { name := "cofConstrains", fn := fun _ => fun
  | [d1, d2] => { results := [.lit (.bool false)], args := [d1, d2] }
  | _ => none }
def CofConstrainsWrongFalsely : Prop := cofConstrainsRow.holds Tryz.pinned (OpenSpec.ofChange cofConstrainsWrong)

/-- 'voussoirlaw17.CofRestricts': WHATEVER THE INPUT: true; the input reads as it did. -/
def cofRestrictsSpec : ChangeSpec := { name := "cofRestricts", fn := fun _ => fun
  | [d1, d2] => { results := [.lit (.bool true)], args := [d1, d2] }
  | _ => none }
def cofRestrictsRow : OpenClaim := { program := "ytmofaapnkidioaagreat", sum := "d9f6cbd1955d76657174a0d5cc8ef146c94845cfefc37b715e96f235876c47f2", func := "voussoir/voussoirlaw17.CofRestricts", spec := "cofRestricts", unfollowed := true, recurses := true, loops := true, plainKeys := false, apart := false }
def CofRestrictsSaid : Prop := cofRestrictsRow.holds Tryz.pinned (OpenSpec.ofChange cofRestrictsSpec)

/-- ITS FALSE NEIGHBOUR: 'it returns false'. Refute it at one input. -/
def cofRestrictsWrong : ChangeSpec := { name := "cofRestricts", fn := fun _ => fun
  | [d1, d2] => { results := [.lit (.bool false)], args := [d1, d2] }
  | _ => none }
def CofRestrictsWrongFalsely : Prop := cofRestrictsRow.holds Tryz.pinned (OpenSpec.ofChange cofRestrictsWrong)

/-- 'voussoirlaw14.OpsRefuses': WHATEVER THE INPUT: true; the input reads as it did. -/
def opsRefusesSpec : ChangeSpec := { name := "opsRefuses", fn := fun _ => fun
  | [d1, d2, d3] => { results := [.lit (.bool true)], args := [d1, d2, d3] }
  | _ => none }
def opsRefusesRow : OpenClaim := { program := "ytmofaapnkidioaagreat", sum := "d9f6cbd1955d76657174a0d5cc8ef146c94845cfefc37b715e96f235876c47f2", func := "voussoir/voussoirlaw14.OpsRefuses", spec := "opsRefuses", unfollowed := true, recurses := true, loops := true, plainKeys := false, apart := false }
def OpsRefusesSaid : Prop := opsRefusesRow.holds Tryz.pinned (OpenSpec.ofChange opsRefusesSpec)

/-- ITS FALSE NEIGHBOUR: 'it returns false'. Refute it at one input. -/
def opsRefusesWrong : ChangeSpec := { name := "opsRefuses", fn := fun _ => fun
  | [d1, d2, d3] => { results := [.lit (.bool false)], args := [d1, d2, d3] }
  | _ => none }
def OpsRefusesWrongFalsely : Prop := opsRefusesRow.holds Tryz.pinned (OpenSpec.ofChange opsRefusesWrong)

/-- 'voussoirlaw14.OpsOf': WHATEVER THE INPUT: true; the input reads as it did. -/
def opsOfSpec : ChangeSpec := { name := "opsOf", fn := fun _ => fun
  | [d1, d2] => { results := [.lit (.bool true)], args := [d1, d2] }
  | _ => none }
def opsOfRow : OpenClaim := { program := "ytmofaapnkidioaagreat", sum := "d9f6cbd1955d76657174a0d5cc8ef146c94845cfefc37b715e96f235876c47f2", func := "voussoir/voussoirlaw14.OpsOf", spec := "opsOf", unfollowed := true, recurses := true, loops := true, plainKeys := false, apart := false }
def OpsOfSaid : Prop := opsOfRow.holds Tryz.pinned (OpenSpec.ofChange opsOfSpec)

/-- ITS FALSE NEIGHBOUR: 'it returns false'. Refute it at one input. -/
def opsOfWrong : ChangeSpec := { name := "opsOf", fn := fun _ => fun
  | [d1, d2] => { results := [.lit (.bool false)], args := [d1, d2] }
  | _ => none }
def OpsOfWrongFalsely : Prop := opsOfRow.holds Tryz.pinned (OpenSpec.ofChange opsOfWrong)

/-- 'voussoirlaw17.CofRefuses': WHATEVER THE INPUT: true; the input reads as it did. -/
def cofRefusesSpec : ChangeSpec := { name := "cofRefuses", fn := fun _ => fun
  | [d1, d2, d3] => { results := [.lit (.bool true)], args := [d1, d2, d3] }
  | _ => none }
def cofRefusesRow : OpenClaim := { program := "ytmofaapnkidioaagreat", sum := "d9f6cbd1955d76657174a0d5cc8ef146c94845cfefc37b715e96f235876c47f2", func := "voussoir/voussoirlaw17.CofRefuses", spec := "cofRefuses", unfollowed := true, recurses := true, loops := true, plainKeys := false, apart := false }
def CofRefusesSaid : Prop := cofRefusesRow.holds Tryz.pinned (OpenSpec.ofChange cofRefusesSpec)

/-- ITS FALSE NEIGHBOUR: 'it returns false'. Refute it at one input. -/
def cofRefusesWrong : ChangeSpec := { name := "cofRefuses", fn := fun _ => fun
  | [d1, d2, d3] => { results := [.lit (.bool false)], args := [d1, d2, d3] }
  | _ => none }
def CofRefusesWrongFalsely : Prop := cofRefusesRow.holds Tryz.pinned (OpenSpec.ofChange cofRefusesWrong)

/-- 'voussoirlaw17.CofSqueezes': WHATEVER THE INPUT: true; the input reads as it did. -/
def cofSqueezesSpec : ChangeSpec := { name := "cofSqueezes", fn := fun _ => fun
  | [d1, d2, d3] => { results := [.lit (.bool true)], args := [d1, d2, d3] }
  | _ => none }
def cofSqueezesRow : OpenClaim := { program := "ytmofaapnkidioaagreat", sum := "d9f6cbd1955d76657174a0d5cc8ef146c94845cfefc37b715e96f235876c47f2", func := "voussoir/voussoirlaw17.CofSqueezes", spec := "cofSqueezes", unfollowed := true, recurses := true, loops := true, plainKeys := false, apart := false }
def CofSqueezesSaid : Prop := cofSqueezesRow.holds Tryz.pinned (OpenSpec.ofChange cofSqueezesSpec)

/-- ITS FALSE NEIGHBOUR: 'it returns false'. Refute it at one input. -/
def cofSqueezesWrong : ChangeSpec := { name := "cofSqueezes", fn := fun _ => fun
  | [d1, d2, d3] => { results := [.lit (.bool false)], args := [d1, d2, d3] }
  | _ => none }
def CofSqueezesWrongFalsely : Prop := cofSqueezesRow.holds Tryz.pinned (OpenSpec.ofChange cofSqueezesWrong)

/- THE SECOND FORM. 'bulk': how many values and letters a reading holds, each counted each time it is reached (what is shared counts as often as it is met; a slice's spare places count too). A statement '..UptoSaid' is the law's where the arguments, and the package variables that the reading takes, are together of bulk at most 1048576: NARROWER than '..Said'. Prove '..Said' where nothing that the law and all that it calls make is longer than what came in: it says more and counts as full. Else prove '..UptoSaid'. A law counts once. -/
mutual
def uptoBulk {H : Type} : DataW H → Nat
  | .lit (.string bytes) => bytes.length + 1
  | .lit _ => 1
  | .nil => 1
  | .ptr d => uptoBulk d + 1
  | .slice elems spare => uptoBulkAll elems + uptoBulkAll spare + 1
  | .agg parts => uptoBulkAll parts + 1
  | .iface _ d => uptoBulk d + 1
  | .map entries => uptoBulkEntries entries + 1
  | .held _ => 1
def uptoBulkAll {H : Type} : List (DataW H) → Nat
  | [] => 0
  | d :: r => uptoBulk d + uptoBulkAll r
def uptoBulkEntries {H : Type} : List (Lit × DataW H) → Nat
  | [] => 0
  | x :: r => uptoBulkEntry x + uptoBulkEntries r
def uptoBulkEntry {H : Type} : Lit × DataW H → Nat
  | (.string bytes, d) => bytes.length + uptoBulk d + 1
  | (_, d) => uptoBulk d + 1
 end
def uptoSmall : (H : Type) → List (DataW H) → Bool := fun _ ds => decide (uptoBulkAll ds ≤ 1048576)
def OpenSpec.upto (s : _root_.Go.ChangeSpec) : _root_.Go.OpenSpec := { _root_.Go.OpenSpec.ofChange s with cond := some uptoSmall }

/-- 'voussoirlaw17.CofSplits', WHERE WHAT IT READS IS OF BULK AT MOST 1048576: true; the input reads as it did. -/
def cofSplitsUptoRow : OpenClaim := { program := "ytmofaapnkidioaagreat", sum := "d9f6cbd1955d76657174a0d5cc8ef146c94845cfefc37b715e96f235876c47f2", func := "voussoir/voussoirlaw17.CofSplits", spec := "cofSplits", unfollowed := true, recurses := true, loops := true, plainKeys := false, apart := false, narrowed := true }
def CofSplitsUptoSaid : Prop := cofSplitsUptoRow.holds Tryz.pinned (OpenSpec.upto cofSplitsSpec)

/-- 'voussoirlaw16.SubstComposes', WHERE WHAT IT READS IS OF BULK AT MOST 1048576: true; the input reads as it did. -/
def substComposesUptoRow : OpenClaim := { program := "ytmofaapnkidioaagreat", sum := "d9f6cbd1955d76657174a0d5cc8ef146c94845cfefc37b715e96f235876c47f2", func := "voussoir/voussoirlaw16.SubstComposes", spec := "substComposes", unfollowed := true, recurses := true, loops := true, plainKeys := false, apart := false, narrowed := true }
def SubstComposesUptoSaid : Prop := substComposesUptoRow.holds Tryz.pinned (OpenSpec.upto substComposesSpec)

/-- 'voussoirlaw16.SubstBack', WHERE WHAT IT READS IS OF BULK AT MOST 1048576: true; the input reads as it did. -/
def substBackUptoRow : OpenClaim := { program := "ytmofaapnkidioaagreat", sum := "d9f6cbd1955d76657174a0d5cc8ef146c94845cfefc37b715e96f235876c47f2", func := "voussoir/voussoirlaw16.SubstBack", spec := "substBack", unfollowed := true, recurses := true, loops := true, plainKeys := false, apart := false, narrowed := true }
def SubstBackUptoSaid : Prop := substBackUptoRow.holds Tryz.pinned (OpenSpec.upto substBackSpec)

/-- 'voussoirlaw16.SubstVectors', WHERE WHAT IT READS IS OF BULK AT MOST 1048576: true; the input reads as it did. -/
def substVectorsUptoRow : OpenClaim := { program := "ytmofaapnkidioaagreat", sum := "d9f6cbd1955d76657174a0d5cc8ef146c94845cfefc37b715e96f235876c47f2", func := "voussoir/voussoirlaw16.SubstVectors", spec := "substVectors", unfollowed := true, recurses := true, loops := true, plainKeys := false, apart := false, narrowed := true }
def SubstVectorsUptoSaid : Prop := substVectorsUptoRow.holds Tryz.pinned (OpenSpec.upto substVectorsSpec)

/-- 'voussoirlaw16.SubstRenames', WHERE WHAT IT READS IS OF BULK AT MOST 1048576: true; the input reads as it did. -/
def substRenamesUptoRow : OpenClaim := { program := "ytmofaapnkidioaagreat", sum := "d9f6cbd1955d76657174a0d5cc8ef146c94845cfefc37b715e96f235876c47f2", func := "voussoir/voussoirlaw16.SubstRenames", spec := "substRenames", unfollowed := true, recurses := true, loops := true, plainKeys := false, apart := false, narrowed := true }
def SubstRenamesUptoSaid : Prop := substRenamesUptoRow.holds Tryz.pinned (OpenSpec.upto substRenamesSpec)

/-- 'voussoirlaw17.CofCofactors', WHERE WHAT IT READS IS OF BULK AT MOST 1048576: true; the input reads as it did. -/
def cofCofactorsUptoRow : OpenClaim := { program := "ytmofaapnkidioaagreat", sum := "d9f6cbd1955d76657174a0d5cc8ef146c94845cfefc37b715e96f235876c47f2", func := "voussoir/voussoirlaw17.CofCofactors", spec := "cofCofactors", unfollowed := true, recurses := true, loops := true, plainKeys := false, apart := false, narrowed := true }
def CofCofactorsUptoSaid : Prop := cofCofactorsUptoRow.holds Tryz.pinned (OpenSpec.upto cofCofactorsSpec)

/-- 'voussoirlaw17.CofConstrains', WHERE WHAT IT READS IS OF BULK AT MOST 1048576: true; the input reads as it did. -/
def cofConstrainsUptoRow : OpenClaim := { program := "ytmofaapnkidioaagreat", sum := "d9f6cbd1955d76657174a0d5cc8ef146c94845cfefc37b715e96f235876c47f2", func := "voussoir/voussoirlaw17.CofConstrains", spec := "cofConstrains", unfollowed := true, recurses := true, loops := true, plainKeys := false, apart := false, narrowed := true }
def CofConstrainsUptoSaid : Prop := cofConstrainsUptoRow.holds Tryz.pinned (OpenSpec.upto cofConstrainsSpec)

/-- 'voussoirlaw17.CofRestricts', WHERE WHAT IT READS IS OF BULK AT MOST 1048576: true; the input reads as it did. -/
def cofRestrictsUptoRow : OpenClaim := { program := "ytmofaapnkidioaagreat", sum := "d9f6cbd1955d76657174a0d5cc8ef146c94845cfefc37b715e96f235876c47f2", func := "voussoir/voussoirlaw17.CofRestricts", spec := "cofRestricts", unfollowed := true, recurses := true, loops := true, plainKeys := false, apart := false, narrowed := true }
def CofRestrictsUptoSaid : Prop := cofRestrictsUptoRow.holds Tryz.pinned (OpenSpec.upto cofRestrictsSpec)

/-- 'voussoirlaw14.OpsRefuses', WHERE WHAT IT READS IS OF BULK AT MOST 1048576: true; the input reads as it did. -/
def opsRefusesUptoRow : OpenClaim := { program := "ytmofaapnkidioaagreat", sum := "d9f6cbd1955d76657174a0d5cc8ef146c94845cfefc37b715e96f235876c47f2", func := "voussoir/voussoirlaw14.OpsRefuses", spec := "opsRefuses", unfollowed := true, recurses := true, loops := true, plainKeys := false, apart := false, narrowed := true }
def OpsRefusesUptoSaid : Prop := opsRefusesUptoRow.holds Tryz.pinned (OpenSpec.upto opsRefusesSpec)

/-- 'voussoirlaw14.OpsOf', WHERE WHAT IT READS IS OF BULK AT MOST 1048576: true; the input reads as it did. -/
def opsOfUptoRow : OpenClaim := { program := "ytmofaapnkidioaagreat", sum := "d9f6cbd1955d76657174a0d5cc8ef146c94845cfefc37b715e96f235876c47f2", func := "voussoir/voussoirlaw14.OpsOf", spec := "opsOf", unfollowed := true, recurses := true, loops := true, plainKeys := false, apart := false, narrowed := true }
def OpsOfUptoSaid : Prop := opsOfUptoRow.holds Tryz.pinned (OpenSpec.upto opsOfSpec)

/-- 'voussoirlaw17.CofRefuses', WHERE WHAT IT READS IS OF BULK AT MOST 1048576: true; the input reads as it did. -/
def cofRefusesUptoRow : OpenClaim := { program := "ytmofaapnkidioaagreat", sum := "d9f6cbd1955d76657174a0d5cc8ef146c94845cfefc37b715e96f235876c47f2", func := "voussoir/voussoirlaw17.CofRefuses", spec := "cofRefuses", unfollowed := true, recurses := true, loops := true, plainKeys := false, apart := false, narrowed := true }
def CofRefusesUptoSaid : Prop := cofRefusesUptoRow.holds Tryz.pinned (OpenSpec.upto cofRefusesSpec)

/-- 'voussoirlaw17.CofSqueezes', WHERE WHAT IT READS IS OF BULK AT MOST 1048576: true; the input reads as it did. -/
def cofSqueezesUptoRow : OpenClaim := { program := "ytmofaapnkidioaagreat", sum := "d9f6cbd1955d76657174a0d5cc8ef146c94845cfefc37b715e96f235876c47f2", func := "voussoir/voussoirlaw17.CofSqueezes", spec := "cofSqueezes", unfollowed := true, recurses := true, loops := true, plainKeys := false, apart := false, narrowed := true }
def CofSqueezesUptoSaid : Prop := cofSqueezesUptoRow.holds Tryz.pinned (OpenSpec.upto cofSqueezesSpec)

end Rows
end Go.Proofs.YtmofaapnkidioaaGreat
