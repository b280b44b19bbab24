/-
  NARROWER THAN 'FOR EVERY INPUT', by the rows' own cells (each row's printed sentence says how): SchemeExact: loops · SchemeMatch: loops · SchemeCanon: loops · SchemeTwice: loops · SchemeUnder: loops · SchemeUnderSelf: loops.
  DERIVED. THE GIVEN ROWS OF THIS SEAT. 6 by the template 'for every input the law returns true; each argument reads behind the call as it read before'; 0 by the template 'total and deterministic' (their statements: YtmpegnogdgbleaaTotals.lean).
  GIVEN WITH THE SEED: the statements are not yours to turn. If you find one false, say at which input.
  Laid BY PROGRAM, IN A SANDBOX (cutbox-rows.mjs): the forced cells as the released guide's own fill.sh prints them over the translation 7b1c68f372e3aa79… (all of the seat's roots in one cut). By AI agents, Wed Nov 11 2026. No macro, syntax, notation, axiom, sorry.
-/
import Derived.Test.YtmpegnogdgbleaaChecked
import GoSem.Claim
import GoSem.ClaimJoined
import GoSem.ClaimMapViews
import Derived.JoinedTies
import Derived.KernelRfl
namespace Go.Proofs.Ytmpegnogdgbleaa
/- THE CELL 'sum', in the pinned program and in every row, IS THE sha256 OF THE DUMP (.gsa) THAT YtmpegnogdgbleaaProg.lean LOADS. Nothing in Lean hashes anything: it is a label: what it is worth is what the hold of that sum in a sandbox is worth. -/
noncomputable def Try.pinned : Pinned := { name := "ytmpegnogdgbleaa", sum := "7b1c68f372e3aa79f320c89055c9246ae0608f4fcac81a6e26f00625bbcf2de4", checked := Try.checked }
namespace Rows
def none {H : Type} : Left H := { results := [], args := [] }

/-- 'suretylaw11.SchemeExact': WHATEVER THE INPUT: true; the input reads as it did. -/
def schemeExactSpec : ChangeSpec := { name := "schemeExact", fn := fun _ => fun
  | [d1, d2, d3] => { results := [.lit (.bool true)], args := [d1, d2, d3] }
  | _ => none }
def schemeExactRow : OpenClaim := { program := "ytmpegnogdgbleaa", sum := "7b1c68f372e3aa79f320c89055c9246ae0608f4fcac81a6e26f00625bbcf2de4", func := "surety/suretylaw11.SchemeExact", spec := "schemeExact", recurses := true, loops := true, apart := false }
def SchemeExactSaid : Prop := schemeExactRow.holds Try.pinned (OpenSpec.ofChange schemeExactSpec)

/-- ITS FALSE NEIGHBOUR: 'it returns false'. Refute it at one input. -/
def schemeExactWrong : ChangeSpec := { name := "schemeExact", fn := fun _ => fun
  | [d1, d2, d3] => { results := [.lit (.bool false)], args := [d1, d2, d3] }
  | _ => none }
def SchemeExactWrongFalsely : Prop := schemeExactRow.holds Try.pinned (OpenSpec.ofChange schemeExactWrong)

/-- 'suretylaw11.SchemeMatch': WHATEVER THE INPUT: true; the input reads as it did. -/
def schemeMatchSpec : ChangeSpec := { name := "schemeMatch", fn := fun _ => fun
  | [d1, d2, d3] => { results := [.lit (.bool true)], args := [d1, d2, d3] }
  | _ => none }
def schemeMatchRow : OpenClaim := { program := "ytmpegnogdgbleaa", sum := "7b1c68f372e3aa79f320c89055c9246ae0608f4fcac81a6e26f00625bbcf2de4", func := "surety/suretylaw11.SchemeMatch", spec := "schemeMatch", recurses := true, loops := true, apart := false }
def SchemeMatchSaid : Prop := schemeMatchRow.holds Try.pinned (OpenSpec.ofChange schemeMatchSpec)

/-- ITS FALSE NEIGHBOUR: 'it returns false'. Refute it at one input. -/
def schemeMatchWrong : ChangeSpec := { name := "schemeMatch", fn := fun _ => fun
  | [d1, d2, d3] => { results := [.lit (.bool false)], args := [d1, d2, d3] }
  | _ => none }
def SchemeMatchWrongFalsely : Prop := schemeMatchRow.holds Try.pinned (OpenSpec.ofChange schemeMatchWrong)

/-- 'suretylaw11.SchemeCanon': WHATEVER THE INPUT: true; the input reads as it did. -/
def schemeCanonSpec : ChangeSpec := { name := "schemeCanon", fn := fun _ => fun
  | [d1, d2] => { results := [.lit (.bool true)], args := [d1, d2] }
  | _ => none }
def schemeCanonRow : OpenClaim := { program := "ytmpegnogdgbleaa", sum := "7b1c68f372e3aa79f320c89055c9246ae0608f4fcac81a6e26f00625bbcf2de4", func := "surety/suretylaw11.SchemeCanon", spec := "schemeCanon", recurses := true, loops := true, apart := false }
def SchemeCanonSaid : Prop := schemeCanonRow.holds Try.pinned (OpenSpec.ofChange schemeCanonSpec)

/-- ITS FALSE NEIGHBOUR: 'it returns false'. Refute it at one input. -/
def schemeCanonWrong : ChangeSpec := { name := "schemeCanon", fn := fun _ => fun
  | [d1, d2] => { results := [.lit (.bool false)], args := [d1, d2] }
  | _ => none }
def SchemeCanonWrongFalsely : Prop := schemeCanonRow.holds Try.pinned (OpenSpec.ofChange schemeCanonWrong)

/-- 'suretylaw11.SchemeTwice': WHATEVER THE INPUT: true; the input reads as it did. -/
def schemeTwiceSpec : ChangeSpec := { name := "schemeTwice", fn := fun _ => fun
  | [d1, d2, d3] => { results := [.lit (.bool true)], args := [d1, d2, d3] }
  | _ => none }
def schemeTwiceRow : OpenClaim := { program := "ytmpegnogdgbleaa", sum := "7b1c68f372e3aa79f320c89055c9246ae0608f4fcac81a6e26f00625bbcf2de4", func := "surety/suretylaw11.SchemeTwice", spec := "schemeTwice", recurses := true, loops := true, apart := false }
def SchemeTwiceSaid : Prop := schemeTwiceRow.holds Try.pinned (OpenSpec.ofChange schemeTwiceSpec)

/-- ITS FALSE NEIGHBOUR: 'it returns false'. Refute it at one input. -/
def schemeTwiceWrong : ChangeSpec := { name := "schemeTwice", fn := fun _ => fun
  | [d1, d2, d3] => { results := [.lit (.bool false)], args := [d1, d2, d3] }
  | _ => none }
def SchemeTwiceWrongFalsely : Prop := schemeTwiceRow.holds Try.pinned (OpenSpec.ofChange schemeTwiceWrong)

/-- 'suretylaw11.SchemeUnder': WHATEVER THE INPUT: true; the input reads as it did. -/
def schemeUnderSpec : ChangeSpec := { name := "schemeUnder", fn := fun _ => fun
  | [d1, d2, d3, d4] => { results := [.lit (.bool true)], args := [d1, d2, d3, d4] }
  | _ => none }
def schemeUnderRow : OpenClaim := { program := "ytmpegnogdgbleaa", sum := "7b1c68f372e3aa79f320c89055c9246ae0608f4fcac81a6e26f00625bbcf2de4", func := "surety/suretylaw11.SchemeUnder", spec := "schemeUnder", recurses := true, loops := true, apart := false }
def SchemeUnderSaid : Prop := schemeUnderRow.holds Try.pinned (OpenSpec.ofChange schemeUnderSpec)

/-- ITS FALSE NEIGHBOUR: 'it returns false'. Refute it at one input. -/
def schemeUnderWrong : ChangeSpec := { name := "schemeUnder", fn := fun _ => fun
  | [d1, d2, d3, d4] => { results := [.lit (.bool false)], args := [d1, d2, d3, d4] }
  | _ => none }
def SchemeUnderWrongFalsely : Prop := schemeUnderRow.holds Try.pinned (OpenSpec.ofChange schemeUnderWrong)

/-- 'suretylaw11.SchemeUnderSelf': WHATEVER THE INPUT: true; the input reads as it did. -/
def schemeUnderSelfSpec : ChangeSpec := { name := "schemeUnderSelf", fn := fun _ => fun
  | [d1, d2, d3] => { results := [.lit (.bool true)], args := [d1, d2, d3] }
  | _ => none }
def schemeUnderSelfRow : OpenClaim := { program := "ytmpegnogdgbleaa", sum := "7b1c68f372e3aa79f320c89055c9246ae0608f4fcac81a6e26f00625bbcf2de4", func := "surety/suretylaw11.SchemeUnderSelf", spec := "schemeUnderSelf", recurses := true, loops := true, apart := false }
def SchemeUnderSelfSaid : Prop := schemeUnderSelfRow.holds Try.pinned (OpenSpec.ofChange schemeUnderSelfSpec)

/-- ITS FALSE NEIGHBOUR: 'it returns false'. Refute it at one input. -/
def schemeUnderSelfWrong : ChangeSpec := { name := "schemeUnderSelf", fn := fun _ => fun
  | [d1, d2, d3] => { results := [.lit (.bool false)], args := [d1, d2, d3] }
  | _ => none }
def SchemeUnderSelfWrongFalsely : Prop := schemeUnderSelfRow.holds Try.pinned (OpenSpec.ofChange schemeUnderSelfWrong)

/- THE SECOND FORM. 'bulk': how many values and letters a reading holds, each counted each time it is reached (what is shared counts as often as it is met; a slice's spare places count too). A statement '..UptoSaid' is the law's where the arguments, and the package variables that the reading takes, are together of bulk at most 1048576: NARROWER than '..Said'. Prove '..Said' where nothing that the law and all that it calls make is longer than what came in: it says more and counts as full. Else prove '..UptoSaid'. A law counts once. -/
mutual
def uptoBulk {H : Type} : DataW H → Nat
  | .lit (.string bytes) => bytes.length + 1
  | .lit _ => 1
  | .nil => 1
  | .ptr d => uptoBulk d + 1
  | .slice elems spare => uptoBulkAll elems + uptoBulkAll spare + 1
  | .agg parts => uptoBulkAll parts + 1
  | .iface _ d => uptoBulk d + 1
  | .map entries => uptoBulkEntries entries + 1
  | .held _ => 1
def uptoBulkAll {H : Type} : List (DataW H) → Nat
  | [] => 0
  | d :: r => uptoBulk d + uptoBulkAll r
def uptoBulkEntries {H : Type} : List (Lit × DataW H) → Nat
  | [] => 0
  | x :: r => uptoBulkEntry x + uptoBulkEntries r
def uptoBulkEntry {H : Type} : Lit × DataW H → Nat
  | (.string bytes, d) => bytes.length + uptoBulk d + 1
  | (_, d) => uptoBulk d + 1
 end
def uptoSmall : (H : Type) → List (DataW H) → Bool := fun _ ds => decide (uptoBulkAll ds ≤ 1048576)
def OpenSpec.upto (s : _root_.Go.ChangeSpec) : _root_.Go.OpenSpec := { _root_.Go.OpenSpec.ofChange s with cond := some uptoSmall }

/-- 'suretylaw11.SchemeExact', WHERE WHAT IT READS IS OF BULK AT MOST 1048576: true; the input reads as it did. -/
def schemeExactUptoRow : OpenClaim := { program := "ytmpegnogdgbleaa", sum := "7b1c68f372e3aa79f320c89055c9246ae0608f4fcac81a6e26f00625bbcf2de4", func := "surety/suretylaw11.SchemeExact", spec := "schemeExact", recurses := true, loops := true, apart := false, narrowed := true }
def SchemeExactUptoSaid : Prop := schemeExactUptoRow.holds Try.pinned (OpenSpec.upto schemeExactSpec)

/-- 'suretylaw11.SchemeMatch', WHERE WHAT IT READS IS OF BULK AT MOST 1048576: true; the input reads as it did. -/
def schemeMatchUptoRow : OpenClaim := { program := "ytmpegnogdgbleaa", sum := "7b1c68f372e3aa79f320c89055c9246ae0608f4fcac81a6e26f00625bbcf2de4", func := "surety/suretylaw11.SchemeMatch", spec := "schemeMatch", recurses := true, loops := true, apart := false, narrowed := true }
def SchemeMatchUptoSaid : Prop := schemeMatchUptoRow.holds Try.pinned (OpenSpec.upto schemeMatchSpec)

/-- 'suretylaw11.SchemeCanon', WHERE WHAT IT READS IS OF BULK AT MOST 1048576: true; the input reads as it did. -/
def schemeCanonUptoRow : OpenClaim := { program := "ytmpegnogdgbleaa", sum := "7b1c68f372e3aa79f320c89055c9246ae0608f4fcac81a6e26f00625bbcf2de4", func := "surety/suretylaw11.SchemeCanon", spec := "schemeCanon", recurses := true, loops := true, apart := false, narrowed := true }
def SchemeCanonUptoSaid : Prop := schemeCanonUptoRow.holds Try.pinned (OpenSpec.upto schemeCanonSpec)

/-- 'suretylaw11.SchemeTwice', WHERE WHAT IT READS IS OF BULK AT MOST 1048576: true; the input reads as it did. -/
def schemeTwiceUptoRow : OpenClaim := { program := "ytmpegnogdgbleaa", sum := "7b1c68f372e3aa79f320c89055c9246ae0608f4fcac81a6e26f00625bbcf2de4", func := "surety/suretylaw11.SchemeTwice", spec := "schemeTwice", recurses := true, loops := true, apart := false, narrowed := true }
def SchemeTwiceUptoSaid : Prop := schemeTwiceUptoRow.holds Try.pinned (OpenSpec.upto schemeTwiceSpec)

/-- 'suretylaw11.SchemeUnder', WHERE WHAT IT READS IS OF BULK AT MOST 1048576: true; the input reads as it did. -/
def schemeUnderUptoRow : OpenClaim := { program := "ytmpegnogdgbleaa", sum := "7b1c68f372e3aa79f320c89055c9246ae0608f4fcac81a6e26f00625bbcf2de4", func := "surety/suretylaw11.SchemeUnder", spec := "schemeUnder", recurses := true, loops := true, apart := false, narrowed := true }
def SchemeUnderUptoSaid : Prop := schemeUnderUptoRow.holds Try.pinned (OpenSpec.upto schemeUnderSpec)

/-- 'suretylaw11.SchemeUnderSelf', WHERE WHAT IT READS IS OF BULK AT MOST 1048576: true; the input reads as it did. -/
def schemeUnderSelfUptoRow : OpenClaim := { program := "ytmpegnogdgbleaa", sum := "7b1c68f372e3aa79f320c89055c9246ae0608f4fcac81a6e26f00625bbcf2de4", func := "surety/suretylaw11.SchemeUnderSelf", spec := "schemeUnderSelf", recurses := true, loops := true, apart := false, narrowed := true }
def SchemeUnderSelfUptoSaid : Prop := schemeUnderSelfUptoRow.holds Try.pinned (OpenSpec.upto schemeUnderSelfSpec)

end Rows
end Go.Proofs.Ytmpegnogdgbleaa
