/-
  NARROWER THAN 'FOR EVERY INPUT', by the rows' own cells (each row's printed sentence says how): ValExact: loops · ValMatch: loops · ValTwice: loops · ValUp: loops · ValHas: loops · ValWrap: loops · ValParts: loops.
  DERIVED. THE GIVEN ROWS OF THIS SEAT. 7 by the template 'for every input the law returns true; each argument reads behind the call as it read before'; 0 by the template 'total and deterministic' (their statements: YtofogicgnldfhaaTotals.lean).
  GIVEN WITH THE SEED: the statements are not yours to turn. If you find one false, say at which input.
  Laid BY PROGRAM, IN A SANDBOX (cutbox-rows.mjs): the forced cells as the released guide's own fill.sh prints them over the translation 43ed46e54cedfe6e… (all of the seat's roots in one cut). By AI agents, Wed Nov 11 2026. No macro, syntax, notation, axiom, sorry.
-/
import Derived.Test.YtofogicgnldfhaaChecked
import GoSem.Claim
import GoSem.ClaimJoined
import GoSem.ClaimMapViews
import Derived.JoinedTies
import Derived.KernelRfl
namespace Go.Proofs.Ytofogicgnldfhaa
/- THE CELL 'sum', in the pinned program and in every row, IS THE sha256 OF THE DUMP (.gsa) THAT YtofogicgnldfhaaProg.lean LOADS. Nothing in Lean hashes anything: it is a label: what it is worth is what the hold of that sum in a sandbox is worth. -/
noncomputable def Try.pinned : Pinned := { name := "ytofogicgnldfhaa", sum := "43ed46e54cedfe6e3575ddec208941f1d0d2884314d31fcce498e5532c195cc3", checked := Try.checked }
namespace Rows
def none {H : Type} : Left H := { results := [], args := [] }

/-- 'suretylaw23.ValExact': WHATEVER THE INPUT: true; the input reads as it did. -/
def valExactSpec : ChangeSpec := { name := "valExact", fn := fun _ => fun
  | [d1, d2, d3] => { results := [.lit (.bool true)], args := [d1, d2, d3] }
  | _ => none }
def valExactRow : OpenClaim := { program := "ytofogicgnldfhaa", sum := "43ed46e54cedfe6e3575ddec208941f1d0d2884314d31fcce498e5532c195cc3", func := "surety/suretylaw23.ValExact", spec := "valExact", unfollowed := true, recurses := true, loops := true, apart := false }
def ValExactSaid : Prop := valExactRow.holds Try.pinned (OpenSpec.ofChange valExactSpec)

/-- ITS FALSE NEIGHBOUR: 'it returns false'. Refute it at one input. -/
def valExactWrong : ChangeSpec := { name := "valExact", fn := fun _ => fun
  | [d1, d2, d3] => { results := [.lit (.bool false)], args := [d1, d2, d3] }
  | _ => none }
def ValExactWrongFalsely : Prop := valExactRow.holds Try.pinned (OpenSpec.ofChange valExactWrong)

/-- 'suretylaw23.ValMatch': WHATEVER THE INPUT: true; the input reads as it did. -/
def valMatchSpec : ChangeSpec := { name := "valMatch", fn := fun _ => fun
  | [d1, d2] => { results := [.lit (.bool true)], args := [d1, d2] }
  | _ => none }
def valMatchRow : OpenClaim := { program := "ytofogicgnldfhaa", sum := "43ed46e54cedfe6e3575ddec208941f1d0d2884314d31fcce498e5532c195cc3", func := "surety/suretylaw23.ValMatch", spec := "valMatch", unfollowed := true, recurses := true, loops := true, apart := false }
def ValMatchSaid : Prop := valMatchRow.holds Try.pinned (OpenSpec.ofChange valMatchSpec)

/-- ITS FALSE NEIGHBOUR: 'it returns false'. Refute it at one input. -/
def valMatchWrong : ChangeSpec := { name := "valMatch", fn := fun _ => fun
  | [d1, d2] => { results := [.lit (.bool false)], args := [d1, d2] }
  | _ => none }
def ValMatchWrongFalsely : Prop := valMatchRow.holds Try.pinned (OpenSpec.ofChange valMatchWrong)

/-- 'suretylaw23.ValTwice': WHATEVER THE INPUT: true; the input reads as it did. -/
def valTwiceSpec : ChangeSpec := { name := "valTwice", fn := fun _ => fun
  | [d1, d2, d3] => { results := [.lit (.bool true)], args := [d1, d2, d3] }
  | _ => none }
def valTwiceRow : OpenClaim := { program := "ytofogicgnldfhaa", sum := "43ed46e54cedfe6e3575ddec208941f1d0d2884314d31fcce498e5532c195cc3", func := "surety/suretylaw23.ValTwice", spec := "valTwice", unfollowed := true, recurses := true, loops := true, apart := false }
def ValTwiceSaid : Prop := valTwiceRow.holds Try.pinned (OpenSpec.ofChange valTwiceSpec)

/-- ITS FALSE NEIGHBOUR: 'it returns false'. Refute it at one input. -/
def valTwiceWrong : ChangeSpec := { name := "valTwice", fn := fun _ => fun
  | [d1, d2, d3] => { results := [.lit (.bool false)], args := [d1, d2, d3] }
  | _ => none }
def ValTwiceWrongFalsely : Prop := valTwiceRow.holds Try.pinned (OpenSpec.ofChange valTwiceWrong)

/-- 'suretylaw23.ValUp': WHATEVER THE INPUT: true; the input reads as it did. -/
def valUpSpec : ChangeSpec := { name := "valUp", fn := fun _ => fun
  | [d1, d2, d3, d4] => { results := [.lit (.bool true)], args := [d1, d2, d3, d4] }
  | _ => none }
def valUpRow : OpenClaim := { program := "ytofogicgnldfhaa", sum := "43ed46e54cedfe6e3575ddec208941f1d0d2884314d31fcce498e5532c195cc3", func := "surety/suretylaw23.ValUp", spec := "valUp", unfollowed := true, recurses := true, loops := true, apart := false }
def ValUpSaid : Prop := valUpRow.holds Try.pinned (OpenSpec.ofChange valUpSpec)

/-- ITS FALSE NEIGHBOUR: 'it returns false'. Refute it at one input. -/
def valUpWrong : ChangeSpec := { name := "valUp", fn := fun _ => fun
  | [d1, d2, d3, d4] => { results := [.lit (.bool false)], args := [d1, d2, d3, d4] }
  | _ => none }
def ValUpWrongFalsely : Prop := valUpRow.holds Try.pinned (OpenSpec.ofChange valUpWrong)

/-- 'suretylaw23.ValHas': WHATEVER THE INPUT: true; the input reads as it did. -/
def valHasSpec : ChangeSpec := { name := "valHas", fn := fun _ => fun
  | [d1, d2, d3, d4] => { results := [.lit (.bool true)], args := [d1, d2, d3, d4] }
  | _ => none }
def valHasRow : OpenClaim := { program := "ytofogicgnldfhaa", sum := "43ed46e54cedfe6e3575ddec208941f1d0d2884314d31fcce498e5532c195cc3", func := "surety/suretylaw23.ValHas", spec := "valHas", unfollowed := true, recurses := true, loops := true, apart := false }
def ValHasSaid : Prop := valHasRow.holds Try.pinned (OpenSpec.ofChange valHasSpec)

/-- ITS FALSE NEIGHBOUR: 'it returns false'. Refute it at one input. -/
def valHasWrong : ChangeSpec := { name := "valHas", fn := fun _ => fun
  | [d1, d2, d3, d4] => { results := [.lit (.bool false)], args := [d1, d2, d3, d4] }
  | _ => none }
def ValHasWrongFalsely : Prop := valHasRow.holds Try.pinned (OpenSpec.ofChange valHasWrong)

/-- 'suretylaw23.ValWrap': WHATEVER THE INPUT: true; the input reads as it did. -/
def valWrapSpec : ChangeSpec := { name := "valWrap", fn := fun _ => fun
  | [d1, d2] => { results := [.lit (.bool true)], args := [d1, d2] }
  | _ => none }
def valWrapRow : OpenClaim := { program := "ytofogicgnldfhaa", sum := "43ed46e54cedfe6e3575ddec208941f1d0d2884314d31fcce498e5532c195cc3", func := "surety/suretylaw23.ValWrap", spec := "valWrap", unfollowed := true, recurses := true, loops := true, apart := false }
def ValWrapSaid : Prop := valWrapRow.holds Try.pinned (OpenSpec.ofChange valWrapSpec)

/-- ITS FALSE NEIGHBOUR: 'it returns false'. Refute it at one input. -/
def valWrapWrong : ChangeSpec := { name := "valWrap", fn := fun _ => fun
  | [d1, d2] => { results := [.lit (.bool false)], args := [d1, d2] }
  | _ => none }
def ValWrapWrongFalsely : Prop := valWrapRow.holds Try.pinned (OpenSpec.ofChange valWrapWrong)

/-- 'suretylaw23.ValParts': WHATEVER THE INPUT: true; the input reads as it did. -/
def valPartsSpec : ChangeSpec := { name := "valParts", fn := fun _ => fun
  | [d1, d2, d3, d4] => { results := [.lit (.bool true)], args := [d1, d2, d3, d4] }
  | _ => none }
def valPartsRow : OpenClaim := { program := "ytofogicgnldfhaa", sum := "43ed46e54cedfe6e3575ddec208941f1d0d2884314d31fcce498e5532c195cc3", func := "surety/suretylaw23.ValParts", spec := "valParts", unfollowed := true, recurses := true, loops := true, apart := false }
def ValPartsSaid : Prop := valPartsRow.holds Try.pinned (OpenSpec.ofChange valPartsSpec)

/-- ITS FALSE NEIGHBOUR: 'it returns false'. Refute it at one input. -/
def valPartsWrong : ChangeSpec := { name := "valParts", fn := fun _ => fun
  | [d1, d2, d3, d4] => { results := [.lit (.bool false)], args := [d1, d2, d3, d4] }
  | _ => none }
def ValPartsWrongFalsely : Prop := valPartsRow.holds Try.pinned (OpenSpec.ofChange valPartsWrong)

/- THE SECOND FORM. 'bulk': how many values and letters a reading holds, each counted each time it is reached (what is shared counts as often as it is met; a slice's spare places count too). A statement '..UptoSaid' is the law's where the arguments, and the package variables that the reading takes, are together of bulk at most 1048576: NARROWER than '..Said'. Prove '..Said' where nothing that the law and all that it calls make is longer than what came in: it says more and counts as full. Else prove '..UptoSaid'. A law counts once. -/
mutual
def uptoBulk {H : Type} : DataW H → Nat
  | .lit (.string bytes) => bytes.length + 1
  | .lit _ => 1
  | .nil => 1
  | .ptr d => uptoBulk d + 1
  | .slice elems spare => uptoBulkAll elems + uptoBulkAll spare + 1
  | .agg parts => uptoBulkAll parts + 1
  | .iface _ d => uptoBulk d + 1
  | .map entries => uptoBulkEntries entries + 1
  | .held _ => 1
def uptoBulkAll {H : Type} : List (DataW H) → Nat
  | [] => 0
  | d :: r => uptoBulk d + uptoBulkAll r
def uptoBulkEntries {H : Type} : List (Lit × DataW H) → Nat
  | [] => 0
  | x :: r => uptoBulkEntry x + uptoBulkEntries r
def uptoBulkEntry {H : Type} : Lit × DataW H → Nat
  | (.string bytes, d) => bytes.length + uptoBulk d + 1
  | (_, d) => uptoBulk d + 1
 end
def uptoSmall : (H : Type) → List (DataW H) → Bool := fun _ ds => decide (uptoBulkAll ds ≤ 1048576)
def OpenSpec.upto (s : _root_.Go.ChangeSpec) : _root_.Go.OpenSpec := { _root_.Go.OpenSpec.ofChange s with cond := some uptoSmall }

/-- 'suretylaw23.ValExact', WHERE WHAT IT READS IS OF BULK AT MOST 1048576: true; the input reads as it did. -/
def valExactUptoRow : OpenClaim := { program := "ytofogicgnldfhaa", sum := "43ed46e54cedfe6e3575ddec208941f1d0d2884314d31fcce498e5532c195cc3", func := "surety/suretylaw23.ValExact", spec := "valExact", unfollowed := true, recurses := true, loops := true, apart := false, narrowed := true }
def ValExactUptoSaid : Prop := valExactUptoRow.holds Try.pinned (OpenSpec.upto valExactSpec)

/-- 'suretylaw23.ValMatch', WHERE WHAT IT READS IS OF BULK AT MOST 1048576: true; the input reads as it did. -/
def valMatchUptoRow : OpenClaim := { program := "ytofogicgnldfhaa", sum := "43ed46e54cedfe6e3575ddec208941f1d0d2884314d31fcce498e5532c195cc3", func := "surety/suretylaw23.ValMatch", spec := "valMatch", unfollowed := true, recurses := true, loops := true, apart := false, narrowed := true }
def ValMatchUptoSaid : Prop := valMatchUptoRow.holds Try.pinned (OpenSpec.upto valMatchSpec)

/-- 'suretylaw23.ValTwice', WHERE WHAT IT READS IS OF BULK AT MOST 1048576: true; the input reads as it did. -/
def valTwiceUptoRow : OpenClaim := { program := "ytofogicgnldfhaa", sum := "43ed46e54cedfe6e3575ddec208941f1d0d2884314d31fcce498e5532c195cc3", func := "surety/suretylaw23.ValTwice", spec := "valTwice", unfollowed := true, recurses := true, loops := true, apart := false, narrowed := true }
def ValTwiceUptoSaid : Prop := valTwiceUptoRow.holds Try.pinned (OpenSpec.upto valTwiceSpec)

/-- 'suretylaw23.ValUp', WHERE WHAT IT READS IS OF BULK AT MOST 1048576: true; the input reads as it did. -/
def valUpUptoRow : OpenClaim := { program := "ytofogicgnldfhaa", sum := "43ed46e54cedfe6e3575ddec208941f1d0d2884314d31fcce498e5532c195cc3", func := "surety/suretylaw23.ValUp", spec := "valUp", unfollowed := true, recurses := true, loops := true, apart := false, narrowed := true }
def ValUpUptoSaid : Prop := valUpUptoRow.holds Try.pinned (OpenSpec.upto valUpSpec)

/-- 'suretylaw23.ValHas', WHERE WHAT IT READS IS OF BULK AT MOST 1048576: true; the input reads as it did. -/
def valHasUptoRow : OpenClaim := { program := "ytofogicgnldfhaa", sum := "43ed46e54cedfe6e3575ddec208941f1d0d2884314d31fcce498e5532c195cc3", func := "surety/suretylaw23.ValHas", spec := "valHas", unfollowed := true, recurses := true, loops := true, apart := false, narrowed := true }
def ValHasUptoSaid : Prop := valHasUptoRow.holds Try.pinned (OpenSpec.upto valHasSpec)

/-- 'suretylaw23.ValWrap', WHERE WHAT IT READS IS OF BULK AT MOST 1048576: true; the input reads as it did. -/
def valWrapUptoRow : OpenClaim := { program := "ytofogicgnldfhaa", sum := "43ed46e54cedfe6e3575ddec208941f1d0d2884314d31fcce498e5532c195cc3", func := "surety/suretylaw23.ValWrap", spec := "valWrap", unfollowed := true, recurses := true, loops := true, apart := false, narrowed := true }
def ValWrapUptoSaid : Prop := valWrapUptoRow.holds Try.pinned (OpenSpec.upto valWrapSpec)

/-- 'suretylaw23.ValParts', WHERE WHAT IT READS IS OF BULK AT MOST 1048576: true; the input reads as it did. -/
def valPartsUptoRow : OpenClaim := { program := "ytofogicgnldfhaa", sum := "43ed46e54cedfe6e3575ddec208941f1d0d2884314d31fcce498e5532c195cc3", func := "surety/suretylaw23.ValParts", spec := "valParts", unfollowed := true, recurses := true, loops := true, apart := false, narrowed := true }
def ValPartsUptoSaid : Prop := valPartsUptoRow.holds Try.pinned (OpenSpec.upto valPartsSpec)

end Rows
end Go.Proofs.Ytofogicgnldfhaa
