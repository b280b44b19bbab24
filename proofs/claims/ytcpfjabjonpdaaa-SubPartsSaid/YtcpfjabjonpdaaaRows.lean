/-
  NARROWER THAN 'FOR EVERY INPUT', by the rows' own cells (each row's printed sentence says how): PrecExact: loops · PrecOrder: loops · PrecLess: loops · SubExact: loops · SubBoth: loops · SubOrder: loops · SubParts: loops · AgreeExact: loops · AgreeBoth: loops · AgreeParts: loops · AgreeMeet: loops · AgreeNotOn: loops · TypExact: loops · TypSame: loops · TypParts: loops · TypVars: loops · TypBad: loops · SubBelow: loops · PrecAgree: loops · PrecGround: loops · SubDyn: loops · PrecMeet: loops.
  DERIVED. THE GIVEN ROWS OF THIS SEAT. 23 by the template 'for every input the law returns true; each argument reads behind the call as it read before'; 0 by the template 'total and deterministic' (their statements: YtcpfjabjonpdaaaTotals.lean).
  GIVEN WITH THE SEED: the statements are not yours to turn. If you find one false, say at which input.
  Laid BY PROGRAM, IN A SANDBOX (cutbox-rows.mjs): the forced cells as the released guide's own fill.sh prints them over the translation a04cb1f3ed550539… (all of the seat's roots in one cut). By AI agents, Wed Nov 11 2026. No macro, syntax, notation, axiom, sorry.
-/
import Derived.Test.YtcpfjabjonpdaaaChecked
import GoSem.Claim
import GoSem.ClaimJoined
import GoSem.ClaimMapViews
import Derived.JoinedTies
import Derived.KernelRfl
namespace Go.Proofs.Ytcpfjabjonpdaaa
/- THE CELL 'sum', in the pinned program and in every row, IS THE sha256 OF THE DUMP (.gsa) THAT YtcpfjabjonpdaaaProg.lean LOADS. Nothing in Lean hashes anything: it is a label: what it is worth is what the hold of that sum in a sandbox is worth. -/
noncomputable def Try.pinned : Pinned := { name := "ytcpfjabjonpdaaa", sum := "a04cb1f3ed5505396a6bb9e96d0accc73c1672e26193bd0713120774f46bba9d", checked := Try.checked }
namespace Rows
def none {H : Type} : Left H := { results := [], args := [] }

/-- 'suretylaw09.PrecExact': WHATEVER THE INPUT: true; the input reads as it did. -/
def precExactSpec : ChangeSpec := { name := "precExact", fn := fun _ => fun
  | [d1, d2] => { results := [.lit (.bool true)], args := [d1, d2] }
  | _ => none }
def precExactRow : OpenClaim := { program := "ytcpfjabjonpdaaa", sum := "a04cb1f3ed5505396a6bb9e96d0accc73c1672e26193bd0713120774f46bba9d", func := "surety/suretylaw09.PrecExact", spec := "precExact", recurses := true, loops := true, apart := false }
def PrecExactSaid : Prop := precExactRow.holds Try.pinned (OpenSpec.ofChange precExactSpec)

/-- ITS FALSE NEIGHBOUR: 'it returns false'. Refute it at one input. -/
def precExactWrong : ChangeSpec := { name := "precExact", fn := fun _ => fun
  | [d1, d2] => { results := [.lit (.bool false)], args := [d1, d2] }
  | _ => none }
def PrecExactWrongFalsely : Prop := precExactRow.holds Try.pinned (OpenSpec.ofChange precExactWrong)

/-- 'suretylaw09.PrecOrder': WHATEVER THE INPUT: true; the input reads as it did. -/
def precOrderSpec : ChangeSpec := { name := "precOrder", fn := fun _ => fun
  | [d1, d2, d3] => { results := [.lit (.bool true)], args := [d1, d2, d3] }
  | _ => none }
def precOrderRow : OpenClaim := { program := "ytcpfjabjonpdaaa", sum := "a04cb1f3ed5505396a6bb9e96d0accc73c1672e26193bd0713120774f46bba9d", func := "surety/suretylaw09.PrecOrder", spec := "precOrder", recurses := true, loops := true, apart := false }
def PrecOrderSaid : Prop := precOrderRow.holds Try.pinned (OpenSpec.ofChange precOrderSpec)

/-- ITS FALSE NEIGHBOUR: 'it returns false'. Refute it at one input. -/
def precOrderWrong : ChangeSpec := { name := "precOrder", fn := fun _ => fun
  | [d1, d2, d3] => { results := [.lit (.bool false)], args := [d1, d2, d3] }
  | _ => none }
def PrecOrderWrongFalsely : Prop := precOrderRow.holds Try.pinned (OpenSpec.ofChange precOrderWrong)

/-- 'suretylaw09.PrecLess': WHATEVER THE INPUT: true; the input reads as it did. -/
def precLessSpec : ChangeSpec := { name := "precLess", fn := fun _ => fun
  | [d1, d2] => { results := [.lit (.bool true)], args := [d1, d2] }
  | _ => none }
def precLessRow : OpenClaim := { program := "ytcpfjabjonpdaaa", sum := "a04cb1f3ed5505396a6bb9e96d0accc73c1672e26193bd0713120774f46bba9d", func := "surety/suretylaw09.PrecLess", spec := "precLess", recurses := true, loops := true, apart := false }
def PrecLessSaid : Prop := precLessRow.holds Try.pinned (OpenSpec.ofChange precLessSpec)

/-- ITS FALSE NEIGHBOUR: 'it returns false'. Refute it at one input. -/
def precLessWrong : ChangeSpec := { name := "precLess", fn := fun _ => fun
  | [d1, d2] => { results := [.lit (.bool false)], args := [d1, d2] }
  | _ => none }
def PrecLessWrongFalsely : Prop := precLessRow.holds Try.pinned (OpenSpec.ofChange precLessWrong)

/-- 'suretylaw10.SubExact': WHATEVER THE INPUT: true; the input reads as it did. -/
def subExactSpec : ChangeSpec := { name := "subExact", fn := fun _ => fun
  | [d1, d2] => { results := [.lit (.bool true)], args := [d1, d2] }
  | _ => none }
def subExactRow : OpenClaim := { program := "ytcpfjabjonpdaaa", sum := "a04cb1f3ed5505396a6bb9e96d0accc73c1672e26193bd0713120774f46bba9d", func := "surety/suretylaw10.SubExact", spec := "subExact", recurses := true, loops := true, apart := false }
def SubExactSaid : Prop := subExactRow.holds Try.pinned (OpenSpec.ofChange subExactSpec)

/-- ITS FALSE NEIGHBOUR: 'it returns false'. Refute it at one input. -/
def subExactWrong : ChangeSpec := { name := "subExact", fn := fun _ => fun
  | [d1, d2] => { results := [.lit (.bool false)], args := [d1, d2] }
  | _ => none }
def SubExactWrongFalsely : Prop := subExactRow.holds Try.pinned (OpenSpec.ofChange subExactWrong)

/-- 'suretylaw10.SubBoth': WHATEVER THE INPUT: true; the input reads as it did. -/
def subBothSpec : ChangeSpec := { name := "subBoth", fn := fun _ => fun
  | [d1, d2] => { results := [.lit (.bool true)], args := [d1, d2] }
  | _ => none }
def subBothRow : OpenClaim := { program := "ytcpfjabjonpdaaa", sum := "a04cb1f3ed5505396a6bb9e96d0accc73c1672e26193bd0713120774f46bba9d", func := "surety/suretylaw10.SubBoth", spec := "subBoth", recurses := true, loops := true, apart := false }
def SubBothSaid : Prop := subBothRow.holds Try.pinned (OpenSpec.ofChange subBothSpec)

/-- ITS FALSE NEIGHBOUR: 'it returns false'. Refute it at one input. -/
def subBothWrong : ChangeSpec := { name := "subBoth", fn := fun _ => fun
  | [d1, d2] => { results := [.lit (.bool false)], args := [d1, d2] }
  | _ => none }
def SubBothWrongFalsely : Prop := subBothRow.holds Try.pinned (OpenSpec.ofChange subBothWrong)

/-- 'suretylaw10.SubOrder': WHATEVER THE INPUT: true; the input reads as it did. -/
def subOrderSpec : ChangeSpec := { name := "subOrder", fn := fun _ => fun
  | [d1, d2, d3] => { results := [.lit (.bool true)], args := [d1, d2, d3] }
  | _ => none }
def subOrderRow : OpenClaim := { program := "ytcpfjabjonpdaaa", sum := "a04cb1f3ed5505396a6bb9e96d0accc73c1672e26193bd0713120774f46bba9d", func := "surety/suretylaw10.SubOrder", spec := "subOrder", recurses := true, loops := true, apart := false }
def SubOrderSaid : Prop := subOrderRow.holds Try.pinned (OpenSpec.ofChange subOrderSpec)

/-- ITS FALSE NEIGHBOUR: 'it returns false'. Refute it at one input. -/
def subOrderWrong : ChangeSpec := { name := "subOrder", fn := fun _ => fun
  | [d1, d2, d3] => { results := [.lit (.bool false)], args := [d1, d2, d3] }
  | _ => none }
def SubOrderWrongFalsely : Prop := subOrderRow.holds Try.pinned (OpenSpec.ofChange subOrderWrong)

/-- 'suretylaw10.SubParts': WHATEVER THE INPUT: true; the input reads as it did. -/
def subPartsSpec : ChangeSpec := { name := "subParts", fn := fun _ => fun
  | [d1, d2, d3, d4] => { results := [.lit (.bool true)], args := [d1, d2, d3, d4] }
  | _ => none }
def subPartsRow : OpenClaim := { program := "ytcpfjabjonpdaaa", sum := "a04cb1f3ed5505396a6bb9e96d0accc73c1672e26193bd0713120774f46bba9d", func := "surety/suretylaw10.SubParts", spec := "subParts", recurses := true, loops := true, apart := false }
def SubPartsSaid : Prop := subPartsRow.holds Try.pinned (OpenSpec.ofChange subPartsSpec)

/-- ITS FALSE NEIGHBOUR: 'it returns false'. Refute it at one input. -/
def subPartsWrong : ChangeSpec := { name := "subParts", fn := fun _ => fun
  | [d1, d2, d3, d4] => { results := [.lit (.bool false)], args := [d1, d2, d3, d4] }
  | _ => none }
def SubPartsWrongFalsely : Prop := subPartsRow.holds Try.pinned (OpenSpec.ofChange subPartsWrong)

/-- 'suretylaw08.AgreeExact': WHATEVER THE INPUT: true; the input reads as it did. -/
def agreeExactSpec : ChangeSpec := { name := "agreeExact", fn := fun _ => fun
  | [d1, d2] => { results := [.lit (.bool true)], args := [d1, d2] }
  | _ => none }
def agreeExactRow : OpenClaim := { program := "ytcpfjabjonpdaaa", sum := "a04cb1f3ed5505396a6bb9e96d0accc73c1672e26193bd0713120774f46bba9d", func := "surety/suretylaw08.AgreeExact", spec := "agreeExact", recurses := true, loops := true, apart := false }
def AgreeExactSaid : Prop := agreeExactRow.holds Try.pinned (OpenSpec.ofChange agreeExactSpec)

/-- ITS FALSE NEIGHBOUR: 'it returns false'. Refute it at one input. -/
def agreeExactWrong : ChangeSpec := { name := "agreeExact", fn := fun _ => fun
  | [d1, d2] => { results := [.lit (.bool false)], args := [d1, d2] }
  | _ => none }
def AgreeExactWrongFalsely : Prop := agreeExactRow.holds Try.pinned (OpenSpec.ofChange agreeExactWrong)

/-- 'suretylaw08.AgreeBoth': WHATEVER THE INPUT: true; the input reads as it did. -/
def agreeBothSpec : ChangeSpec := { name := "agreeBoth", fn := fun _ => fun
  | [d1, d2] => { results := [.lit (.bool true)], args := [d1, d2] }
  | _ => none }
def agreeBothRow : OpenClaim := { program := "ytcpfjabjonpdaaa", sum := "a04cb1f3ed5505396a6bb9e96d0accc73c1672e26193bd0713120774f46bba9d", func := "surety/suretylaw08.AgreeBoth", spec := "agreeBoth", recurses := true, loops := true, apart := false }
def AgreeBothSaid : Prop := agreeBothRow.holds Try.pinned (OpenSpec.ofChange agreeBothSpec)

/-- ITS FALSE NEIGHBOUR: 'it returns false'. Refute it at one input. -/
def agreeBothWrong : ChangeSpec := { name := "agreeBoth", fn := fun _ => fun
  | [d1, d2] => { results := [.lit (.bool false)], args := [d1, d2] }
  | _ => none }
def AgreeBothWrongFalsely : Prop := agreeBothRow.holds Try.pinned (OpenSpec.ofChange agreeBothWrong)

/-- 'suretylaw08.AgreeParts': WHATEVER THE INPUT: true; the input reads as it did. -/
def agreePartsSpec : ChangeSpec := { name := "agreeParts", fn := fun _ => fun
  | [d1, d2, d3, d4] => { results := [.lit (.bool true)], args := [d1, d2, d3, d4] }
  | _ => none }
def agreePartsRow : OpenClaim := { program := "ytcpfjabjonpdaaa", sum := "a04cb1f3ed5505396a6bb9e96d0accc73c1672e26193bd0713120774f46bba9d", func := "surety/suretylaw08.AgreeParts", spec := "agreeParts", recurses := true, loops := true, apart := false }
def AgreePartsSaid : Prop := agreePartsRow.holds Try.pinned (OpenSpec.ofChange agreePartsSpec)

/-- ITS FALSE NEIGHBOUR: 'it returns false'. Refute it at one input. -/
def agreePartsWrong : ChangeSpec := { name := "agreeParts", fn := fun _ => fun
  | [d1, d2, d3, d4] => { results := [.lit (.bool false)], args := [d1, d2, d3, d4] }
  | _ => none }
def AgreePartsWrongFalsely : Prop := agreePartsRow.holds Try.pinned (OpenSpec.ofChange agreePartsWrong)

/-- 'suretylaw08.AgreeMeet': WHATEVER THE INPUT: true; the input reads as it did. -/
def agreeMeetSpec : ChangeSpec := { name := "agreeMeet", fn := fun _ => fun
  | [d1, d2] => { results := [.lit (.bool true)], args := [d1, d2] }
  | _ => none }
def agreeMeetRow : OpenClaim := { program := "ytcpfjabjonpdaaa", sum := "a04cb1f3ed5505396a6bb9e96d0accc73c1672e26193bd0713120774f46bba9d", func := "surety/suretylaw08.AgreeMeet", spec := "agreeMeet", recurses := true, loops := true, apart := false }
def AgreeMeetSaid : Prop := agreeMeetRow.holds Try.pinned (OpenSpec.ofChange agreeMeetSpec)

/-- ITS FALSE NEIGHBOUR: 'it returns false'. Refute it at one input. -/
def agreeMeetWrong : ChangeSpec := { name := "agreeMeet", fn := fun _ => fun
  | [d1, d2] => { results := [.lit (.bool false)], args := [d1, d2] }
  | _ => none }
def AgreeMeetWrongFalsely : Prop := agreeMeetRow.holds Try.pinned (OpenSpec.ofChange agreeMeetWrong)

/-- 'suretylaw08.AgreeNotOn': WHATEVER THE INPUT: true; the input reads as it did. -/
def agreeNotOnSpec : ChangeSpec := { name := "agreeNotOn", fn := fun _ => fun
  | [d1, d2] => { results := [.lit (.bool true)], args := [d1, d2] }
  | _ => none }
def agreeNotOnRow : OpenClaim := { program := "ytcpfjabjonpdaaa", sum := "a04cb1f3ed5505396a6bb9e96d0accc73c1672e26193bd0713120774f46bba9d", func := "surety/suretylaw08.AgreeNotOn", spec := "agreeNotOn", recurses := true, loops := true, apart := false }
def AgreeNotOnSaid : Prop := agreeNotOnRow.holds Try.pinned (OpenSpec.ofChange agreeNotOnSpec)

/-- ITS FALSE NEIGHBOUR: 'it returns false'. Refute it at one input. -/
def agreeNotOnWrong : ChangeSpec := { name := "agreeNotOn", fn := fun _ => fun
  | [d1, d2] => { results := [.lit (.bool false)], args := [d1, d2] }
  | _ => none }
def AgreeNotOnWrongFalsely : Prop := agreeNotOnRow.holds Try.pinned (OpenSpec.ofChange agreeNotOnWrong)

/-- 'suretylaw08.AgreeBits': WHATEVER THE INPUT: true; the input reads as it did. -/
def agreeBitsSpec : ChangeSpec := { name := "agreeBits", fn := fun _ => fun
  | [d1, d2, d3, d4] => { results := [.lit (.bool true)], args := [d1, d2, d3, d4] }
  | _ => none }
def agreeBitsRow : OpenClaim := { program := "ytcpfjabjonpdaaa", sum := "a04cb1f3ed5505396a6bb9e96d0accc73c1672e26193bd0713120774f46bba9d", func := "surety/suretylaw08.AgreeBits", spec := "agreeBits", recurses := true, apart := false }
def AgreeBitsSaid : Prop := agreeBitsRow.holds Try.pinned (OpenSpec.ofChange agreeBitsSpec)

/-- ITS FALSE NEIGHBOUR: 'it returns false'. Refute it at one input. -/
def agreeBitsWrong : ChangeSpec := { name := "agreeBits", fn := fun _ => fun
  | [d1, d2, d3, d4] => { results := [.lit (.bool false)], args := [d1, d2, d3, d4] }
  | _ => none }
def AgreeBitsWrongFalsely : Prop := agreeBitsRow.holds Try.pinned (OpenSpec.ofChange agreeBitsWrong)

/-- 'suretylaw03.TypExact': WHATEVER THE INPUT: true; the input reads as it did. -/
def typExactSpec : ChangeSpec := { name := "typExact", fn := fun _ => fun
  | [d1, d2] => { results := [.lit (.bool true)], args := [d1, d2] }
  | _ => none }
def typExactRow : OpenClaim := { program := "ytcpfjabjonpdaaa", sum := "a04cb1f3ed5505396a6bb9e96d0accc73c1672e26193bd0713120774f46bba9d", func := "surety/suretylaw03.TypExact", spec := "typExact", recurses := true, loops := true, apart := false }
def TypExactSaid : Prop := typExactRow.holds Try.pinned (OpenSpec.ofChange typExactSpec)

/-- ITS FALSE NEIGHBOUR: 'it returns false'. Refute it at one input. -/
def typExactWrong : ChangeSpec := { name := "typExact", fn := fun _ => fun
  | [d1, d2] => { results := [.lit (.bool false)], args := [d1, d2] }
  | _ => none }
def TypExactWrongFalsely : Prop := typExactRow.holds Try.pinned (OpenSpec.ofChange typExactWrong)

/-- 'suretylaw03.TypSame': WHATEVER THE INPUT: true; the input reads as it did. -/
def typSameSpec : ChangeSpec := { name := "typSame", fn := fun _ => fun
  | [d1, d2, d3] => { results := [.lit (.bool true)], args := [d1, d2, d3] }
  | _ => none }
def typSameRow : OpenClaim := { program := "ytcpfjabjonpdaaa", sum := "a04cb1f3ed5505396a6bb9e96d0accc73c1672e26193bd0713120774f46bba9d", func := "surety/suretylaw03.TypSame", spec := "typSame", recurses := true, loops := true, apart := false }
def TypSameSaid : Prop := typSameRow.holds Try.pinned (OpenSpec.ofChange typSameSpec)

/-- ITS FALSE NEIGHBOUR: 'it returns false'. Refute it at one input. -/
def typSameWrong : ChangeSpec := { name := "typSame", fn := fun _ => fun
  | [d1, d2, d3] => { results := [.lit (.bool false)], args := [d1, d2, d3] }
  | _ => none }
def TypSameWrongFalsely : Prop := typSameRow.holds Try.pinned (OpenSpec.ofChange typSameWrong)

/-- 'suretylaw03.TypParts': WHATEVER THE INPUT: true; the input reads as it did. -/
def typPartsSpec : ChangeSpec := { name := "typParts", fn := fun _ => fun
  | [d1, d2] => { results := [.lit (.bool true)], args := [d1, d2] }
  | _ => none }
def typPartsRow : OpenClaim := { program := "ytcpfjabjonpdaaa", sum := "a04cb1f3ed5505396a6bb9e96d0accc73c1672e26193bd0713120774f46bba9d", func := "surety/suretylaw03.TypParts", spec := "typParts", recurses := true, loops := true, apart := false }
def TypPartsSaid : Prop := typPartsRow.holds Try.pinned (OpenSpec.ofChange typPartsSpec)

/-- ITS FALSE NEIGHBOUR: 'it returns false'. Refute it at one input. -/
def typPartsWrong : ChangeSpec := { name := "typParts", fn := fun _ => fun
  | [d1, d2] => { results := [.lit (.bool false)], args := [d1, d2] }
  | _ => none }
def TypPartsWrongFalsely : Prop := typPartsRow.holds Try.pinned (OpenSpec.ofChange typPartsWrong)

/-- 'suretylaw03.TypVars': WHATEVER THE INPUT: true; the input reads as it did. -/
def typVarsSpec : ChangeSpec := { name := "typVars", fn := fun _ => fun
  | [d1, d2] => { results := [.lit (.bool true)], args := [d1, d2] }
  | _ => none }
def typVarsRow : OpenClaim := { program := "ytcpfjabjonpdaaa", sum := "a04cb1f3ed5505396a6bb9e96d0accc73c1672e26193bd0713120774f46bba9d", func := "surety/suretylaw03.TypVars", spec := "typVars", recurses := true, loops := true, apart := false }
def TypVarsSaid : Prop := typVarsRow.holds Try.pinned (OpenSpec.ofChange typVarsSpec)

/-- ITS FALSE NEIGHBOUR: 'it returns false'. Refute it at one input. -/
def typVarsWrong : ChangeSpec := { name := "typVars", fn := fun _ => fun
  | [d1, d2] => { results := [.lit (.bool false)], args := [d1, d2] }
  | _ => none }
def TypVarsWrongFalsely : Prop := typVarsRow.holds Try.pinned (OpenSpec.ofChange typVarsWrong)

/-- 'suretylaw03.TypBad': WHATEVER THE INPUT: true; the input reads as it did. -/
def typBadSpec : ChangeSpec := { name := "typBad", fn := fun _ => fun
  | [d1, d2, d3] => { results := [.lit (.bool true)], args := [d1, d2, d3] }
  | _ => none }
def typBadRow : OpenClaim := { program := "ytcpfjabjonpdaaa", sum := "a04cb1f3ed5505396a6bb9e96d0accc73c1672e26193bd0713120774f46bba9d", func := "surety/suretylaw03.TypBad", spec := "typBad", recurses := true, loops := true, apart := false }
def TypBadSaid : Prop := typBadRow.holds Try.pinned (OpenSpec.ofChange typBadSpec)

/-- ITS FALSE NEIGHBOUR: 'it returns false'. Refute it at one input. -/
def typBadWrong : ChangeSpec := { name := "typBad", fn := fun _ => fun
  | [d1, d2, d3] => { results := [.lit (.bool false)], args := [d1, d2, d3] }
  | _ => none }
def TypBadWrongFalsely : Prop := typBadRow.holds Try.pinned (OpenSpec.ofChange typBadWrong)

/-- 'suretylaw10.SubBelow': WHATEVER THE INPUT: true; the input reads as it did. -/
def subBelowSpec : ChangeSpec := { name := "subBelow", fn := fun _ => fun
  | [d1, d2] => { results := [.lit (.bool true)], args := [d1, d2] }
  | _ => none }
def subBelowRow : OpenClaim := { program := "ytcpfjabjonpdaaa", sum := "a04cb1f3ed5505396a6bb9e96d0accc73c1672e26193bd0713120774f46bba9d", func := "surety/suretylaw10.SubBelow", spec := "subBelow", recurses := true, loops := true, apart := false }
def SubBelowSaid : Prop := subBelowRow.holds Try.pinned (OpenSpec.ofChange subBelowSpec)

/-- ITS FALSE NEIGHBOUR: 'it returns false'. Refute it at one input. -/
def subBelowWrong : ChangeSpec := { name := "subBelow", fn := fun _ => fun
  | [d1, d2] => { results := [.lit (.bool false)], args := [d1, d2] }
  | _ => none }
def SubBelowWrongFalsely : Prop := subBelowRow.holds Try.pinned (OpenSpec.ofChange subBelowWrong)

/-- 'suretylaw09.PrecAgree': WHATEVER THE INPUT: true; the input reads as it did. -/
def precAgreeSpec : ChangeSpec := { name := "precAgree", fn := fun _ => fun
  | [d1, d2] => { results := [.lit (.bool true)], args := [d1, d2] }
  | _ => none }
def precAgreeRow : OpenClaim := { program := "ytcpfjabjonpdaaa", sum := "a04cb1f3ed5505396a6bb9e96d0accc73c1672e26193bd0713120774f46bba9d", func := "surety/suretylaw09.PrecAgree", spec := "precAgree", recurses := true, loops := true, apart := false }
def PrecAgreeSaid : Prop := precAgreeRow.holds Try.pinned (OpenSpec.ofChange precAgreeSpec)

/-- ITS FALSE NEIGHBOUR: 'it returns false'. Refute it at one input. -/
def precAgreeWrong : ChangeSpec := { name := "precAgree", fn := fun _ => fun
  | [d1, d2] => { results := [.lit (.bool false)], args := [d1, d2] }
  | _ => none }
def PrecAgreeWrongFalsely : Prop := precAgreeRow.holds Try.pinned (OpenSpec.ofChange precAgreeWrong)

/-- 'suretylaw09.PrecGround': WHATEVER THE INPUT: true; the input reads as it did. -/
def precGroundSpec : ChangeSpec := { name := "precGround", fn := fun _ => fun
  | [d1, d2] => { results := [.lit (.bool true)], args := [d1, d2] }
  | _ => none }
def precGroundRow : OpenClaim := { program := "ytcpfjabjonpdaaa", sum := "a04cb1f3ed5505396a6bb9e96d0accc73c1672e26193bd0713120774f46bba9d", func := "surety/suretylaw09.PrecGround", spec := "precGround", recurses := true, loops := true, apart := false }
def PrecGroundSaid : Prop := precGroundRow.holds Try.pinned (OpenSpec.ofChange precGroundSpec)

/-- ITS FALSE NEIGHBOUR: 'it returns false'. Refute it at one input. -/
def precGroundWrong : ChangeSpec := { name := "precGround", fn := fun _ => fun
  | [d1, d2] => { results := [.lit (.bool false)], args := [d1, d2] }
  | _ => none }
def PrecGroundWrongFalsely : Prop := precGroundRow.holds Try.pinned (OpenSpec.ofChange precGroundWrong)

/-- 'suretylaw10.SubDyn': WHATEVER THE INPUT: true; the input reads as it did. -/
def subDynSpec : ChangeSpec := { name := "subDyn", fn := fun _ => fun
  | [d1, d2] => { results := [.lit (.bool true)], args := [d1, d2] }
  | _ => none }
def subDynRow : OpenClaim := { program := "ytcpfjabjonpdaaa", sum := "a04cb1f3ed5505396a6bb9e96d0accc73c1672e26193bd0713120774f46bba9d", func := "surety/suretylaw10.SubDyn", spec := "subDyn", recurses := true, loops := true, apart := false }
def SubDynSaid : Prop := subDynRow.holds Try.pinned (OpenSpec.ofChange subDynSpec)

/-- ITS FALSE NEIGHBOUR: 'it returns false'. Refute it at one input. -/
def subDynWrong : ChangeSpec := { name := "subDyn", fn := fun _ => fun
  | [d1, d2] => { results := [.lit (.bool false)], args := [d1, d2] }
  | _ => none }
def SubDynWrongFalsely : Prop := subDynRow.holds Try.pinned (OpenSpec.ofChange subDynWrong)

/-- 'suretylaw09.PrecMeet': WHATEVER THE INPUT: true; the input reads as it did. -/
def precMeetSpec : ChangeSpec := { name := "precMeet", fn := fun _ => fun
  | [d1, d2, d3] => { results := [.lit (.bool true)], args := [d1, d2, d3] }
  | _ => none }
def precMeetRow : OpenClaim := { program := "ytcpfjabjonpdaaa", sum := "a04cb1f3ed5505396a6bb9e96d0accc73c1672e26193bd0713120774f46bba9d", func := "surety/suretylaw09.PrecMeet", spec := "precMeet", recurses := true, loops := true, apart := false }
def PrecMeetSaid : Prop := precMeetRow.holds Try.pinned (OpenSpec.ofChange precMeetSpec)

/-- ITS FALSE NEIGHBOUR: 'it returns false'. Refute it at one input. -/
def precMeetWrong : ChangeSpec := { name := "precMeet", fn := fun _ => fun
  | [d1, d2, d3] => { results := [.lit (.bool false)], args := [d1, d2, d3] }
  | _ => none }
def PrecMeetWrongFalsely : Prop := precMeetRow.holds Try.pinned (OpenSpec.ofChange precMeetWrong)

/- THE SECOND FORM. 'bulk': how many values and letters a reading holds, each counted each time it is reached (what is shared counts as often as it is met; a slice's spare places count too). A statement '..UptoSaid' is the law's where the arguments, and the package variables that the reading takes, are together of bulk at most 1048576: NARROWER than '..Said'. Prove '..Said' where nothing that the law and all that it calls make is longer than what came in: it says more and counts as full. Else prove '..UptoSaid'. A law counts once. -/
mutual
def uptoBulk {H : Type} : DataW H → Nat
  | .lit (.string bytes) => bytes.length + 1
  | .lit _ => 1
  | .nil => 1
  | .ptr d => uptoBulk d + 1
  | .slice elems spare => uptoBulkAll elems + uptoBulkAll spare + 1
  | .agg parts => uptoBulkAll parts + 1
  | .iface _ d => uptoBulk d + 1
  | .map entries => uptoBulkEntries entries + 1
  | .held _ => 1
def uptoBulkAll {H : Type} : List (DataW H) → Nat
  | [] => 0
  | d :: r => uptoBulk d + uptoBulkAll r
def uptoBulkEntries {H : Type} : List (Lit × DataW H) → Nat
  | [] => 0
  | x :: r => uptoBulkEntry x + uptoBulkEntries r
def uptoBulkEntry {H : Type} : Lit × DataW H → Nat
  | (.string bytes, d) => bytes.length + uptoBulk d + 1
  | (_, d) => uptoBulk d + 1
 end
def uptoSmall : (H : Type) → List (DataW H) → Bool := fun _ ds => decide (uptoBulkAll ds ≤ 1048576)
def OpenSpec.upto (s : _root_.Go.ChangeSpec) : _root_.Go.OpenSpec := { _root_.Go.OpenSpec.ofChange s with cond := some uptoSmall }

/-- 'suretylaw09.PrecExact', WHERE WHAT IT READS IS OF BULK AT MOST 1048576: true; the input reads as it did. -/
def precExactUptoRow : OpenClaim := { program := "ytcpfjabjonpdaaa", sum := "a04cb1f3ed5505396a6bb9e96d0accc73c1672e26193bd0713120774f46bba9d", func := "surety/suretylaw09.PrecExact", spec := "precExact", recurses := true, loops := true, apart := false, narrowed := true }
def PrecExactUptoSaid : Prop := precExactUptoRow.holds Try.pinned (OpenSpec.upto precExactSpec)

/-- 'suretylaw09.PrecOrder', WHERE WHAT IT READS IS OF BULK AT MOST 1048576: true; the input reads as it did. -/
def precOrderUptoRow : OpenClaim := { program := "ytcpfjabjonpdaaa", sum := "a04cb1f3ed5505396a6bb9e96d0accc73c1672e26193bd0713120774f46bba9d", func := "surety/suretylaw09.PrecOrder", spec := "precOrder", recurses := true, loops := true, apart := false, narrowed := true }
def PrecOrderUptoSaid : Prop := precOrderUptoRow.holds Try.pinned (OpenSpec.upto precOrderSpec)

/-- 'suretylaw09.PrecLess', WHERE WHAT IT READS IS OF BULK AT MOST 1048576: true; the input reads as it did. -/
def precLessUptoRow : OpenClaim := { program := "ytcpfjabjonpdaaa", sum := "a04cb1f3ed5505396a6bb9e96d0accc73c1672e26193bd0713120774f46bba9d", func := "surety/suretylaw09.PrecLess", spec := "precLess", recurses := true, loops := true, apart := false, narrowed := true }
def PrecLessUptoSaid : Prop := precLessUptoRow.holds Try.pinned (OpenSpec.upto precLessSpec)

/-- 'suretylaw10.SubExact', WHERE WHAT IT READS IS OF BULK AT MOST 1048576: true; the input reads as it did. -/
def subExactUptoRow : OpenClaim := { program := "ytcpfjabjonpdaaa", sum := "a04cb1f3ed5505396a6bb9e96d0accc73c1672e26193bd0713120774f46bba9d", func := "surety/suretylaw10.SubExact", spec := "subExact", recurses := true, loops := true, apart := false, narrowed := true }
def SubExactUptoSaid : Prop := subExactUptoRow.holds Try.pinned (OpenSpec.upto subExactSpec)

/-- 'suretylaw10.SubBoth', WHERE WHAT IT READS IS OF BULK AT MOST 1048576: true; the input reads as it did. -/
def subBothUptoRow : OpenClaim := { program := "ytcpfjabjonpdaaa", sum := "a04cb1f3ed5505396a6bb9e96d0accc73c1672e26193bd0713120774f46bba9d", func := "surety/suretylaw10.SubBoth", spec := "subBoth", recurses := true, loops := true, apart := false, narrowed := true }
def SubBothUptoSaid : Prop := subBothUptoRow.holds Try.pinned (OpenSpec.upto subBothSpec)

/-- 'suretylaw10.SubOrder', WHERE WHAT IT READS IS OF BULK AT MOST 1048576: true; the input reads as it did. -/
def subOrderUptoRow : OpenClaim := { program := "ytcpfjabjonpdaaa", sum := "a04cb1f3ed5505396a6bb9e96d0accc73c1672e26193bd0713120774f46bba9d", func := "surety/suretylaw10.SubOrder", spec := "subOrder", recurses := true, loops := true, apart := false, narrowed := true }
def SubOrderUptoSaid : Prop := subOrderUptoRow.holds Try.pinned (OpenSpec.upto subOrderSpec)

/-- 'suretylaw10.SubParts', WHERE WHAT IT READS IS OF BULK AT MOST 1048576: true; the input reads as it did. -/
def subPartsUptoRow : OpenClaim := { program := "ytcpfjabjonpdaaa", sum := "a04cb1f3ed5505396a6bb9e96d0accc73c1672e26193bd0713120774f46bba9d", func := "surety/suretylaw10.SubParts", spec := "subParts", recurses := true, loops := true, apart := false, narrowed := true }
def SubPartsUptoSaid : Prop := subPartsUptoRow.holds Try.pinned (OpenSpec.upto subPartsSpec)

/-- 'suretylaw08.AgreeExact', WHERE WHAT IT READS IS OF BULK AT MOST 1048576: true; the input reads as it did. -/
def agreeExactUptoRow : OpenClaim := { program := "ytcpfjabjonpdaaa", sum := "a04cb1f3ed5505396a6bb9e96d0accc73c1672e26193bd0713120774f46bba9d", func := "surety/suretylaw08.AgreeExact", spec := "agreeExact", recurses := true, loops := true, apart := false, narrowed := true }
def AgreeExactUptoSaid : Prop := agreeExactUptoRow.holds Try.pinned (OpenSpec.upto agreeExactSpec)

/-- 'suretylaw08.AgreeBoth', WHERE WHAT IT READS IS OF BULK AT MOST 1048576: true; the input reads as it did. -/
def agreeBothUptoRow : OpenClaim := { program := "ytcpfjabjonpdaaa", sum := "a04cb1f3ed5505396a6bb9e96d0accc73c1672e26193bd0713120774f46bba9d", func := "surety/suretylaw08.AgreeBoth", spec := "agreeBoth", recurses := true, loops := true, apart := false, narrowed := true }
def AgreeBothUptoSaid : Prop := agreeBothUptoRow.holds Try.pinned (OpenSpec.upto agreeBothSpec)

/-- 'suretylaw08.AgreeParts', WHERE WHAT IT READS IS OF BULK AT MOST 1048576: true; the input reads as it did. -/
def agreePartsUptoRow : OpenClaim := { program := "ytcpfjabjonpdaaa", sum := "a04cb1f3ed5505396a6bb9e96d0accc73c1672e26193bd0713120774f46bba9d", func := "surety/suretylaw08.AgreeParts", spec := "agreeParts", recurses := true, loops := true, apart := false, narrowed := true }
def AgreePartsUptoSaid : Prop := agreePartsUptoRow.holds Try.pinned (OpenSpec.upto agreePartsSpec)

/-- 'suretylaw08.AgreeMeet', WHERE WHAT IT READS IS OF BULK AT MOST 1048576: true; the input reads as it did. -/
def agreeMeetUptoRow : OpenClaim := { program := "ytcpfjabjonpdaaa", sum := "a04cb1f3ed5505396a6bb9e96d0accc73c1672e26193bd0713120774f46bba9d", func := "surety/suretylaw08.AgreeMeet", spec := "agreeMeet", recurses := true, loops := true, apart := false, narrowed := true }
def AgreeMeetUptoSaid : Prop := agreeMeetUptoRow.holds Try.pinned (OpenSpec.upto agreeMeetSpec)

/-- 'suretylaw08.AgreeNotOn', WHERE WHAT IT READS IS OF BULK AT MOST 1048576: true; the input reads as it did. -/
def agreeNotOnUptoRow : OpenClaim := { program := "ytcpfjabjonpdaaa", sum := "a04cb1f3ed5505396a6bb9e96d0accc73c1672e26193bd0713120774f46bba9d", func := "surety/suretylaw08.AgreeNotOn", spec := "agreeNotOn", recurses := true, loops := true, apart := false, narrowed := true }
def AgreeNotOnUptoSaid : Prop := agreeNotOnUptoRow.holds Try.pinned (OpenSpec.upto agreeNotOnSpec)

/-- 'suretylaw08.AgreeBits', WHERE WHAT IT READS IS OF BULK AT MOST 1048576: true; the input reads as it did. -/
def agreeBitsUptoRow : OpenClaim := { program := "ytcpfjabjonpdaaa", sum := "a04cb1f3ed5505396a6bb9e96d0accc73c1672e26193bd0713120774f46bba9d", func := "surety/suretylaw08.AgreeBits", spec := "agreeBits", recurses := true, apart := false, narrowed := true }
def AgreeBitsUptoSaid : Prop := agreeBitsUptoRow.holds Try.pinned (OpenSpec.upto agreeBitsSpec)

/-- 'suretylaw03.TypExact', WHERE WHAT IT READS IS OF BULK AT MOST 1048576: true; the input reads as it did. -/
def typExactUptoRow : OpenClaim := { program := "ytcpfjabjonpdaaa", sum := "a04cb1f3ed5505396a6bb9e96d0accc73c1672e26193bd0713120774f46bba9d", func := "surety/suretylaw03.TypExact", spec := "typExact", recurses := true, loops := true, apart := false, narrowed := true }
def TypExactUptoSaid : Prop := typExactUptoRow.holds Try.pinned (OpenSpec.upto typExactSpec)

/-- 'suretylaw03.TypSame', WHERE WHAT IT READS IS OF BULK AT MOST 1048576: true; the input reads as it did. -/
def typSameUptoRow : OpenClaim := { program := "ytcpfjabjonpdaaa", sum := "a04cb1f3ed5505396a6bb9e96d0accc73c1672e26193bd0713120774f46bba9d", func := "surety/suretylaw03.TypSame", spec := "typSame", recurses := true, loops := true, apart := false, narrowed := true }
def TypSameUptoSaid : Prop := typSameUptoRow.holds Try.pinned (OpenSpec.upto typSameSpec)

/-- 'suretylaw03.TypParts', WHERE WHAT IT READS IS OF BULK AT MOST 1048576: true; the input reads as it did. -/
def typPartsUptoRow : OpenClaim := { program := "ytcpfjabjonpdaaa", sum := "a04cb1f3ed5505396a6bb9e96d0accc73c1672e26193bd0713120774f46bba9d", func := "surety/suretylaw03.TypParts", spec := "typParts", recurses := true, loops := true, apart := false, narrowed := true }
def TypPartsUptoSaid : Prop := typPartsUptoRow.holds Try.pinned (OpenSpec.upto typPartsSpec)

/-- 'suretylaw03.TypVars', WHERE WHAT IT READS IS OF BULK AT MOST 1048576: true; the input reads as it did. -/
def typVarsUptoRow : OpenClaim := { program := "ytcpfjabjonpdaaa", sum := "a04cb1f3ed5505396a6bb9e96d0accc73c1672e26193bd0713120774f46bba9d", func := "surety/suretylaw03.TypVars", spec := "typVars", recurses := true, loops := true, apart := false, narrowed := true }
def TypVarsUptoSaid : Prop := typVarsUptoRow.holds Try.pinned (OpenSpec.upto typVarsSpec)

/-- 'suretylaw03.TypBad', WHERE WHAT IT READS IS OF BULK AT MOST 1048576: true; the input reads as it did. -/
def typBadUptoRow : OpenClaim := { program := "ytcpfjabjonpdaaa", sum := "a04cb1f3ed5505396a6bb9e96d0accc73c1672e26193bd0713120774f46bba9d", func := "surety/suretylaw03.TypBad", spec := "typBad", recurses := true, loops := true, apart := false, narrowed := true }
def TypBadUptoSaid : Prop := typBadUptoRow.holds Try.pinned (OpenSpec.upto typBadSpec)

/-- 'suretylaw10.SubBelow', WHERE WHAT IT READS IS OF BULK AT MOST 1048576: true; the input reads as it did. -/
def subBelowUptoRow : OpenClaim := { program := "ytcpfjabjonpdaaa", sum := "a04cb1f3ed5505396a6bb9e96d0accc73c1672e26193bd0713120774f46bba9d", func := "surety/suretylaw10.SubBelow", spec := "subBelow", recurses := true, loops := true, apart := false, narrowed := true }
def SubBelowUptoSaid : Prop := subBelowUptoRow.holds Try.pinned (OpenSpec.upto subBelowSpec)

/-- 'suretylaw09.PrecAgree', WHERE WHAT IT READS IS OF BULK AT MOST 1048576: true; the input reads as it did. -/
def precAgreeUptoRow : OpenClaim := { program := "ytcpfjabjonpdaaa", sum := "a04cb1f3ed5505396a6bb9e96d0accc73c1672e26193bd0713120774f46bba9d", func := "surety/suretylaw09.PrecAgree", spec := "precAgree", recurses := true, loops := true, apart := false, narrowed := true }
def PrecAgreeUptoSaid : Prop := precAgreeUptoRow.holds Try.pinned (OpenSpec.upto precAgreeSpec)

/-- 'suretylaw09.PrecGround', WHERE WHAT IT READS IS OF BULK AT MOST 1048576: true; the input reads as it did. -/
def precGroundUptoRow : OpenClaim := { program := "ytcpfjabjonpdaaa", sum := "a04cb1f3ed5505396a6bb9e96d0accc73c1672e26193bd0713120774f46bba9d", func := "surety/suretylaw09.PrecGround", spec := "precGround", recurses := true, loops := true, apart := false, narrowed := true }
def PrecGroundUptoSaid : Prop := precGroundUptoRow.holds Try.pinned (OpenSpec.upto precGroundSpec)

/-- 'suretylaw10.SubDyn', WHERE WHAT IT READS IS OF BULK AT MOST 1048576: true; the input reads as it did. -/
def subDynUptoRow : OpenClaim := { program := "ytcpfjabjonpdaaa", sum := "a04cb1f3ed5505396a6bb9e96d0accc73c1672e26193bd0713120774f46bba9d", func := "surety/suretylaw10.SubDyn", spec := "subDyn", recurses := true, loops := true, apart := false, narrowed := true }
def SubDynUptoSaid : Prop := subDynUptoRow.holds Try.pinned (OpenSpec.upto subDynSpec)

/-- 'suretylaw09.PrecMeet', WHERE WHAT IT READS IS OF BULK AT MOST 1048576: true; the input reads as it did. -/
def precMeetUptoRow : OpenClaim := { program := "ytcpfjabjonpdaaa", sum := "a04cb1f3ed5505396a6bb9e96d0accc73c1672e26193bd0713120774f46bba9d", func := "surety/suretylaw09.PrecMeet", spec := "precMeet", recurses := true, loops := true, apart := false, narrowed := true }
def PrecMeetUptoSaid : Prop := precMeetUptoRow.holds Try.pinned (OpenSpec.upto precMeetSpec)

end Rows
end Go.Proofs.Ytcpfjabjonpdaaa
