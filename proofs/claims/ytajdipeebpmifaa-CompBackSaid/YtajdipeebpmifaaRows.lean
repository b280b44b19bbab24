/-
  NARROWER THAN 'FOR EVERY INPUT', by the rows' own cells (each row's printed sentence says how): CompExact: loops · CompAll: loops · CompHeight: loops · CoerExact: loops · CoerParts: loops · CoerWays: loops · CoerEnds: loops · TransExact: loops · TransSubst: loops · TransParts: loops · TransLess: loops · TransFits: loops · TransSides: loops · CompOrder: loops · CompMeet: loops · CompFits: loops · CompBack: loops · ValExact: loops · ValMatch: loops · ValTwice: loops · ValUp: loops · ValHas: loops · ValWrap: loops · ValParts: loops.
  DERIVED. THE GIVEN ROWS OF THIS SEAT. 24 by the template 'for every input the law returns true; each argument reads behind the call as it read before'; 0 by the template 'total and deterministic' (their statements: YtajdipeebpmifaaTotals.lean).
  GIVEN WITH THE SEED: the statements are not yours to turn. If you find one false, say at which input.
  Laid BY PROGRAM, IN A SANDBOX (cutbox-rows.mjs): the forced cells as the released guide's own fill.sh prints them over the translation 3a8cd21e0b5e6fee… (all of the seat's roots in one cut). By AI agents, Wed Nov 11 2026. No macro, syntax, notation, axiom, sorry.
-/
import Derived.Test.YtajdipeebpmifaaChecked
import GoSem.Claim
import GoSem.ClaimJoined
import GoSem.ClaimMapViews
import Derived.JoinedTies
import Derived.KernelRfl
namespace Go.Proofs.Ytajdipeebpmifaa
/- THE CELL 'sum', in the pinned program and in every row, IS THE sha256 OF THE DUMP (.gsa) THAT YtajdipeebpmifaaProg.lean LOADS. Nothing in Lean hashes anything: it is a label: what it is worth is what the hold of that sum in a sandbox is worth. -/
noncomputable def Try.pinned : Pinned := { name := "ytajdipeebpmifaa", sum := "3a8cd21e0b5e6feee699b75481f5e95e36fb8cfbc5aa5cc3df55233f33fa92d5", checked := Try.checked }
namespace Rows
def none {H : Type} : Left H := { results := [], args := [] }

/-- 'suretylaw22.CompExact': WHATEVER THE INPUT: true; the input reads as it did. -/
def compExactSpec : ChangeSpec := { name := "compExact", fn := fun _ => fun
  | [d1, d2, d3] => { results := [.lit (.bool true)], args := [d1, d2, d3] }
  | _ => none }
def compExactRow : OpenClaim := { program := "ytajdipeebpmifaa", sum := "3a8cd21e0b5e6feee699b75481f5e95e36fb8cfbc5aa5cc3df55233f33fa92d5", func := "surety/suretylaw22.CompExact", spec := "compExact", recurses := true, loops := true, apart := false }
def CompExactSaid : Prop := compExactRow.holds Try.pinned (OpenSpec.ofChange compExactSpec)

/-- ITS FALSE NEIGHBOUR: 'it returns false'. Refute it at one input. -/
def compExactWrong : ChangeSpec := { name := "compExact", fn := fun _ => fun
  | [d1, d2, d3] => { results := [.lit (.bool false)], args := [d1, d2, d3] }
  | _ => none }
def CompExactWrongFalsely : Prop := compExactRow.holds Try.pinned (OpenSpec.ofChange compExactWrong)

/-- 'suretylaw22.CompAll': WHATEVER THE INPUT: true; the input reads as it did. -/
def compAllSpec : ChangeSpec := { name := "compAll", fn := fun _ => fun
  | [d1, d2] => { results := [.lit (.bool true)], args := [d1, d2] }
  | _ => none }
def compAllRow : OpenClaim := { program := "ytajdipeebpmifaa", sum := "3a8cd21e0b5e6feee699b75481f5e95e36fb8cfbc5aa5cc3df55233f33fa92d5", func := "surety/suretylaw22.CompAll", spec := "compAll", unfollowed := true, recurses := true, loops := true, apart := false }
def CompAllSaid : Prop := compAllRow.holds Try.pinned (OpenSpec.ofChange compAllSpec)

/-- ITS FALSE NEIGHBOUR: 'it returns false'. Refute it at one input. -/
def compAllWrong : ChangeSpec := { name := "compAll", fn := fun _ => fun
  | [d1, d2] => { results := [.lit (.bool false)], args := [d1, d2] }
  | _ => none }
def CompAllWrongFalsely : Prop := compAllRow.holds Try.pinned (OpenSpec.ofChange compAllWrong)

/-- 'suretylaw22.CompHeight': WHATEVER THE INPUT: true; the input reads as it did. -/
def compHeightSpec : ChangeSpec := { name := "compHeight", fn := fun _ => fun
  | [d1, d2, d3] => { results := [.lit (.bool true)], args := [d1, d2, d3] }
  | _ => none }
def compHeightRow : OpenClaim := { program := "ytajdipeebpmifaa", sum := "3a8cd21e0b5e6feee699b75481f5e95e36fb8cfbc5aa5cc3df55233f33fa92d5", func := "surety/suretylaw22.CompHeight", spec := "compHeight", unfollowed := true, recurses := true, loops := true, apart := false }
def CompHeightSaid : Prop := compHeightRow.holds Try.pinned (OpenSpec.ofChange compHeightSpec)

/-- ITS FALSE NEIGHBOUR: 'it returns false'. Refute it at one input. -/
def compHeightWrong : ChangeSpec := { name := "compHeight", fn := fun _ => fun
  | [d1, d2, d3] => { results := [.lit (.bool false)], args := [d1, d2, d3] }
  | _ => none }
def CompHeightWrongFalsely : Prop := compHeightRow.holds Try.pinned (OpenSpec.ofChange compHeightWrong)

/-- 'suretylaw20.CoerExact': WHATEVER THE INPUT: true; the input reads as it did. -/
def coerExactSpec : ChangeSpec := { name := "coerExact", fn := fun _ => fun
  | [d1, d2, d3, d4] => { results := [.lit (.bool true)], args := [d1, d2, d3, d4] }
  | _ => none }
def coerExactRow : OpenClaim := { program := "ytajdipeebpmifaa", sum := "3a8cd21e0b5e6feee699b75481f5e95e36fb8cfbc5aa5cc3df55233f33fa92d5", func := "surety/suretylaw20.CoerExact", spec := "coerExact", unfollowed := true, recurses := true, loops := true, apart := false }
def CoerExactSaid : Prop := coerExactRow.holds Try.pinned (OpenSpec.ofChange coerExactSpec)

/-- ITS FALSE NEIGHBOUR: 'it returns false'. Refute it at one input. -/
def coerExactWrong : ChangeSpec := { name := "coerExact", fn := fun _ => fun
  | [d1, d2, d3, d4] => { results := [.lit (.bool false)], args := [d1, d2, d3, d4] }
  | _ => none }
def CoerExactWrongFalsely : Prop := coerExactRow.holds Try.pinned (OpenSpec.ofChange coerExactWrong)

/-- 'suretylaw20.CoerParts': WHATEVER THE INPUT: true; the input reads as it did. -/
def coerPartsSpec : ChangeSpec := { name := "coerParts", fn := fun _ => fun
  | [d1, d2] => { results := [.lit (.bool true)], args := [d1, d2] }
  | _ => none }
def coerPartsRow : OpenClaim := { program := "ytajdipeebpmifaa", sum := "3a8cd21e0b5e6feee699b75481f5e95e36fb8cfbc5aa5cc3df55233f33fa92d5", func := "surety/suretylaw20.CoerParts", spec := "coerParts", unfollowed := true, recurses := true, loops := true, apart := false }
def CoerPartsSaid : Prop := coerPartsRow.holds Try.pinned (OpenSpec.ofChange coerPartsSpec)

/-- ITS FALSE NEIGHBOUR: 'it returns false'. Refute it at one input. -/
def coerPartsWrong : ChangeSpec := { name := "coerParts", fn := fun _ => fun
  | [d1, d2] => { results := [.lit (.bool false)], args := [d1, d2] }
  | _ => none }
def CoerPartsWrongFalsely : Prop := coerPartsRow.holds Try.pinned (OpenSpec.ofChange coerPartsWrong)

/-- 'suretylaw20.CoerWays': WHATEVER THE INPUT: true; the input reads as it did. -/
def coerWaysSpec : ChangeSpec := { name := "coerWays", fn := fun _ => fun
  | [d1, d2, d3, d4, d5, d6] => { results := [.lit (.bool true)], args := [d1, d2, d3, d4, d5, d6] }
  | _ => none }
def coerWaysRow : OpenClaim := { program := "ytajdipeebpmifaa", sum := "3a8cd21e0b5e6feee699b75481f5e95e36fb8cfbc5aa5cc3df55233f33fa92d5", func := "surety/suretylaw20.CoerWays", spec := "coerWays", unfollowed := true, recurses := true, loops := true, apart := false }
def CoerWaysSaid : Prop := coerWaysRow.holds Try.pinned (OpenSpec.ofChange coerWaysSpec)

/-- ITS FALSE NEIGHBOUR: 'it returns false'. Refute it at one input. -/
def coerWaysWrong : ChangeSpec := { name := "coerWays", fn := fun _ => fun
  | [d1, d2, d3, d4, d5, d6] => { results := [.lit (.bool false)], args := [d1, d2, d3, d4, d5, d6] }
  | _ => none }
def CoerWaysWrongFalsely : Prop := coerWaysRow.holds Try.pinned (OpenSpec.ofChange coerWaysWrong)

/-- 'suretylaw20.CoerEnds': WHATEVER THE INPUT: true; the input reads as it did. -/
def coerEndsSpec : ChangeSpec := { name := "coerEnds", fn := fun _ => fun
  | [d1, d2, d3] => { results := [.lit (.bool true)], args := [d1, d2, d3] }
  | _ => none }
def coerEndsRow : OpenClaim := { program := "ytajdipeebpmifaa", sum := "3a8cd21e0b5e6feee699b75481f5e95e36fb8cfbc5aa5cc3df55233f33fa92d5", func := "surety/suretylaw20.CoerEnds", spec := "coerEnds", unfollowed := true, recurses := true, loops := true, apart := false }
def CoerEndsSaid : Prop := coerEndsRow.holds Try.pinned (OpenSpec.ofChange coerEndsSpec)

/-- ITS FALSE NEIGHBOUR: 'it returns false'. Refute it at one input. -/
def coerEndsWrong : ChangeSpec := { name := "coerEnds", fn := fun _ => fun
  | [d1, d2, d3] => { results := [.lit (.bool false)], args := [d1, d2, d3] }
  | _ => none }
def CoerEndsWrongFalsely : Prop := coerEndsRow.holds Try.pinned (OpenSpec.ofChange coerEndsWrong)

/-- 'suretylaw21.TransExact': WHATEVER THE INPUT: true; the input reads as it did. -/
def transExactSpec : ChangeSpec := { name := "transExact", fn := fun _ => fun
  | [d1, d2, d3, d4] => { results := [.lit (.bool true)], args := [d1, d2, d3, d4] }
  | _ => none }
def transExactRow : OpenClaim := { program := "ytajdipeebpmifaa", sum := "3a8cd21e0b5e6feee699b75481f5e95e36fb8cfbc5aa5cc3df55233f33fa92d5", func := "surety/suretylaw21.TransExact", spec := "transExact", recurses := true, loops := true, apart := false }
def TransExactSaid : Prop := transExactRow.holds Try.pinned (OpenSpec.ofChange transExactSpec)

/-- ITS FALSE NEIGHBOUR: 'it returns false'. Refute it at one input. -/
def transExactWrong : ChangeSpec := { name := "transExact", fn := fun _ => fun
  | [d1, d2, d3, d4] => { results := [.lit (.bool false)], args := [d1, d2, d3, d4] }
  | _ => none }
def TransExactWrongFalsely : Prop := transExactRow.holds Try.pinned (OpenSpec.ofChange transExactWrong)

/-- 'suretylaw21.TransSubst': WHATEVER THE INPUT: true; the input reads as it did. -/
def transSubstSpec : ChangeSpec := { name := "transSubst", fn := fun _ => fun
  | [d1, d2, d3, d4] => { results := [.lit (.bool true)], args := [d1, d2, d3, d4] }
  | _ => none }
def transSubstRow : OpenClaim := { program := "ytajdipeebpmifaa", sum := "3a8cd21e0b5e6feee699b75481f5e95e36fb8cfbc5aa5cc3df55233f33fa92d5", func := "surety/suretylaw21.TransSubst", spec := "transSubst", unfollowed := true, recurses := true, loops := true, apart := false }
def TransSubstSaid : Prop := transSubstRow.holds Try.pinned (OpenSpec.ofChange transSubstSpec)

/-- ITS FALSE NEIGHBOUR: 'it returns false'. Refute it at one input. -/
def transSubstWrong : ChangeSpec := { name := "transSubst", fn := fun _ => fun
  | [d1, d2, d3, d4] => { results := [.lit (.bool false)], args := [d1, d2, d3, d4] }
  | _ => none }
def TransSubstWrongFalsely : Prop := transSubstRow.holds Try.pinned (OpenSpec.ofChange transSubstWrong)

/-- 'suretylaw21.TransParts': WHATEVER THE INPUT: true; the input reads as it did. -/
def transPartsSpec : ChangeSpec := { name := "transParts", fn := fun _ => fun
  | [d1, d2, d3, d4, d5] => { results := [.lit (.bool true)], args := [d1, d2, d3, d4, d5] }
  | _ => none }
def transPartsRow : OpenClaim := { program := "ytajdipeebpmifaa", sum := "3a8cd21e0b5e6feee699b75481f5e95e36fb8cfbc5aa5cc3df55233f33fa92d5", func := "surety/suretylaw21.TransParts", spec := "transParts", unfollowed := true, recurses := true, loops := true, apart := false }
def TransPartsSaid : Prop := transPartsRow.holds Try.pinned (OpenSpec.ofChange transPartsSpec)

/-- ITS FALSE NEIGHBOUR: 'it returns false'. Refute it at one input. -/
def transPartsWrong : ChangeSpec := { name := "transParts", fn := fun _ => fun
  | [d1, d2, d3, d4, d5] => { results := [.lit (.bool false)], args := [d1, d2, d3, d4, d5] }
  | _ => none }
def TransPartsWrongFalsely : Prop := transPartsRow.holds Try.pinned (OpenSpec.ofChange transPartsWrong)

/-- 'suretylaw21.TransLess': WHATEVER THE INPUT: true; the input reads as it did. -/
def transLessSpec : ChangeSpec := { name := "transLess", fn := fun _ => fun
  | [d1, d2, d3] => { results := [.lit (.bool true)], args := [d1, d2, d3] }
  | _ => none }
def transLessRow : OpenClaim := { program := "ytajdipeebpmifaa", sum := "3a8cd21e0b5e6feee699b75481f5e95e36fb8cfbc5aa5cc3df55233f33fa92d5", func := "surety/suretylaw21.TransLess", spec := "transLess", recurses := true, loops := true, apart := false }
def TransLessSaid : Prop := transLessRow.holds Try.pinned (OpenSpec.ofChange transLessSpec)

/-- ITS FALSE NEIGHBOUR: 'it returns false'. Refute it at one input. -/
def transLessWrong : ChangeSpec := { name := "transLess", fn := fun _ => fun
  | [d1, d2, d3] => { results := [.lit (.bool false)], args := [d1, d2, d3] }
  | _ => none }
def TransLessWrongFalsely : Prop := transLessRow.holds Try.pinned (OpenSpec.ofChange transLessWrong)

/-- 'suretylaw21.TransFits': WHATEVER THE INPUT: true; the input reads as it did. -/
def transFitsSpec : ChangeSpec := { name := "transFits", fn := fun _ => fun
  | [d1, d2, d3, d4] => { results := [.lit (.bool true)], args := [d1, d2, d3, d4] }
  | _ => none }
def transFitsRow : OpenClaim := { program := "ytajdipeebpmifaa", sum := "3a8cd21e0b5e6feee699b75481f5e95e36fb8cfbc5aa5cc3df55233f33fa92d5", func := "surety/suretylaw21.TransFits", spec := "transFits", recurses := true, loops := true, apart := false }
def TransFitsSaid : Prop := transFitsRow.holds Try.pinned (OpenSpec.ofChange transFitsSpec)

/-- ITS FALSE NEIGHBOUR: 'it returns false'. Refute it at one input. -/
def transFitsWrong : ChangeSpec := { name := "transFits", fn := fun _ => fun
  | [d1, d2, d3, d4] => { results := [.lit (.bool false)], args := [d1, d2, d3, d4] }
  | _ => none }
def TransFitsWrongFalsely : Prop := transFitsRow.holds Try.pinned (OpenSpec.ofChange transFitsWrong)

/-- 'suretylaw21.TransSides': WHATEVER THE INPUT: true; the input reads as it did. -/
def transSidesSpec : ChangeSpec := { name := "transSides", fn := fun _ => fun
  | [d1, d2, d3, d4] => { results := [.lit (.bool true)], args := [d1, d2, d3, d4] }
  | _ => none }
def transSidesRow : OpenClaim := { program := "ytajdipeebpmifaa", sum := "3a8cd21e0b5e6feee699b75481f5e95e36fb8cfbc5aa5cc3df55233f33fa92d5", func := "surety/suretylaw21.TransSides", spec := "transSides", recurses := true, loops := true, apart := false }
def TransSidesSaid : Prop := transSidesRow.holds Try.pinned (OpenSpec.ofChange transSidesSpec)

/-- ITS FALSE NEIGHBOUR: 'it returns false'. Refute it at one input. -/
def transSidesWrong : ChangeSpec := { name := "transSides", fn := fun _ => fun
  | [d1, d2, d3, d4] => { results := [.lit (.bool false)], args := [d1, d2, d3, d4] }
  | _ => none }
def TransSidesWrongFalsely : Prop := transSidesRow.holds Try.pinned (OpenSpec.ofChange transSidesWrong)

/-- 'suretylaw22.CompOrder': WHATEVER THE INPUT: true; the input reads as it did. -/
def compOrderSpec : ChangeSpec := { name := "compOrder", fn := fun _ => fun
  | [d1, d2, d3, d4] => { results := [.lit (.bool true)], args := [d1, d2, d3, d4] }
  | _ => none }
def compOrderRow : OpenClaim := { program := "ytajdipeebpmifaa", sum := "3a8cd21e0b5e6feee699b75481f5e95e36fb8cfbc5aa5cc3df55233f33fa92d5", func := "surety/suretylaw22.CompOrder", spec := "compOrder", unfollowed := true, recurses := true, loops := true, apart := false }
def CompOrderSaid : Prop := compOrderRow.holds Try.pinned (OpenSpec.ofChange compOrderSpec)

/-- ITS FALSE NEIGHBOUR: 'it returns false'. Refute it at one input. -/
def compOrderWrong : ChangeSpec := { name := "compOrder", fn := fun _ => fun
  | [d1, d2, d3, d4] => { results := [.lit (.bool false)], args := [d1, d2, d3, d4] }
  | _ => none }
def CompOrderWrongFalsely : Prop := compOrderRow.holds Try.pinned (OpenSpec.ofChange compOrderWrong)

/-- 'suretylaw22.CompMeet': WHATEVER THE INPUT: true; the input reads as it did. -/
def compMeetSpec : ChangeSpec := { name := "compMeet", fn := fun _ => fun
  | [d1, d2, d3, d4] => { results := [.lit (.bool true)], args := [d1, d2, d3, d4] }
  | _ => none }
def compMeetRow : OpenClaim := { program := "ytajdipeebpmifaa", sum := "3a8cd21e0b5e6feee699b75481f5e95e36fb8cfbc5aa5cc3df55233f33fa92d5", func := "surety/suretylaw22.CompMeet", spec := "compMeet", recurses := true, loops := true, apart := false }
def CompMeetSaid : Prop := compMeetRow.holds Try.pinned (OpenSpec.ofChange compMeetSpec)

/-- ITS FALSE NEIGHBOUR: 'it returns false'. Refute it at one input. -/
def compMeetWrong : ChangeSpec := { name := "compMeet", fn := fun _ => fun
  | [d1, d2, d3, d4] => { results := [.lit (.bool false)], args := [d1, d2, d3, d4] }
  | _ => none }
def CompMeetWrongFalsely : Prop := compMeetRow.holds Try.pinned (OpenSpec.ofChange compMeetWrong)

/-- 'suretylaw22.CompFits': WHATEVER THE INPUT: true; the input reads as it did. -/
def compFitsSpec : ChangeSpec := { name := "compFits", fn := fun _ => fun
  | [d1, d2] => { results := [.lit (.bool true)], args := [d1, d2] }
  | _ => none }
def compFitsRow : OpenClaim := { program := "ytajdipeebpmifaa", sum := "3a8cd21e0b5e6feee699b75481f5e95e36fb8cfbc5aa5cc3df55233f33fa92d5", func := "surety/suretylaw22.CompFits", spec := "compFits", recurses := true, loops := true, apart := false }
def CompFitsSaid : Prop := compFitsRow.holds Try.pinned (OpenSpec.ofChange compFitsSpec)

/-- ITS FALSE NEIGHBOUR: 'it returns false'. Refute it at one input. -/
def compFitsWrong : ChangeSpec := { name := "compFits", fn := fun _ => fun
  | [d1, d2] => { results := [.lit (.bool false)], args := [d1, d2] }
  | _ => none }
def CompFitsWrongFalsely : Prop := compFitsRow.holds Try.pinned (OpenSpec.ofChange compFitsWrong)

/-- 'suretylaw22.CompBack': WHATEVER THE INPUT: true; the input reads as it did. -/
def compBackSpec : ChangeSpec := { name := "compBack", fn := fun _ => fun
  | [d1, d2, d3, d4] => { results := [.lit (.bool true)], args := [d1, d2, d3, d4] }
  | _ => none }
def compBackRow : OpenClaim := { program := "ytajdipeebpmifaa", sum := "3a8cd21e0b5e6feee699b75481f5e95e36fb8cfbc5aa5cc3df55233f33fa92d5", func := "surety/suretylaw22.CompBack", spec := "compBack", recurses := true, loops := true, apart := false }
def CompBackSaid : Prop := compBackRow.holds Try.pinned (OpenSpec.ofChange compBackSpec)

/-- ITS FALSE NEIGHBOUR: 'it returns false'. Refute it at one input. -/
def compBackWrong : ChangeSpec := { name := "compBack", fn := fun _ => fun
  | [d1, d2, d3, d4] => { results := [.lit (.bool false)], args := [d1, d2, d3, d4] }
  | _ => none }
def CompBackWrongFalsely : Prop := compBackRow.holds Try.pinned (OpenSpec.ofChange compBackWrong)

/-- 'suretylaw23.ValExact': WHATEVER THE INPUT: true; the input reads as it did. -/
def valExactSpec : ChangeSpec := { name := "valExact", fn := fun _ => fun
  | [d1, d2, d3] => { results := [.lit (.bool true)], args := [d1, d2, d3] }
  | _ => none }
def valExactRow : OpenClaim := { program := "ytajdipeebpmifaa", sum := "3a8cd21e0b5e6feee699b75481f5e95e36fb8cfbc5aa5cc3df55233f33fa92d5", func := "surety/suretylaw23.ValExact", spec := "valExact", unfollowed := true, recurses := true, loops := true, apart := false }
def ValExactSaid : Prop := valExactRow.holds Try.pinned (OpenSpec.ofChange valExactSpec)

/-- ITS FALSE NEIGHBOUR: 'it returns false'. Refute it at one input. -/
def valExactWrong : ChangeSpec := { name := "valExact", fn := fun _ => fun
  | [d1, d2, d3] => { results := [.lit (.bool false)], args := [d1, d2, d3] }
  | _ => none }
def ValExactWrongFalsely : Prop := valExactRow.holds Try.pinned (OpenSpec.ofChange valExactWrong)

/-- 'suretylaw23.ValMatch': WHATEVER THE INPUT: true; the input reads as it did. -/
def valMatchSpec : ChangeSpec := { name := "valMatch", fn := fun _ => fun
  | [d1, d2] => { results := [.lit (.bool true)], args := [d1, d2] }
  | _ => none }
def valMatchRow : OpenClaim := { program := "ytajdipeebpmifaa", sum := "3a8cd21e0b5e6feee699b75481f5e95e36fb8cfbc5aa5cc3df55233f33fa92d5", func := "surety/suretylaw23.ValMatch", spec := "valMatch", unfollowed := true, recurses := true, loops := true, apart := false }
def ValMatchSaid : Prop := valMatchRow.holds Try.pinned (OpenSpec.ofChange valMatchSpec)

/-- ITS FALSE NEIGHBOUR: 'it returns false'. Refute it at one input. -/
def valMatchWrong : ChangeSpec := { name := "valMatch", fn := fun _ => fun
  | [d1, d2] => { results := [.lit (.bool false)], args := [d1, d2] }
  | _ => none }
def ValMatchWrongFalsely : Prop := valMatchRow.holds Try.pinned (OpenSpec.ofChange valMatchWrong)

/-- 'suretylaw23.ValTwice': WHATEVER THE INPUT: true; the input reads as it did. -/
def valTwiceSpec : ChangeSpec := { name := "valTwice", fn := fun _ => fun
  | [d1, d2, d3] => { results := [.lit (.bool true)], args := [d1, d2, d3] }
  | _ => none }
def valTwiceRow : OpenClaim := { program := "ytajdipeebpmifaa", sum := "3a8cd21e0b5e6feee699b75481f5e95e36fb8cfbc5aa5cc3df55233f33fa92d5", func := "surety/suretylaw23.ValTwice", spec := "valTwice", unfollowed := true, recurses := true, loops := true, apart := false }
def ValTwiceSaid : Prop := valTwiceRow.holds Try.pinned (OpenSpec.ofChange valTwiceSpec)

/-- ITS FALSE NEIGHBOUR: 'it returns false'. Refute it at one input. -/
def valTwiceWrong : ChangeSpec := { name := "valTwice", fn := fun _ => fun
  | [d1, d2, d3] => { results := [.lit (.bool false)], args := [d1, d2, d3] }
  | _ => none }
def ValTwiceWrongFalsely : Prop := valTwiceRow.holds Try.pinned (OpenSpec.ofChange valTwiceWrong)

/-- 'suretylaw23.ValUp': WHATEVER THE INPUT: true; the input reads as it did. -/
def valUpSpec : ChangeSpec := { name := "valUp", fn := fun _ => fun
  | [d1, d2, d3, d4] => { results := [.lit (.bool true)], args := [d1, d2, d3, d4] }
  | _ => none }
def valUpRow : OpenClaim := { program := "ytajdipeebpmifaa", sum := "3a8cd21e0b5e6feee699b75481f5e95e36fb8cfbc5aa5cc3df55233f33fa92d5", func := "surety/suretylaw23.ValUp", spec := "valUp", unfollowed := true, recurses := true, loops := true, apart := false }
def ValUpSaid : Prop := valUpRow.holds Try.pinned (OpenSpec.ofChange valUpSpec)

/-- ITS FALSE NEIGHBOUR: 'it returns false'. Refute it at one input. -/
def valUpWrong : ChangeSpec := { name := "valUp", fn := fun _ => fun
  | [d1, d2, d3, d4] => { results := [.lit (.bool false)], args := [d1, d2, d3, d4] }
  | _ => none }
def ValUpWrongFalsely : Prop := valUpRow.holds Try.pinned (OpenSpec.ofChange valUpWrong)

/-- 'suretylaw23.ValHas': WHATEVER THE INPUT: true; the input reads as it did. -/
def valHasSpec : ChangeSpec := { name := "valHas", fn := fun _ => fun
  | [d1, d2, d3, d4] => { results := [.lit (.bool true)], args := [d1, d2, d3, d4] }
  | _ => none }
def valHasRow : OpenClaim := { program := "ytajdipeebpmifaa", sum := "3a8cd21e0b5e6feee699b75481f5e95e36fb8cfbc5aa5cc3df55233f33fa92d5", func := "surety/suretylaw23.ValHas", spec := "valHas", unfollowed := true, recurses := true, loops := true, apart := false }
def ValHasSaid : Prop := valHasRow.holds Try.pinned (OpenSpec.ofChange valHasSpec)

/-- ITS FALSE NEIGHBOUR: 'it returns false'. Refute it at one input. -/
def valHasWrong : ChangeSpec := { name := "valHas", fn := fun _ => fun
  | [d1, d2, d3, d4] => { results := [.lit (.bool false)], args := [d1, d2, d3, d4] }
  | _ => none }
def ValHasWrongFalsely : Prop := valHasRow.holds Try.pinned (OpenSpec.ofChange valHasWrong)

/-- 'suretylaw23.ValWrap': WHATEVER THE INPUT: true; the input reads as it did. -/
def valWrapSpec : ChangeSpec := { name := "valWrap", fn := fun _ => fun
  | [d1, d2] => { results := [.lit (.bool true)], args := [d1, d2] }
  | _ => none }
def valWrapRow : OpenClaim := { program := "ytajdipeebpmifaa", sum := "3a8cd21e0b5e6feee699b75481f5e95e36fb8cfbc5aa5cc3df55233f33fa92d5", func := "surety/suretylaw23.ValWrap", spec := "valWrap", unfollowed := true, recurses := true, loops := true, apart := false }
def ValWrapSaid : Prop := valWrapRow.holds Try.pinned (OpenSpec.ofChange valWrapSpec)

/-- ITS FALSE NEIGHBOUR: 'it returns false'. Refute it at one input. -/
def valWrapWrong : ChangeSpec := { name := "valWrap", fn := fun _ => fun
  | [d1, d2] => { results := [.lit (.bool false)], args := [d1, d2] }
  | _ => none }
def ValWrapWrongFalsely : Prop := valWrapRow.holds Try.pinned (OpenSpec.ofChange valWrapWrong)

/-- 'suretylaw23.ValParts': WHATEVER THE INPUT: true; the input reads as it did. -/
def valPartsSpec : ChangeSpec := { name := "valParts", fn := fun _ => fun
  | [d1, d2, d3, d4] => { results := [.lit (.bool true)], args := [d1, d2, d3, d4] }
  | _ => none }
def valPartsRow : OpenClaim := { program := "ytajdipeebpmifaa", sum := "3a8cd21e0b5e6feee699b75481f5e95e36fb8cfbc5aa5cc3df55233f33fa92d5", func := "surety/suretylaw23.ValParts", spec := "valParts", unfollowed := true, recurses := true, loops := true, apart := false }
def ValPartsSaid : Prop := valPartsRow.holds Try.pinned (OpenSpec.ofChange valPartsSpec)

/-- ITS FALSE NEIGHBOUR: 'it returns false'. Refute it at one input. -/
def valPartsWrong : ChangeSpec := { name := "valParts", fn := fun _ => fun
  | [d1, d2, d3, d4] => { results := [.lit (.bool false)], args := [d1, d2, d3, d4] }
  | _ => none }
def ValPartsWrongFalsely : Prop := valPartsRow.holds Try.pinned (OpenSpec.ofChange valPartsWrong)

/- THE SECOND FORM. 'bulk': how many values and letters a reading holds, each counted each time it is reached (what is shared counts as often as it is met; a slice's spare places count too). A statement '..UptoSaid' is the law's where the arguments, and the package variables that the reading takes, are together of bulk at most 1048576: NARROWER than '..Said'. Prove '..Said' where nothing that the law and all that it calls make is longer than what came in: it says more and counts as full. Else prove '..UptoSaid'. A law counts once. -/
mutual
def uptoBulk {H : Type} : DataW H → Nat
  | .lit (.string bytes) => bytes.length + 1
  | .lit _ => 1
  | .nil => 1
  | .ptr d => uptoBulk d + 1
  | .slice elems spare => uptoBulkAll elems + uptoBulkAll spare + 1
  | .agg parts => uptoBulkAll parts + 1
  | .iface _ d => uptoBulk d + 1
  | .map entries => uptoBulkEntries entries + 1
  | .held _ => 1
def uptoBulkAll {H : Type} : List (DataW H) → Nat
  | [] => 0
  | d :: r => uptoBulk d + uptoBulkAll r
def uptoBulkEntries {H : Type} : List (Lit × DataW H) → Nat
  | [] => 0
  | x :: r => uptoBulkEntry x + uptoBulkEntries r
def uptoBulkEntry {H : Type} : Lit × DataW H → Nat
  | (.string bytes, d) => bytes.length + uptoBulk d + 1
  | (_, d) => uptoBulk d + 1
 end
def uptoSmall : (H : Type) → List (DataW H) → Bool := fun _ ds => decide (uptoBulkAll ds ≤ 1048576)
def OpenSpec.upto (s : _root_.Go.ChangeSpec) : _root_.Go.OpenSpec := { _root_.Go.OpenSpec.ofChange s with cond := some uptoSmall }

/-- 'suretylaw22.CompExact', WHERE WHAT IT READS IS OF BULK AT MOST 1048576: true; the input reads as it did. -/
def compExactUptoRow : OpenClaim := { program := "ytajdipeebpmifaa", sum := "3a8cd21e0b5e6feee699b75481f5e95e36fb8cfbc5aa5cc3df55233f33fa92d5", func := "surety/suretylaw22.CompExact", spec := "compExact", recurses := true, loops := true, apart := false, narrowed := true }
def CompExactUptoSaid : Prop := compExactUptoRow.holds Try.pinned (OpenSpec.upto compExactSpec)

/-- 'suretylaw22.CompAll', WHERE WHAT IT READS IS OF BULK AT MOST 1048576: true; the input reads as it did. -/
def compAllUptoRow : OpenClaim := { program := "ytajdipeebpmifaa", sum := "3a8cd21e0b5e6feee699b75481f5e95e36fb8cfbc5aa5cc3df55233f33fa92d5", func := "surety/suretylaw22.CompAll", spec := "compAll", unfollowed := true, recurses := true, loops := true, apart := false, narrowed := true }
def CompAllUptoSaid : Prop := compAllUptoRow.holds Try.pinned (OpenSpec.upto compAllSpec)

/-- 'suretylaw22.CompHeight', WHERE WHAT IT READS IS OF BULK AT MOST 1048576: true; the input reads as it did. -/
def compHeightUptoRow : OpenClaim := { program := "ytajdipeebpmifaa", sum := "3a8cd21e0b5e6feee699b75481f5e95e36fb8cfbc5aa5cc3df55233f33fa92d5", func := "surety/suretylaw22.CompHeight", spec := "compHeight", unfollowed := true, recurses := true, loops := true, apart := false, narrowed := true }
def CompHeightUptoSaid : Prop := compHeightUptoRow.holds Try.pinned (OpenSpec.upto compHeightSpec)

/-- 'suretylaw20.CoerExact', WHERE WHAT IT READS IS OF BULK AT MOST 1048576: true; the input reads as it did. -/
def coerExactUptoRow : OpenClaim := { program := "ytajdipeebpmifaa", sum := "3a8cd21e0b5e6feee699b75481f5e95e36fb8cfbc5aa5cc3df55233f33fa92d5", func := "surety/suretylaw20.CoerExact", spec := "coerExact", unfollowed := true, recurses := true, loops := true, apart := false, narrowed := true }
def CoerExactUptoSaid : Prop := coerExactUptoRow.holds Try.pinned (OpenSpec.upto coerExactSpec)

/-- 'suretylaw20.CoerParts', WHERE WHAT IT READS IS OF BULK AT MOST 1048576: true; the input reads as it did. -/
def coerPartsUptoRow : OpenClaim := { program := "ytajdipeebpmifaa", sum := "3a8cd21e0b5e6feee699b75481f5e95e36fb8cfbc5aa5cc3df55233f33fa92d5", func := "surety/suretylaw20.CoerParts", spec := "coerParts", unfollowed := true, recurses := true, loops := true, apart := false, narrowed := true }
def CoerPartsUptoSaid : Prop := coerPartsUptoRow.holds Try.pinned (OpenSpec.upto coerPartsSpec)

/-- 'suretylaw20.CoerWays', WHERE WHAT IT READS IS OF BULK AT MOST 1048576: true; the input reads as it did. -/
def coerWaysUptoRow : OpenClaim := { program := "ytajdipeebpmifaa", sum := "3a8cd21e0b5e6feee699b75481f5e95e36fb8cfbc5aa5cc3df55233f33fa92d5", func := "surety/suretylaw20.CoerWays", spec := "coerWays", unfollowed := true, recurses := true, loops := true, apart := false, narrowed := true }
def CoerWaysUptoSaid : Prop := coerWaysUptoRow.holds Try.pinned (OpenSpec.upto coerWaysSpec)

/-- 'suretylaw20.CoerEnds', WHERE WHAT IT READS IS OF BULK AT MOST 1048576: true; the input reads as it did. -/
def coerEndsUptoRow : OpenClaim := { program := "ytajdipeebpmifaa", sum := "3a8cd21e0b5e6feee699b75481f5e95e36fb8cfbc5aa5cc3df55233f33fa92d5", func := "surety/suretylaw20.CoerEnds", spec := "coerEnds", unfollowed := true, recurses := true, loops := true, apart := false, narrowed := true }
def CoerEndsUptoSaid : Prop := coerEndsUptoRow.holds Try.pinned (OpenSpec.upto coerEndsSpec)

/-- 'suretylaw21.TransExact', WHERE WHAT IT READS IS OF BULK AT MOST 1048576: true; the input reads as it did. -/
def transExactUptoRow : OpenClaim := { program := "ytajdipeebpmifaa", sum := "3a8cd21e0b5e6feee699b75481f5e95e36fb8cfbc5aa5cc3df55233f33fa92d5", func := "surety/suretylaw21.TransExact", spec := "transExact", recurses := true, loops := true, apart := false, narrowed := true }
def TransExactUptoSaid : Prop := transExactUptoRow.holds Try.pinned (OpenSpec.upto transExactSpec)

/-- 'suretylaw21.TransSubst', WHERE WHAT IT READS IS OF BULK AT MOST 1048576: true; the input reads as it did. -/
def transSubstUptoRow : OpenClaim := { program := "ytajdipeebpmifaa", sum := "3a8cd21e0b5e6feee699b75481f5e95e36fb8cfbc5aa5cc3df55233f33fa92d5", func := "surety/suretylaw21.TransSubst", spec := "transSubst", unfollowed := true, recurses := true, loops := true, apart := false, narrowed := true }
def TransSubstUptoSaid : Prop := transSubstUptoRow.holds Try.pinned (OpenSpec.upto transSubstSpec)

/-- 'suretylaw21.TransParts', WHERE WHAT IT READS IS OF BULK AT MOST 1048576: true; the input reads as it did. -/
def transPartsUptoRow : OpenClaim := { program := "ytajdipeebpmifaa", sum := "3a8cd21e0b5e6feee699b75481f5e95e36fb8cfbc5aa5cc3df55233f33fa92d5", func := "surety/suretylaw21.TransParts", spec := "transParts", unfollowed := true, recurses := true, loops := true, apart := false, narrowed := true }
def TransPartsUptoSaid : Prop := transPartsUptoRow.holds Try.pinned (OpenSpec.upto transPartsSpec)

/-- 'suretylaw21.TransLess', WHERE WHAT IT READS IS OF BULK AT MOST 1048576: true; the input reads as it did. -/
def transLessUptoRow : OpenClaim := { program := "ytajdipeebpmifaa", sum := "3a8cd21e0b5e6feee699b75481f5e95e36fb8cfbc5aa5cc3df55233f33fa92d5", func := "surety/suretylaw21.TransLess", spec := "transLess", recurses := true, loops := true, apart := false, narrowed := true }
def TransLessUptoSaid : Prop := transLessUptoRow.holds Try.pinned (OpenSpec.upto transLessSpec)

/-- 'suretylaw21.TransFits', WHERE WHAT IT READS IS OF BULK AT MOST 1048576: true; the input reads as it did. -/
def transFitsUptoRow : OpenClaim := { program := "ytajdipeebpmifaa", sum := "3a8cd21e0b5e6feee699b75481f5e95e36fb8cfbc5aa5cc3df55233f33fa92d5", func := "surety/suretylaw21.TransFits", spec := "transFits", recurses := true, loops := true, apart := false, narrowed := true }
def TransFitsUptoSaid : Prop := transFitsUptoRow.holds Try.pinned (OpenSpec.upto transFitsSpec)

/-- 'suretylaw21.TransSides', WHERE WHAT IT READS IS OF BULK AT MOST 1048576: true; the input reads as it did. -/
def transSidesUptoRow : OpenClaim := { program := "ytajdipeebpmifaa", sum := "3a8cd21e0b5e6feee699b75481f5e95e36fb8cfbc5aa5cc3df55233f33fa92d5", func := "surety/suretylaw21.TransSides", spec := "transSides", recurses := true, loops := true, apart := false, narrowed := true }
def TransSidesUptoSaid : Prop := transSidesUptoRow.holds Try.pinned (OpenSpec.upto transSidesSpec)

/-- 'suretylaw22.CompOrder', WHERE WHAT IT READS IS OF BULK AT MOST 1048576: true; the input reads as it did. -/
def compOrderUptoRow : OpenClaim := { program := "ytajdipeebpmifaa", sum := "3a8cd21e0b5e6feee699b75481f5e95e36fb8cfbc5aa5cc3df55233f33fa92d5", func := "surety/suretylaw22.CompOrder", spec := "compOrder", unfollowed := true, recurses := true, loops := true, apart := false, narrowed := true }
def CompOrderUptoSaid : Prop := compOrderUptoRow.holds Try.pinned (OpenSpec.upto compOrderSpec)

/-- 'suretylaw22.CompMeet', WHERE WHAT IT READS IS OF BULK AT MOST 1048576: true; the input reads as it did. -/
def compMeetUptoRow : OpenClaim := { program := "ytajdipeebpmifaa", sum := "3a8cd21e0b5e6feee699b75481f5e95e36fb8cfbc5aa5cc3df55233f33fa92d5", func := "surety/suretylaw22.CompMeet", spec := "compMeet", recurses := true, loops := true, apart := false, narrowed := true }
def CompMeetUptoSaid : Prop := compMeetUptoRow.holds Try.pinned (OpenSpec.upto compMeetSpec)

/-- 'suretylaw22.CompFits', WHERE WHAT IT READS IS OF BULK AT MOST 1048576: true; the input reads as it did. -/
def compFitsUptoRow : OpenClaim := { program := "ytajdipeebpmifaa", sum := "3a8cd21e0b5e6feee699b75481f5e95e36fb8cfbc5aa5cc3df55233f33fa92d5", func := "surety/suretylaw22.CompFits", spec := "compFits", recurses := true, loops := true, apart := false, narrowed := true }
def CompFitsUptoSaid : Prop := compFitsUptoRow.holds Try.pinned (OpenSpec.upto compFitsSpec)

/-- 'suretylaw22.CompBack', WHERE WHAT IT READS IS OF BULK AT MOST 1048576: true; the input reads as it did. -/
def compBackUptoRow : OpenClaim := { program := "ytajdipeebpmifaa", sum := "3a8cd21e0b5e6feee699b75481f5e95e36fb8cfbc5aa5cc3df55233f33fa92d5", func := "surety/suretylaw22.CompBack", spec := "compBack", recurses := true, loops := true, apart := false, narrowed := true }
def CompBackUptoSaid : Prop := compBackUptoRow.holds Try.pinned (OpenSpec.upto compBackSpec)

/-- 'suretylaw23.ValExact', WHERE WHAT IT READS IS OF BULK AT MOST 1048576: true; the input reads as it did. -/
def valExactUptoRow : OpenClaim := { program := "ytajdipeebpmifaa", sum := "3a8cd21e0b5e6feee699b75481f5e95e36fb8cfbc5aa5cc3df55233f33fa92d5", func := "surety/suretylaw23.ValExact", spec := "valExact", unfollowed := true, recurses := true, loops := true, apart := false, narrowed := true }
def ValExactUptoSaid : Prop := valExactUptoRow.holds Try.pinned (OpenSpec.upto valExactSpec)

/-- 'suretylaw23.ValMatch', WHERE WHAT IT READS IS OF BULK AT MOST 1048576: true; the input reads as it did. -/
def valMatchUptoRow : OpenClaim := { program := "ytajdipeebpmifaa", sum := "3a8cd21e0b5e6feee699b75481f5e95e36fb8cfbc5aa5cc3df55233f33fa92d5", func := "surety/suretylaw23.ValMatch", spec := "valMatch", unfollowed := true, recurses := true, loops := true, apart := false, narrowed := true }
def ValMatchUptoSaid : Prop := valMatchUptoRow.holds Try.pinned (OpenSpec.upto valMatchSpec)

/-- 'suretylaw23.ValTwice', WHERE WHAT IT READS IS OF BULK AT MOST 1048576: true; the input reads as it did. -/
def valTwiceUptoRow : OpenClaim := { program := "ytajdipeebpmifaa", sum := "3a8cd21e0b5e6feee699b75481f5e95e36fb8cfbc5aa5cc3df55233f33fa92d5", func := "surety/suretylaw23.ValTwice", spec := "valTwice", unfollowed := true, recurses := true, loops := true, apart := false, narrowed := true }
def ValTwiceUptoSaid : Prop := valTwiceUptoRow.holds Try.pinned (OpenSpec.upto valTwiceSpec)

/-- 'suretylaw23.ValUp', WHERE WHAT IT READS IS OF BULK AT MOST 1048576: true; the input reads as it did. -/
def valUpUptoRow : OpenClaim := { program := "ytajdipeebpmifaa", sum := "3a8cd21e0b5e6feee699b75481f5e95e36fb8cfbc5aa5cc3df55233f33fa92d5", func := "surety/suretylaw23.ValUp", spec := "valUp", unfollowed := true, recurses := true, loops := true, apart := false, narrowed := true }
def ValUpUptoSaid : Prop := valUpUptoRow.holds Try.pinned (OpenSpec.upto valUpSpec)

/-- 'suretylaw23.ValHas', WHERE WHAT IT READS IS OF BULK AT MOST 1048576: true; the input reads as it did. -/
def valHasUptoRow : OpenClaim := { program := "ytajdipeebpmifaa", sum := "3a8cd21e0b5e6feee699b75481f5e95e36fb8cfbc5aa5cc3df55233f33fa92d5", func := "surety/suretylaw23.ValHas", spec := "valHas", unfollowed := true, recurses := true, loops := true, apart := false, narrowed := true }
def ValHasUptoSaid : Prop := valHasUptoRow.holds Try.pinned (OpenSpec.upto valHasSpec)

/-- 'suretylaw23.ValWrap', WHERE WHAT IT READS IS OF BULK AT MOST 1048576: true; the input reads as it did. -/
def valWrapUptoRow : OpenClaim := { program := "ytajdipeebpmifaa", sum := "3a8cd21e0b5e6feee699b75481f5e95e36fb8cfbc5aa5cc3df55233f33fa92d5", func := "surety/suretylaw23.ValWrap", spec := "valWrap", unfollowed := true, recurses := true, loops := true, apart := false, narrowed := true }
def ValWrapUptoSaid : Prop := valWrapUptoRow.holds Try.pinned (OpenSpec.upto valWrapSpec)

/-- 'suretylaw23.ValParts', WHERE WHAT IT READS IS OF BULK AT MOST 1048576: true; the input reads as it did. -/
def valPartsUptoRow : OpenClaim := { program := "ytajdipeebpmifaa", sum := "3a8cd21e0b5e6feee699b75481f5e95e36fb8cfbc5aa5cc3df55233f33fa92d5", func := "surety/suretylaw23.ValParts", spec := "valParts", unfollowed := true, recurses := true, loops := true, apart := false, narrowed := true }
def ValPartsUptoSaid : Prop := valPartsUptoRow.holds Try.pinned (OpenSpec.upto valPartsSpec)

end Rows
end Go.Proofs.Ytajdipeebpmifaa
