/-
  NARROWER THAN 'FOR EVERY INPUT', by the rows' own cells (each row's printed sentence says how): StoreLinks: loops · StoreLevels: loops · StoreCopy: loops · StoreRead: loops · SolveDyn: loops · SolvePlays: loops · SolveClosed: loops · StorePlays: loops · SolveSound: loops · SolveBoth: loops · SolveComplete: loops · PatsExact: loops · PatsParts: loops · PatsOpen: loops · PatsFit: loops.
  DERIVED. THE GIVEN ROWS OF THIS SEAT. 16 by the template 'for every input the law returns true; each argument reads behind the call as it read before'; 0 by the template 'total and deterministic' (their statements: YtdngjamjccjlmaaTotals.lean).
  GIVEN WITH THE SEED: the statements are not yours to turn. If you find one false, say at which input.
  Laid BY PROGRAM, IN A SANDBOX (cutbox-rows.mjs): the forced cells as the released guide's own fill.sh prints them over the translation 2fee845e201fb7aa… (all of the seat's roots in one cut). By AI agents, Wed Nov 11 2026. No macro, syntax, notation, axiom, sorry.
-/
import Derived.Test.YtdngjamjccjlmaaChecked
import GoSem.Claim
import GoSem.ClaimJoined
import GoSem.ClaimMapViews
import Derived.JoinedTies
import Derived.KernelRfl
namespace Go.Proofs.Ytdngjamjccjlmaa
/- THE CELL 'sum', in the pinned program and in every row, IS THE sha256 OF THE DUMP (.gsa) THAT YtdngjamjccjlmaaProg.lean LOADS. Nothing in Lean hashes anything: it is a label: what it is worth is what the hold of that sum in a sandbox is worth. -/
noncomputable def Try.pinned : Pinned := { name := "ytdngjamjccjlmaa", sum := "2fee845e201fb7aacb4fdf07e2533394e7cf57f65e53623841c5742616486850", checked := Try.checked }
namespace Rows
def none {H : Type} : Left H := { results := [], args := [] }

/-- 'suretylaw12.StoreLinks': WHATEVER THE INPUT: true; the input reads as it did. -/
def storeLinksSpec : ChangeSpec := { name := "storeLinks", fn := fun _ => fun
  | [d1, d2, d3] => { results := [.lit (.bool true)], args := [d1, d2, d3] }
  | _ => none }
def storeLinksRow : OpenClaim := { program := "ytdngjamjccjlmaa", sum := "2fee845e201fb7aacb4fdf07e2533394e7cf57f65e53623841c5742616486850", func := "surety/suretylaw12.StoreLinks", spec := "storeLinks", recurses := true, loops := true, apart := false }
def StoreLinksSaid : Prop := storeLinksRow.holds Try.pinned (OpenSpec.ofChange storeLinksSpec)

/-- ITS FALSE NEIGHBOUR: 'it returns false'. Refute it at one input. -/
def storeLinksWrong : ChangeSpec := { name := "storeLinks", fn := fun _ => fun
  | [d1, d2, d3] => { results := [.lit (.bool false)], args := [d1, d2, d3] }
  | _ => none }
def StoreLinksWrongFalsely : Prop := storeLinksRow.holds Try.pinned (OpenSpec.ofChange storeLinksWrong)

/-- 'suretylaw12.StoreLimit': WHATEVER THE INPUT: true; the input reads as it did. -/
def storeLimitSpec : ChangeSpec := { name := "storeLimit", fn := fun _ => fun
  | [d1, d2] => { results := [.lit (.bool true)], args := [d1, d2] }
  | _ => none }
def storeLimitRow : OpenClaim := { program := "ytdngjamjccjlmaa", sum := "2fee845e201fb7aacb4fdf07e2533394e7cf57f65e53623841c5742616486850", func := "surety/suretylaw12.StoreLimit", spec := "storeLimit", recurses := true, apart := false }
def StoreLimitSaid : Prop := storeLimitRow.holds Try.pinned (OpenSpec.ofChange storeLimitSpec)

/-- ITS FALSE NEIGHBOUR: 'it returns false'. Refute it at one input. -/
def storeLimitWrong : ChangeSpec := { name := "storeLimit", fn := fun _ => fun
  | [d1, d2] => { results := [.lit (.bool false)], args := [d1, d2] }
  | _ => none }
def StoreLimitWrongFalsely : Prop := storeLimitRow.holds Try.pinned (OpenSpec.ofChange storeLimitWrong)

/-- 'suretylaw12.StoreLevels': WHATEVER THE INPUT: true; the input reads as it did. -/
def storeLevelsSpec : ChangeSpec := { name := "storeLevels", fn := fun _ => fun
  | [d1, d2, d3, d4, d5] => { results := [.lit (.bool true)], args := [d1, d2, d3, d4, d5] }
  | _ => none }
def storeLevelsRow : OpenClaim := { program := "ytdngjamjccjlmaa", sum := "2fee845e201fb7aacb4fdf07e2533394e7cf57f65e53623841c5742616486850", func := "surety/suretylaw12.StoreLevels", spec := "storeLevels", recurses := true, loops := true, apart := false }
def StoreLevelsSaid : Prop := storeLevelsRow.holds Try.pinned (OpenSpec.ofChange storeLevelsSpec)

/-- ITS FALSE NEIGHBOUR: 'it returns false'. Refute it at one input. -/
def storeLevelsWrong : ChangeSpec := { name := "storeLevels", fn := fun _ => fun
  | [d1, d2, d3, d4, d5] => { results := [.lit (.bool false)], args := [d1, d2, d3, d4, d5] }
  | _ => none }
def StoreLevelsWrongFalsely : Prop := storeLevelsRow.holds Try.pinned (OpenSpec.ofChange storeLevelsWrong)

/-- 'suretylaw12.StoreCopy': WHATEVER THE INPUT: true; the input reads as it did. -/
def storeCopySpec : ChangeSpec := { name := "storeCopy", fn := fun _ => fun
  | [d1, d2] => { results := [.lit (.bool true)], args := [d1, d2] }
  | _ => none }
def storeCopyRow : OpenClaim := { program := "ytdngjamjccjlmaa", sum := "2fee845e201fb7aacb4fdf07e2533394e7cf57f65e53623841c5742616486850", func := "surety/suretylaw12.StoreCopy", spec := "storeCopy", recurses := true, loops := true, apart := false }
def StoreCopySaid : Prop := storeCopyRow.holds Try.pinned (OpenSpec.ofChange storeCopySpec)

/-- ITS FALSE NEIGHBOUR: 'it returns false'. Refute it at one input. -/
def storeCopyWrong : ChangeSpec := { name := "storeCopy", fn := fun _ => fun
  | [d1, d2] => { results := [.lit (.bool false)], args := [d1, d2] }
  | _ => none }
def StoreCopyWrongFalsely : Prop := storeCopyRow.holds Try.pinned (OpenSpec.ofChange storeCopyWrong)

/-- 'suretylaw12.StoreRead': WHATEVER THE INPUT: true; the input reads as it did. -/
def storeReadSpec : ChangeSpec := { name := "storeRead", fn := fun _ => fun
  | [d1, d2] => { results := [.lit (.bool true)], args := [d1, d2] }
  | _ => none }
def storeReadRow : OpenClaim := { program := "ytdngjamjccjlmaa", sum := "2fee845e201fb7aacb4fdf07e2533394e7cf57f65e53623841c5742616486850", func := "surety/suretylaw12.StoreRead", spec := "storeRead", recurses := true, loops := true, apart := false }
def StoreReadSaid : Prop := storeReadRow.holds Try.pinned (OpenSpec.ofChange storeReadSpec)

/-- ITS FALSE NEIGHBOUR: 'it returns false'. Refute it at one input. -/
def storeReadWrong : ChangeSpec := { name := "storeRead", fn := fun _ => fun
  | [d1, d2] => { results := [.lit (.bool false)], args := [d1, d2] }
  | _ => none }
def StoreReadWrongFalsely : Prop := storeReadRow.holds Try.pinned (OpenSpec.ofChange storeReadWrong)

/-- 'suretylaw13.SolveDyn': WHATEVER THE INPUT: true; the input reads as it did. -/
def solveDynSpec : ChangeSpec := { name := "solveDyn", fn := fun _ => fun
  | [d1, d2, d3] => { results := [.lit (.bool true)], args := [d1, d2, d3] }
  | _ => none }
def solveDynRow : OpenClaim := { program := "ytdngjamjccjlmaa", sum := "2fee845e201fb7aacb4fdf07e2533394e7cf57f65e53623841c5742616486850", func := "surety/suretylaw13.SolveDyn", spec := "solveDyn", recurses := true, loops := true, apart := false }
def SolveDynSaid : Prop := solveDynRow.holds Try.pinned (OpenSpec.ofChange solveDynSpec)

/-- ITS FALSE NEIGHBOUR: 'it returns false'. Refute it at one input. -/
def solveDynWrong : ChangeSpec := { name := "solveDyn", fn := fun _ => fun
  | [d1, d2, d3] => { results := [.lit (.bool false)], args := [d1, d2, d3] }
  | _ => none }
def SolveDynWrongFalsely : Prop := solveDynRow.holds Try.pinned (OpenSpec.ofChange solveDynWrong)

/-- 'suretylaw13.SolvePlays': WHATEVER THE INPUT: true; the input reads as it did. -/
def solvePlaysSpec : ChangeSpec := { name := "solvePlays", fn := fun _ => fun
  | [d1, d2, d3] => { results := [.lit (.bool true)], args := [d1, d2, d3] }
  | _ => none }
def solvePlaysRow : OpenClaim := { program := "ytdngjamjccjlmaa", sum := "2fee845e201fb7aacb4fdf07e2533394e7cf57f65e53623841c5742616486850", func := "surety/suretylaw13.SolvePlays", spec := "solvePlays", recurses := true, loops := true, apart := false }
def SolvePlaysSaid : Prop := solvePlaysRow.holds Try.pinned (OpenSpec.ofChange solvePlaysSpec)

/-- ITS FALSE NEIGHBOUR: 'it returns false'. Refute it at one input. -/
def solvePlaysWrong : ChangeSpec := { name := "solvePlays", fn := fun _ => fun
  | [d1, d2, d3] => { results := [.lit (.bool false)], args := [d1, d2, d3] }
  | _ => none }
def SolvePlaysWrongFalsely : Prop := solvePlaysRow.holds Try.pinned (OpenSpec.ofChange solvePlaysWrong)

/-- 'suretylaw13.SolveClosed': WHATEVER THE INPUT: true; the input reads as it did. -/
def solveClosedSpec : ChangeSpec := { name := "solveClosed", fn := fun _ => fun
  | [d1, d2] => { results := [.lit (.bool true)], args := [d1, d2] }
  | _ => none }
def solveClosedRow : OpenClaim := { program := "ytdngjamjccjlmaa", sum := "2fee845e201fb7aacb4fdf07e2533394e7cf57f65e53623841c5742616486850", func := "surety/suretylaw13.SolveClosed", spec := "solveClosed", recurses := true, loops := true, apart := false }
def SolveClosedSaid : Prop := solveClosedRow.holds Try.pinned (OpenSpec.ofChange solveClosedSpec)

/-- ITS FALSE NEIGHBOUR: 'it returns false'. Refute it at one input. -/
def solveClosedWrong : ChangeSpec := { name := "solveClosed", fn := fun _ => fun
  | [d1, d2] => { results := [.lit (.bool false)], args := [d1, d2] }
  | _ => none }
def SolveClosedWrongFalsely : Prop := solveClosedRow.holds Try.pinned (OpenSpec.ofChange solveClosedWrong)

/-- 'suretylaw12.StorePlays': WHATEVER THE INPUT: true; the input reads as it did. -/
def storePlaysSpec : ChangeSpec := { name := "storePlays", fn := fun _ => fun
  | [d1, d2] => { results := [.lit (.bool true)], args := [d1, d2] }
  | _ => none }
def storePlaysRow : OpenClaim := { program := "ytdngjamjccjlmaa", sum := "2fee845e201fb7aacb4fdf07e2533394e7cf57f65e53623841c5742616486850", func := "surety/suretylaw12.StorePlays", spec := "storePlays", recurses := true, loops := true, apart := false }
def StorePlaysSaid : Prop := storePlaysRow.holds Try.pinned (OpenSpec.ofChange storePlaysSpec)

/-- ITS FALSE NEIGHBOUR: 'it returns false'. Refute it at one input. -/
def storePlaysWrong : ChangeSpec := { name := "storePlays", fn := fun _ => fun
  | [d1, d2] => { results := [.lit (.bool false)], args := [d1, d2] }
  | _ => none }
def StorePlaysWrongFalsely : Prop := storePlaysRow.holds Try.pinned (OpenSpec.ofChange storePlaysWrong)

/-- 'suretylaw13.SolveSound': WHATEVER THE INPUT: true; the input reads as it did. -/
def solveSoundSpec : ChangeSpec := { name := "solveSound", fn := fun _ => fun
  | [d1, d2] => { results := [.lit (.bool true)], args := [d1, d2] }
  | _ => none }
def solveSoundRow : OpenClaim := { program := "ytdngjamjccjlmaa", sum := "2fee845e201fb7aacb4fdf07e2533394e7cf57f65e53623841c5742616486850", func := "surety/suretylaw13.SolveSound", spec := "solveSound", recurses := true, loops := true, apart := false }
def SolveSoundSaid : Prop := solveSoundRow.holds Try.pinned (OpenSpec.ofChange solveSoundSpec)

/-- ITS FALSE NEIGHBOUR: 'it returns false'. Refute it at one input. -/
def solveSoundWrong : ChangeSpec := { name := "solveSound", fn := fun _ => fun
  | [d1, d2] => { results := [.lit (.bool false)], args := [d1, d2] }
  | _ => none }
def SolveSoundWrongFalsely : Prop := solveSoundRow.holds Try.pinned (OpenSpec.ofChange solveSoundWrong)

/-- 'suretylaw13.SolveBoth': WHATEVER THE INPUT: true; the input reads as it did. -/
def solveBothSpec : ChangeSpec := { name := "solveBoth", fn := fun _ => fun
  | [d1, d2] => { results := [.lit (.bool true)], args := [d1, d2] }
  | _ => none }
def solveBothRow : OpenClaim := { program := "ytdngjamjccjlmaa", sum := "2fee845e201fb7aacb4fdf07e2533394e7cf57f65e53623841c5742616486850", func := "surety/suretylaw13.SolveBoth", spec := "solveBoth", recurses := true, loops := true, apart := false }
def SolveBothSaid : Prop := solveBothRow.holds Try.pinned (OpenSpec.ofChange solveBothSpec)

/-- ITS FALSE NEIGHBOUR: 'it returns false'. Refute it at one input. -/
def solveBothWrong : ChangeSpec := { name := "solveBoth", fn := fun _ => fun
  | [d1, d2] => { results := [.lit (.bool false)], args := [d1, d2] }
  | _ => none }
def SolveBothWrongFalsely : Prop := solveBothRow.holds Try.pinned (OpenSpec.ofChange solveBothWrong)

/-- 'suretylaw13.SolveComplete': WHATEVER THE INPUT: true; the input reads as it did. -/
def solveCompleteSpec : ChangeSpec := { name := "solveComplete", fn := fun _ => fun
  | [d1, d2] => { results := [.lit (.bool true)], args := [d1, d2] }
  | _ => none }
def solveCompleteRow : OpenClaim := { program := "ytdngjamjccjlmaa", sum := "2fee845e201fb7aacb4fdf07e2533394e7cf57f65e53623841c5742616486850", func := "surety/suretylaw13.SolveComplete", spec := "solveComplete", recurses := true, loops := true, apart := false }
def SolveCompleteSaid : Prop := solveCompleteRow.holds Try.pinned (OpenSpec.ofChange solveCompleteSpec)

/-- ITS FALSE NEIGHBOUR: 'it returns false'. Refute it at one input. -/
def solveCompleteWrong : ChangeSpec := { name := "solveComplete", fn := fun _ => fun
  | [d1, d2] => { results := [.lit (.bool false)], args := [d1, d2] }
  | _ => none }
def SolveCompleteWrongFalsely : Prop := solveCompleteRow.holds Try.pinned (OpenSpec.ofChange solveCompleteWrong)

/-- 'suretylaw14.PatsExact': WHATEVER THE INPUT: true; the input reads as it did. -/
def patsExactSpec : ChangeSpec := { name := "patsExact", fn := fun _ => fun
  | [d1, d2] => { results := [.lit (.bool true)], args := [d1, d2] }
  | _ => none }
def patsExactRow : OpenClaim := { program := "ytdngjamjccjlmaa", sum := "2fee845e201fb7aacb4fdf07e2533394e7cf57f65e53623841c5742616486850", func := "surety/suretylaw14.PatsExact", spec := "patsExact", unfollowed := true, recurses := true, loops := true, apart := false }
def PatsExactSaid : Prop := patsExactRow.holds Try.pinned (OpenSpec.ofChange patsExactSpec)

/-- ITS FALSE NEIGHBOUR: 'it returns false'. Refute it at one input. -/
def patsExactWrong : ChangeSpec := { name := "patsExact", fn := fun _ => fun
  | [d1, d2] => { results := [.lit (.bool false)], args := [d1, d2] }
  | _ => none }
def PatsExactWrongFalsely : Prop := patsExactRow.holds Try.pinned (OpenSpec.ofChange patsExactWrong)

/-- 'suretylaw14.PatsParts': WHATEVER THE INPUT: true; the input reads as it did. -/
def patsPartsSpec : ChangeSpec := { name := "patsParts", fn := fun _ => fun
  | [d1, d2, d3, d4] => { results := [.lit (.bool true)], args := [d1, d2, d3, d4] }
  | _ => none }
def patsPartsRow : OpenClaim := { program := "ytdngjamjccjlmaa", sum := "2fee845e201fb7aacb4fdf07e2533394e7cf57f65e53623841c5742616486850", func := "surety/suretylaw14.PatsParts", spec := "patsParts", unfollowed := true, recurses := true, loops := true, apart := false }
def PatsPartsSaid : Prop := patsPartsRow.holds Try.pinned (OpenSpec.ofChange patsPartsSpec)

/-- ITS FALSE NEIGHBOUR: 'it returns false'. Refute it at one input. -/
def patsPartsWrong : ChangeSpec := { name := "patsParts", fn := fun _ => fun
  | [d1, d2, d3, d4] => { results := [.lit (.bool false)], args := [d1, d2, d3, d4] }
  | _ => none }
def PatsPartsWrongFalsely : Prop := patsPartsRow.holds Try.pinned (OpenSpec.ofChange patsPartsWrong)

/-- 'suretylaw14.PatsOpen': WHATEVER THE INPUT: true; the input reads as it did. -/
def patsOpenSpec : ChangeSpec := { name := "patsOpen", fn := fun _ => fun
  | [d1, d2] => { results := [.lit (.bool true)], args := [d1, d2] }
  | _ => none }
def patsOpenRow : OpenClaim := { program := "ytdngjamjccjlmaa", sum := "2fee845e201fb7aacb4fdf07e2533394e7cf57f65e53623841c5742616486850", func := "surety/suretylaw14.PatsOpen", spec := "patsOpen", unfollowed := true, recurses := true, loops := true, apart := false }
def PatsOpenSaid : Prop := patsOpenRow.holds Try.pinned (OpenSpec.ofChange patsOpenSpec)

/-- ITS FALSE NEIGHBOUR: 'it returns false'. Refute it at one input. -/
def patsOpenWrong : ChangeSpec := { name := "patsOpen", fn := fun _ => fun
  | [d1, d2] => { results := [.lit (.bool false)], args := [d1, d2] }
  | _ => none }
def PatsOpenWrongFalsely : Prop := patsOpenRow.holds Try.pinned (OpenSpec.ofChange patsOpenWrong)

/-- 'suretylaw14.PatsFit': WHATEVER THE INPUT: true; the input reads as it did. -/
def patsFitSpec : ChangeSpec := { name := "patsFit", fn := fun _ => fun
  | [d1, d2] => { results := [.lit (.bool true)], args := [d1, d2] }
  | _ => none }
def patsFitRow : OpenClaim := { program := "ytdngjamjccjlmaa", sum := "2fee845e201fb7aacb4fdf07e2533394e7cf57f65e53623841c5742616486850", func := "surety/suretylaw14.PatsFit", spec := "patsFit", unfollowed := true, recurses := true, loops := true, apart := false }
def PatsFitSaid : Prop := patsFitRow.holds Try.pinned (OpenSpec.ofChange patsFitSpec)

/-- ITS FALSE NEIGHBOUR: 'it returns false'. Refute it at one input. -/
def patsFitWrong : ChangeSpec := { name := "patsFit", fn := fun _ => fun
  | [d1, d2] => { results := [.lit (.bool false)], args := [d1, d2] }
  | _ => none }
def PatsFitWrongFalsely : Prop := patsFitRow.holds Try.pinned (OpenSpec.ofChange patsFitWrong)

/- THE SECOND FORM. 'bulk': how many values and letters a reading holds, each counted each time it is reached (what is shared counts as often as it is met; a slice's spare places count too). A statement '..UptoSaid' is the law's where the arguments, and the package variables that the reading takes, are together of bulk at most 1048576: NARROWER than '..Said'. Prove '..Said' where nothing that the law and all that it calls make is longer than what came in: it says more and counts as full. Else prove '..UptoSaid'. A law counts once. -/
mutual
def uptoBulk {H : Type} : DataW H → Nat
  | .lit (.string bytes) => bytes.length + 1
  | .lit _ => 1
  | .nil => 1
  | .ptr d => uptoBulk d + 1
  | .slice elems spare => uptoBulkAll elems + uptoBulkAll spare + 1
  | .agg parts => uptoBulkAll parts + 1
  | .iface _ d => uptoBulk d + 1
  | .map entries => uptoBulkEntries entries + 1
  | .held _ => 1
def uptoBulkAll {H : Type} : List (DataW H) → Nat
  | [] => 0
  | d :: r => uptoBulk d + uptoBulkAll r
def uptoBulkEntries {H : Type} : List (Lit × DataW H) → Nat
  | [] => 0
  | x :: r => uptoBulkEntry x + uptoBulkEntries r
def uptoBulkEntry {H : Type} : Lit × DataW H → Nat
  | (.string bytes, d) => bytes.length + uptoBulk d + 1
  | (_, d) => uptoBulk d + 1
 end
def uptoSmall : (H : Type) → List (DataW H) → Bool := fun _ ds => decide (uptoBulkAll ds ≤ 1048576)
def OpenSpec.upto (s : _root_.Go.ChangeSpec) : _root_.Go.OpenSpec := { _root_.Go.OpenSpec.ofChange s with cond := some uptoSmall }

/-- 'suretylaw12.StoreLinks', WHERE WHAT IT READS IS OF BULK AT MOST 1048576: true; the input reads as it did. -/
def storeLinksUptoRow : OpenClaim := { program := "ytdngjamjccjlmaa", sum := "2fee845e201fb7aacb4fdf07e2533394e7cf57f65e53623841c5742616486850", func := "surety/suretylaw12.StoreLinks", spec := "storeLinks", recurses := true, loops := true, apart := false, narrowed := true }
def StoreLinksUptoSaid : Prop := storeLinksUptoRow.holds Try.pinned (OpenSpec.upto storeLinksSpec)

/-- 'suretylaw12.StoreLimit', WHERE WHAT IT READS IS OF BULK AT MOST 1048576: true; the input reads as it did. -/
def storeLimitUptoRow : OpenClaim := { program := "ytdngjamjccjlmaa", sum := "2fee845e201fb7aacb4fdf07e2533394e7cf57f65e53623841c5742616486850", func := "surety/suretylaw12.StoreLimit", spec := "storeLimit", recurses := true, apart := false, narrowed := true }
def StoreLimitUptoSaid : Prop := storeLimitUptoRow.holds Try.pinned (OpenSpec.upto storeLimitSpec)

/-- 'suretylaw12.StoreLevels', WHERE WHAT IT READS IS OF BULK AT MOST 1048576: true; the input reads as it did. -/
def storeLevelsUptoRow : OpenClaim := { program := "ytdngjamjccjlmaa", sum := "2fee845e201fb7aacb4fdf07e2533394e7cf57f65e53623841c5742616486850", func := "surety/suretylaw12.StoreLevels", spec := "storeLevels", recurses := true, loops := true, apart := false, narrowed := true }
def StoreLevelsUptoSaid : Prop := storeLevelsUptoRow.holds Try.pinned (OpenSpec.upto storeLevelsSpec)

/-- 'suretylaw12.StoreCopy', WHERE WHAT IT READS IS OF BULK AT MOST 1048576: true; the input reads as it did. -/
def storeCopyUptoRow : OpenClaim := { program := "ytdngjamjccjlmaa", sum := "2fee845e201fb7aacb4fdf07e2533394e7cf57f65e53623841c5742616486850", func := "surety/suretylaw12.StoreCopy", spec := "storeCopy", recurses := true, loops := true, apart := false, narrowed := true }
def StoreCopyUptoSaid : Prop := storeCopyUptoRow.holds Try.pinned (OpenSpec.upto storeCopySpec)

/-- 'suretylaw12.StoreRead', WHERE WHAT IT READS IS OF BULK AT MOST 1048576: true; the input reads as it did. -/
def storeReadUptoRow : OpenClaim := { program := "ytdngjamjccjlmaa", sum := "2fee845e201fb7aacb4fdf07e2533394e7cf57f65e53623841c5742616486850", func := "surety/suretylaw12.StoreRead", spec := "storeRead", recurses := true, loops := true, apart := false, narrowed := true }
def StoreReadUptoSaid : Prop := storeReadUptoRow.holds Try.pinned (OpenSpec.upto storeReadSpec)

/-- 'suretylaw13.SolveDyn', WHERE WHAT IT READS IS OF BULK AT MOST 1048576: true; the input reads as it did. -/
def solveDynUptoRow : OpenClaim := { program := "ytdngjamjccjlmaa", sum := "2fee845e201fb7aacb4fdf07e2533394e7cf57f65e53623841c5742616486850", func := "surety/suretylaw13.SolveDyn", spec := "solveDyn", recurses := true, loops := true, apart := false, narrowed := true }
def SolveDynUptoSaid : Prop := solveDynUptoRow.holds Try.pinned (OpenSpec.upto solveDynSpec)

/-- 'suretylaw13.SolvePlays', WHERE WHAT IT READS IS OF BULK AT MOST 1048576: true; the input reads as it did. -/
def solvePlaysUptoRow : OpenClaim := { program := "ytdngjamjccjlmaa", sum := "2fee845e201fb7aacb4fdf07e2533394e7cf57f65e53623841c5742616486850", func := "surety/suretylaw13.SolvePlays", spec := "solvePlays", recurses := true, loops := true, apart := false, narrowed := true }
def SolvePlaysUptoSaid : Prop := solvePlaysUptoRow.holds Try.pinned (OpenSpec.upto solvePlaysSpec)

/-- 'suretylaw13.SolveClosed', WHERE WHAT IT READS IS OF BULK AT MOST 1048576: true; the input reads as it did. -/
def solveClosedUptoRow : OpenClaim := { program := "ytdngjamjccjlmaa", sum := "2fee845e201fb7aacb4fdf07e2533394e7cf57f65e53623841c5742616486850", func := "surety/suretylaw13.SolveClosed", spec := "solveClosed", recurses := true, loops := true, apart := false, narrowed := true }
def SolveClosedUptoSaid : Prop := solveClosedUptoRow.holds Try.pinned (OpenSpec.upto solveClosedSpec)

/-- 'suretylaw12.StorePlays', WHERE WHAT IT READS IS OF BULK AT MOST 1048576: true; the input reads as it did. -/
def storePlaysUptoRow : OpenClaim := { program := "ytdngjamjccjlmaa", sum := "2fee845e201fb7aacb4fdf07e2533394e7cf57f65e53623841c5742616486850", func := "surety/suretylaw12.StorePlays", spec := "storePlays", recurses := true, loops := true, apart := false, narrowed := true }
def StorePlaysUptoSaid : Prop := storePlaysUptoRow.holds Try.pinned (OpenSpec.upto storePlaysSpec)

/-- 'suretylaw13.SolveSound', WHERE WHAT IT READS IS OF BULK AT MOST 1048576: true; the input reads as it did. -/
def solveSoundUptoRow : OpenClaim := { program := "ytdngjamjccjlmaa", sum := "2fee845e201fb7aacb4fdf07e2533394e7cf57f65e53623841c5742616486850", func := "surety/suretylaw13.SolveSound", spec := "solveSound", recurses := true, loops := true, apart := false, narrowed := true }
def SolveSoundUptoSaid : Prop := solveSoundUptoRow.holds Try.pinned (OpenSpec.upto solveSoundSpec)

/-- 'suretylaw13.SolveBoth', WHERE WHAT IT READS IS OF BULK AT MOST 1048576: true; the input reads as it did. -/
def solveBothUptoRow : OpenClaim := { program := "ytdngjamjccjlmaa", sum := "2fee845e201fb7aacb4fdf07e2533394e7cf57f65e53623841c5742616486850", func := "surety/suretylaw13.SolveBoth", spec := "solveBoth", recurses := true, loops := true, apart := false, narrowed := true }
def SolveBothUptoSaid : Prop := solveBothUptoRow.holds Try.pinned (OpenSpec.upto solveBothSpec)

/-- 'suretylaw13.SolveComplete', WHERE WHAT IT READS IS OF BULK AT MOST 1048576: true; the input reads as it did. -/
def solveCompleteUptoRow : OpenClaim := { program := "ytdngjamjccjlmaa", sum := "2fee845e201fb7aacb4fdf07e2533394e7cf57f65e53623841c5742616486850", func := "surety/suretylaw13.SolveComplete", spec := "solveComplete", recurses := true, loops := true, apart := false, narrowed := true }
def SolveCompleteUptoSaid : Prop := solveCompleteUptoRow.holds Try.pinned (OpenSpec.upto solveCompleteSpec)

/-- 'suretylaw14.PatsExact', WHERE WHAT IT READS IS OF BULK AT MOST 1048576: true; the input reads as it did. -/
def patsExactUptoRow : OpenClaim := { program := "ytdngjamjccjlmaa", sum := "2fee845e201fb7aacb4fdf07e2533394e7cf57f65e53623841c5742616486850", func := "surety/suretylaw14.PatsExact", spec := "patsExact", unfollowed := true, recurses := true, loops := true, apart := false, narrowed := true }
def PatsExactUptoSaid : Prop := patsExactUptoRow.holds Try.pinned (OpenSpec.upto patsExactSpec)

/-- 'suretylaw14.PatsParts', WHERE WHAT IT READS IS OF BULK AT MOST 1048576: true; the input reads as it did. -/
def patsPartsUptoRow : OpenClaim := { program := "ytdngjamjccjlmaa", sum := "2fee845e201fb7aacb4fdf07e2533394e7cf57f65e53623841c5742616486850", func := "surety/suretylaw14.PatsParts", spec := "patsParts", unfollowed := true, recurses := true, loops := true, apart := false, narrowed := true }
def PatsPartsUptoSaid : Prop := patsPartsUptoRow.holds Try.pinned (OpenSpec.upto patsPartsSpec)

/-- 'suretylaw14.PatsOpen', WHERE WHAT IT READS IS OF BULK AT MOST 1048576: true; the input reads as it did. -/
def patsOpenUptoRow : OpenClaim := { program := "ytdngjamjccjlmaa", sum := "2fee845e201fb7aacb4fdf07e2533394e7cf57f65e53623841c5742616486850", func := "surety/suretylaw14.PatsOpen", spec := "patsOpen", unfollowed := true, recurses := true, loops := true, apart := false, narrowed := true }
def PatsOpenUptoSaid : Prop := patsOpenUptoRow.holds Try.pinned (OpenSpec.upto patsOpenSpec)

/-- 'suretylaw14.PatsFit', WHERE WHAT IT READS IS OF BULK AT MOST 1048576: true; the input reads as it did. -/
def patsFitUptoRow : OpenClaim := { program := "ytdngjamjccjlmaa", sum := "2fee845e201fb7aacb4fdf07e2533394e7cf57f65e53623841c5742616486850", func := "surety/suretylaw14.PatsFit", spec := "patsFit", unfollowed := true, recurses := true, loops := true, apart := false, narrowed := true }
def PatsFitUptoSaid : Prop := patsFitUptoRow.holds Try.pinned (OpenSpec.upto patsFitSpec)

end Rows
end Go.Proofs.Ytdngjamjccjlmaa
