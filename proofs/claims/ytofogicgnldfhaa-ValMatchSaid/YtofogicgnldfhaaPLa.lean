/- Lemmas: how a law is said. No condition. -/
import Derived.Test.YtofogicgnldfhaaRows
import Derived.Test.YtofogicgnldfhaaEmb
import Derived.Test.YtofogicgnldfhaaPAb
import Derived.ProofKit

section
/- Arguments of laws as trees. No condition. -/
set_option linter.unusedSimpArgs false
set_option maxRecDepth 100000
namespace Go.Proofs.Ytofogicgnldfhaa
open Go Go.Ab

theorem law_own : ownKnob Try.prog.godebug = none := by kernel_rfl
theorem law_laid : laidOutB Try.prog = true := by kernel_rfl

def tySet : List Nat := [3, 4, 9, 30, 28, 69]
theorem shp_int {n : Nat} {cs : List AV} (h : Shp C n 3 cs) : ∃ m, cs = [.int .i64 m] := by
  cases n with
  | zero => exact h.elim
  | succ n => exact h
theorem shp_bool {n : Nat} {cs : List AV} (h : Shp C n 4 cs) : ∃ b, cs = [.bool b] := by
  cases n with
  | zero => exact h.elim
  | succ n => exact h

section
variable {H : Type} {enc : TypeId × Value → H} {W : World} {r : Reach} {b0 : Nat} {spare : Nat → Bool} {held : Bool} {v : Value} {d : DataW H} {ps : List MemPlace}
end

end Go.Proofs.Ytofogicgnldfhaa
end

section
/- The three facts of the program's head that outgrow the kernel's memory when the head's text is laid open sign by sign. No condition. -/
set_option maxRecDepth 100000
namespace Go.Proofs.Ytofogicgnldfhaa
open Go

def ioL : List Char := ['h', 'a', 'r', 'n', 'e', 's', 's', ' ', '1', '3', '9', '2', '0', '7', '6', '2', 'd', '3', 'b', 'a', 'a', 'e', '5', '8', 'c', '1', 'a', '2', '6', '4', '7', '0', 'a', '8', '4', 'e', 'c', '5', 'f', 'a', '9', '3', 'd', '4', '4', '1', '6', '2', 'b', 'd', '0', '2', '8', '1', 'd', 'd', 'a', '8', 'a', '7', '1', '5', 'e', 'c', '5', 'a', 'a', 'a', 'd', '0', '1', '1', ' ', 'c', 'u', 't', ' ', 'a', 't', ' ', 's', 'u', 'r', 'e', 't', 'y', '/', 's', 'u', 'r', 'e', 't', 'y', 'l', 'a', 'w', '2', '3', '.', 'V', 'a', 'l', 'E', 'x', 'a', 'c', 't', ' ', 's', 'u', 'r', 'e', 't', 'y', '/', 's', 'u', 'r', 'e', 't', 'y', 'l', 'a', 'w', '2', '3', '.', 'V', 'a', 'l', 'M', 'a', 't', 'c', 'h', ' ', 's', 'u', 'r', 'e', 't', 'y', '/', 's', 'u', 'r', 'e', 't', 'y', 'l', 'a', 'w', '2', '3', '.', 'V', 'a', 'l', 'T', 'w', 'i', 'c', 'e', ' ', 's', 'u', 'r', 'e', 't', 'y', '/', 's', 'u', 'r', 'e', 't', 'y', 'l', 'a', 'w', '2', '3', '.', 'V', 'a', 'l', 'U', 'p', ' ', 's', 'u', 'r', 'e', 't', 'y', '/', 's', 'u', 'r', 'e', 't', 'y', 'l', 'a', 'w', '2', '3', '.', 'V', 'a', 'l', 'H', 'a', 's', ' ', 's', 'u', 'r', 'e', 't', 'y', '/', 's', 'u', 'r', 'e', 't', 'y', 'l', 'a', 'w', '2', '3', '.', 'V', 'a', 'l', 'W', 'r', 'a', 'p', ' ', 's', 'u', 'r', 'e', 't', 'y', '/', 's', 'u', 'r', 'e', 't', 'y', 'l', 'a', 'w', '2', '3', '.', 'V', 'a', 'l', 'P', 'a', 'r', 't', 's']
theorem io_eq : Try.prog.initOrder = String.ofList ioL := by kernel_rfl
theorem io_list : Try.prog.initOrder.toList = ioL := by rw [io_eq, String.toList_ofList]
theorem io_may : Try.prog.mayEnter = true := by
  unfold Program.mayEnter
  rw [io_list]
  kernel_rfl
theorem io_make : Try.prog.make = some .cut := by
  unfold Program.make
  rw [io_list]
  kernel_rfl
theorem io_lifts : Try.prog.liftsFinal = false := by
  unfold Program.liftsFinal Program.headLifts
  rw [io_list]
  kernel_rfl

end Go.Proofs.Ytofogicgnldfhaa
end

