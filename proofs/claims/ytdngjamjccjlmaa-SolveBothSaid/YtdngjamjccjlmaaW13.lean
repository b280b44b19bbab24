/- Layer 12: as many are made as the limit is. No condition. -/
import Derived.Test.YtdngjamjccjlmaaW12
set_option linter.unusedSimpArgs false
set_option linter.unusedVariables false
set_option maxHeartbeats 4000000
set_option maxRecDepth 100000
namespace Go.Proofs.Ytdngjamjccjlmaa
open Go Go.Ab
open Nat renaming reduceEqDiff → yA, reduceAdd → yB, reduceLT → yC, reduceLeDiff → yD, reduceMul → yE, reducePow → yF, reduceBEq → yG
open Int renaming reduceAdd → yH, reduceLT → yI, reduceToNat → yJ, reduceBEq → yK, reduceBNe → yL, reduceLE → yM
attribute [local irreducible] PCalls ACalls CallK GoCall GoDCall GoIf GoGb GoDGb GoO GoD GoX GoDX GoG GoDG GoGv GoDGv Go ALoop

section
variable {F : List AObj} {s r v : Nat} {L : Mem} {lim cnt rd : Int}
end
def limL (k : Nat) : Mem := mem0 ++ (List.range k).map fun j : Nat => varN (j : Int)
section
variable {F : List AObj} {s r M : Nat} {i : Nat}
end
theorem st_take {F G : List AObj} {s r : Nat} {bx ar : AObj} (hs : F.length ≤ s) (hr : F.length ≤ r) (ht : G.take F.length = F) : (stF G s r bx ar).take F.length = F := by
  unfold stF
  rw [List.take_set, List.take_set, List.set_eq_of_length_le (by simp; omega), List.set_eq_of_length_le (by simp; omega), ht]
end Go.Proofs.Ytdngjamjccjlmaa
