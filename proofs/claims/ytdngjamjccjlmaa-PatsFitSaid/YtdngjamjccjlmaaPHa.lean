/- Lemmas: the functions that the laws of coercions share. No condition. -/
import Derived.Test.YtdngjamjccjlmaaPVa
import Derived.Test.YtdngjamjccjlmaaPFa
import Derived.Test.YtdngjamjccjlmaaPMa
set_option linter.unusedSimpArgs false
set_option linter.unusedVariables false
set_option maxHeartbeats 4000000
set_option maxRecDepth 100000
namespace Go.Proofs.Ytdngjamjccjlmaa
open Go Go.Ab
open Nat renaming reduceEqDiff -> yA, reduceAdd -> yB, reduceLT -> yC, reduceLeDiff -> yD, reduceMul -> yE, reducePow -> yF, reduceBEq -> yG
open Int renaming reduceAdd -> yH, reduceLT -> yI, reduceToNat -> yJ, reduceBEq -> yK, reduceBNe -> yL, reduceLE -> yM
section
attribute [local irreducible] zA0 zAA zAa zAi zAj GoIf GoGb zAk GoO GoD GoX GoDX GoG GoDG GoGv zAl Go zAB
def zFd:Nat->Ty->Bool
 |0,_=>true
 |n+1,t=> !allN t.kids.length fun i=> !zFd n (t.kid i)
def zWJ(t:Ty):Bool:= !(heavy [t]||zFd 60 t||decide (8<(zaa t).length))
def small(l:List Ty):Bool:=allN l.length fun i=>zWJ (l.getD i default)
end
end Go.Proofs.Ytdngjamjccjlmaa
