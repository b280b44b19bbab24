/- Layer 11: numbers anew. No condition. -/
import Derived.Test.YtmpegnogdgbleaaEB
import Derived.Test.YtmpegnogdgbleaaPW
set_option linter.unusedSimpArgs false
set_option linter.unusedVariables false
set_option maxHeartbeats 4000000
set_option maxRecDepth 100000
namespace Go.Proofs.Ytmpegnogdgbleaa
open Go Go.Ab
open Nat renaming reduceEqDiff -> yA, reduceAdd -> yB, reduceLT -> yC, reduceLeDiff -> yD, reduceMul -> yE, reducePow -> yF
open AV renaming belL -> yO, bel -> yN, normL -> yQ, norm -> yP
open AObj renaming bel -> yR
attribute [local irreducible] zA0 zAA zAa zAi zAj GoIf GoGb zAk GoO GoD GoX GoDX GoG GoDG GoGv zAl Go zAB
theorem zq6{x:T}(hx:x.ok=true):zEH x.ty= .tup [emb (zEI x).ty,.int .i64 0]:=by
 rw[zEH,if_pos (by rw[T.zT5];exact hx),zX5]
theorem zjc{x y:T}(hx:x.ok=true)(hy:y.ok=true):∃l:List Bd,zO7 x.ty y.ty= .tup [.sl (l.map embB) .no,.bool (zO6 x y []).isSome]:=by
 rw[zO7,if_pos ⟨by rw[T.zT5];exact hx,by rw[T.zT5];exact hy⟩,zX5,zX5]
 cases zO6 x y []with
 |some L=>exact⟨bdL L,rfl⟩
 |none=>exact⟨[],rfl⟩
theorem zj0(a b:Ty):zA0 Try.prog 9 [.sl [emb a,emb b] .no] (.bool (small [a,b])):=zWQ [a,b]
end Go.Proofs.Ytmpegnogdgbleaa
