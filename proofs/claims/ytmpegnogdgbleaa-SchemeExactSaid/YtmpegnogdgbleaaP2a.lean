/- Binds: static types for all variables of a type. No condition. -/
import Derived.Test.YtmpegnogdgbleaaPPa
import Derived.Test.YtmpegnogdgbleaaPHa
set_option linter.unusedSimpArgs false
set_option linter.unusedVariables false
set_option maxHeartbeats 4000000
set_option maxRecDepth 100000
namespace Go.Proofs.Ytmpegnogdgbleaa
open Go Go.Ab
open Nat renaming reduceEqDiff -> yA, reduceAdd -> yB, reduceLT -> yC, reduceLeDiff -> yD, reduceMul -> yE, reducePow -> yF
open AV renaming belL -> yO, bel -> yN, normL -> yQ, norm -> yP
open AObj renaming bel -> yR
attribute [local irreducible] zA0 zAA zAa zAi zAj GoIf GoGb zAk GoO GoD GoX GoDX GoG GoDG GoGv zAl Go zAB
noncomputable def zXa(vs:List Int)(l:List Ty)(c:Bool)(i:Nat):Bd:=(vs.getD i 0,if l.length=0 then zM6 1 else(zSc c (tOf (l.getD (i % l.length) default))).ty)
noncomputable def zXW(vs:List Int)(l:List Ty)(c:Bool):List Bd:=(List.range vs.length).map (zXa vs l c)
theorem zNd:∀(l:List Bd) (n:Int) (t:Ty),zNa l n=some t->∃p∈l,p.1=n/\p.2=t
 |p::l,n,t,h=>by
  rw[zNa]at h
  split at h
  ·rename_i e;cases h;exact⟨p,YAU,e,rfl⟩
  ·obtain⟨q,hq,h2⟩:=zNd l n t h;exact⟨q,YAT _ hq,h2⟩
end Go.Proofs.Ytmpegnogdgbleaa
