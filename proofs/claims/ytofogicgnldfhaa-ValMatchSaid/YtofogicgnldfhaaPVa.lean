/- Lemmas: the variables of a type. No condition. -/
import Derived.Test.YtofogicgnldfhaaPFa
import Derived.Test.YtofogicgnldfhaaPAb

section
/- Walks: the variables of a type. No condition. -/
set_option linter.unusedSimpArgs false
set_option linter.unusedVariables false
set_option maxHeartbeats 4000000
namespace Go.Proofs.Ytofogicgnldfhaa
open Go Go.Ab
open Nat (reduceEqDiff reduceAdd reduceLT reduceLeDiff reduceMul reducePow)
attribute [local irreducible] PCalls ACalls CallK GoCall GoDCall GoIf GoGb GoDGb GoO GoD GoX GoDX GoG GoDG GoGv GoDGv Go ALoop

def I64 (n : Int) : AV := .int .i64 n
mutual
def varsF : Ty → List Int → List Int
  | .mk k n l, out => varsL l (if k = 6 ∧ n ∉ out then out ++ [n] else out)
def varsL : List Ty → List Int → List Int
  | [], out => out
  | t :: l, out => varsL l (varsF t out)
end
mutual
theorem varsF_len : ∀ (t : Ty) (out : List Int), (varsF t out).length ≤ out.length + nodes t
  | .mk k n l, out => by
    rw [varsF]
    have := varsL_len l (if k = 6 ∧ n ∉ out then out ++ [n] else out)
    have h2 : (if k = 6 ∧ n ∉ out then out ++ [n] else out).length ≤ out.length + 1 := by split <;> simp
    simp only [nodes]; omega
theorem varsL_len : ∀ (l : List Ty) (out : List Int), (varsL l out).length ≤ out.length + nodesL l
  | [], out => by simp [varsL]
  | t :: l, out => by
    have h1 := varsL_len l (varsF t out)
    have h2 := varsF_len t out
    simp only [varsL, nodesL]; omega
end

abbrev RVarsOK (t : Ty) : Prop := ∀ (l : List Int) (a : AV) (F : List AObj), l.length + nodes t ≤ 1048576 → AccOK 1 F (l.map I64) a → ACalls Try.prog 81 [emb t, a] F fun r F' => AccR 1 F a ((varsF t l).map I64) r F'



def varsT (t : Ty) : List Int := varsF t []
end Go.Proofs.Ytofogicgnldfhaa
end

