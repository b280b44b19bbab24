/- Lemmas: the variables of a type. No condition. -/
import Derived.Test.YtdngjamjccjlmaaPFa
import Derived.Test.YtdngjamjccjlmaaPAb

section
/- Walks: the variables of a type. No condition. -/
set_option linter.unusedSimpArgs false
set_option linter.unusedVariables false
set_option maxHeartbeats 4000000
namespace Go.Proofs.Ytdngjamjccjlmaa
open Go Go.Ab
open Nat (reduceEqDiff reduceAdd reduceLT reduceLeDiff reduceMul reducePow)
attribute [local irreducible] PCalls ACalls CallK GoCall GoDCall GoIf GoGb GoDGb GoO GoD GoX GoDX GoG GoDG GoGv GoDGv Go ALoop

def I64 (n : Int) : AV := .int .i64 n
theorem i64_eq (n : Int) : I64 n = .int .i64 n := rfl
theorem ints_bel (m : Nat) (l : List Int) : AV.belL m (l.map I64) = true := by induction l with | nil => rfl | cons b l ih => simp [AV.belL, AV.bel, I64]; simpa [I64] using ih
theorem ints_norm (l : List Int) : AV.normL (l.map I64) = l.map I64 := by induction l with | nil => rfl | cons b l ih => simp [AV.normL, AV.norm, I64]; simpa [I64] using ih
theorem all_int1 (l : List Int) : (∀ y, y ∈ l.map I64 → (cellsOf y).length = 1) = True := by
  simp only [eq_iff_iff, iff_true]; intro y hy; obtain ⟨t, _, rfl⟩ := List.mem_map.1 hy; rfl
theorem map_int_get {l : List Int} {i : Nat} (h : i < l.length) : (l.map I64).getD i .any = I64 (l.getD i 0) := by simp [h]
mutual
def varsF : Ty → List Int → List Int
  | .mk k n l, out => varsL l (if k = 6 ∧ n ∉ out then out ++ [n] else out)
def varsL : List Ty → List Int → List Int
  | [], out => out
  | t :: l, out => varsL l (varsF t out)
end
mutual
theorem varsF_len : ∀ (t : Ty) (out : List Int), (varsF t out).length ≤ out.length + nodes t
  | .mk k n l, out => by
    rw [varsF]
    have := varsL_len l (if k = 6 ∧ n ∉ out then out ++ [n] else out)
    have h2 : (if k = 6 ∧ n ∉ out then out ++ [n] else out).length ≤ out.length + 1 := by split <;> simp
    simp only [nodes]; omega
theorem varsL_len : ∀ (l : List Ty) (out : List Int), (varsL l out).length ≤ out.length + nodesL l
  | [], out => by simp [varsL]
  | t :: l, out => by
    have h1 := varsL_len l (varsF t out)
    have h2 := varsF_len t out
    simp only [varsL, nodesL]; omega
end

abbrev RVarsOK (t : Ty) : Prop := ∀ (l : List Int) (a : AV) (F : List AObj), l.length + nodes t ≤ 1048576 → AccOK 1 F (l.map I64) a → ACalls Try.prog 85 [emb t, a] F fun r F' => AccR 1 F a ((varsF t l).map I64) r F'



def varsT (t : Ty) : List Int := varsF t []
end Go.Proofs.Ytdngjamjccjlmaa
end

