/- ValWrap answers true, whatever the input. No condition. -/
import Derived.Test.YtofogicgnldfhaaY22
import Derived.Test.YtofogicgnldfhaaPYi
import Derived.Test.YtofogicgnldfhaaPYf
set_option linter.unusedSimpArgs false
set_option linter.unusedVariables false
set_option maxHeartbeats 4000000
set_option maxRecDepth 100000
namespace Go.Proofs.Ytofogicgnldfhaa
open Go Go.Ab
open Nat (reduceEqDiff reduceAdd reduceLT reduceLeDiff reduceMul reducePow)
attribute [local irreducible] PCalls ACalls CallK GoCall GoDCall GoIf GoGb GoDGb GoO GoD GoX GoDX GoG GoDG GoGv GoDGv Go ALoop

theorem sameR_ok (k l k' l' : Int) (n n' : Bool) : PCalls Try.prog 26 [embR k l n, embR k' l' n'] (.bool ((k == k') && ((l == l') && (n == n')))) := by
  have q1 := rsameV_ok noneV noneV
  have e1 : sameV noneV noneV = true := by decide
  rw [e1] at q1
  unfold embR
  have z : ((0 : Int) == 0) = true := rfl
  cases h1 : (k == k') <;> cases h2 : (l == l') <;> cases h3 : (n == n')
  all_goals
    refine pcalls_text C_ok Try.func26 rfl (by decide) (Nat.le_of_ble_eq_true rfl) (by decide) rfl fun ok H => ?_
    rw [Try.results26]
    repeat' first
     | ((first | apply goGb_op (fun _ _ => rfl) | apply goDGb_op (fun _ _ => rfl)); (· intro hb; (try simp only [Bool.and_eq_true, Bool.not_eq_true', Bool.or_eq_false_iff, Bool.not_eq_false'] at hb); simp only [hb, ↓upd_eq, ↓envL_cons, WZ, reduceIte, reduceEqDiff, reduceAdd, reduceLT, reduceLeDiff, reduceCtorEq, reduceMul, reducePow, W1, W1C, W1V, W5, h1, h2, h3, z]; exact ⟨rfl, trivial⟩))
     | ((first | apply goGb_call (q1) | apply goDGb_call (q1)); (· intro hb; (try simp only [Bool.and_eq_true, Bool.not_eq_true', Bool.or_eq_false_iff, Bool.not_eq_false'] at hb); simp only [hb, AV.norm, AV.normL, W2, W2C, W2V, ↓upd_eq, ↓envL_cons, WZ, reduceIte, reduceEqDiff, reduceAdd, reduceLT, reduceLeDiff, reduceCtorEq, reduceMul, reducePow, W1, W1C, W1V, W5, h1, h2, h3, z]; rfl))
     | (with_reducible first | apply bA | apply bB | apply bC | apply bD | apply bE | apply bF) <;> intro h <;> try simp only [h, ↓upd_eq, ↓envL_cons, WZ, reduceIte, reduceEqDiff, reduceAdd, reduceLT, reduceLeDiff, reduceCtorEq, reduceMul, reducePow, W1, W1C, W1V, W5, h1, h2, h3, z]
     | ((first | refine goCall_norm ?_ | refine goDCall_norm ?_); simp only [AV.norm, AV.normL, W2, W2C, W2V, h1, h2, h3, z]; first | refine goCall_p (q1) (.inl rfl) ?_ | refine goDCall_p (q1) (.inl rfl) ?_)
     | simp only [↓upd_eq, ↓envL_cons, WZ, reduceIte, reduceEqDiff, reduceAdd, reduceLT, reduceLeDiff, reduceCtorEq, reduceMul, reducePow, W1, W1C, W1V, W5, h1, h2, h3, z]
  all_goals trace_state

end Go.Proofs.Ytofogicgnldfhaa
