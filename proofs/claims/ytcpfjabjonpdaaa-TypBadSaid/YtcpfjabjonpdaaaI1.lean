/- A number about a place: the kit's Int. No condition. -/
import Derived.Test.YtcpfjabjonpdaaaEmb
import Derived.Test.YtcpfjabjonpdaaaA6
set_option linter.unusedSimpArgs false
set_option linter.unusedVariables false
set_option maxHeartbeats 4000000
namespace Go.Proofs.Ytcpfjabjonpdaaa
open Go Go.Ab
attribute [local irreducible] PCalls ACalls CallK GoCall GoDCall GoIf GoGb GoDGb GoO GoD GoX GoDX GoG GoDG GoGv GoDGv Go ALoop

theorem wrap_u (n : Int) : IntKind.wrap .u64 n = n % 18446744073709551616 := by simp [IntKind.wrap, IntKind.bits, IntKind.signed]
theorem wrap_i {n : Int} (h1 : -9223372036854775808 ≤ n) (h2 : n ≤ 9223372036854775807) : IntKind.wrap .i64 n = n := wrap_id .i64 n h1 h2
/-- What the rest by a small number is. -/
theorem rem_small (x : Int) {n : Int} (h1 : 1 ≤ n) (h2 : n ≤ 1000000000) :
    IntKind.wrap .i64 ((IntKind.wrap .u64 x).tmod (IntKind.wrap .u64 n)) = (x % 18446744073709551616) % n := by
  have e1 := Int.emod_nonneg x (show (18446744073709551616 : Int) ≠ 0 by decide)
  have e2 : n % 18446744073709551616 = n := Int.emod_eq_of_lt (by omega) (by omega)
  rw [wrap_u, wrap_u, e2, Int.tmod_eq_emod_of_nonneg e1]
  have e3 := Int.emod_nonneg (x % 18446744073709551616) (show n ≠ 0 by omega)
  have e4 := Int.emod_lt_of_pos (x % 18446744073709551616) (show 0 < n by omega)
  exact wrap_i (by omega) (by omega)

def kint (x n : Int) : Int := (x % 18446744073709551616) % n
theorem kint_nat (x : Int) {n : Int} (h : 1 ≤ n) : ∃ k : Nat, kint x n = k ∧ (k : Int) < n := by
  have e3 := Int.emod_nonneg (x % 18446744073709551616) (show n ≠ 0 by omega)
  have e4 := Int.emod_lt_of_pos (x % 18446744073709551616) (show 0 < n by omega)
  exact ⟨(kint x n).toNat, by unfold kint; omega, by unfold kint; omega⟩

theorem kint_ok (x : Int) {n : Int} (h1 : 1 ≤ n) (h2 : n ≤ 1000000000) : PCalls Try.prog 53 [.int .i64 x, .int .i64 n] (.int .i64 (kint x n)) := by
  have hn : ¬ n < 1 := by omega
  have hz : IntKind.wrap .u64 n ≠ 0 := by rw [wrap_u, Int.emod_eq_of_lt (by omega) (by omega)]; omega
  refine pcalls_text C_ok Try.func53 rfl (by decide) (Nat.le_of_ble_eq_true rfl) (by decide) rfl fun ok H => ?_
  rw [Try.results53]
  try simp only [↓upd_eq, ↓envL_cons, Go.Ab.W0, guardOf, eff, effBuiltin, abin, abinInt, cellsAt, shift, AState.ev, AState.put, AState.new, ofVal, ofVal1, setRange, inplOf, if_true, if_false, reduceIte, Nat.reduceEqDiff, Nat.reduceAdd, Nat.reduceLT, Nat.reduceLeDiff, reduceCtorEq, Nat.reduceMul, implies_true, fillA, placeSt, fillE, elemsOf, effAppend, effSlice, optInt, reCells, forall_eq_or_imp, forall_eq, isAl, retP, AV.norm, AV.normL, Nat.reducePow, W1, hn, hz, rem_small x h1 h2]
  repeat' ((first
    | with_reducible refine goIf_b (fun h => ?_) (fun h => ?_)
    | with_reducible refine goIf_n (fun h => ?_) (fun h => ?_)
    | with_reducible refine goIf_d (fun h => ?_) (fun h => ?_)
    | with_reducible refine goIf_split (fun h => ?_) (fun h => ?_)
    | with_reducible refine goGb_b (fun h => ?_) (fun h => ?_)
    | with_reducible refine goGb_n (fun h => ?_) (fun h => ?_)
    | with_reducible refine goGb_d (fun h => ?_) (fun h => ?_)
    | with_reducible refine goGb_split (fun h => ?_) (fun h => ?_)
    | with_reducible refine goDGb_b (fun h => ?_) (fun h => ?_)
    | with_reducible refine goDGb_n (fun h => ?_) (fun h => ?_)
    | with_reducible refine goDGb_d (fun h => ?_) (fun h => ?_)
    | with_reducible refine goDGb_split (fun h => ?_) (fun h => ?_)) <;> first | simp only [h, ↓upd_eq, ↓envL_cons, Go.Ab.W0, guardOf, eff, effBuiltin, abin, abinInt, cellsAt, shift, AState.ev, AState.put, AState.new, ofVal, ofVal1, setRange, inplOf, if_true, if_false, reduceIte, Nat.reduceEqDiff, Nat.reduceAdd, Nat.reduceLT, Nat.reduceLeDiff, reduceCtorEq, Nat.reduceMul, implies_true, fillA, placeSt, fillE, elemsOf, effAppend, effSlice, optInt, reCells, forall_eq_or_imp, forall_eq, isAl, retP, AV.norm, AV.normL, Nat.reducePow, W1, hn, hz, rem_small x h1 h2] | simp only [↓upd_eq, ↓envL_cons, Go.Ab.W0, guardOf, eff, effBuiltin, abin, abinInt, cellsAt, shift, AState.ev, AState.put, AState.new, ofVal, ofVal1, setRange, inplOf, if_true, if_false, reduceIte, Nat.reduceEqDiff, Nat.reduceAdd, Nat.reduceLT, Nat.reduceLeDiff, reduceCtorEq, Nat.reduceMul, implies_true, fillA, placeSt, fillE, elemsOf, effAppend, effSlice, optInt, reCells, forall_eq_or_imp, forall_eq, isAl, retP, AV.norm, AV.normL, Nat.reducePow, W1, hn, hz, rem_small x h1 h2] | skip)
  all_goals (simp_all [kint])

end Go.Proofs.Ytcpfjabjonpdaaa
