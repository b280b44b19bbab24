/- Lemmas: the functions of types, first part. No condition. -/
import Derived.Test.YtofogicgnldfhaaPMa

section
/- Walks: package typ, and the reference's. No condition. -/
set_option linter.unusedSimpArgs false
set_option linter.unusedVariables false
set_option maxHeartbeats 4000000
namespace Go.Proofs.Ytofogicgnldfhaa
open Go Go.Ab
open Nat (reduceEqDiff reduceAdd reduceLT reduceLeDiff reduceMul reducePow)
attribute [local irreducible] PCalls ACalls CallK GoCall GoDCall GoIf GoGb GoDGb GoO GoD GoX GoDX GoG GoDG GoGv GoDGv Go ALoop

theorem map_emb_kid {t : Ty} {i : Nat} (h : i < t.kids.length) : (t.kids.map emb).getD i .any = emb (t.kid i) := by simp [h, Ty.kid]
theorem kid_mem {t : Ty} {i : Nat} (h : i < t.kids.length) : t.kid i ∈ t.kids := by simp [h, Ty.kid]

theorem arity_ok (k : Int) : PCalls Try.prog 102 [.int .i64 k] (.int .i64 (arity k)) := by
  refine pcalls_text C_ok Try.func102 rfl (by decide) (Nat.le_of_ble_eq_true rfl) (by decide) rfl fun ok H => ?_
  rw [Try.results102]
  have h := True.intro
  repeat' (first
   | (with_reducible first | refine bA ?_ ?_ | refine bB ?_ ?_ | refine bC ?_ ?_ | refine bD ?_ ?_ | refine bE ?_ ?_ | refine bF ?_ ?_) <;> intro h
   | skip) <;> simp only [h, ↓upd_eq, ↓envL_cons, WZ, reduceIte, reduceEqDiff, reduceAdd, reduceLT, reduceLeDiff, reduceCtorEq, reduceMul, reducePow, W1]
  all_goals (simp only [beq_iff_eq, beq_eq_false_iff_ne] at *; unfold arity; (repeat' split) <;> omega)

theorem kids_ok (k : Int) : PCalls Try.prog 49 [.int .i64 k] (.int .i64 (arity k)) := by
  refine pcalls_text C_ok Try.func49 rfl (by decide) (Nat.le_of_ble_eq_true rfl) (by decide) rfl fun ok H => ?_
  rw [Try.results49]
  have h := True.intro
  repeat' (first
   | (with_reducible first | refine bA ?_ ?_ | refine bB ?_ ?_ | refine bC ?_ ?_ | refine bD ?_ ?_ | refine bE ?_ ?_ | refine bF ?_ ?_) <;> intro h
   | skip) <;> simp only [h, ↓upd_eq, ↓envL_cons, WZ, reduceIte, reduceEqDiff, reduceAdd, reduceLT, reduceLeDiff, reduceCtorEq, reduceMul, reducePow, W1]
  all_goals (simp only [beq_iff_eq, beq_eq_false_iff_ne] at *; unfold arity; (repeat' split) <;> omega)

theorem right_step (t : Ty) (ih : ∀ x ∈ t.kids, PCalls Try.prog 88 [emb x] (.bool (right x))) : PCalls Try.prog 88 [emb t] (.bool (right t)) := by
  refine pcalls_text C_ok Try.func88 rfl (by decide) (Nat.le_of_ble_eq_true rfl) (by decide) rfl fun ok H => ?_
  rw [Try.results88]
  have h := True.intro
  repeat' (first
   | (with_reducible first | refine bA ?_ ?_ | refine bB ?_ ?_ | refine bC ?_ ?_ | refine bD ?_ ?_ | refine bE ?_ ?_ | refine bF ?_ ?_) <;> intro h
   | ((first | refine goCall_norm ?_ | refine goDCall_norm ?_); simp only [AV.norm, AV.normL, W2]; first | refine goCall_p (arity_ok _) (.inl rfl) ?_ | refine goDCall_p (arity_ok _) (.inl rfl) ?_)
   | skip) <;> simp only [h, ↓upd_eq, ↓envL_cons, WZ, reduceIte, reduceEqDiff, reduceAdd, reduceLT, reduceLeDiff, reduceCtorEq, reduceMul, reducePow, W1]
  all_goals have hmax : t.kids.length ≤ maxLen := (emb_okay ok.1).1
  case refine_2.refine_2.refine_2.refine_2 =>
    have hN : okN t = true := by simp_all [okN]
    have hfalse : ∀ i, i < t.kids.length → right (t.kid i) = false → right t = false := fun i h1 h2 => by rw [right_eq, allN_false h1 h2]; simp
    have htrue : (∀ i, i < t.kids.length → right (t.kid i) = true) → right t = true := fun h => by rw [right_eq, allN_true h, hN]; rfl
    refine aloop_trim [35, 33, 34] ?_
    simp only [List.map_cons, List.map_nil, ↓upd_eq, ↓envL_cons, WZ, reduceIte, reduceEqDiff, reduceAdd, reduceLT, reduceLeDiff, reduceCtorEq, reduceMul, reducePow, W1]
    refine goLoopS 1 (fun i : Nat => [(35, .int .i64 i)]) (fun _ => _) (fun i => i ≤ t.kids.length ∧ ∀ j, j < i → (fun j => right (t.kid j)) j = true) (fun i => t.kids.length - i) C_ok 0 rfl rfl ⟨Nat.zero_le _, by simp⟩ (by decide) ?_
    rintro i ⟨hi, hall⟩
    simp only [List.drop_succ_cons, List.drop_zero, List.cons_append, List.nil_append]
    simp only [↓upd_eq, ↓envL_cons, WZ, reduceIte, reduceEqDiff, reduceAdd, reduceLT, reduceLeDiff, reduceCtorEq, reduceMul, reducePow, W1]
    refine goIf_d (fun hlt => ?_) (fun hlt => ?_)
    · have h := True.intro
      repeat' (first
       | (with_reducible first | refine bA ?_ ?_ | refine bB ?_ ?_ | refine bC ?_ ?_ | refine bD ?_ ?_ | refine bE ?_ ?_ | refine bF ?_ ?_) <;> intro h
       | ((first | refine goCall_norm ?_ | refine goDCall_norm ?_); simp only [AV.norm, AV.normL, W2, hlt, map_emb_kid hlt]; first | refine goCall_p (ih _ (kid_mem hlt)) (.inl rfl) ?_ | refine goDCall_p (ih _ (kid_mem hlt)) (.inl rfl) ?_)
       | skip) <;> simp only [h, ↓upd_eq, ↓envL_cons, WZ, reduceIte, reduceEqDiff, reduceAdd, reduceLT, reduceLeDiff, reduceCtorEq, reduceMul, reducePow, W1, hlt, map_emb_kid hlt]
      all_goals first
        | exact (hfalse i hlt (by first | assumption | simp only [*])).symm
        | (refine ⟨i + 1, ⟨by omega, fun j hj => ?_⟩, by omega, weak_drop rfl rfl rfl rfl ?_ ?_ ?_⟩
           · rcases Nat.lt_succ_iff_lt_or_eq.1 hj with hj | rfl
             · exact hall j hj
             · first | assumption | simp only [*]
           all_goals simp only [List.forall_mem_cons, mem_nil_all, frz_app, ↓upd_eq, ↓envL_cons, Nat.reduceEqDiff, if_true, if_false, reduceIte, true_and, and_true, and_self, true_or, or_true, implies_true, List.not_mem_nil, false_implies, AV.bel, AV.belL, AObj.bel, AV.norm, AV.normL, Bool.and_true, Bool.true_and, decide_true, decide_eq_true_eq, List.length_cons, List.length_nil, Nat.zero_add, Nat.reduceAdd, Nat.lt_add_one, Nat.lt_add_right_iff_pos, Nat.zero_lt_succ, Nat.zero_lt_one, Nat.reduceLT, List.take_succ_cons, List.take_zero, wrap_succ hlt hmax, map_bel, AV.belL, List.length_map])
    · simp only [↓upd_eq, ↓envL_cons, WZ, reduceIte, reduceEqDiff, reduceAdd, reduceLT, reduceLeDiff, reduceCtorEq, reduceMul, reducePow, W1]
      exact (htrue fun j hj => hall j (by omega)).symm
  all_goals rw [right_eq]
  case refine_2.refine_2.refine_1.refine_1 | refine_2.refine_2.refine_1.refine_2 =>
    have hk : t.kids.length = 0 := by simp_all [arity]
    rw [hk, allN_zero]; simp_all [okN] <;> (try intros) <;> (try omega)
  all_goals (simp_all [okN] <;> (try intros) <;> (try omega))

theorem right_ok (t : Ty) : PCalls Try.prog 88 [emb t] (.bool (right t)) := Ty.ind right_step t
theorem check_ok (t : Ty) : PCalls Try.prog 55 [emb t] (.int .i64 (if right t = true then 0 else 1)) := by
  refine pcalls_text C_ok Try.func55 rfl (by decide) (Nat.le_of_ble_eq_true rfl) (by decide) rfl fun ok H => ?_
  rw [Try.results55]
  have h := True.intro
  repeat' (first
   | (with_reducible first | refine bA ?_ ?_ | refine bB ?_ ?_ | refine bC ?_ ?_ | refine bD ?_ ?_ | refine bE ?_ ?_ | refine bF ?_ ?_) <;> intro h
   | ((first | refine goCall_norm ?_ | refine goDCall_norm ?_); simp only [AV.norm, AV.normL, W2]; first | refine goCall_p (right_ok _) (.inl rfl) ?_ | refine goDCall_p (right_ok _) (.inl rfl) ?_)
   | skip) <;> simp only [h, ↓upd_eq, ↓envL_cons, WZ, reduceIte, reduceEqDiff, reduceAdd, reduceLT, reduceLeDiff, reduceCtorEq, reduceMul, reducePow, W1]
  all_goals simp_all

end Go.Proofs.Ytofogicgnldfhaa
end

section
/- Walks: the reference of types, and suretykeep. No condition. -/
set_option linter.unusedSimpArgs false
set_option linter.unusedVariables false
set_option maxHeartbeats 4000000
namespace Go.Proofs.Ytofogicgnldfhaa
open Go Go.Ab
open Nat (reduceEqDiff reduceAdd reduceLT reduceLeDiff reduceMul reducePow)
attribute [local irreducible] PCalls ACalls CallK GoCall GoDCall GoIf GoGb GoDGb GoO GoD GoX GoDX GoG GoDG GoGv GoDGv Go ALoop

theorem leaf_ok (k : Int) : PCalls Try.prog 35 [.int .i64 k] (emb (leafT k)) := by
  refine pcalls_text C_ok Try.func35 rfl (by decide) (Nat.le_of_ble_eq_true rfl) (by decide) (emb_bel _ _) fun ok H => ?_
  rw [Try.results35]
  have h := True.intro
  repeat' (first
   | (with_reducible first | refine bA ?_ ?_ | refine bB ?_ ?_ | refine bC ?_ ?_ | refine bD ?_ ?_ | refine bE ?_ ?_ | refine bF ?_ ?_) <;> intro h
   | skip) <;> simp only [h, ↓upd_eq, ↓envL_cons, WZ, reduceIte, reduceEqDiff, reduceAdd, reduceLT, reduceLeDiff, reduceCtorEq, reduceMul, reducePow, W1]
  all_goals simp [leafT]
end Go.Proofs.Ytofogicgnldfhaa
end

section
/- Walks: below, agrees. No condition. -/
set_option linter.unusedSimpArgs false
set_option linter.unusedVariables false
set_option maxHeartbeats 4000000
namespace Go.Proofs.Ytofogicgnldfhaa
open Go Go.Ab
open Nat (reduceEqDiff reduceAdd reduceLT reduceLeDiff reduceMul reducePow)
attribute [local irreducible] PCalls ACalls CallK GoCall GoDCall GoIf GoGb GoDGb GoO GoD GoX GoDX GoG GoDG GoGv GoDGv Go ALoop

def leafB (a b : Ty) : Bool := decide (a.kids.length = 0) && decide (a.kind = b.kind) && decide (a.num = b.num)
def likeB (a b : Ty) : Bool := decide (0 < a.kids.length) && decide (a.kind = b.kind)

end Go.Proofs.Ytofogicgnldfhaa
end

section
/- Walks: Heavy, sizes, depths. No condition. -/
set_option linter.unusedSimpArgs false
set_option linter.unusedVariables false
set_option maxHeartbeats 4000000
namespace Go.Proofs.Ytofogicgnldfhaa
open Go Go.Ab
open Nat (reduceEqDiff reduceAdd reduceLT reduceLeDiff reduceMul reducePow)
attribute [local irreducible] PCalls ACalls CallK GoCall GoDCall GoIf GoGb GoDGb GoO GoD GoX GoDX GoG GoDG GoGv GoDGv Go ALoop

mutual
def cnt : Ty → Nat → Nat
  | .mk _ _ l, n => cntL l (n + 1)
def cntL : List Ty → Nat → Nat
  | [], n => n
  | x :: l, n => if n ≤ 600 then cntL l (cnt x n) else n
end
theorem cnt_eq (t : Ty) (n : Nat) : cnt t n = cntL t.kids (n + 1) := by cases t; rfl
mutual
theorem cnt_spec : ∀ (t : Ty) (n : Nat), n < cnt t n ∧ cnt t n ≤ max (n + 1) 601 ∧ (n + nodes t ≤ 600 → cnt t n = n + nodes t) ∧ (600 < n + nodes t → 600 < cnt t n)
  | .mk k m l, n => by
    have := cntL_spec l (n + 1)
    rw [cnt_eq, nodes_eq]; simp only [Ty.kids]; omega
theorem cntL_spec : ∀ (l : List Ty) (n : Nat), n ≤ cntL l n ∧ cntL l n ≤ max n 601 ∧ (n + nodesL l ≤ 600 → cntL l n = n + nodesL l) ∧ (600 < n + nodesL l → 600 < cntL l n)
  | [], n => by simp [cntL, nodesL]; omega
  | x :: l, n => by
    rw [cntL, nodesL]
    split
    · have h1 := cnt_spec x n
      have h2 := cntL_spec l (cnt x n)
      omega
    · omega
end
theorem wrap_nat1 {n : Nat} (h : n < 4611686018427387904) : IntKind.wrap .i64 ((n : Int) + 1) = ((n + 1 : Nat) : Int) := wrap_succ h (by rw [maxLen_val]; omega)
def heavy (l : List Ty) : Bool := decide (600 < nodesL l)
def cntF : List Ty → Nat → Nat
  | [], n => n
  | x :: l, n => cntF l (cnt x n)
end Go.Proofs.Ytofogicgnldfhaa
end

section
/- Walks: grounds. No condition. -/
set_option linter.unusedSimpArgs false
set_option linter.unusedVariables false
set_option maxHeartbeats 4000000
namespace Go.Proofs.Ytofogicgnldfhaa
open Go Go.Ab

def groundT (t : Ty) : Ty := if right t = true ∧ headK t.kind = true then ground t else noneT
def hasGround (t : Ty) : Bool := right t && headK t.kind

end Go.Proofs.Ytofogicgnldfhaa
end

section
/- Walks: the reference's grounds; Below, Agree. No condition. -/
set_option linter.unusedSimpArgs false
set_option linter.unusedVariables false
set_option maxHeartbeats 4000000
namespace Go.Proofs.Ytofogicgnldfhaa
open Go Go.Ab

def ofT (k : Int) : Ty := .mk k 0 (List.replicate (arity k).toNat dynT)

end Go.Proofs.Ytofogicgnldfhaa
end

section
/- Walks: sizes, depths, the guard of the laws. No condition. -/
set_option linter.unusedSimpArgs false
set_option linter.unusedVariables false
set_option maxHeartbeats 4000000
namespace Go.Proofs.Ytofogicgnldfhaa
open Go Go.Ab

/-- The laws' guard: not too great, all right. -/
def fine (l : List Ty) : Bool := !heavy l && rightL l

end Go.Proofs.Ytofogicgnldfhaa
end

