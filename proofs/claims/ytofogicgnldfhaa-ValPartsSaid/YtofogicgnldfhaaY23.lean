/- ValWrap answers true, whatever the input. No condition. -/
import Derived.Test.YtofogicgnldfhaaY22
import Derived.Test.YtofogicgnldfhaaPYi
import Derived.Test.YtofogicgnldfhaaPYf
set_option linter.unusedSimpArgs false
set_option linter.unusedVariables false
set_option maxHeartbeats 4000000
set_option maxRecDepth 100000
namespace Go.Proofs.Ytofogicgnldfhaa
open Go Go.Ab
attribute [local irreducible] PCalls ACalls CallK GoCall GoDCall GoIf GoGb GoDGb GoO GoD GoX GoDX GoG GoDG GoGv GoDGv Go ALoop

theorem sameR_ok (k l k' l' : Int) (n n' : Bool) : PCalls Try.prog 26 [embR k l n, embR k' l' n'] (.bool ((k == k') && ((l == l') && (n == n')))) := by
  have q1 := rsameV_ok noneV noneV
  have e1 : sameV noneV noneV = true := by decide
  rw [e1] at q1
  unfold embR
  have z : ((0 : Int) == 0) = true := rfl
  cases h1 : (k == k') <;> cases h2 : (l == l') <;> cases h3 : (n == n')
  all_goals
    refine pcalls_text C_ok Try.func26 rfl (by decide) (Nat.le_of_ble_eq_true rfl) (by decide) rfl fun ok H => ?_
    rw [Try.results26]
    repeat' first
     | ((first | apply goGb_op (fun _ _ => rfl) | apply goDGb_op (fun _ _ => rfl)); (· intro hb; (try simp only [Bool.and_eq_true, Bool.not_eq_true', Bool.or_eq_false_iff, Bool.not_eq_false'] at hb); simp only [hb, ↓upd_eq, ↓envL_cons, WZ, if_true, if_false, reduceIte, Nat.reduceEqDiff, Nat.reduceAdd, Nat.reduceLT, Nat.reduceLeDiff, reduceCtorEq, Nat.reduceMul, implies_true, forall_eq_or_imp, forall_eq, Nat.reducePow, W1, W1C, W1V, W5, h1, h2, h3, z]; exact ⟨rfl, trivial⟩))
     | ((first | apply goGb_call (q1) | apply goDGb_call (q1)); (· intro hb; (try simp only [Bool.and_eq_true, Bool.not_eq_true', Bool.or_eq_false_iff, Bool.not_eq_false'] at hb); simp only [hb, AV.norm, AV.normL, W2, W2C, W2V, ↓upd_eq, ↓envL_cons, WZ, if_true, if_false, reduceIte, Nat.reduceEqDiff, Nat.reduceAdd, Nat.reduceLT, Nat.reduceLeDiff, reduceCtorEq, Nat.reduceMul, implies_true, forall_eq_or_imp, forall_eq, Nat.reducePow, W1, W1C, W1V, W5, h1, h2, h3, z]; rfl))
     | (with_reducible first | apply bA | apply bB | apply bC | apply bD | apply bE | apply bF | apply bG | apply bH | apply bI | apply bJ | apply bK | apply bL) <;> intro h <;> try simp only [h, ↓upd_eq, ↓envL_cons, WZ, if_true, if_false, reduceIte, Nat.reduceEqDiff, Nat.reduceAdd, Nat.reduceLT, Nat.reduceLeDiff, reduceCtorEq, Nat.reduceMul, implies_true, forall_eq_or_imp, forall_eq, Nat.reducePow, W1, W1C, W1V, W5, h1, h2, h3, z]
     | ((first | refine goCall_norm ?_ | refine goDCall_norm ?_); simp only [AV.norm, AV.normL, W2, W2C, W2V, h1, h2, h3, z]; first | refine goCall_p (q1) (.inl rfl) ?_ | refine goDCall_p (q1) (.inl rfl) ?_)
     | simp only [↓upd_eq, ↓envL_cons, WZ, if_true, if_false, reduceIte, Nat.reduceEqDiff, Nat.reduceAdd, Nat.reduceLT, Nat.reduceLeDiff, reduceCtorEq, Nat.reduceMul, implies_true, forall_eq_or_imp, forall_eq, Nat.reducePow, W1, W1C, W1V, W5, h1, h2, h3, z]
  all_goals trace_state

theorem valWrap_ok (v : Vl) (c : Co) : PCalls Try.prog 8 [embV v, embC c] (.bool true) := by
  have q1 := heavyV1_ok v
  have q2 := heavyC1_ok c
  have q3 := rrightV_ok v
  have q4 := rrightC_ok c
  have qw := wakes_ok
  have qa := vWrap_ok v c
  have qb := vParts_ok v
  cases hv : heavyV [v] with
  | true =>
    rw [hv] at q1
    refine pcalls_text C_ok Try.func8 rfl (by decide) (Nat.le_of_ble_eq_true rfl) (by decide) rfl fun ok H => ?_
    rw [Try.results8]
    repeat' first
     | ((first | apply goGb_op (fun _ _ => rfl) | apply goDGb_op (fun _ _ => rfl)); (· intro hb; (try simp only [Bool.and_eq_true, Bool.not_eq_true', Bool.or_eq_false_iff, Bool.not_eq_false'] at hb); simp only [hb, ↓upd_eq, ↓envL_cons, WZ, if_true, if_false, reduceIte, Nat.reduceEqDiff, Nat.reduceAdd, Nat.reduceLT, Nat.reduceLeDiff, reduceCtorEq, Nat.reduceMul, implies_true, forall_eq_or_imp, forall_eq, Nat.reducePow, W1, W1C, W1V, W5]; exact ⟨rfl, trivial⟩))
     | ((first | apply goGb_call (q1) | apply goDGb_call (q1)); (· intro hb; (try simp only [Bool.and_eq_true, Bool.not_eq_true', Bool.or_eq_false_iff, Bool.not_eq_false'] at hb); simp only [hb, AV.norm, AV.normL, W2, W2C, W2V, ↓upd_eq, ↓envL_cons, WZ, if_true, if_false, reduceIte, Nat.reduceEqDiff, Nat.reduceAdd, Nat.reduceLT, Nat.reduceLeDiff, reduceCtorEq, Nat.reduceMul, implies_true, forall_eq_or_imp, forall_eq, Nat.reducePow, W1, W1C, W1V, W5]; rfl))
     | (with_reducible first | apply bA | apply bB | apply bC | apply bD | apply bE | apply bF | apply bG | apply bH | apply bI | apply bJ | apply bK | apply bL) <;> intro h <;> try simp only [h, ↓upd_eq, ↓envL_cons, WZ, if_true, if_false, reduceIte, Nat.reduceEqDiff, Nat.reduceAdd, Nat.reduceLT, Nat.reduceLeDiff, reduceCtorEq, Nat.reduceMul, implies_true, forall_eq_or_imp, forall_eq, Nat.reducePow, W1, W1C, W1V, W5]
     | ((first | refine goCall_norm ?_ | refine goDCall_norm ?_); simp only [AV.norm, AV.normL, W2, W2C, W2V]; first | refine goCall_p (q1) (.inl rfl) ?_ | refine goDCall_p (q1) (.inl rfl) ?_)
     | simp only [↓upd_eq, ↓envL_cons, WZ, if_true, if_false, reduceIte, Nat.reduceEqDiff, Nat.reduceAdd, Nat.reduceLT, Nat.reduceLeDiff, reduceCtorEq, Nat.reduceMul, implies_true, forall_eq_or_imp, forall_eq, Nat.reducePow, W1, W1C, W1V, W5]
  | false =>
    rw [hv] at q1
    cases hc : heavyC [c] with
    | true =>
      rw [hc] at q2
      refine pcalls_text C_ok Try.func8 rfl (by decide) (Nat.le_of_ble_eq_true rfl) (by decide) rfl fun ok H => ?_
      rw [Try.results8]
      repeat' first
       | ((first | apply goGb_op (fun _ _ => rfl) | apply goDGb_op (fun _ _ => rfl)); (· intro hb; (try simp only [Bool.and_eq_true, Bool.not_eq_true', Bool.or_eq_false_iff, Bool.not_eq_false'] at hb); simp only [hb, ↓upd_eq, ↓envL_cons, WZ, if_true, if_false, reduceIte, Nat.reduceEqDiff, Nat.reduceAdd, Nat.reduceLT, Nat.reduceLeDiff, reduceCtorEq, Nat.reduceMul, implies_true, forall_eq_or_imp, forall_eq, Nat.reducePow, W1, W1C, W1V, W5]; exact ⟨rfl, trivial⟩))
       | ((first | apply goGb_call (q1) | apply goDGb_call (q1) | apply goGb_call (q2) | apply goDGb_call (q2)); (· intro hb; (try simp only [Bool.and_eq_true, Bool.not_eq_true', Bool.or_eq_false_iff, Bool.not_eq_false'] at hb); simp only [hb, AV.norm, AV.normL, W2, W2C, W2V, ↓upd_eq, ↓envL_cons, WZ, if_true, if_false, reduceIte, Nat.reduceEqDiff, Nat.reduceAdd, Nat.reduceLT, Nat.reduceLeDiff, reduceCtorEq, Nat.reduceMul, implies_true, forall_eq_or_imp, forall_eq, Nat.reducePow, W1, W1C, W1V, W5]; rfl))
       | (with_reducible first | apply bA | apply bB | apply bC | apply bD | apply bE | apply bF | apply bG | apply bH | apply bI | apply bJ | apply bK | apply bL) <;> intro h <;> try simp only [h, ↓upd_eq, ↓envL_cons, WZ, if_true, if_false, reduceIte, Nat.reduceEqDiff, Nat.reduceAdd, Nat.reduceLT, Nat.reduceLeDiff, reduceCtorEq, Nat.reduceMul, implies_true, forall_eq_or_imp, forall_eq, Nat.reducePow, W1, W1C, W1V, W5]
       | ((first | refine goCall_norm ?_ | refine goDCall_norm ?_); simp only [AV.norm, AV.normL, W2, W2C, W2V]; first | refine goCall_p (q1) (.inl rfl) ?_ | refine goCall_p (q2) (.inl rfl) ?_ | refine goDCall_p (q1) (.inl rfl) ?_ | refine goDCall_p (q2) (.inl rfl) ?_)
       | simp only [↓upd_eq, ↓envL_cons, WZ, if_true, if_false, reduceIte, Nat.reduceEqDiff, Nat.reduceAdd, Nat.reduceLT, Nat.reduceLeDiff, reduceCtorEq, Nat.reduceMul, implies_true, forall_eq_or_imp, forall_eq, Nat.reducePow, W1, W1C, W1V, W5]
    | false =>
      rw [hc] at q2
      cases hr : rightV v with
      | false =>
        rw [hr] at q3
        rw [wrapR, if_neg (by simp [hr])] at qa
        rw [partsR, if_neg (by simp [hr])] at qb
        unfold embR at qa qb
        refine pcalls_text C_ok Try.func8 rfl (by decide) (Nat.le_of_ble_eq_true rfl) (by decide) rfl fun ok H => ?_
        rw [Try.results8]
        repeat' first
         | ((first | apply goGb_op (fun _ _ => rfl) | apply goDGb_op (fun _ _ => rfl)); (· intro hb; (try simp only [Bool.and_eq_true, Bool.not_eq_true', Bool.or_eq_false_iff, Bool.not_eq_false'] at hb); simp only [hb, ↓upd_eq, ↓envL_cons, WZ, if_true, if_false, reduceIte, Nat.reduceEqDiff, Nat.reduceAdd, Nat.reduceLT, Nat.reduceLeDiff, reduceCtorEq, Nat.reduceMul, implies_true, forall_eq_or_imp, forall_eq, Nat.reducePow, W1, W1C, W1V, W5, beq_self_eq_true]; exact ⟨rfl, trivial⟩))
         | ((first | apply goGb_call (q1) | apply goDGb_call (q1) | apply goGb_call (q2) | apply goDGb_call (q2) | apply goGb_call (q3) | apply goDGb_call (q3) | apply goGb_call (qa) | apply goDGb_call (qa) | apply goGb_call (qb) | apply goDGb_call (qb) | apply goGb_call (qw) | apply goDGb_call (qw)); (· intro hb; (try simp only [Bool.and_eq_true, Bool.not_eq_true', Bool.or_eq_false_iff, Bool.not_eq_false'] at hb); simp only [hb, AV.norm, AV.normL, W2, W2C, W2V, ↓upd_eq, ↓envL_cons, WZ, if_true, if_false, reduceIte, Nat.reduceEqDiff, Nat.reduceAdd, Nat.reduceLT, Nat.reduceLeDiff, reduceCtorEq, Nat.reduceMul, implies_true, forall_eq_or_imp, forall_eq, Nat.reducePow, W1, W1C, W1V, W5, beq_self_eq_true]; rfl))
         | (with_reducible first | apply bA | apply bB | apply bC | apply bD | apply bE | apply bF | apply bG | apply bH | apply bI | apply bJ | apply bK | apply bL) <;> intro h <;> try simp only [h, ↓upd_eq, ↓envL_cons, WZ, if_true, if_false, reduceIte, Nat.reduceEqDiff, Nat.reduceAdd, Nat.reduceLT, Nat.reduceLeDiff, reduceCtorEq, Nat.reduceMul, implies_true, forall_eq_or_imp, forall_eq, Nat.reducePow, W1, W1C, W1V, W5, beq_self_eq_true]
         | ((first | refine goCall_norm ?_ | refine goDCall_norm ?_); simp only [AV.norm, AV.normL, W2, W2C, W2V, beq_self_eq_true]; first | refine goCall_p (q1) (.inl rfl) ?_ | refine goCall_p (q2) (.inl rfl) ?_ | refine goCall_p (q3) (.inl rfl) ?_ | refine goCall_p (qa) (.inl rfl) ?_ | refine goCall_p (qb) (.inl rfl) ?_ | refine goCall_p (qw) (.inl rfl) ?_ | refine goDCall_p (q1) (.inl rfl) ?_ | refine goDCall_p (q2) (.inl rfl) ?_ | refine goDCall_p (q3) (.inl rfl) ?_ | refine goDCall_p (qa) (.inl rfl) ?_ | refine goDCall_p (qb) (.inl rfl) ?_ | refine goDCall_p (qw) (.inl rfl) ?_)
         | simp only [↓upd_eq, ↓envL_cons, WZ, if_true, if_false, reduceIte, Nat.reduceEqDiff, Nat.reduceAdd, Nat.reduceLT, Nat.reduceLeDiff, reduceCtorEq, Nat.reduceMul, implies_true, forall_eq_or_imp, forall_eq, Nat.reducePow, W1, W1C, W1V, W5, beq_self_eq_true]
      | true =>
        rw [hr] at q3
        rw [partsR, if_pos hr] at qb
        have qc := rParts_ok v hr
        obtain ⟨a, b, k, l, n, e, hp⟩ := resP_shape (twoV v)
        rw [hp] at qb qc
        have ene : (e != e) = false := by simp
        have qd := sameR_ok k l k l n n
        simp only [beq_self_eq_true, Bool.and_self] at qd
        have qe := rsameV_ok a a
        have qf := rsameV_ok b b
        rw [sameV_true.2 rfl] at qe qf
        cases hg : rightC c with
        | false =>
          rw [hg] at q4
          rw [wrapR, if_neg (by simp [hg])] at qa
          unfold embR at qa qb qc qd
          refine pcalls_text C_ok Try.func8 rfl (by decide) (Nat.le_of_ble_eq_true rfl) (by decide) rfl fun ok H => ?_
          rw [Try.results8]
          repeat' first
           | ((first | apply goGb_op (fun _ _ => rfl) | apply goDGb_op (fun _ _ => rfl)); (· intro hb; (try simp only [Bool.and_eq_true, Bool.not_eq_true', Bool.or_eq_false_iff, Bool.not_eq_false'] at hb); simp only [hb, ↓upd_eq, ↓envL_cons, WZ, if_true, if_false, reduceIte, Nat.reduceEqDiff, Nat.reduceAdd, Nat.reduceLT, Nat.reduceLeDiff, reduceCtorEq, Nat.reduceMul, implies_true, forall_eq_or_imp, forall_eq, Nat.reducePow, W1, W1C, W1V, W5, beq_self_eq_true, ene]; exact ⟨rfl, trivial⟩))
           | ((first | apply goGb_call (q1) | apply goDGb_call (q1) | apply goGb_call (q2) | apply goDGb_call (q2) | apply goGb_call (q3) | apply goDGb_call (q3) | apply goGb_call (q4) | apply goDGb_call (q4) | apply goGb_call (qa) | apply goDGb_call (qa) | apply goGb_call (qb) | apply goDGb_call (qb) | apply goGb_call (qc) | apply goDGb_call (qc) | apply goGb_call (qd) | apply goDGb_call (qd) | apply goGb_call (qe) | apply goDGb_call (qe) | apply goGb_call (qf) | apply goDGb_call (qf) | apply goGb_call (qw) | apply goDGb_call (qw)); (· intro hb; (try simp only [Bool.and_eq_true, Bool.not_eq_true', Bool.or_eq_false_iff, Bool.not_eq_false'] at hb); simp only [hb, AV.norm, AV.normL, W2, W2C, W2V, ↓upd_eq, ↓envL_cons, WZ, if_true, if_false, reduceIte, Nat.reduceEqDiff, Nat.reduceAdd, Nat.reduceLT, Nat.reduceLeDiff, reduceCtorEq, Nat.reduceMul, implies_true, forall_eq_or_imp, forall_eq, Nat.reducePow, W1, W1C, W1V, W5, beq_self_eq_true, ene]; rfl))
           | (with_reducible first | apply bA | apply bB | apply bC | apply bD | apply bE | apply bF | apply bG | apply bH | apply bI | apply bJ | apply bK | apply bL) <;> intro h <;> try simp only [h, ↓upd_eq, ↓envL_cons, WZ, if_true, if_false, reduceIte, Nat.reduceEqDiff, Nat.reduceAdd, Nat.reduceLT, Nat.reduceLeDiff, reduceCtorEq, Nat.reduceMul, implies_true, forall_eq_or_imp, forall_eq, Nat.reducePow, W1, W1C, W1V, W5, beq_self_eq_true, ene]
           | ((first | refine goCall_norm ?_ | refine goDCall_norm ?_); simp only [AV.norm, AV.normL, W2, W2C, W2V, beq_self_eq_true, ene]; first | refine goCall_p (q1) (.inl rfl) ?_ | refine goCall_p (q2) (.inl rfl) ?_ | refine goCall_p (q3) (.inl rfl) ?_ | refine goCall_p (q4) (.inl rfl) ?_ | refine goCall_p (qa) (.inl rfl) ?_ | refine goCall_p (qb) (.inl rfl) ?_ | refine goCall_p (qc) (.inl rfl) ?_ | refine goCall_p (qd) (.inl rfl) ?_ | refine goCall_p (qe) (.inl rfl) ?_ | refine goCall_p (qf) (.inl rfl) ?_ | refine goCall_p (qw) (.inl rfl) ?_ | refine goDCall_p (q1) (.inl rfl) ?_ | refine goDCall_p (q2) (.inl rfl) ?_ | refine goDCall_p (q3) (.inl rfl) ?_ | refine goDCall_p (q4) (.inl rfl) ?_ | refine goDCall_p (qa) (.inl rfl) ?_ | refine goDCall_p (qb) (.inl rfl) ?_ | refine goDCall_p (qc) (.inl rfl) ?_ | refine goDCall_p (qd) (.inl rfl) ?_ | refine goDCall_p (qe) (.inl rfl) ?_ | refine goDCall_p (qf) (.inl rfl) ?_ | refine goDCall_p (qw) (.inl rfl) ?_)
           | simp only [↓upd_eq, ↓envL_cons, WZ, if_true, if_false, reduceIte, Nat.reduceEqDiff, Nat.reduceAdd, Nat.reduceLT, Nat.reduceLeDiff, reduceCtorEq, Nat.reduceMul, implies_true, forall_eq_or_imp, forall_eq, Nat.reducePow, W1, W1C, W1V, W5, beq_self_eq_true, ene]
        | true =>
          rw [hg] at q4
          rw [wrapR, if_pos (by simp [hr, hg])] at qa
          have qg := rWrap_ok v c hr hg
          obtain ⟨w, k', l', n', e', hw⟩ := resW_shape (wrapA v c)
          rw [hw] at qa qg
          have qh := sameR_ok k' l' k' l' n' n'
          simp only [beq_self_eq_true, Bool.and_self] at qh
          have qi := rsameV_ok w w
          rw [sameV_true.2 rfl] at qi
          unfold embR at qa qb qc qd qg qh
          refine pcalls_text C_ok Try.func8 rfl (by decide) (Nat.le_of_ble_eq_true rfl) (by decide) rfl fun ok H => ?_
          rw [Try.results8]
          repeat' first
           | ((first | apply goGb_op (fun _ _ => rfl) | apply goDGb_op (fun _ _ => rfl)); (· intro hb; (try simp only [Bool.and_eq_true, Bool.not_eq_true', Bool.or_eq_false_iff, Bool.not_eq_false'] at hb); simp only [hb, ↓upd_eq, ↓envL_cons, WZ, if_true, if_false, reduceIte, Nat.reduceEqDiff, Nat.reduceAdd, Nat.reduceLT, Nat.reduceLeDiff, reduceCtorEq, Nat.reduceMul, implies_true, forall_eq_or_imp, forall_eq, Nat.reducePow, W1, W1C, W1V, W5, beq_self_eq_true, ene]; exact ⟨rfl, trivial⟩))
           | ((first | apply goGb_call (q1) | apply goDGb_call (q1) | apply goGb_call (q2) | apply goDGb_call (q2) | apply goGb_call (q3) | apply goDGb_call (q3) | apply goGb_call (q4) | apply goDGb_call (q4) | apply goGb_call (qa) | apply goDGb_call (qa) | apply goGb_call (qb) | apply goDGb_call (qb) | apply goGb_call (qc) | apply goDGb_call (qc) | apply goGb_call (qd) | apply goDGb_call (qd) | apply goGb_call (qe) | apply goDGb_call (qe) | apply goGb_call (qf) | apply goDGb_call (qf) | apply goGb_call (qg) | apply goDGb_call (qg) | apply goGb_call (qh) | apply goDGb_call (qh) | apply goGb_call (qi) | apply goDGb_call (qi) | apply goGb_call (qw) | apply goDGb_call (qw)); (· intro hb; (try simp only [Bool.and_eq_true, Bool.not_eq_true', Bool.or_eq_false_iff, Bool.not_eq_false'] at hb); simp only [hb, AV.norm, AV.normL, W2, W2C, W2V, ↓upd_eq, ↓envL_cons, WZ, if_true, if_false, reduceIte, Nat.reduceEqDiff, Nat.reduceAdd, Nat.reduceLT, Nat.reduceLeDiff, reduceCtorEq, Nat.reduceMul, implies_true, forall_eq_or_imp, forall_eq, Nat.reducePow, W1, W1C, W1V, W5, beq_self_eq_true, ene]; rfl))
           | (with_reducible first | apply bA | apply bB | apply bC | apply bD | apply bE | apply bF | apply bG | apply bH | apply bI | apply bJ | apply bK | apply bL) <;> intro h <;> try simp only [h, ↓upd_eq, ↓envL_cons, WZ, if_true, if_false, reduceIte, Nat.reduceEqDiff, Nat.reduceAdd, Nat.reduceLT, Nat.reduceLeDiff, reduceCtorEq, Nat.reduceMul, implies_true, forall_eq_or_imp, forall_eq, Nat.reducePow, W1, W1C, W1V, W5, beq_self_eq_true, ene]
           | ((first | refine goCall_norm ?_ | refine goDCall_norm ?_); simp only [AV.norm, AV.normL, W2, W2C, W2V, beq_self_eq_true, ene]; first | refine goCall_p (q1) (.inl rfl) ?_ | refine goCall_p (q2) (.inl rfl) ?_ | refine goCall_p (q3) (.inl rfl) ?_ | refine goCall_p (q4) (.inl rfl) ?_ | refine goCall_p (qa) (.inl rfl) ?_ | refine goCall_p (qb) (.inl rfl) ?_ | refine goCall_p (qc) (.inl rfl) ?_ | refine goCall_p (qd) (.inl rfl) ?_ | refine goCall_p (qe) (.inl rfl) ?_ | refine goCall_p (qf) (.inl rfl) ?_ | refine goCall_p (qg) (.inl rfl) ?_ | refine goCall_p (qh) (.inl rfl) ?_ | refine goCall_p (qi) (.inl rfl) ?_ | refine goCall_p (qw) (.inl rfl) ?_ | refine goDCall_p (q1) (.inl rfl) ?_ | refine goDCall_p (q2) (.inl rfl) ?_ | refine goDCall_p (q3) (.inl rfl) ?_ | refine goDCall_p (q4) (.inl rfl) ?_ | refine goDCall_p (qa) (.inl rfl) ?_ | refine goDCall_p (qb) (.inl rfl) ?_ | refine goDCall_p (qc) (.inl rfl) ?_ | refine goDCall_p (qd) (.inl rfl) ?_ | refine goDCall_p (qe) (.inl rfl) ?_ | refine goDCall_p (qf) (.inl rfl) ?_ | refine goDCall_p (qg) (.inl rfl) ?_ | refine goDCall_p (qh) (.inl rfl) ?_ | refine goDCall_p (qi) (.inl rfl) ?_ | refine goDCall_p (qw) (.inl rfl) ?_)
           | simp only [↓upd_eq, ↓envL_cons, WZ, if_true, if_false, reduceIte, Nat.reduceEqDiff, Nat.reduceAdd, Nat.reduceLT, Nat.reduceLeDiff, reduceCtorEq, Nat.reduceMul, implies_true, forall_eq_or_imp, forall_eq, Nat.reducePow, W1, W1C, W1V, W5, beq_self_eq_true, ene]

end Go.Proofs.Ytofogicgnldfhaa
