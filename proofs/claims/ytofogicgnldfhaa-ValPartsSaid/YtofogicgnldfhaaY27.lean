/- ValTwice answers true, whatever the input. No condition. -/
import Derived.Test.YtofogicgnldfhaaY23
import Derived.Test.YtofogicgnldfhaaY26
set_option linter.unusedSimpArgs false
set_option linter.unusedVariables false
set_option maxHeartbeats 4000000
set_option maxRecDepth 100000
namespace Go.Proofs.Ytofogicgnldfhaa
open Go Go.Ab
attribute [local irreducible] PCalls ACalls CallK GoCall GoDCall GoIf GoGb GoDGb GoO GoD GoX GoDX GoG GoDG GoGv GoDGv Go ALoop

theorem vcheck_right {v : Vl} (h : rightV v = true) : PCalls Try.prog 16 [embV v] (.int .i64 0) := by
  have := vcheck_ok v
  rwa [h, if_pos rfl] at this
theorem joinE_two (c d : Co) (hc : rightC c = true) (hd : rightC d = true) : joinE c d = 0 ∨ joinE c d = 8 := by
  obtain ⟨C', rfl, oc⟩ := K.of_right' hc
  obtain ⟨D, rfl, od⟩ := K.of_right' hd
  rcases joinE_K oc od with ⟨_, _, _, h, _⟩ | h
  · exact .inl h
  · exact .inr h
theorem sameR_refl (k l : Int) (n : Bool) : PCalls Try.prog 26 [embR k l n, embR k l n] (.bool true) := by
  have := sameR_ok k l k l n n
  simpa only [beq_self_eq_true, Bool.and_self] using this
theorem vsame_refl (v : Vl) : PCalls Try.prog 18 [embV v, embV v] (.bool true) := by
  have := vsame_ok v v
  rwa [sameV_true.2 rfl] at this

theorem valTwice_ok (v : Vl) (c d : Co) : PCalls Try.prog 5 [embV v, embC c, embC d] (.bool true) := by
  have q1 := heavyV1_ok v
  have q2 := heavyC2_ok c d
  have q3 := rrightV_ok v
  have q4 := rrightC_ok c
  have q5 := rrightC_ok d
  have qw := wakes_ok
  have b0 : ((0 : Int) != 0) = false := rfl
  have b8 : ((8 : Int) != 0) = true := rfl
  have b2 : ((2 : Int) != 0) = true := rfl
  have z0 : ((0 : Int) == 0) = true := rfl
  cases hv : heavyV [v] with
  | true =>
    rw [hv] at q1
    refine pcalls_text C_ok Try.func5 rfl (by decide) (Nat.le_of_ble_eq_true rfl) (by decide) rfl fun ok H => ?_
    rw [Try.results5]
    repeat' first
     | ((first | apply goGb_op (fun _ _ => rfl) | apply goDGb_op (fun _ _ => rfl)); (· intro hb; (try simp only [Bool.and_eq_true, Bool.not_eq_true', Bool.or_eq_false_iff, Bool.not_eq_false'] at hb); simp only [hb, ↓upd_eq, ↓envL_cons, WZ, if_true, if_false, reduceIte, Nat.reduceEqDiff, Nat.reduceAdd, Nat.reduceLT, Nat.reduceLeDiff, reduceCtorEq, Nat.reduceMul, implies_true, forall_eq_or_imp, forall_eq, Nat.reducePow, W1, W1C, W1V, W5]; exact ⟨rfl, trivial⟩))
     | ((first | apply goGb_call (q1) | apply goDGb_call (q1)); (· intro hb; (try simp only [Bool.and_eq_true, Bool.not_eq_true', Bool.or_eq_false_iff, Bool.not_eq_false'] at hb); simp only [hb, AV.norm, AV.normL, W2, W2C, W2V, ↓upd_eq, ↓envL_cons, WZ, if_true, if_false, reduceIte, Nat.reduceEqDiff, Nat.reduceAdd, Nat.reduceLT, Nat.reduceLeDiff, reduceCtorEq, Nat.reduceMul, implies_true, forall_eq_or_imp, forall_eq, Nat.reducePow, W1, W1C, W1V, W5]; rfl))
     | (with_reducible first | apply bA | apply bB | apply bC | apply bD | apply bE | apply bF | apply bG | apply bH | apply bI | apply bJ | apply bK | apply bL) <;> intro h <;> try simp only [h, ↓upd_eq, ↓envL_cons, WZ, if_true, if_false, reduceIte, Nat.reduceEqDiff, Nat.reduceAdd, Nat.reduceLT, Nat.reduceLeDiff, reduceCtorEq, Nat.reduceMul, implies_true, forall_eq_or_imp, forall_eq, Nat.reducePow, W1, W1C, W1V, W5]
     | ((first | refine goCall_norm ?_ | refine goDCall_norm ?_); simp only [AV.norm, AV.normL, W2, W2C, W2V]; first | refine goCall_p (q1) (.inl rfl) ?_ | refine goDCall_p (q1) (.inl rfl) ?_)
     | simp only [↓upd_eq, ↓envL_cons, WZ, if_true, if_false, reduceIte, Nat.reduceEqDiff, Nat.reduceAdd, Nat.reduceLT, Nat.reduceLeDiff, reduceCtorEq, Nat.reduceMul, implies_true, forall_eq_or_imp, forall_eq, Nat.reducePow, W1, W1C, W1V, W5]
  | false =>
  rw [hv] at q1
  cases hh : heavyC [c, d] with
  | true =>
    rw [hh] at q2
    refine pcalls_text C_ok Try.func5 rfl (by decide) (Nat.le_of_ble_eq_true rfl) (by decide) rfl fun ok H => ?_
    rw [Try.results5]
    repeat' first
     | ((first | apply goGb_op (fun _ _ => rfl) | apply goDGb_op (fun _ _ => rfl)); (· intro hb; (try simp only [Bool.and_eq_true, Bool.not_eq_true', Bool.or_eq_false_iff, Bool.not_eq_false'] at hb); simp only [hb, ↓upd_eq, ↓envL_cons, WZ, if_true, if_false, reduceIte, Nat.reduceEqDiff, Nat.reduceAdd, Nat.reduceLT, Nat.reduceLeDiff, reduceCtorEq, Nat.reduceMul, implies_true, forall_eq_or_imp, forall_eq, Nat.reducePow, W1, W1C, W1V, W5]; exact ⟨rfl, trivial⟩))
     | ((first | apply goGb_call (q1) | apply goDGb_call (q1) | apply goGb_call (q2) | apply goDGb_call (q2)); (· intro hb; (try simp only [Bool.and_eq_true, Bool.not_eq_true', Bool.or_eq_false_iff, Bool.not_eq_false'] at hb); simp only [hb, AV.norm, AV.normL, W2, W2C, W2V, ↓upd_eq, ↓envL_cons, WZ, if_true, if_false, reduceIte, Nat.reduceEqDiff, Nat.reduceAdd, Nat.reduceLT, Nat.reduceLeDiff, reduceCtorEq, Nat.reduceMul, implies_true, forall_eq_or_imp, forall_eq, Nat.reducePow, W1, W1C, W1V, W5]; rfl))
     | (with_reducible first | apply bA | apply bB | apply bC | apply bD | apply bE | apply bF | apply bG | apply bH | apply bI | apply bJ | apply bK | apply bL) <;> intro h <;> try simp only [h, ↓upd_eq, ↓envL_cons, WZ, if_true, if_false, reduceIte, Nat.reduceEqDiff, Nat.reduceAdd, Nat.reduceLT, Nat.reduceLeDiff, reduceCtorEq, Nat.reduceMul, implies_true, forall_eq_or_imp, forall_eq, Nat.reducePow, W1, W1C, W1V, W5]
     | ((first | refine goCall_norm ?_ | refine goDCall_norm ?_); simp only [AV.norm, AV.normL, W2, W2C, W2V]; first | refine goCall_p (q1) (.inl rfl) ?_ | refine goCall_p (q2) (.inl rfl) ?_ | refine goDCall_p (q1) (.inl rfl) ?_ | refine goDCall_p (q2) (.inl rfl) ?_)
     | simp only [↓upd_eq, ↓envL_cons, WZ, if_true, if_false, reduceIte, Nat.reduceEqDiff, Nat.reduceAdd, Nat.reduceLT, Nat.reduceLeDiff, reduceCtorEq, Nat.reduceMul, implies_true, forall_eq_or_imp, forall_eq, Nat.reducePow, W1, W1C, W1V, W5]
  | false =>
  rw [hh] at q2
  cases hr : rightV v with
  | false =>
    rw [hr] at q3
    refine pcalls_text C_ok Try.func5 rfl (by decide) (Nat.le_of_ble_eq_true rfl) (by decide) rfl fun ok H => ?_
    rw [Try.results5]
    repeat' first
     | ((first | apply goGb_op (fun _ _ => rfl) | apply goDGb_op (fun _ _ => rfl)); (· intro hb; (try simp only [Bool.and_eq_true, Bool.not_eq_true', Bool.or_eq_false_iff, Bool.not_eq_false'] at hb); simp only [hb, ↓upd_eq, ↓envL_cons, WZ, if_true, if_false, reduceIte, Nat.reduceEqDiff, Nat.reduceAdd, Nat.reduceLT, Nat.reduceLeDiff, reduceCtorEq, Nat.reduceMul, implies_true, forall_eq_or_imp, forall_eq, Nat.reducePow, W1, W1C, W1V, W5]; exact ⟨rfl, trivial⟩))
     | ((first | apply goGb_call (q1) | apply goDGb_call (q1) | apply goGb_call (q2) | apply goDGb_call (q2) | apply goGb_call (q3) | apply goDGb_call (q3)); (· intro hb; (try simp only [Bool.and_eq_true, Bool.not_eq_true', Bool.or_eq_false_iff, Bool.not_eq_false'] at hb); simp only [hb, AV.norm, AV.normL, W2, W2C, W2V, ↓upd_eq, ↓envL_cons, WZ, if_true, if_false, reduceIte, Nat.reduceEqDiff, Nat.reduceAdd, Nat.reduceLT, Nat.reduceLeDiff, reduceCtorEq, Nat.reduceMul, implies_true, forall_eq_or_imp, forall_eq, Nat.reducePow, W1, W1C, W1V, W5]; rfl))
     | (with_reducible first | apply bA | apply bB | apply bC | apply bD | apply bE | apply bF | apply bG | apply bH | apply bI | apply bJ | apply bK | apply bL) <;> intro h <;> try simp only [h, ↓upd_eq, ↓envL_cons, WZ, if_true, if_false, reduceIte, Nat.reduceEqDiff, Nat.reduceAdd, Nat.reduceLT, Nat.reduceLeDiff, reduceCtorEq, Nat.reduceMul, implies_true, forall_eq_or_imp, forall_eq, Nat.reducePow, W1, W1C, W1V, W5]
     | ((first | refine goCall_norm ?_ | refine goDCall_norm ?_); simp only [AV.norm, AV.normL, W2, W2C, W2V]; first | refine goCall_p (q1) (.inl rfl) ?_ | refine goCall_p (q2) (.inl rfl) ?_ | refine goCall_p (q3) (.inl rfl) ?_ | refine goDCall_p (q1) (.inl rfl) ?_ | refine goDCall_p (q2) (.inl rfl) ?_ | refine goDCall_p (q3) (.inl rfl) ?_)
     | simp only [↓upd_eq, ↓envL_cons, WZ, if_true, if_false, reduceIte, Nat.reduceEqDiff, Nat.reduceAdd, Nat.reduceLT, Nat.reduceLeDiff, reduceCtorEq, Nat.reduceMul, implies_true, forall_eq_or_imp, forall_eq, Nat.reducePow, W1, W1C, W1V, W5]
  | true =>
  rw [hr] at q3
  cases hc : rightC c with
  | false =>
    rw [hc] at q4
    refine pcalls_text C_ok Try.func5 rfl (by decide) (Nat.le_of_ble_eq_true rfl) (by decide) rfl fun ok H => ?_
    rw [Try.results5]
    repeat' first
     | ((first | apply goGb_op (fun _ _ => rfl) | apply goDGb_op (fun _ _ => rfl)); (· intro hb; (try simp only [Bool.and_eq_true, Bool.not_eq_true', Bool.or_eq_false_iff, Bool.not_eq_false'] at hb); simp only [hb, ↓upd_eq, ↓envL_cons, WZ, if_true, if_false, reduceIte, Nat.reduceEqDiff, Nat.reduceAdd, Nat.reduceLT, Nat.reduceLeDiff, reduceCtorEq, Nat.reduceMul, implies_true, forall_eq_or_imp, forall_eq, Nat.reducePow, W1, W1C, W1V, W5]; exact ⟨rfl, trivial⟩))
     | ((first | apply goGb_call (q1) | apply goDGb_call (q1) | apply goGb_call (q2) | apply goDGb_call (q2) | apply goGb_call (q3) | apply goDGb_call (q3) | apply goGb_call (q4) | apply goDGb_call (q4)); (· intro hb; (try simp only [Bool.and_eq_true, Bool.not_eq_true', Bool.or_eq_false_iff, Bool.not_eq_false'] at hb); simp only [hb, AV.norm, AV.normL, W2, W2C, W2V, ↓upd_eq, ↓envL_cons, WZ, if_true, if_false, reduceIte, Nat.reduceEqDiff, Nat.reduceAdd, Nat.reduceLT, Nat.reduceLeDiff, reduceCtorEq, Nat.reduceMul, implies_true, forall_eq_or_imp, forall_eq, Nat.reducePow, W1, W1C, W1V, W5]; rfl))
     | (with_reducible first | apply bA | apply bB | apply bC | apply bD | apply bE | apply bF | apply bG | apply bH | apply bI | apply bJ | apply bK | apply bL) <;> intro h <;> try simp only [h, ↓upd_eq, ↓envL_cons, WZ, if_true, if_false, reduceIte, Nat.reduceEqDiff, Nat.reduceAdd, Nat.reduceLT, Nat.reduceLeDiff, reduceCtorEq, Nat.reduceMul, implies_true, forall_eq_or_imp, forall_eq, Nat.reducePow, W1, W1C, W1V, W5]
     | ((first | refine goCall_norm ?_ | refine goDCall_norm ?_); simp only [AV.norm, AV.normL, W2, W2C, W2V]; first | refine goCall_p (q1) (.inl rfl) ?_ | refine goCall_p (q2) (.inl rfl) ?_ | refine goCall_p (q3) (.inl rfl) ?_ | refine goCall_p (q4) (.inl rfl) ?_ | refine goDCall_p (q1) (.inl rfl) ?_ | refine goDCall_p (q2) (.inl rfl) ?_ | refine goDCall_p (q3) (.inl rfl) ?_ | refine goDCall_p (q4) (.inl rfl) ?_)
     | simp only [↓upd_eq, ↓envL_cons, WZ, if_true, if_false, reduceIte, Nat.reduceEqDiff, Nat.reduceAdd, Nat.reduceLT, Nat.reduceLeDiff, reduceCtorEq, Nat.reduceMul, implies_true, forall_eq_or_imp, forall_eq, Nat.reducePow, W1, W1C, W1V, W5]
  | true =>
  rw [hc] at q4
  cases hd : rightC d with
  | false =>
    rw [hd] at q5
    refine pcalls_text C_ok Try.func5 rfl (by decide) (Nat.le_of_ble_eq_true rfl) (by decide) rfl fun ok H => ?_
    rw [Try.results5]
    repeat' first
     | ((first | apply goGb_op (fun _ _ => rfl) | apply goDGb_op (fun _ _ => rfl)); (· intro hb; (try simp only [Bool.and_eq_true, Bool.not_eq_true', Bool.or_eq_false_iff, Bool.not_eq_false'] at hb); simp only [hb, ↓upd_eq, ↓envL_cons, WZ, if_true, if_false, reduceIte, Nat.reduceEqDiff, Nat.reduceAdd, Nat.reduceLT, Nat.reduceLeDiff, reduceCtorEq, Nat.reduceMul, implies_true, forall_eq_or_imp, forall_eq, Nat.reducePow, W1, W1C, W1V, W5]; exact ⟨rfl, trivial⟩))
     | ((first | apply goGb_call (q1) | apply goDGb_call (q1) | apply goGb_call (q2) | apply goDGb_call (q2) | apply goGb_call (q3) | apply goDGb_call (q3) | apply goGb_call (q4) | apply goDGb_call (q4) | apply goGb_call (q5) | apply goDGb_call (q5)); (· intro hb; (try simp only [Bool.and_eq_true, Bool.not_eq_true', Bool.or_eq_false_iff, Bool.not_eq_false'] at hb); simp only [hb, AV.norm, AV.normL, W2, W2C, W2V, ↓upd_eq, ↓envL_cons, WZ, if_true, if_false, reduceIte, Nat.reduceEqDiff, Nat.reduceAdd, Nat.reduceLT, Nat.reduceLeDiff, reduceCtorEq, Nat.reduceMul, implies_true, forall_eq_or_imp, forall_eq, Nat.reducePow, W1, W1C, W1V, W5]; rfl))
     | (with_reducible first | apply bA | apply bB | apply bC | apply bD | apply bE | apply bF | apply bG | apply bH | apply bI | apply bJ | apply bK | apply bL) <;> intro h <;> try simp only [h, ↓upd_eq, ↓envL_cons, WZ, if_true, if_false, reduceIte, Nat.reduceEqDiff, Nat.reduceAdd, Nat.reduceLT, Nat.reduceLeDiff, reduceCtorEq, Nat.reduceMul, implies_true, forall_eq_or_imp, forall_eq, Nat.reducePow, W1, W1C, W1V, W5]
     | ((first | refine goCall_norm ?_ | refine goDCall_norm ?_); simp only [AV.norm, AV.normL, W2, W2C, W2V]; first | refine goCall_p (q1) (.inl rfl) ?_ | refine goCall_p (q2) (.inl rfl) ?_ | refine goCall_p (q3) (.inl rfl) ?_ | refine goCall_p (q4) (.inl rfl) ?_ | refine goCall_p (q5) (.inl rfl) ?_ | refine goDCall_p (q1) (.inl rfl) ?_ | refine goDCall_p (q2) (.inl rfl) ?_ | refine goDCall_p (q3) (.inl rfl) ?_ | refine goDCall_p (q4) (.inl rfl) ?_ | refine goDCall_p (q5) (.inl rfl) ?_)
     | simp only [↓upd_eq, ↓envL_cons, WZ, if_true, if_false, reduceIte, Nat.reduceEqDiff, Nat.reduceAdd, Nat.reduceLT, Nat.reduceLeDiff, reduceCtorEq, Nat.reduceMul, implies_true, forall_eq_or_imp, forall_eq, Nat.reducePow, W1, W1C, W1V, W5]
  | true =>
  rw [hd] at q5
  have q6 := cJoinC_ok c d
  have q7 := vWrap_ok v c
  rw [wrapR, if_pos (by rw [hr, hc]; rfl)] at q7
  rcases joinE_two c d hc hd with hj | hj
  case inr =>
    rw [hj] at q6
    obtain ⟨w, k, l, n, e, hw⟩ := resW_shape (wrapA v c)
    rw [hw] at q7
    unfold embR at q7
    generalize joinC c d = j at q6
    refine pcalls_text C_ok Try.func5 rfl (by decide) (Nat.le_of_ble_eq_true rfl) (by decide) rfl fun ok H => ?_
    rw [Try.results5]
    repeat' first
     | ((first | apply goGb_op (fun _ _ => rfl) | apply goDGb_op (fun _ _ => rfl)); (· intro hb; (try simp only [Bool.and_eq_true, Bool.not_eq_true', Bool.or_eq_false_iff, Bool.not_eq_false'] at hb); simp only [hb, ↓upd_eq, ↓envL_cons, WZ, if_true, if_false, reduceIte, Nat.reduceEqDiff, Nat.reduceAdd, Nat.reduceLT, Nat.reduceLeDiff, reduceCtorEq, Nat.reduceMul, implies_true, forall_eq_or_imp, forall_eq, Nat.reducePow, W1, W1C, W1V, W5, b8]; exact ⟨rfl, trivial⟩))
     | ((first | apply goGb_call (q1) | apply goDGb_call (q1) | apply goGb_call (q2) | apply goDGb_call (q2) | apply goGb_call (q3) | apply goDGb_call (q3) | apply goGb_call (q4) | apply goDGb_call (q4) | apply goGb_call (q5) | apply goDGb_call (q5) | apply goGb_call (q6) | apply goDGb_call (q6) | apply goGb_call (q7) | apply goDGb_call (q7) | apply goGb_call (qw) | apply goDGb_call (qw)); (· intro hb; (try simp only [Bool.and_eq_true, Bool.not_eq_true', Bool.or_eq_false_iff, Bool.not_eq_false'] at hb); simp only [hb, AV.norm, AV.normL, W2, W2C, W2V, ↓upd_eq, ↓envL_cons, WZ, if_true, if_false, reduceIte, Nat.reduceEqDiff, Nat.reduceAdd, Nat.reduceLT, Nat.reduceLeDiff, reduceCtorEq, Nat.reduceMul, implies_true, forall_eq_or_imp, forall_eq, Nat.reducePow, W1, W1C, W1V, W5, b8]; rfl))
     | (with_reducible first | apply bA | apply bB | apply bC | apply bD | apply bE | apply bF | apply bG | apply bH | apply bI | apply bJ | apply bK | apply bL) <;> intro h <;> try simp only [h, ↓upd_eq, ↓envL_cons, WZ, if_true, if_false, reduceIte, Nat.reduceEqDiff, Nat.reduceAdd, Nat.reduceLT, Nat.reduceLeDiff, reduceCtorEq, Nat.reduceMul, implies_true, forall_eq_or_imp, forall_eq, Nat.reducePow, W1, W1C, W1V, W5, b8]
     | ((first | refine goCall_norm ?_ | refine goDCall_norm ?_); simp only [AV.norm, AV.normL, W2, W2C, W2V, b8]; first | refine goCall_p (q1) (.inl rfl) ?_ | refine goCall_p (q2) (.inl rfl) ?_ | refine goCall_p (q3) (.inl rfl) ?_ | refine goCall_p (q4) (.inl rfl) ?_ | refine goCall_p (q5) (.inl rfl) ?_ | refine goCall_p (q6) (.inl rfl) ?_ | refine goCall_p (q7) (.inl rfl) ?_ | refine goCall_p (qw) (.inl rfl) ?_ | refine goDCall_p (q1) (.inl rfl) ?_ | refine goDCall_p (q2) (.inl rfl) ?_ | refine goDCall_p (q3) (.inl rfl) ?_ | refine goDCall_p (q4) (.inl rfl) ?_ | refine goDCall_p (q5) (.inl rfl) ?_ | refine goDCall_p (q6) (.inl rfl) ?_ | refine goDCall_p (q7) (.inl rfl) ?_ | refine goDCall_p (qw) (.inl rfl) ?_)
     | simp only [↓upd_eq, ↓envL_cons, WZ, if_true, if_false, reduceIte, Nat.reduceEqDiff, Nat.reduceAdd, Nat.reduceLT, Nat.reduceLeDiff, reduceCtorEq, Nat.reduceMul, implies_true, forall_eq_or_imp, forall_eq, Nat.reducePow, W1, W1C, W1V, W5, b8]
  rw [hj] at q6
  obtain ⟨hjr, hbl, hok⟩ := wrap_twice hr hc hd hj
  have q8 := vWrap_ok v (joinC c d)
  rw [wrapR, if_pos (by rw [hr, hjr]; rfl)] at q8
  cases hw : wrapA v c with
  | err =>
    rw [hw, resW] at q7
    unfold embR at q7
    generalize joinC c d = j at q6
    refine pcalls_text C_ok Try.func5 rfl (by decide) (Nat.le_of_ble_eq_true rfl) (by decide) rfl fun ok H => ?_
    rw [Try.results5]
    repeat' first
     | ((first | apply goGb_op (fun _ _ => rfl) | apply goDGb_op (fun _ _ => rfl)); (· intro hb; (try simp only [Bool.and_eq_true, Bool.not_eq_true', Bool.or_eq_false_iff, Bool.not_eq_false'] at hb); simp only [hb, ↓upd_eq, ↓envL_cons, WZ, if_true, if_false, reduceIte, Nat.reduceEqDiff, Nat.reduceAdd, Nat.reduceLT, Nat.reduceLeDiff, reduceCtorEq, Nat.reduceMul, implies_true, forall_eq_or_imp, forall_eq, Nat.reducePow, W1, W1C, W1V, W5, b0, b8]; exact ⟨rfl, trivial⟩))
     | ((first | apply goGb_call (q1) | apply goDGb_call (q1) | apply goGb_call (q2) | apply goDGb_call (q2) | apply goGb_call (q3) | apply goDGb_call (q3) | apply goGb_call (q4) | apply goDGb_call (q4) | apply goGb_call (q5) | apply goDGb_call (q5) | apply goGb_call (q6) | apply goDGb_call (q6) | apply goGb_call (q7) | apply goDGb_call (q7) | apply goGb_call (qw) | apply goDGb_call (qw)); (· intro hb; (try simp only [Bool.and_eq_true, Bool.not_eq_true', Bool.or_eq_false_iff, Bool.not_eq_false'] at hb); simp only [hb, AV.norm, AV.normL, W2, W2C, W2V, ↓upd_eq, ↓envL_cons, WZ, if_true, if_false, reduceIte, Nat.reduceEqDiff, Nat.reduceAdd, Nat.reduceLT, Nat.reduceLeDiff, reduceCtorEq, Nat.reduceMul, implies_true, forall_eq_or_imp, forall_eq, Nat.reducePow, W1, W1C, W1V, W5, b0, b8]; rfl))
     | (with_reducible first | apply bA | apply bB | apply bC | apply bD | apply bE | apply bF | apply bG | apply bH | apply bI | apply bJ | apply bK | apply bL) <;> intro h <;> try simp only [h, ↓upd_eq, ↓envL_cons, WZ, if_true, if_false, reduceIte, Nat.reduceEqDiff, Nat.reduceAdd, Nat.reduceLT, Nat.reduceLeDiff, reduceCtorEq, Nat.reduceMul, implies_true, forall_eq_or_imp, forall_eq, Nat.reducePow, W1, W1C, W1V, W5, b0, b8]
     | ((first | refine goCall_norm ?_ | refine goDCall_norm ?_); simp only [AV.norm, AV.normL, W2, W2C, W2V, b0, b8]; first | refine goCall_p (q1) (.inl rfl) ?_ | refine goCall_p (q2) (.inl rfl) ?_ | refine goCall_p (q3) (.inl rfl) ?_ | refine goCall_p (q4) (.inl rfl) ?_ | refine goCall_p (q5) (.inl rfl) ?_ | refine goCall_p (q6) (.inl rfl) ?_ | refine goCall_p (q7) (.inl rfl) ?_ | refine goCall_p (qw) (.inl rfl) ?_ | refine goDCall_p (q1) (.inl rfl) ?_ | refine goDCall_p (q2) (.inl rfl) ?_ | refine goDCall_p (q3) (.inl rfl) ?_ | refine goDCall_p (q4) (.inl rfl) ?_ | refine goDCall_p (q5) (.inl rfl) ?_ | refine goDCall_p (q6) (.inl rfl) ?_ | refine goDCall_p (q7) (.inl rfl) ?_ | refine goDCall_p (qw) (.inl rfl) ?_)
     | simp only [↓upd_eq, ↓envL_cons, WZ, if_true, if_false, reduceIte, Nat.reduceEqDiff, Nat.reduceAdd, Nat.reduceLT, Nat.reduceLeDiff, reduceCtorEq, Nat.reduceMul, implies_true, forall_eq_or_imp, forall_eq, Nat.reducePow, W1, W1C, W1V, W5, b0, b8]
  | blame l n =>
    rw [hw, resW] at q7
    rw [hbl l n hw, resW] at q8
    have q9 := sameR_refl 2 l n
    unfold embR at q7 q8 q9
    generalize joinC c d = j at q6 q8
    refine pcalls_text C_ok Try.func5 rfl (by decide) (Nat.le_of_ble_eq_true rfl) (by decide) rfl fun ok H => ?_
    rw [Try.results5]
    repeat' first
     | ((first | apply goGb_op (fun _ _ => rfl) | apply goDGb_op (fun _ _ => rfl)); (· intro hb; (try simp only [Bool.and_eq_true, Bool.not_eq_true', Bool.or_eq_false_iff, Bool.not_eq_false'] at hb); simp only [hb, ↓upd_eq, ↓envL_cons, WZ, if_true, if_false, reduceIte, Nat.reduceEqDiff, Nat.reduceAdd, Nat.reduceLT, Nat.reduceLeDiff, reduceCtorEq, Nat.reduceMul, implies_true, forall_eq_or_imp, forall_eq, Nat.reducePow, W1, W1C, W1V, W5, b0, b2, z0]; exact ⟨rfl, trivial⟩))
     | ((first | apply goGb_call (q1) | apply goDGb_call (q1) | apply goGb_call (q2) | apply goDGb_call (q2) | apply goGb_call (q3) | apply goDGb_call (q3) | apply goGb_call (q4) | apply goDGb_call (q4) | apply goGb_call (q5) | apply goDGb_call (q5) | apply goGb_call (q6) | apply goDGb_call (q6) | apply goGb_call (q7) | apply goDGb_call (q7) | apply goGb_call (q8) | apply goDGb_call (q8) | apply goGb_call (q9) | apply goDGb_call (q9) | apply goGb_call (qw) | apply goDGb_call (qw)); (· intro hb; (try simp only [Bool.and_eq_true, Bool.not_eq_true', Bool.or_eq_false_iff, Bool.not_eq_false'] at hb); simp only [hb, AV.norm, AV.normL, W2, W2C, W2V, ↓upd_eq, ↓envL_cons, WZ, if_true, if_false, reduceIte, Nat.reduceEqDiff, Nat.reduceAdd, Nat.reduceLT, Nat.reduceLeDiff, reduceCtorEq, Nat.reduceMul, implies_true, forall_eq_or_imp, forall_eq, Nat.reducePow, W1, W1C, W1V, W5, b0, b2, z0]; rfl))
     | (with_reducible first | apply bA | apply bB | apply bC | apply bD | apply bE | apply bF | apply bG | apply bH | apply bI | apply bJ | apply bK | apply bL) <;> intro h <;> try simp only [h, ↓upd_eq, ↓envL_cons, WZ, if_true, if_false, reduceIte, Nat.reduceEqDiff, Nat.reduceAdd, Nat.reduceLT, Nat.reduceLeDiff, reduceCtorEq, Nat.reduceMul, implies_true, forall_eq_or_imp, forall_eq, Nat.reducePow, W1, W1C, W1V, W5, b0, b2, z0]
     | ((first | refine goCall_norm ?_ | refine goDCall_norm ?_); simp only [AV.norm, AV.normL, W2, W2C, W2V, b0, b2, z0]; first | refine goCall_p (q1) (.inl rfl) ?_ | refine goCall_p (q2) (.inl rfl) ?_ | refine goCall_p (q3) (.inl rfl) ?_ | refine goCall_p (q4) (.inl rfl) ?_ | refine goCall_p (q5) (.inl rfl) ?_ | refine goCall_p (q6) (.inl rfl) ?_ | refine goCall_p (q7) (.inl rfl) ?_ | refine goCall_p (q8) (.inl rfl) ?_ | refine goCall_p (q9) (.inl rfl) ?_ | refine goCall_p (qw) (.inl rfl) ?_ | refine goDCall_p (q1) (.inl rfl) ?_ | refine goDCall_p (q2) (.inl rfl) ?_ | refine goDCall_p (q3) (.inl rfl) ?_ | refine goDCall_p (q4) (.inl rfl) ?_ | refine goDCall_p (q5) (.inl rfl) ?_ | refine goDCall_p (q6) (.inl rfl) ?_ | refine goDCall_p (q7) (.inl rfl) ?_ | refine goDCall_p (q8) (.inl rfl) ?_ | refine goDCall_p (q9) (.inl rfl) ?_ | refine goDCall_p (qw) (.inl rfl) ?_)
     | simp only [↓upd_eq, ↓envL_cons, WZ, if_true, if_false, reduceIte, Nat.reduceEqDiff, Nat.reduceAdd, Nat.reduceLT, Nat.reduceLeDiff, reduceCtorEq, Nat.reduceMul, implies_true, forall_eq_or_imp, forall_eq, Nat.reducePow, W1, W1C, W1V, W5, b0, b2, z0]
  | ok w =>
    have hrw := rightV_wrapA hr hw
    rw [hw, resW] at q7
    have q9 := vWrap_ok w d
    rw [wrapR, if_pos (by rw [hrw, hd]; rfl)] at q9
    rcases hok w hw with h | h | h
    · rw [h, resW] at q8
      obtain ⟨w', k, l, n, e, hw'⟩ := resW_shape (wrapA w d)
      rw [hw'] at q9
      unfold embR at q7 q8 q9
      generalize joinC c d = j at q6 q8
      refine pcalls_text C_ok Try.func5 rfl (by decide) (Nat.le_of_ble_eq_true rfl) (by decide) rfl fun ok H => ?_
      rw [Try.results5]
      repeat' first
       | ((first | apply goGb_op (fun _ _ => rfl) | apply goDGb_op (fun _ _ => rfl)); (· intro hb; (try simp only [Bool.and_eq_true, Bool.not_eq_true', Bool.or_eq_false_iff, Bool.not_eq_false'] at hb); simp only [hb, ↓upd_eq, ↓envL_cons, WZ, if_true, if_false, reduceIte, Nat.reduceEqDiff, Nat.reduceAdd, Nat.reduceLT, Nat.reduceLeDiff, reduceCtorEq, Nat.reduceMul, implies_true, forall_eq_or_imp, forall_eq, Nat.reducePow, W1, W1C, W1V, W5, b0, b8]; exact ⟨rfl, trivial⟩))
       | ((first | apply goGb_call (q1) | apply goDGb_call (q1) | apply goGb_call (q2) | apply goDGb_call (q2) | apply goGb_call (q3) | apply goDGb_call (q3) | apply goGb_call (q4) | apply goDGb_call (q4) | apply goGb_call (q5) | apply goDGb_call (q5) | apply goGb_call (q6) | apply goDGb_call (q6) | apply goGb_call (q7) | apply goDGb_call (q7) | apply goGb_call (q8) | apply goDGb_call (q8) | apply goGb_call (q9) | apply goDGb_call (q9) | apply goGb_call (qw) | apply goDGb_call (qw)); (· intro hb; (try simp only [Bool.and_eq_true, Bool.not_eq_true', Bool.or_eq_false_iff, Bool.not_eq_false'] at hb); simp only [hb, AV.norm, AV.normL, W2, W2C, W2V, ↓upd_eq, ↓envL_cons, WZ, if_true, if_false, reduceIte, Nat.reduceEqDiff, Nat.reduceAdd, Nat.reduceLT, Nat.reduceLeDiff, reduceCtorEq, Nat.reduceMul, implies_true, forall_eq_or_imp, forall_eq, Nat.reducePow, W1, W1C, W1V, W5, b0, b8]; rfl))
       | (with_reducible first | apply bA | apply bB | apply bC | apply bD | apply bE | apply bF | apply bG | apply bH | apply bI | apply bJ | apply bK | apply bL) <;> intro h <;> try simp only [h, ↓upd_eq, ↓envL_cons, WZ, if_true, if_false, reduceIte, Nat.reduceEqDiff, Nat.reduceAdd, Nat.reduceLT, Nat.reduceLeDiff, reduceCtorEq, Nat.reduceMul, implies_true, forall_eq_or_imp, forall_eq, Nat.reducePow, W1, W1C, W1V, W5, b0, b8]
       | ((first | refine goCall_norm ?_ | refine goDCall_norm ?_); simp only [AV.norm, AV.normL, W2, W2C, W2V, b0, b8]; first | refine goCall_p (q1) (.inl rfl) ?_ | refine goCall_p (q2) (.inl rfl) ?_ | refine goCall_p (q3) (.inl rfl) ?_ | refine goCall_p (q4) (.inl rfl) ?_ | refine goCall_p (q5) (.inl rfl) ?_ | refine goCall_p (q6) (.inl rfl) ?_ | refine goCall_p (q7) (.inl rfl) ?_ | refine goCall_p (q8) (.inl rfl) ?_ | refine goCall_p (q9) (.inl rfl) ?_ | refine goCall_p (qw) (.inl rfl) ?_ | refine goDCall_p (q1) (.inl rfl) ?_ | refine goDCall_p (q2) (.inl rfl) ?_ | refine goDCall_p (q3) (.inl rfl) ?_ | refine goDCall_p (q4) (.inl rfl) ?_ | refine goDCall_p (q5) (.inl rfl) ?_ | refine goDCall_p (q6) (.inl rfl) ?_ | refine goDCall_p (q7) (.inl rfl) ?_ | refine goDCall_p (q8) (.inl rfl) ?_ | refine goDCall_p (q9) (.inl rfl) ?_ | refine goDCall_p (qw) (.inl rfl) ?_)
       | simp only [↓upd_eq, ↓envL_cons, WZ, if_true, if_false, reduceIte, Nat.reduceEqDiff, Nat.reduceAdd, Nat.reduceLT, Nat.reduceLeDiff, reduceCtorEq, Nat.reduceMul, implies_true, forall_eq_or_imp, forall_eq, Nat.reducePow, W1, W1C, W1V, W5, b0, b8]
    · rw [h, resW] at q9
      obtain ⟨w', k, l, n, e, hw'⟩ := resW_shape (wrapA v (joinC c d))
      rw [hw'] at q8
      unfold embR at q7 q8 q9
      generalize joinC c d = j at q6 q8
      cases he : (e != 0)
      · refine pcalls_text C_ok Try.func5 rfl (by decide) (Nat.le_of_ble_eq_true rfl) (by decide) rfl fun ok H => ?_
        rw [Try.results5]
        repeat' first
         | ((first | apply goGb_op (fun _ _ => rfl) | apply goDGb_op (fun _ _ => rfl)); (· intro hb; (try simp only [Bool.and_eq_true, Bool.not_eq_true', Bool.or_eq_false_iff, Bool.not_eq_false'] at hb); simp only [hb, ↓upd_eq, ↓envL_cons, WZ, if_true, if_false, reduceIte, Nat.reduceEqDiff, Nat.reduceAdd, Nat.reduceLT, Nat.reduceLeDiff, reduceCtorEq, Nat.reduceMul, implies_true, forall_eq_or_imp, forall_eq, Nat.reducePow, W1, W1C, W1V, W5, b0, b8, he]; exact ⟨rfl, trivial⟩))
         | ((first | apply goGb_call (q1) | apply goDGb_call (q1) | apply goGb_call (q2) | apply goDGb_call (q2) | apply goGb_call (q3) | apply goDGb_call (q3) | apply goGb_call (q4) | apply goDGb_call (q4) | apply goGb_call (q5) | apply goDGb_call (q5) | apply goGb_call (q6) | apply goDGb_call (q6) | apply goGb_call (q7) | apply goDGb_call (q7) | apply goGb_call (q8) | apply goDGb_call (q8) | apply goGb_call (q9) | apply goDGb_call (q9) | apply goGb_call (qw) | apply goDGb_call (qw)); (· intro hb; (try simp only [Bool.and_eq_true, Bool.not_eq_true', Bool.or_eq_false_iff, Bool.not_eq_false'] at hb); simp only [hb, AV.norm, AV.normL, W2, W2C, W2V, ↓upd_eq, ↓envL_cons, WZ, if_true, if_false, reduceIte, Nat.reduceEqDiff, Nat.reduceAdd, Nat.reduceLT, Nat.reduceLeDiff, reduceCtorEq, Nat.reduceMul, implies_true, forall_eq_or_imp, forall_eq, Nat.reducePow, W1, W1C, W1V, W5, b0, b8, he]; rfl))
         | (with_reducible first | apply bA | apply bB | apply bC | apply bD | apply bE | apply bF | apply bG | apply bH | apply bI | apply bJ | apply bK | apply bL) <;> intro h <;> try simp only [h, ↓upd_eq, ↓envL_cons, WZ, if_true, if_false, reduceIte, Nat.reduceEqDiff, Nat.reduceAdd, Nat.reduceLT, Nat.reduceLeDiff, reduceCtorEq, Nat.reduceMul, implies_true, forall_eq_or_imp, forall_eq, Nat.reducePow, W1, W1C, W1V, W5, b0, b8, he]
         | ((first | refine goCall_norm ?_ | refine goDCall_norm ?_); simp only [AV.norm, AV.normL, W2, W2C, W2V, b0, b8, he]; first | refine goCall_p (q1) (.inl rfl) ?_ | refine goCall_p (q2) (.inl rfl) ?_ | refine goCall_p (q3) (.inl rfl) ?_ | refine goCall_p (q4) (.inl rfl) ?_ | refine goCall_p (q5) (.inl rfl) ?_ | refine goCall_p (q6) (.inl rfl) ?_ | refine goCall_p (q7) (.inl rfl) ?_ | refine goCall_p (q8) (.inl rfl) ?_ | refine goCall_p (q9) (.inl rfl) ?_ | refine goCall_p (qw) (.inl rfl) ?_ | refine goDCall_p (q1) (.inl rfl) ?_ | refine goDCall_p (q2) (.inl rfl) ?_ | refine goDCall_p (q3) (.inl rfl) ?_ | refine goDCall_p (q4) (.inl rfl) ?_ | refine goDCall_p (q5) (.inl rfl) ?_ | refine goDCall_p (q6) (.inl rfl) ?_ | refine goDCall_p (q7) (.inl rfl) ?_ | refine goDCall_p (q8) (.inl rfl) ?_ | refine goDCall_p (q9) (.inl rfl) ?_ | refine goDCall_p (qw) (.inl rfl) ?_)
         | simp only [↓upd_eq, ↓envL_cons, WZ, if_true, if_false, reduceIte, Nat.reduceEqDiff, Nat.reduceAdd, Nat.reduceLT, Nat.reduceLeDiff, reduceCtorEq, Nat.reduceMul, implies_true, forall_eq_or_imp, forall_eq, Nat.reducePow, W1, W1C, W1V, W5, b0, b8, he]
      · refine pcalls_text C_ok Try.func5 rfl (by decide) (Nat.le_of_ble_eq_true rfl) (by decide) rfl fun ok H => ?_
        rw [Try.results5]
        repeat' first
         | ((first | apply goGb_op (fun _ _ => rfl) | apply goDGb_op (fun _ _ => rfl)); (· intro hb; (try simp only [Bool.and_eq_true, Bool.not_eq_true', Bool.or_eq_false_iff, Bool.not_eq_false'] at hb); simp only [hb, ↓upd_eq, ↓envL_cons, WZ, if_true, if_false, reduceIte, Nat.reduceEqDiff, Nat.reduceAdd, Nat.reduceLT, Nat.reduceLeDiff, reduceCtorEq, Nat.reduceMul, implies_true, forall_eq_or_imp, forall_eq, Nat.reducePow, W1, W1C, W1V, W5, b0, b8, he]; exact ⟨rfl, trivial⟩))
         | ((first | apply goGb_call (q1) | apply goDGb_call (q1) | apply goGb_call (q2) | apply goDGb_call (q2) | apply goGb_call (q3) | apply goDGb_call (q3) | apply goGb_call (q4) | apply goDGb_call (q4) | apply goGb_call (q5) | apply goDGb_call (q5) | apply goGb_call (q6) | apply goDGb_call (q6) | apply goGb_call (q7) | apply goDGb_call (q7) | apply goGb_call (q8) | apply goDGb_call (q8) | apply goGb_call (q9) | apply goDGb_call (q9) | apply goGb_call (qw) | apply goDGb_call (qw)); (· intro hb; (try simp only [Bool.and_eq_true, Bool.not_eq_true', Bool.or_eq_false_iff, Bool.not_eq_false'] at hb); simp only [hb, AV.norm, AV.normL, W2, W2C, W2V, ↓upd_eq, ↓envL_cons, WZ, if_true, if_false, reduceIte, Nat.reduceEqDiff, Nat.reduceAdd, Nat.reduceLT, Nat.reduceLeDiff, reduceCtorEq, Nat.reduceMul, implies_true, forall_eq_or_imp, forall_eq, Nat.reducePow, W1, W1C, W1V, W5, b0, b8, he]; rfl))
         | (with_reducible first | apply bA | apply bB | apply bC | apply bD | apply bE | apply bF | apply bG | apply bH | apply bI | apply bJ | apply bK | apply bL) <;> intro h <;> try simp only [h, ↓upd_eq, ↓envL_cons, WZ, if_true, if_false, reduceIte, Nat.reduceEqDiff, Nat.reduceAdd, Nat.reduceLT, Nat.reduceLeDiff, reduceCtorEq, Nat.reduceMul, implies_true, forall_eq_or_imp, forall_eq, Nat.reducePow, W1, W1C, W1V, W5, b0, b8, he]
         | ((first | refine goCall_norm ?_ | refine goDCall_norm ?_); simp only [AV.norm, AV.normL, W2, W2C, W2V, b0, b8, he]; first | refine goCall_p (q1) (.inl rfl) ?_ | refine goCall_p (q2) (.inl rfl) ?_ | refine goCall_p (q3) (.inl rfl) ?_ | refine goCall_p (q4) (.inl rfl) ?_ | refine goCall_p (q5) (.inl rfl) ?_ | refine goCall_p (q6) (.inl rfl) ?_ | refine goCall_p (q7) (.inl rfl) ?_ | refine goCall_p (q8) (.inl rfl) ?_ | refine goCall_p (q9) (.inl rfl) ?_ | refine goCall_p (qw) (.inl rfl) ?_ | refine goDCall_p (q1) (.inl rfl) ?_ | refine goDCall_p (q2) (.inl rfl) ?_ | refine goDCall_p (q3) (.inl rfl) ?_ | refine goDCall_p (q4) (.inl rfl) ?_ | refine goDCall_p (q5) (.inl rfl) ?_ | refine goDCall_p (q6) (.inl rfl) ?_ | refine goDCall_p (q7) (.inl rfl) ?_ | refine goDCall_p (q8) (.inl rfl) ?_ | refine goDCall_p (q9) (.inl rfl) ?_ | refine goDCall_p (qw) (.inl rfl) ?_)
         | simp only [↓upd_eq, ↓envL_cons, WZ, if_true, if_false, reduceIte, Nat.reduceEqDiff, Nat.reduceAdd, Nat.reduceLT, Nat.reduceLeDiff, reduceCtorEq, Nat.reduceMul, implies_true, forall_eq_or_imp, forall_eq, Nat.reducePow, W1, W1C, W1V, W5, b0, b8, he]
    · rw [← h] at q9
      cases hx : wrapA v (joinC c d) with
      | err =>
        rw [hx, resW] at q8 q9
        unfold embR at q7 q8 q9
        generalize joinC c d = j at q6 q8
        refine pcalls_text C_ok Try.func5 rfl (by decide) (Nat.le_of_ble_eq_true rfl) (by decide) rfl fun ok H => ?_
        rw [Try.results5]
        repeat' first
         | ((first | apply goGb_op (fun _ _ => rfl) | apply goDGb_op (fun _ _ => rfl)); (· intro hb; (try simp only [Bool.and_eq_true, Bool.not_eq_true', Bool.or_eq_false_iff, Bool.not_eq_false'] at hb); simp only [hb, ↓upd_eq, ↓envL_cons, WZ, if_true, if_false, reduceIte, Nat.reduceEqDiff, Nat.reduceAdd, Nat.reduceLT, Nat.reduceLeDiff, reduceCtorEq, Nat.reduceMul, implies_true, forall_eq_or_imp, forall_eq, Nat.reducePow, W1, W1C, W1V, W5, b0, b8]; exact ⟨rfl, trivial⟩))
         | ((first | apply goGb_call (q1) | apply goDGb_call (q1) | apply goGb_call (q2) | apply goDGb_call (q2) | apply goGb_call (q3) | apply goDGb_call (q3) | apply goGb_call (q4) | apply goDGb_call (q4) | apply goGb_call (q5) | apply goDGb_call (q5) | apply goGb_call (q6) | apply goDGb_call (q6) | apply goGb_call (q7) | apply goDGb_call (q7) | apply goGb_call (q8) | apply goDGb_call (q8) | apply goGb_call (q9) | apply goDGb_call (q9) | apply goGb_call (qw) | apply goDGb_call (qw)); (· intro hb; (try simp only [Bool.and_eq_true, Bool.not_eq_true', Bool.or_eq_false_iff, Bool.not_eq_false'] at hb); simp only [hb, AV.norm, AV.normL, W2, W2C, W2V, ↓upd_eq, ↓envL_cons, WZ, if_true, if_false, reduceIte, Nat.reduceEqDiff, Nat.reduceAdd, Nat.reduceLT, Nat.reduceLeDiff, reduceCtorEq, Nat.reduceMul, implies_true, forall_eq_or_imp, forall_eq, Nat.reducePow, W1, W1C, W1V, W5, b0, b8]; rfl))
         | (with_reducible first | apply bA | apply bB | apply bC | apply bD | apply bE | apply bF | apply bG | apply bH | apply bI | apply bJ | apply bK | apply bL) <;> intro h <;> try simp only [h, ↓upd_eq, ↓envL_cons, WZ, if_true, if_false, reduceIte, Nat.reduceEqDiff, Nat.reduceAdd, Nat.reduceLT, Nat.reduceLeDiff, reduceCtorEq, Nat.reduceMul, implies_true, forall_eq_or_imp, forall_eq, Nat.reducePow, W1, W1C, W1V, W5, b0, b8]
         | ((first | refine goCall_norm ?_ | refine goDCall_norm ?_); simp only [AV.norm, AV.normL, W2, W2C, W2V, b0, b8]; first | refine goCall_p (q1) (.inl rfl) ?_ | refine goCall_p (q2) (.inl rfl) ?_ | refine goCall_p (q3) (.inl rfl) ?_ | refine goCall_p (q4) (.inl rfl) ?_ | refine goCall_p (q5) (.inl rfl) ?_ | refine goCall_p (q6) (.inl rfl) ?_ | refine goCall_p (q7) (.inl rfl) ?_ | refine goCall_p (q8) (.inl rfl) ?_ | refine goCall_p (q9) (.inl rfl) ?_ | refine goCall_p (qw) (.inl rfl) ?_ | refine goDCall_p (q1) (.inl rfl) ?_ | refine goDCall_p (q2) (.inl rfl) ?_ | refine goDCall_p (q3) (.inl rfl) ?_ | refine goDCall_p (q4) (.inl rfl) ?_ | refine goDCall_p (q5) (.inl rfl) ?_ | refine goDCall_p (q6) (.inl rfl) ?_ | refine goDCall_p (q7) (.inl rfl) ?_ | refine goDCall_p (q8) (.inl rfl) ?_ | refine goDCall_p (q9) (.inl rfl) ?_ | refine goDCall_p (qw) (.inl rfl) ?_)
         | simp only [↓upd_eq, ↓envL_cons, WZ, if_true, if_false, reduceIte, Nat.reduceEqDiff, Nat.reduceAdd, Nat.reduceLT, Nat.reduceLeDiff, reduceCtorEq, Nat.reduceMul, implies_true, forall_eq_or_imp, forall_eq, Nat.reducePow, W1, W1C, W1V, W5, b0, b8]
      | blame l n =>
        rw [hx, resW] at q8 q9
        have qa := sameR_refl 2 l n
        have qb := vsame_refl noneV
        unfold embR at q7 q8 q9 qa
        generalize joinC c d = j at q6 q8
        refine pcalls_text C_ok Try.func5 rfl (by decide) (Nat.le_of_ble_eq_true rfl) (by decide) rfl fun ok H => ?_
        rw [Try.results5]
        repeat' first
         | ((first | apply goGb_op (fun _ _ => rfl) | apply goDGb_op (fun _ _ => rfl)); (· intro hb; (try simp only [Bool.and_eq_true, Bool.not_eq_true', Bool.or_eq_false_iff, Bool.not_eq_false'] at hb); simp only [hb, ↓upd_eq, ↓envL_cons, WZ, if_true, if_false, reduceIte, Nat.reduceEqDiff, Nat.reduceAdd, Nat.reduceLT, Nat.reduceLeDiff, reduceCtorEq, Nat.reduceMul, implies_true, forall_eq_or_imp, forall_eq, Nat.reducePow, W1, W1C, W1V, W5, b0, b2]; exact ⟨rfl, trivial⟩))
         | ((first | apply goGb_call (q1) | apply goDGb_call (q1) | apply goGb_call (q2) | apply goDGb_call (q2) | apply goGb_call (q3) | apply goDGb_call (q3) | apply goGb_call (q4) | apply goDGb_call (q4) | apply goGb_call (q5) | apply goDGb_call (q5) | apply goGb_call (q6) | apply goDGb_call (q6) | apply goGb_call (q7) | apply goDGb_call (q7) | apply goGb_call (q8) | apply goDGb_call (q8) | apply goGb_call (q9) | apply goDGb_call (q9) | apply goGb_call (qa) | apply goDGb_call (qa) | apply goGb_call (qb) | apply goDGb_call (qb) | apply goGb_call (qw) | apply goDGb_call (qw)); (· intro hb; (try simp only [Bool.and_eq_true, Bool.not_eq_true', Bool.or_eq_false_iff, Bool.not_eq_false'] at hb); simp only [hb, AV.norm, AV.normL, W2, W2C, W2V, ↓upd_eq, ↓envL_cons, WZ, if_true, if_false, reduceIte, Nat.reduceEqDiff, Nat.reduceAdd, Nat.reduceLT, Nat.reduceLeDiff, reduceCtorEq, Nat.reduceMul, implies_true, forall_eq_or_imp, forall_eq, Nat.reducePow, W1, W1C, W1V, W5, b0, b2]; rfl))
         | (with_reducible first | apply bA | apply bB | apply bC | apply bD | apply bE | apply bF | apply bG | apply bH | apply bI | apply bJ | apply bK | apply bL) <;> intro h <;> try simp only [h, ↓upd_eq, ↓envL_cons, WZ, if_true, if_false, reduceIte, Nat.reduceEqDiff, Nat.reduceAdd, Nat.reduceLT, Nat.reduceLeDiff, reduceCtorEq, Nat.reduceMul, implies_true, forall_eq_or_imp, forall_eq, Nat.reducePow, W1, W1C, W1V, W5, b0, b2]
         | ((first | refine goCall_norm ?_ | refine goDCall_norm ?_); simp only [AV.norm, AV.normL, W2, W2C, W2V, b0, b2]; first | refine goCall_p (q1) (.inl rfl) ?_ | refine goCall_p (q2) (.inl rfl) ?_ | refine goCall_p (q3) (.inl rfl) ?_ | refine goCall_p (q4) (.inl rfl) ?_ | refine goCall_p (q5) (.inl rfl) ?_ | refine goCall_p (q6) (.inl rfl) ?_ | refine goCall_p (q7) (.inl rfl) ?_ | refine goCall_p (q8) (.inl rfl) ?_ | refine goCall_p (q9) (.inl rfl) ?_ | refine goCall_p (qa) (.inl rfl) ?_ | refine goCall_p (qb) (.inl rfl) ?_ | refine goCall_p (qw) (.inl rfl) ?_ | refine goDCall_p (q1) (.inl rfl) ?_ | refine goDCall_p (q2) (.inl rfl) ?_ | refine goDCall_p (q3) (.inl rfl) ?_ | refine goDCall_p (q4) (.inl rfl) ?_ | refine goDCall_p (q5) (.inl rfl) ?_ | refine goDCall_p (q6) (.inl rfl) ?_ | refine goDCall_p (q7) (.inl rfl) ?_ | refine goDCall_p (q8) (.inl rfl) ?_ | refine goDCall_p (q9) (.inl rfl) ?_ | refine goDCall_p (qa) (.inl rfl) ?_ | refine goDCall_p (qb) (.inl rfl) ?_ | refine goDCall_p (qw) (.inl rfl) ?_)
         | simp only [↓upd_eq, ↓envL_cons, WZ, if_true, if_false, reduceIte, Nat.reduceEqDiff, Nat.reduceAdd, Nat.reduceLT, Nat.reduceLeDiff, reduceCtorEq, Nat.reduceMul, implies_true, forall_eq_or_imp, forall_eq, Nat.reducePow, W1, W1C, W1V, W5, b0, b2]
      | ok x =>
        have hrx := rightV_wrapA hr hx
        rw [hx, resW] at q8 q9
        have qa := sameR_refl 0 0 false
        have qb := vsame_refl x
        have qc := vcheck_right hrx
        unfold embR at q7 q8 q9 qa
        generalize joinC c d = j at q6 q8
        refine pcalls_text C_ok Try.func5 rfl (by decide) (Nat.le_of_ble_eq_true rfl) (by decide) rfl fun ok H => ?_
        rw [Try.results5]
        repeat' first
         | ((first | apply goGb_op (fun _ _ => rfl) | apply goDGb_op (fun _ _ => rfl)); (· intro hb; (try simp only [Bool.and_eq_true, Bool.not_eq_true', Bool.or_eq_false_iff, Bool.not_eq_false'] at hb); simp only [hb, ↓upd_eq, ↓envL_cons, WZ, if_true, if_false, reduceIte, Nat.reduceEqDiff, Nat.reduceAdd, Nat.reduceLT, Nat.reduceLeDiff, reduceCtorEq, Nat.reduceMul, implies_true, forall_eq_or_imp, forall_eq, Nat.reducePow, W1, W1C, W1V, W5, b0, b2, z0]; exact ⟨rfl, trivial⟩))
         | ((first | apply goGb_call (q1) | apply goDGb_call (q1) | apply goGb_call (q2) | apply goDGb_call (q2) | apply goGb_call (q3) | apply goDGb_call (q3) | apply goGb_call (q4) | apply goDGb_call (q4) | apply goGb_call (q5) | apply goDGb_call (q5) | apply goGb_call (q6) | apply goDGb_call (q6) | apply goGb_call (q7) | apply goDGb_call (q7) | apply goGb_call (q8) | apply goDGb_call (q8) | apply goGb_call (q9) | apply goDGb_call (q9) | apply goGb_call (qa) | apply goDGb_call (qa) | apply goGb_call (qb) | apply goDGb_call (qb) | apply goGb_call (qc) | apply goDGb_call (qc) | apply goGb_call (qw) | apply goDGb_call (qw)); (· intro hb; (try simp only [Bool.and_eq_true, Bool.not_eq_true', Bool.or_eq_false_iff, Bool.not_eq_false'] at hb); simp only [hb, AV.norm, AV.normL, W2, W2C, W2V, ↓upd_eq, ↓envL_cons, WZ, if_true, if_false, reduceIte, Nat.reduceEqDiff, Nat.reduceAdd, Nat.reduceLT, Nat.reduceLeDiff, reduceCtorEq, Nat.reduceMul, implies_true, forall_eq_or_imp, forall_eq, Nat.reducePow, W1, W1C, W1V, W5, b0, b2, z0]; rfl))
         | (with_reducible first | apply bA | apply bB | apply bC | apply bD | apply bE | apply bF | apply bG | apply bH | apply bI | apply bJ | apply bK | apply bL) <;> intro h <;> try simp only [h, ↓upd_eq, ↓envL_cons, WZ, if_true, if_false, reduceIte, Nat.reduceEqDiff, Nat.reduceAdd, Nat.reduceLT, Nat.reduceLeDiff, reduceCtorEq, Nat.reduceMul, implies_true, forall_eq_or_imp, forall_eq, Nat.reducePow, W1, W1C, W1V, W5, b0, b2, z0]
         | ((first | refine goCall_norm ?_ | refine goDCall_norm ?_); simp only [AV.norm, AV.normL, W2, W2C, W2V, b0, b2, z0]; first | refine goCall_p (q1) (.inl rfl) ?_ | refine goCall_p (q2) (.inl rfl) ?_ | refine goCall_p (q3) (.inl rfl) ?_ | refine goCall_p (q4) (.inl rfl) ?_ | refine goCall_p (q5) (.inl rfl) ?_ | refine goCall_p (q6) (.inl rfl) ?_ | refine goCall_p (q7) (.inl rfl) ?_ | refine goCall_p (q8) (.inl rfl) ?_ | refine goCall_p (q9) (.inl rfl) ?_ | refine goCall_p (qa) (.inl rfl) ?_ | refine goCall_p (qb) (.inl rfl) ?_ | refine goCall_p (qc) (.inl rfl) ?_ | refine goCall_p (qw) (.inl rfl) ?_ | refine goDCall_p (q1) (.inl rfl) ?_ | refine goDCall_p (q2) (.inl rfl) ?_ | refine goDCall_p (q3) (.inl rfl) ?_ | refine goDCall_p (q4) (.inl rfl) ?_ | refine goDCall_p (q5) (.inl rfl) ?_ | refine goDCall_p (q6) (.inl rfl) ?_ | refine goDCall_p (q7) (.inl rfl) ?_ | refine goDCall_p (q8) (.inl rfl) ?_ | refine goDCall_p (q9) (.inl rfl) ?_ | refine goDCall_p (qa) (.inl rfl) ?_ | refine goDCall_p (qb) (.inl rfl) ?_ | refine goDCall_p (qc) (.inl rfl) ?_ | refine goDCall_p (qw) (.inl rfl) ?_)
         | simp only [↓upd_eq, ↓envL_cons, WZ, if_true, if_false, reduceIte, Nat.reduceEqDiff, Nat.reduceAdd, Nat.reduceLT, Nat.reduceLeDiff, reduceCtorEq, Nat.reduceMul, implies_true, forall_eq_or_imp, forall_eq, Nat.reducePow, W1, W1C, W1V, W5, b0, b2, z0]

end Go.Proofs.Ytofogicgnldfhaa
