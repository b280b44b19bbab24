/- The laws AgreeParts, AgreeBits answer true, whatever the input. No condition. -/
import Derived.Test.YtcpfjabjonpdaaaL8
import Derived.Test.YtcpfjabjonpdaaaM7
set_option linter.unusedSimpArgs false
set_option linter.unusedVariables false
set_option maxHeartbeats 4000000
set_option maxRecDepth 100000
namespace Go.Proofs.Ytcpfjabjonpdaaa
open Go Go.Ab
attribute [local irreducible] PCalls ACalls CallK GoCall GoDCall GoIf GoGb GoDGb GoO GoD GoX GoDX GoG GoDG GoGv GoDGv Go ALoop

theorem agreeParts_ok (a b c d : Ty) : PCalls Try.prog 12 [emb a, emb b, emb c, emb d] (.bool true) := by
  by_cases hf : fine [a, b, c, d] = true
  · have ha := (fine_mem hf (t := a) (by simp)).1
    have hb := (fine_mem hf (t := b) (by simp)).1
    have hc := (fine_mem hf (t := c) (by simp)).1
    have hd := (fine_mem hf (t := d) (by simp)).1
    have r1 : ∀ k : Int, k = 7 ∨ k = 9 → right (twoT k a b) = true := fun k hk => by rw [right_two hk, ha, hb]; rfl
    have r2 : ∀ k : Int, k = 7 ∨ k = 9 → right (twoT k c d) = true := fun k hk => by rw [right_two hk, hc, hd]; rfl
    have r71 := r1 7 (.inl rfl)
    have r91 := r1 9 (.inr rfl)
    have r72 := r2 7 (.inl rfl)
    have r92 := r2 9 (.inr rfl)
    have r5 : right (listT a) = true := by rw [right_list, ha]
    have r6 : right (listT c) = true := by rw [right_list, hc]
    have q1 : agreeR a c = agree a c := by simp [agreeR, ha, hc]
    have q2 : agreeR b d = agree b d := by simp [agreeR, hb, hd]
    have q7 : agreeR (twoT 7 a b) (twoT 7 c d) = (agree a c && agree b d) := by simp [agreeR, r71, r72, agree_two]
    have q9 : agreeR (twoT 9 a b) (twoT 9 c d) = (agree a c && agree b d) := by simp [agreeR, r91, r92, agree_two]
    have q8 : agreeR (listT a) (listT c) = agree a c := by simp [agreeR, r5, r6, agree_list]
    have x7 : agree (twoT 7 a b) (twoT 9 a b) = false := agree_apart (by decide) (by decide) (by decide)
    have x8 : agree (listT a) (leafT 1) = false := by rw [agree_eq]; simp [listT, leafT, Ty.kind]
    by_cases h1 : agree a c = true
    · have m1 : meetR a c = meet a c := by simp [meetR, q1, h1]
      have m8 : meetR (listT a) (listT c) = listT (meet a c) := by simp [meetR, q8, h1, meet_list]
      by_cases h2 : agree b d = true
      · have m2 : meetR b d = meet b d := by simp [meetR, q2, h2]
        have m7 : meetR (twoT 7 a b) (twoT 7 c d) = twoT 7 (meet a c) (meet b d) := by simp [meetR, q7, h1, h2, meet_two]
        have m9 : meetR (twoT 9 a b) (twoT 9 c d) = twoT 9 (meet a c) (meet b d) := by simp [meetR, q9, h1, h2, meet_two]
        refine pcalls_text C_ok Try.func12 rfl (by decide) (Nat.le_of_ble_eq_true rfl) (by decide) rfl fun ok H => ?_
        rw [Try.results12]
        try simp only [↓upd_eq, ↓envL_cons, Go.Ab.W0, guardOf, eff, effBuiltin, abin, abinInt, cellsAt, shift, AState.ev, AState.put, AState.new, ofVal, ofVal1, setRange, inplOf, if_true, if_false, reduceIte, Nat.reduceEqDiff, Nat.reduceAdd, Nat.reduceLT, Nat.reduceLeDiff, reduceCtorEq, Nat.reduceMul, implies_true, fillA, placeSt, fillE, elemsOf, effAppend, effSlice, optInt, reCells, forall_eq_or_imp, forall_eq, isAl, retP, AV.norm, AV.normL, Nat.reducePow, W1, Go.Ab.W3, Int.reduceAdd, Int.reduceLT, Int.reduceToNat, Int.reduceBEq, Int.reduceBNe, Int.reduceLE, hf, ha, hb, hc, hd, r71, r72, r91, r92, r5, r6, q1, q2, q7, q8, q9, x7, x8, h1, h2, m1, m2, m7, m8, m9, same_self, Bool.true_and, Bool.and_true, cutNormal_normal]
        repeat' ((first
          | with_reducible refine goIf_b (fun h => ?_) (fun h => ?_)
          | with_reducible refine goIf_n (fun h => ?_) (fun h => ?_)
          | with_reducible refine goIf_d (fun h => ?_) (fun h => ?_)
          | with_reducible refine goIf_split (fun h => ?_) (fun h => ?_)
          | with_reducible refine goGb_b (fun h => ?_) (fun h => ?_)
          | with_reducible refine goGb_n (fun h => ?_) (fun h => ?_)
          | with_reducible refine goGb_d (fun h => ?_) (fun h => ?_)
          | with_reducible refine goGb_split (fun h => ?_) (fun h => ?_)
          | with_reducible refine goDGb_b (fun h => ?_) (fun h => ?_)
          | with_reducible refine goDGb_n (fun h => ?_) (fun h => ?_)
          | with_reducible refine goDGb_d (fun h => ?_) (fun h => ?_)
          | with_reducible refine goDGb_split (fun h => ?_) (fun h => ?_)
          | (refine goCall_norm ?_; simp only [AV.norm, AV.normL, W2, Go.Ab.W3, Int.reduceAdd, Int.reduceLT, Int.reduceToNat, Int.reduceBEq, Int.reduceBNe, Int.reduceLE, hf, ha, hb, hc, hd, r71, r72, r91, r92, r5, r6, q1, q2, q7, q8, q9, x7, x8, h1, h2, m1, m2, m7, m8, m9, same_self, Bool.true_and, Bool.and_true]; first | refine goCall_p (fine4_ok _ _ _ _) (.inl rfl) ?_ | refine goCall_p (two_ok _ _ _) (.inl rfl) ?_ | refine goCall_p (list_ok _) (.inl rfl) ?_ | refine goCall_p (leaf_ok _) (.inl rfl) ?_ | refine goCall_p (pmeet_ok _ _) (.inl rfl) ?_ | refine goCall_p (pagree_ok _ _) (.inl rfl) ?_ | refine goCall_p (ksame_ok _ _) (.inl rfl) ?_ | refine goCall_p (wakes8_ok) (.inl rfl) ?_)
          | (refine goDCall_norm ?_; simp only [AV.norm, AV.normL, W2, Go.Ab.W3, Int.reduceAdd, Int.reduceLT, Int.reduceToNat, Int.reduceBEq, Int.reduceBNe, Int.reduceLE, hf, ha, hb, hc, hd, r71, r72, r91, r92, r5, r6, q1, q2, q7, q8, q9, x7, x8, h1, h2, m1, m2, m7, m8, m9, same_self, Bool.true_and, Bool.and_true]; first | refine goDCall_p (fine4_ok _ _ _ _) (.inl rfl) ?_ | refine goDCall_p (two_ok _ _ _) (.inl rfl) ?_ | refine goDCall_p (list_ok _) (.inl rfl) ?_ | refine goDCall_p (leaf_ok _) (.inl rfl) ?_ | refine goDCall_p (pmeet_ok _ _) (.inl rfl) ?_ | refine goDCall_p (pagree_ok _ _) (.inl rfl) ?_ | refine goDCall_p (ksame_ok _ _) (.inl rfl) ?_ | refine goDCall_p (wakes8_ok) (.inl rfl) ?_)
          | refine go_draw (id := 10) C_ok mixed 1 Try.f12.ntmps rfl (by kernel_rfl) (by decide) ?_
          | refine go_draw (id := 11) C_ok mixed 0 Try.f12.ntmps rfl (by kernel_rfl) (by decide) ?_
          | refine go_draw (id := 13) C_ok mixed 1 Try.f12.ntmps rfl (by kernel_rfl) (by decide) ?_
          | refine go_draw (id := 14) C_ok mixed 0 Try.f12.ntmps rfl (by kernel_rfl) (by decide) ?_
          | refine goRound ?_ C_ok Try.f12.ntmps rfl (by decide)) <;> first | simp only [h, ↓upd_eq, ↓envL_cons, Go.Ab.W0, guardOf, eff, effBuiltin, abin, abinInt, cellsAt, shift, AState.ev, AState.put, AState.new, ofVal, ofVal1, setRange, inplOf, if_true, if_false, reduceIte, Nat.reduceEqDiff, Nat.reduceAdd, Nat.reduceLT, Nat.reduceLeDiff, reduceCtorEq, Nat.reduceMul, implies_true, fillA, placeSt, fillE, elemsOf, effAppend, effSlice, optInt, reCells, forall_eq_or_imp, forall_eq, isAl, retP, AV.norm, AV.normL, Nat.reducePow, W1, Go.Ab.W3, Int.reduceAdd, Int.reduceLT, Int.reduceToNat, Int.reduceBEq, Int.reduceBNe, Int.reduceLE, hf, ha, hb, hc, hd, r71, r72, r91, r92, r5, r6, q1, q2, q7, q8, q9, x7, x8, h1, h2, m1, m2, m7, m8, m9, same_self, Bool.true_and, Bool.and_true, cutNormal_normal] | simp only [↓upd_eq, ↓envL_cons, Go.Ab.W0, guardOf, eff, effBuiltin, abin, abinInt, cellsAt, shift, AState.ev, AState.put, AState.new, ofVal, ofVal1, setRange, inplOf, if_true, if_false, reduceIte, Nat.reduceEqDiff, Nat.reduceAdd, Nat.reduceLT, Nat.reduceLeDiff, reduceCtorEq, Nat.reduceMul, implies_true, fillA, placeSt, fillE, elemsOf, effAppend, effSlice, optInt, reCells, forall_eq_or_imp, forall_eq, isAl, retP, AV.norm, AV.normL, Nat.reducePow, W1, Go.Ab.W3, Int.reduceAdd, Int.reduceLT, Int.reduceToNat, Int.reduceBEq, Int.reduceBNe, Int.reduceLE, hf, ha, hb, hc, hd, r71, r72, r91, r92, r5, r6, q1, q2, q7, q8, q9, x7, x8, h1, h2, m1, m2, m7, m8, m9, same_self, Bool.true_and, Bool.and_true, cutNormal_normal] | skip)
        all_goals simp_all
      · refine pcalls_text C_ok Try.func12 rfl (by decide) (Nat.le_of_ble_eq_true rfl) (by decide) rfl fun ok H => ?_
        rw [Try.results12]
        try simp only [↓upd_eq, ↓envL_cons, Go.Ab.W0, guardOf, eff, effBuiltin, abin, abinInt, cellsAt, shift, AState.ev, AState.put, AState.new, ofVal, ofVal1, setRange, inplOf, if_true, if_false, reduceIte, Nat.reduceEqDiff, Nat.reduceAdd, Nat.reduceLT, Nat.reduceLeDiff, reduceCtorEq, Nat.reduceMul, implies_true, fillA, placeSt, fillE, elemsOf, effAppend, effSlice, optInt, reCells, forall_eq_or_imp, forall_eq, isAl, retP, AV.norm, AV.normL, Nat.reducePow, W1, Go.Ab.W3, Int.reduceAdd, Int.reduceLT, Int.reduceToNat, Int.reduceBEq, Int.reduceBNe, Int.reduceLE, hf, ha, hb, hc, hd, r71, r72, r91, r92, r5, r6, q1, q2, q7, q8, q9, x7, x8, h1, h2, m1, m8, same_self, Bool.true_and, Bool.and_true, cutNormal_normal]
        repeat' ((first
          | with_reducible refine goIf_b (fun h => ?_) (fun h => ?_)
          | with_reducible refine goIf_n (fun h => ?_) (fun h => ?_)
          | with_reducible refine goIf_d (fun h => ?_) (fun h => ?_)
          | with_reducible refine goIf_split (fun h => ?_) (fun h => ?_)
          | with_reducible refine goGb_b (fun h => ?_) (fun h => ?_)
          | with_reducible refine goGb_n (fun h => ?_) (fun h => ?_)
          | with_reducible refine goGb_d (fun h => ?_) (fun h => ?_)
          | with_reducible refine goGb_split (fun h => ?_) (fun h => ?_)
          | with_reducible refine goDGb_b (fun h => ?_) (fun h => ?_)
          | with_reducible refine goDGb_n (fun h => ?_) (fun h => ?_)
          | with_reducible refine goDGb_d (fun h => ?_) (fun h => ?_)
          | with_reducible refine goDGb_split (fun h => ?_) (fun h => ?_)
          | (refine goCall_norm ?_; simp only [AV.norm, AV.normL, W2, Go.Ab.W3, Int.reduceAdd, Int.reduceLT, Int.reduceToNat, Int.reduceBEq, Int.reduceBNe, Int.reduceLE, hf, ha, hb, hc, hd, r71, r72, r91, r92, r5, r6, q1, q2, q7, q8, q9, x7, x8, h1, h2, m1, m8, same_self, Bool.true_and, Bool.and_true]; first | refine goCall_p (fine4_ok _ _ _ _) (.inl rfl) ?_ | refine goCall_p (two_ok _ _ _) (.inl rfl) ?_ | refine goCall_p (list_ok _) (.inl rfl) ?_ | refine goCall_p (leaf_ok _) (.inl rfl) ?_ | refine goCall_p (pmeet_ok _ _) (.inl rfl) ?_ | refine goCall_p (pagree_ok _ _) (.inl rfl) ?_ | refine goCall_p (ksame_ok _ _) (.inl rfl) ?_ | refine goCall_p (wakes8_ok) (.inl rfl) ?_)
          | (refine goDCall_norm ?_; simp only [AV.norm, AV.normL, W2, Go.Ab.W3, Int.reduceAdd, Int.reduceLT, Int.reduceToNat, Int.reduceBEq, Int.reduceBNe, Int.reduceLE, hf, ha, hb, hc, hd, r71, r72, r91, r92, r5, r6, q1, q2, q7, q8, q9, x7, x8, h1, h2, m1, m8, same_self, Bool.true_and, Bool.and_true]; first | refine goDCall_p (fine4_ok _ _ _ _) (.inl rfl) ?_ | refine goDCall_p (two_ok _ _ _) (.inl rfl) ?_ | refine goDCall_p (list_ok _) (.inl rfl) ?_ | refine goDCall_p (leaf_ok _) (.inl rfl) ?_ | refine goDCall_p (pmeet_ok _ _) (.inl rfl) ?_ | refine goDCall_p (pagree_ok _ _) (.inl rfl) ?_ | refine goDCall_p (ksame_ok _ _) (.inl rfl) ?_ | refine goDCall_p (wakes8_ok) (.inl rfl) ?_)
          | refine go_draw (id := 10) C_ok mixed 1 Try.f12.ntmps rfl (by kernel_rfl) (by decide) ?_
          | refine go_draw (id := 11) C_ok mixed 0 Try.f12.ntmps rfl (by kernel_rfl) (by decide) ?_
          | refine go_draw (id := 13) C_ok mixed 1 Try.f12.ntmps rfl (by kernel_rfl) (by decide) ?_
          | refine go_draw (id := 14) C_ok mixed 0 Try.f12.ntmps rfl (by kernel_rfl) (by decide) ?_
          | refine goRound ?_ C_ok Try.f12.ntmps rfl (by decide)) <;> first | simp only [h, ↓upd_eq, ↓envL_cons, Go.Ab.W0, guardOf, eff, effBuiltin, abin, abinInt, cellsAt, shift, AState.ev, AState.put, AState.new, ofVal, ofVal1, setRange, inplOf, if_true, if_false, reduceIte, Nat.reduceEqDiff, Nat.reduceAdd, Nat.reduceLT, Nat.reduceLeDiff, reduceCtorEq, Nat.reduceMul, implies_true, fillA, placeSt, fillE, elemsOf, effAppend, effSlice, optInt, reCells, forall_eq_or_imp, forall_eq, isAl, retP, AV.norm, AV.normL, Nat.reducePow, W1, Go.Ab.W3, Int.reduceAdd, Int.reduceLT, Int.reduceToNat, Int.reduceBEq, Int.reduceBNe, Int.reduceLE, hf, ha, hb, hc, hd, r71, r72, r91, r92, r5, r6, q1, q2, q7, q8, q9, x7, x8, h1, h2, m1, m8, same_self, Bool.true_and, Bool.and_true, cutNormal_normal] | simp only [↓upd_eq, ↓envL_cons, Go.Ab.W0, guardOf, eff, effBuiltin, abin, abinInt, cellsAt, shift, AState.ev, AState.put, AState.new, ofVal, ofVal1, setRange, inplOf, if_true, if_false, reduceIte, Nat.reduceEqDiff, Nat.reduceAdd, Nat.reduceLT, Nat.reduceLeDiff, reduceCtorEq, Nat.reduceMul, implies_true, fillA, placeSt, fillE, elemsOf, effAppend, effSlice, optInt, reCells, forall_eq_or_imp, forall_eq, isAl, retP, AV.norm, AV.normL, Nat.reducePow, W1, Go.Ab.W3, Int.reduceAdd, Int.reduceLT, Int.reduceToNat, Int.reduceBEq, Int.reduceBNe, Int.reduceLE, hf, ha, hb, hc, hd, r71, r72, r91, r92, r5, r6, q1, q2, q7, q8, q9, x7, x8, h1, h2, m1, m8, same_self, Bool.true_and, Bool.and_true, cutNormal_normal] | skip)
        all_goals simp_all
    · refine pcalls_text C_ok Try.func12 rfl (by decide) (Nat.le_of_ble_eq_true rfl) (by decide) rfl fun ok H => ?_
      rw [Try.results12]
      try simp only [↓upd_eq, ↓envL_cons, Go.Ab.W0, guardOf, eff, effBuiltin, abin, abinInt, cellsAt, shift, AState.ev, AState.put, AState.new, ofVal, ofVal1, setRange, inplOf, if_true, if_false, reduceIte, Nat.reduceEqDiff, Nat.reduceAdd, Nat.reduceLT, Nat.reduceLeDiff, reduceCtorEq, Nat.reduceMul, implies_true, fillA, placeSt, fillE, elemsOf, effAppend, effSlice, optInt, reCells, forall_eq_or_imp, forall_eq, isAl, retP, AV.norm, AV.normL, Nat.reducePow, W1, Go.Ab.W3, Int.reduceAdd, Int.reduceLT, Int.reduceToNat, Int.reduceBEq, Int.reduceBNe, Int.reduceLE, hf, ha, hb, hc, hd, r71, r72, r91, r92, r5, r6, q1, q2, q7, q8, q9, x7, x8, h1, same_self, Bool.true_and, Bool.and_true, cutNormal_normal]
      repeat' ((first
        | with_reducible refine goIf_b (fun h => ?_) (fun h => ?_)
        | with_reducible refine goIf_n (fun h => ?_) (fun h => ?_)
        | with_reducible refine goIf_d (fun h => ?_) (fun h => ?_)
        | with_reducible refine goIf_split (fun h => ?_) (fun h => ?_)
        | with_reducible refine goGb_b (fun h => ?_) (fun h => ?_)
        | with_reducible refine goGb_n (fun h => ?_) (fun h => ?_)
        | with_reducible refine goGb_d (fun h => ?_) (fun h => ?_)
        | with_reducible refine goGb_split (fun h => ?_) (fun h => ?_)
        | with_reducible refine goDGb_b (fun h => ?_) (fun h => ?_)
        | with_reducible refine goDGb_n (fun h => ?_) (fun h => ?_)
        | with_reducible refine goDGb_d (fun h => ?_) (fun h => ?_)
        | with_reducible refine goDGb_split (fun h => ?_) (fun h => ?_)
        | (refine goCall_norm ?_; simp only [AV.norm, AV.normL, W2, Go.Ab.W3, Int.reduceAdd, Int.reduceLT, Int.reduceToNat, Int.reduceBEq, Int.reduceBNe, Int.reduceLE, hf, ha, hb, hc, hd, r71, r72, r91, r92, r5, r6, q1, q2, q7, q8, q9, x7, x8, h1, same_self, Bool.true_and, Bool.and_true]; first | refine goCall_p (fine4_ok _ _ _ _) (.inl rfl) ?_ | refine goCall_p (two_ok _ _ _) (.inl rfl) ?_ | refine goCall_p (list_ok _) (.inl rfl) ?_ | refine goCall_p (leaf_ok _) (.inl rfl) ?_ | refine goCall_p (pmeet_ok _ _) (.inl rfl) ?_ | refine goCall_p (pagree_ok _ _) (.inl rfl) ?_ | refine goCall_p (ksame_ok _ _) (.inl rfl) ?_ | refine goCall_p (wakes8_ok) (.inl rfl) ?_)
        | (refine goDCall_norm ?_; simp only [AV.norm, AV.normL, W2, Go.Ab.W3, Int.reduceAdd, Int.reduceLT, Int.reduceToNat, Int.reduceBEq, Int.reduceBNe, Int.reduceLE, hf, ha, hb, hc, hd, r71, r72, r91, r92, r5, r6, q1, q2, q7, q8, q9, x7, x8, h1, same_self, Bool.true_and, Bool.and_true]; first | refine goDCall_p (fine4_ok _ _ _ _) (.inl rfl) ?_ | refine goDCall_p (two_ok _ _ _) (.inl rfl) ?_ | refine goDCall_p (list_ok _) (.inl rfl) ?_ | refine goDCall_p (leaf_ok _) (.inl rfl) ?_ | refine goDCall_p (pmeet_ok _ _) (.inl rfl) ?_ | refine goDCall_p (pagree_ok _ _) (.inl rfl) ?_ | refine goDCall_p (ksame_ok _ _) (.inl rfl) ?_ | refine goDCall_p (wakes8_ok) (.inl rfl) ?_)
        | refine go_draw (id := 10) C_ok mixed 1 Try.f12.ntmps rfl (by kernel_rfl) (by decide) ?_
        | refine go_draw (id := 11) C_ok mixed 0 Try.f12.ntmps rfl (by kernel_rfl) (by decide) ?_
        | refine go_draw (id := 13) C_ok mixed 1 Try.f12.ntmps rfl (by kernel_rfl) (by decide) ?_
        | refine go_draw (id := 14) C_ok mixed 0 Try.f12.ntmps rfl (by kernel_rfl) (by decide) ?_
        | refine goRound ?_ C_ok Try.f12.ntmps rfl (by decide)) <;> first | simp only [h, ↓upd_eq, ↓envL_cons, Go.Ab.W0, guardOf, eff, effBuiltin, abin, abinInt, cellsAt, shift, AState.ev, AState.put, AState.new, ofVal, ofVal1, setRange, inplOf, if_true, if_false, reduceIte, Nat.reduceEqDiff, Nat.reduceAdd, Nat.reduceLT, Nat.reduceLeDiff, reduceCtorEq, Nat.reduceMul, implies_true, fillA, placeSt, fillE, elemsOf, effAppend, effSlice, optInt, reCells, forall_eq_or_imp, forall_eq, isAl, retP, AV.norm, AV.normL, Nat.reducePow, W1, Go.Ab.W3, Int.reduceAdd, Int.reduceLT, Int.reduceToNat, Int.reduceBEq, Int.reduceBNe, Int.reduceLE, hf, ha, hb, hc, hd, r71, r72, r91, r92, r5, r6, q1, q2, q7, q8, q9, x7, x8, h1, same_self, Bool.true_and, Bool.and_true, cutNormal_normal] | simp only [↓upd_eq, ↓envL_cons, Go.Ab.W0, guardOf, eff, effBuiltin, abin, abinInt, cellsAt, shift, AState.ev, AState.put, AState.new, ofVal, ofVal1, setRange, inplOf, if_true, if_false, reduceIte, Nat.reduceEqDiff, Nat.reduceAdd, Nat.reduceLT, Nat.reduceLeDiff, reduceCtorEq, Nat.reduceMul, implies_true, fillA, placeSt, fillE, elemsOf, effAppend, effSlice, optInt, reCells, forall_eq_or_imp, forall_eq, isAl, retP, AV.norm, AV.normL, Nat.reducePow, W1, Go.Ab.W3, Int.reduceAdd, Int.reduceLT, Int.reduceToNat, Int.reduceBEq, Int.reduceBNe, Int.reduceLE, hf, ha, hb, hc, hd, r71, r72, r91, r92, r5, r6, q1, q2, q7, q8, q9, x7, x8, h1, same_self, Bool.true_and, Bool.and_true, cutNormal_normal] | skip)
      all_goals simp_all
  · refine pcalls_text C_ok Try.func12 rfl (by decide) (Nat.le_of_ble_eq_true rfl) (by decide) rfl fun ok H => ?_
    rw [Try.results12]
    try simp only [↓upd_eq, ↓envL_cons, Go.Ab.W0, guardOf, eff, effBuiltin, abin, abinInt, cellsAt, shift, AState.ev, AState.put, AState.new, ofVal, ofVal1, setRange, inplOf, if_true, if_false, reduceIte, Nat.reduceEqDiff, Nat.reduceAdd, Nat.reduceLT, Nat.reduceLeDiff, reduceCtorEq, Nat.reduceMul, implies_true, fillA, placeSt, fillE, elemsOf, effAppend, effSlice, optInt, reCells, forall_eq_or_imp, forall_eq, isAl, retP, AV.norm, AV.normL, Nat.reducePow, W1, Go.Ab.W3, Int.reduceAdd, Int.reduceLT, Int.reduceToNat, Int.reduceBEq, Int.reduceBNe, Int.reduceLE, hf, cutNormal_normal]
    repeat' ((first
      | with_reducible refine goIf_b (fun h => ?_) (fun h => ?_)
      | with_reducible refine goIf_n (fun h => ?_) (fun h => ?_)
      | with_reducible refine goIf_d (fun h => ?_) (fun h => ?_)
      | with_reducible refine goIf_split (fun h => ?_) (fun h => ?_)
      | with_reducible refine goGb_b (fun h => ?_) (fun h => ?_)
      | with_reducible refine goGb_n (fun h => ?_) (fun h => ?_)
      | with_reducible refine goGb_d (fun h => ?_) (fun h => ?_)
      | with_reducible refine goGb_split (fun h => ?_) (fun h => ?_)
      | with_reducible refine goDGb_b (fun h => ?_) (fun h => ?_)
      | with_reducible refine goDGb_n (fun h => ?_) (fun h => ?_)
      | with_reducible refine goDGb_d (fun h => ?_) (fun h => ?_)
      | with_reducible refine goDGb_split (fun h => ?_) (fun h => ?_)
      | (refine goCall_norm ?_; simp only [AV.norm, AV.normL, W2, Go.Ab.W3, Int.reduceAdd, Int.reduceLT, Int.reduceToNat, Int.reduceBEq, Int.reduceBNe, Int.reduceLE, hf]; first | refine goCall_p (fine4_ok _ _ _ _) (.inl rfl) ?_)
      | (refine goDCall_norm ?_; simp only [AV.norm, AV.normL, W2, Go.Ab.W3, Int.reduceAdd, Int.reduceLT, Int.reduceToNat, Int.reduceBEq, Int.reduceBNe, Int.reduceLE, hf]; first | refine goDCall_p (fine4_ok _ _ _ _) (.inl rfl) ?_)
      | refine go_draw (id := 10) C_ok mixed 1 Try.f12.ntmps rfl (by kernel_rfl) (by decide) ?_
      | refine go_draw (id := 11) C_ok mixed 0 Try.f12.ntmps rfl (by kernel_rfl) (by decide) ?_
      | refine go_draw (id := 13) C_ok mixed 1 Try.f12.ntmps rfl (by kernel_rfl) (by decide) ?_
      | refine go_draw (id := 14) C_ok mixed 0 Try.f12.ntmps rfl (by kernel_rfl) (by decide) ?_
      | refine goRound ?_ C_ok Try.f12.ntmps rfl (by decide)) <;> first | simp only [h, ↓upd_eq, ↓envL_cons, Go.Ab.W0, guardOf, eff, effBuiltin, abin, abinInt, cellsAt, shift, AState.ev, AState.put, AState.new, ofVal, ofVal1, setRange, inplOf, if_true, if_false, reduceIte, Nat.reduceEqDiff, Nat.reduceAdd, Nat.reduceLT, Nat.reduceLeDiff, reduceCtorEq, Nat.reduceMul, implies_true, fillA, placeSt, fillE, elemsOf, effAppend, effSlice, optInt, reCells, forall_eq_or_imp, forall_eq, isAl, retP, AV.norm, AV.normL, Nat.reducePow, W1, Go.Ab.W3, Int.reduceAdd, Int.reduceLT, Int.reduceToNat, Int.reduceBEq, Int.reduceBNe, Int.reduceLE, hf, cutNormal_normal] | simp only [↓upd_eq, ↓envL_cons, Go.Ab.W0, guardOf, eff, effBuiltin, abin, abinInt, cellsAt, shift, AState.ev, AState.put, AState.new, ofVal, ofVal1, setRange, inplOf, if_true, if_false, reduceIte, Nat.reduceEqDiff, Nat.reduceAdd, Nat.reduceLT, Nat.reduceLeDiff, reduceCtorEq, Nat.reduceMul, implies_true, fillA, placeSt, fillE, elemsOf, effAppend, effSlice, optInt, reCells, forall_eq_or_imp, forall_eq, isAl, retP, AV.norm, AV.normL, Nat.reducePow, W1, Go.Ab.W3, Int.reduceAdd, Int.reduceLT, Int.reduceToNat, Int.reduceBEq, Int.reduceBNe, Int.reduceLE, hf, cutNormal_normal] | skip)

end Go.Proofs.Ytcpfjabjonpdaaa
