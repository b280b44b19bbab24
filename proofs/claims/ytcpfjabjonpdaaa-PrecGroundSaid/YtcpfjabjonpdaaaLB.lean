/- The law PrecGround answers true, whatever the input. No condition. -/
import Derived.Test.YtcpfjabjonpdaaaL9
import Derived.Test.YtcpfjabjonpdaaaF8
import Derived.Test.YtcpfjabjonpdaaaM5
set_option linter.unusedSimpArgs false
set_option linter.unusedVariables false
set_option maxHeartbeats 4000000
set_option maxRecDepth 100000
namespace Go.Proofs.Ytcpfjabjonpdaaa
open Go Go.Ab

theorem headK_ne {a : Ty} (ha : right a = true) (h : ¬ headK a.kind = true) : a.kind = 5 ∨ a.kind = 6 := by
  have := mt (head_iff ha).2 h
  omega

theorem headK_b {a : Ty} (ha : right a = true) (h : ¬ headK a.kind = true) : ((a.kind != 5) = false ∧ (a.kind != 6) = true) ∨ ((a.kind != 5) = true ∧ (a.kind != 6) = false) := by
  rcases headK_ne ha h with h | h
  · left; simp [h]
  · right; simp [h]

theorem precGround_ok (a b : Ty) : PCalls Try.prog 23 [emb a, emb b] (.bool true) := by
  by_cases hf : fine [a, b] = true
  · have ha := (fine_mem hf (t := a) (by simp)).1
    have hb := (fine_mem hf (t := b) (by simp)).1
    have na := (fine_mem hf (t := a) (by simp)).2
    by_cases ka : headK a.kind = true
    · have h5 := head_ne ka
      have ea : hasGround a = true := by simp [hasGround, ha, ka]
      have a5 : (a.kind != 5) = true := by simp [h5.1]
      have a6 : (a.kind != 6) = true := by simp [h5.2]
      by_cases kb : headK b.kind = true
      · have g5 := head_ne kb
        have eb : hasGround b = true := by simp [hasGround, hb, kb]
        have b5 : (b.kind != 5) = true := by simp [g5.1]
        have b6 : (b.kind != 6) = true := by simp [g5.2]
        have gr := ground_right ha ka
        have grb := ground_right hb kb
        have eg : hasGround (ground a) = true := by simp [hasGround, gr, ground_kind, ka]
        have e1 := groundT_eq ha ka
        have e2 := groundT_eq hb kb
        have e3 : groundT (ground a) = ground a := by rw [groundT_eq gr ka, ground_ground]
        have e4 := below_ground ha ka
        have e5 := ground_same ha hb
        have e6 := ground_agree ha hb ka kb
        have e7 := ground_below ha hb ka kb
        have e8 : decide ((nodes (ground a) : Int) ≤ (nodes a : Int)) = true := by have := ground_nodes a; simp only [decide_eq_true_eq]; omega
        have n1 := ground_nodes a
        refine pcalls_text C_ok Try.func23 rfl (by decide) (Nat.le_of_ble_eq_true rfl) (by decide) rfl fun ok H => ?_
        rw [Try.results23]
        try simp only [Go.Ab.W0, guardOf, eff, effBuiltin, abin, abinInt, cellsAt, shift, AState.ev, AState.put, AState.new, ofVal, ofVal1, initS, setRange, inplOf, if_true, if_false, reduceIte, Nat.reduceEqDiff, Nat.reduceAdd, Nat.reduceLT, Nat.reduceLeDiff, reduceCtorEq, Nat.reduceMul, implies_true, fillA, placeSt, fillE, elemsOf, effAppend, effSlice, optInt, reCells, forall_eq_or_imp, forall_eq, isAl, retP, AV.norm, AV.normL, Nat.reducePow, W1, hf, ha, hb, ea, eb, eg, a5, a6, b5, b6, gr, grb, e1, e2, e3, e4, e5, e6, e7, e8, n1, same_refl, Bool.true_and, bne_self_eq_false]
        repeat' ((first
          | with_reducible refine goIf_b (fun h => ?_) (fun h => ?_)
          | with_reducible refine goIf_n (fun h => ?_) (fun h => ?_)
          | with_reducible refine goIf_d (fun h => ?_) (fun h => ?_)
          | with_reducible refine goIf_split (fun h => ?_) (fun h => ?_)
          | with_reducible refine goGb_b (fun h => ?_) (fun h => ?_)
          | with_reducible refine goGb_n (fun h => ?_) (fun h => ?_)
          | with_reducible refine goGb_d (fun h => ?_) (fun h => ?_)
          | with_reducible refine goGb_split (fun h => ?_) (fun h => ?_)
          | with_reducible refine goDGb_b (fun h => ?_) (fun h => ?_)
          | with_reducible refine goDGb_n (fun h => ?_) (fun h => ?_)
          | with_reducible refine goDGb_d (fun h => ?_) (fun h => ?_)
          | with_reducible refine goDGb_split (fun h => ?_) (fun h => ?_)
          | (refine goCall_norm ?_; simp only [AV.norm, AV.normL, W2, hf, ha, hb, ea, eb, eg, a5, a6, b5, b6, gr, grb, e1, e2, e3, e4, e5, e6, e7, e8, n1, same_refl, Bool.true_and, bne_self_eq_false]; first | refine goCall_p (fine2_ok _ _) (.inl rfl) ?_ | refine goCall_p (pground_ok _) (.inl rfl) ?_ | refine goCall_p (pagree_ok _ _) (.inl rfl) ?_ | refine goCall_p (pbelow_ok _ _) (.inl rfl) ?_ | refine goCall_p (ksame_ok _ _) (.inl rfl) ?_ | refine goCall_p (rsize_ok _ (by omega)) (.inl rfl) ?_ | refine goCall_p (wakes9_ok) (.inl rfl) ?_)
          | (refine goDCall_norm ?_; simp only [AV.norm, AV.normL, W2, hf, ha, hb, ea, eb, eg, a5, a6, b5, b6, gr, grb, e1, e2, e3, e4, e5, e6, e7, e8, n1, same_refl, Bool.true_and, bne_self_eq_false]; first | refine goDCall_p (fine2_ok _ _) (.inl rfl) ?_ | refine goDCall_p (pground_ok _) (.inl rfl) ?_ | refine goDCall_p (pagree_ok _ _) (.inl rfl) ?_ | refine goDCall_p (pbelow_ok _ _) (.inl rfl) ?_ | refine goDCall_p (ksame_ok _ _) (.inl rfl) ?_ | refine goDCall_p (rsize_ok _ (by omega)) (.inl rfl) ?_ | refine goDCall_p (wakes9_ok) (.inl rfl) ?_)
          | refine go_draw (id := 10) C_ok mixed 0 Try.f23.ntmps rfl (by kernel_rfl) (by decide) ?_) <;> first | simp only [h, Go.Ab.W0, guardOf, eff, effBuiltin, abin, abinInt, cellsAt, shift, AState.ev, AState.put, AState.new, ofVal, ofVal1, initS, setRange, inplOf, if_true, if_false, reduceIte, Nat.reduceEqDiff, Nat.reduceAdd, Nat.reduceLT, Nat.reduceLeDiff, reduceCtorEq, Nat.reduceMul, implies_true, fillA, placeSt, fillE, elemsOf, effAppend, effSlice, optInt, reCells, forall_eq_or_imp, forall_eq, isAl, retP, AV.norm, AV.normL, Nat.reducePow, W1, hf, ha, hb, ea, eb, eg, a5, a6, b5, b6, gr, grb, e1, e2, e3, e4, e5, e6, e7, e8, n1, same_refl, Bool.true_and, bne_self_eq_false] | simp only [Go.Ab.W0, guardOf, eff, effBuiltin, abin, abinInt, cellsAt, shift, AState.ev, AState.put, AState.new, ofVal, ofVal1, initS, setRange, inplOf, if_true, if_false, reduceIte, Nat.reduceEqDiff, Nat.reduceAdd, Nat.reduceLT, Nat.reduceLeDiff, reduceCtorEq, Nat.reduceMul, implies_true, fillA, placeSt, fillE, elemsOf, effAppend, effSlice, optInt, reCells, forall_eq_or_imp, forall_eq, isAl, retP, AV.norm, AV.normL, Nat.reducePow, W1, hf, ha, hb, ea, eb, eg, a5, a6, b5, b6, gr, grb, e1, e2, e3, e4, e5, e6, e7, e8, n1, same_refl, Bool.true_and, bne_self_eq_false] | skip)
        all_goals simp_all
      · have eb : hasGround b = false := by simp [hasGround, kb]
        rcases headK_b hb kb with ⟨b5, b6⟩ | ⟨b5, b6⟩
        all_goals
          refine pcalls_text C_ok Try.func23 rfl (by decide) (Nat.le_of_ble_eq_true rfl) (by decide) rfl fun ok H => ?_
          rw [Try.results23]
          try simp only [Go.Ab.W0, guardOf, eff, effBuiltin, abin, abinInt, cellsAt, shift, AState.ev, AState.put, AState.new, ofVal, ofVal1, initS, setRange, inplOf, if_true, if_false, reduceIte, Nat.reduceEqDiff, Nat.reduceAdd, Nat.reduceLT, Nat.reduceLeDiff, reduceCtorEq, Nat.reduceMul, implies_true, fillA, placeSt, fillE, elemsOf, effAppend, effSlice, optInt, reCells, forall_eq_or_imp, forall_eq, isAl, retP, AV.norm, AV.normL, Nat.reducePow, W1, hf, ha, hb, ea, eb, a5, a6, b5, b6, Bool.true_and, bne_self_eq_false, Int.reduceBNe]
          repeat' ((first
            | with_reducible refine goIf_b (fun h => ?_) (fun h => ?_)
            | with_reducible refine goIf_n (fun h => ?_) (fun h => ?_)
            | with_reducible refine goIf_d (fun h => ?_) (fun h => ?_)
            | with_reducible refine goIf_split (fun h => ?_) (fun h => ?_)
            | with_reducible refine goGb_b (fun h => ?_) (fun h => ?_)
            | with_reducible refine goGb_n (fun h => ?_) (fun h => ?_)
            | with_reducible refine goGb_d (fun h => ?_) (fun h => ?_)
            | with_reducible refine goGb_split (fun h => ?_) (fun h => ?_)
            | with_reducible refine goDGb_b (fun h => ?_) (fun h => ?_)
            | with_reducible refine goDGb_n (fun h => ?_) (fun h => ?_)
            | with_reducible refine goDGb_d (fun h => ?_) (fun h => ?_)
            | with_reducible refine goDGb_split (fun h => ?_) (fun h => ?_)
            | (refine goCall_norm ?_; simp only [AV.norm, AV.normL, W2, hf, ha, hb, ea, eb, a5, a6, b5, b6, Bool.true_and, bne_self_eq_false, Int.reduceBNe]; first | refine goCall_p (fine2_ok _ _) (.inl rfl) ?_ | refine goCall_p (pground_ok _) (.inl rfl) ?_ | refine goCall_p (wakes9_ok) (.inl rfl) ?_)
            | (refine goDCall_norm ?_; simp only [AV.norm, AV.normL, W2, hf, ha, hb, ea, eb, a5, a6, b5, b6, Bool.true_and, bne_self_eq_false, Int.reduceBNe]; first | refine goDCall_p (fine2_ok _ _) (.inl rfl) ?_ | refine goDCall_p (pground_ok _) (.inl rfl) ?_ | refine goDCall_p (wakes9_ok) (.inl rfl) ?_)
            | refine go_draw (id := 10) C_ok mixed 0 Try.f23.ntmps rfl (by kernel_rfl) (by decide) ?_) <;> first | simp only [h, Go.Ab.W0, guardOf, eff, effBuiltin, abin, abinInt, cellsAt, shift, AState.ev, AState.put, AState.new, ofVal, ofVal1, initS, setRange, inplOf, if_true, if_false, reduceIte, Nat.reduceEqDiff, Nat.reduceAdd, Nat.reduceLT, Nat.reduceLeDiff, reduceCtorEq, Nat.reduceMul, implies_true, fillA, placeSt, fillE, elemsOf, effAppend, effSlice, optInt, reCells, forall_eq_or_imp, forall_eq, isAl, retP, AV.norm, AV.normL, Nat.reducePow, W1, hf, ha, hb, ea, eb, a5, a6, b5, b6, Bool.true_and, bne_self_eq_false, Int.reduceBNe] | simp only [Go.Ab.W0, guardOf, eff, effBuiltin, abin, abinInt, cellsAt, shift, AState.ev, AState.put, AState.new, ofVal, ofVal1, initS, setRange, inplOf, if_true, if_false, reduceIte, Nat.reduceEqDiff, Nat.reduceAdd, Nat.reduceLT, Nat.reduceLeDiff, reduceCtorEq, Nat.reduceMul, implies_true, fillA, placeSt, fillE, elemsOf, effAppend, effSlice, optInt, reCells, forall_eq_or_imp, forall_eq, isAl, retP, AV.norm, AV.normL, Nat.reducePow, W1, hf, ha, hb, ea, eb, a5, a6, b5, b6, Bool.true_and, bne_self_eq_false, Int.reduceBNe] | skip)
          all_goals simp_all
    · have ea : hasGround a = false := by simp [hasGround, ka]
      by_cases kb : headK b.kind = true
      · have g5 := head_ne kb
        have eb : hasGround b = true := by simp [hasGround, hb, kb]
        have b5 : (b.kind != 5) = true := by simp [g5.1]
        have b6 : (b.kind != 6) = true := by simp [g5.2]
        rcases headK_b ha ka with ⟨a5, a6⟩ | ⟨a5, a6⟩
        all_goals
          refine pcalls_text C_ok Try.func23 rfl (by decide) (Nat.le_of_ble_eq_true rfl) (by decide) rfl fun ok H => ?_
          rw [Try.results23]
          try simp only [Go.Ab.W0, guardOf, eff, effBuiltin, abin, abinInt, cellsAt, shift, AState.ev, AState.put, AState.new, ofVal, ofVal1, initS, setRange, inplOf, if_true, if_false, reduceIte, Nat.reduceEqDiff, Nat.reduceAdd, Nat.reduceLT, Nat.reduceLeDiff, reduceCtorEq, Nat.reduceMul, implies_true, fillA, placeSt, fillE, elemsOf, effAppend, effSlice, optInt, reCells, forall_eq_or_imp, forall_eq, isAl, retP, AV.norm, AV.normL, Nat.reducePow, W1, hf, ha, hb, ea, eb, a5, a6, b5, b6, Bool.true_and, bne_self_eq_false, Int.reduceBNe]
          repeat' ((first
            | with_reducible refine goIf_b (fun h => ?_) (fun h => ?_)
            | with_reducible refine goIf_n (fun h => ?_) (fun h => ?_)
            | with_reducible refine goIf_d (fun h => ?_) (fun h => ?_)
            | with_reducible refine goIf_split (fun h => ?_) (fun h => ?_)
            | with_reducible refine goGb_b (fun h => ?_) (fun h => ?_)
            | with_reducible refine goGb_n (fun h => ?_) (fun h => ?_)
            | with_reducible refine goGb_d (fun h => ?_) (fun h => ?_)
            | with_reducible refine goGb_split (fun h => ?_) (fun h => ?_)
            | with_reducible refine goDGb_b (fun h => ?_) (fun h => ?_)
            | with_reducible refine goDGb_n (fun h => ?_) (fun h => ?_)
            | with_reducible refine goDGb_d (fun h => ?_) (fun h => ?_)
            | with_reducible refine goDGb_split (fun h => ?_) (fun h => ?_)
            | (refine goCall_norm ?_; simp only [AV.norm, AV.normL, W2, hf, ha, hb, ea, eb, a5, a6, b5, b6, Bool.true_and, bne_self_eq_false, Int.reduceBNe]; first | refine goCall_p (fine2_ok _ _) (.inl rfl) ?_ | refine goCall_p (pground_ok _) (.inl rfl) ?_ | refine goCall_p (wakes9_ok) (.inl rfl) ?_)
            | (refine goDCall_norm ?_; simp only [AV.norm, AV.normL, W2, hf, ha, hb, ea, eb, a5, a6, b5, b6, Bool.true_and, bne_self_eq_false, Int.reduceBNe]; first | refine goDCall_p (fine2_ok _ _) (.inl rfl) ?_ | refine goDCall_p (pground_ok _) (.inl rfl) ?_ | refine goDCall_p (wakes9_ok) (.inl rfl) ?_)
            | refine go_draw (id := 10) C_ok mixed 0 Try.f23.ntmps rfl (by kernel_rfl) (by decide) ?_) <;> first | simp only [h, Go.Ab.W0, guardOf, eff, effBuiltin, abin, abinInt, cellsAt, shift, AState.ev, AState.put, AState.new, ofVal, ofVal1, initS, setRange, inplOf, if_true, if_false, reduceIte, Nat.reduceEqDiff, Nat.reduceAdd, Nat.reduceLT, Nat.reduceLeDiff, reduceCtorEq, Nat.reduceMul, implies_true, fillA, placeSt, fillE, elemsOf, effAppend, effSlice, optInt, reCells, forall_eq_or_imp, forall_eq, isAl, retP, AV.norm, AV.normL, Nat.reducePow, W1, hf, ha, hb, ea, eb, a5, a6, b5, b6, Bool.true_and, bne_self_eq_false, Int.reduceBNe] | simp only [Go.Ab.W0, guardOf, eff, effBuiltin, abin, abinInt, cellsAt, shift, AState.ev, AState.put, AState.new, ofVal, ofVal1, initS, setRange, inplOf, if_true, if_false, reduceIte, Nat.reduceEqDiff, Nat.reduceAdd, Nat.reduceLT, Nat.reduceLeDiff, reduceCtorEq, Nat.reduceMul, implies_true, fillA, placeSt, fillE, elemsOf, effAppend, effSlice, optInt, reCells, forall_eq_or_imp, forall_eq, isAl, retP, AV.norm, AV.normL, Nat.reducePow, W1, hf, ha, hb, ea, eb, a5, a6, b5, b6, Bool.true_and, bne_self_eq_false, Int.reduceBNe] | skip)
          all_goals simp_all
      · have eb : hasGround b = false := by simp [hasGround, kb]
        rcases headK_b ha ka with ⟨a5, a6⟩ | ⟨a5, a6⟩ <;> rcases headK_b hb kb with ⟨b5, b6⟩ | ⟨b5, b6⟩
        all_goals
          refine pcalls_text C_ok Try.func23 rfl (by decide) (Nat.le_of_ble_eq_true rfl) (by decide) rfl fun ok H => ?_
          rw [Try.results23]
          try simp only [Go.Ab.W0, guardOf, eff, effBuiltin, abin, abinInt, cellsAt, shift, AState.ev, AState.put, AState.new, ofVal, ofVal1, initS, setRange, inplOf, if_true, if_false, reduceIte, Nat.reduceEqDiff, Nat.reduceAdd, Nat.reduceLT, Nat.reduceLeDiff, reduceCtorEq, Nat.reduceMul, implies_true, fillA, placeSt, fillE, elemsOf, effAppend, effSlice, optInt, reCells, forall_eq_or_imp, forall_eq, isAl, retP, AV.norm, AV.normL, Nat.reducePow, W1, hf, ha, hb, ea, eb, a5, a6, b5, b6, Bool.true_and, bne_self_eq_false, Int.reduceBNe]
          repeat' ((first
            | with_reducible refine goIf_b (fun h => ?_) (fun h => ?_)
            | with_reducible refine goIf_n (fun h => ?_) (fun h => ?_)
            | with_reducible refine goIf_d (fun h => ?_) (fun h => ?_)
            | with_reducible refine goIf_split (fun h => ?_) (fun h => ?_)
            | with_reducible refine goGb_b (fun h => ?_) (fun h => ?_)
            | with_reducible refine goGb_n (fun h => ?_) (fun h => ?_)
            | with_reducible refine goGb_d (fun h => ?_) (fun h => ?_)
            | with_reducible refine goGb_split (fun h => ?_) (fun h => ?_)
            | with_reducible refine goDGb_b (fun h => ?_) (fun h => ?_)
            | with_reducible refine goDGb_n (fun h => ?_) (fun h => ?_)
            | with_reducible refine goDGb_d (fun h => ?_) (fun h => ?_)
            | with_reducible refine goDGb_split (fun h => ?_) (fun h => ?_)
            | (refine goCall_norm ?_; simp only [AV.norm, AV.normL, W2, hf, ha, hb, ea, eb, a5, a6, b5, b6, Bool.true_and, bne_self_eq_false, Int.reduceBNe]; first | refine goCall_p (fine2_ok _ _) (.inl rfl) ?_ | refine goCall_p (pground_ok _) (.inl rfl) ?_ | refine goCall_p (wakes9_ok) (.inl rfl) ?_)
            | (refine goDCall_norm ?_; simp only [AV.norm, AV.normL, W2, hf, ha, hb, ea, eb, a5, a6, b5, b6, Bool.true_and, bne_self_eq_false, Int.reduceBNe]; first | refine goDCall_p (fine2_ok _ _) (.inl rfl) ?_ | refine goDCall_p (pground_ok _) (.inl rfl) ?_ | refine goDCall_p (wakes9_ok) (.inl rfl) ?_)
            | refine go_draw (id := 10) C_ok mixed 0 Try.f23.ntmps rfl (by kernel_rfl) (by decide) ?_) <;> first | simp only [h, Go.Ab.W0, guardOf, eff, effBuiltin, abin, abinInt, cellsAt, shift, AState.ev, AState.put, AState.new, ofVal, ofVal1, initS, setRange, inplOf, if_true, if_false, reduceIte, Nat.reduceEqDiff, Nat.reduceAdd, Nat.reduceLT, Nat.reduceLeDiff, reduceCtorEq, Nat.reduceMul, implies_true, fillA, placeSt, fillE, elemsOf, effAppend, effSlice, optInt, reCells, forall_eq_or_imp, forall_eq, isAl, retP, AV.norm, AV.normL, Nat.reducePow, W1, hf, ha, hb, ea, eb, a5, a6, b5, b6, Bool.true_and, bne_self_eq_false, Int.reduceBNe] | simp only [Go.Ab.W0, guardOf, eff, effBuiltin, abin, abinInt, cellsAt, shift, AState.ev, AState.put, AState.new, ofVal, ofVal1, initS, setRange, inplOf, if_true, if_false, reduceIte, Nat.reduceEqDiff, Nat.reduceAdd, Nat.reduceLT, Nat.reduceLeDiff, reduceCtorEq, Nat.reduceMul, implies_true, fillA, placeSt, fillE, elemsOf, effAppend, effSlice, optInt, reCells, forall_eq_or_imp, forall_eq, isAl, retP, AV.norm, AV.normL, Nat.reducePow, W1, hf, ha, hb, ea, eb, a5, a6, b5, b6, Bool.true_and, bne_self_eq_false, Int.reduceBNe] | skip)
          all_goals simp_all
  · refine pcalls_text C_ok Try.func23 rfl (by decide) (Nat.le_of_ble_eq_true rfl) (by decide) rfl fun ok H => ?_
    rw [Try.results23]
    try simp only [Go.Ab.W0, guardOf, eff, effBuiltin, abin, abinInt, cellsAt, shift, AState.ev, AState.put, AState.new, ofVal, ofVal1, initS, setRange, inplOf, if_true, if_false, reduceIte, Nat.reduceEqDiff, Nat.reduceAdd, Nat.reduceLT, Nat.reduceLeDiff, reduceCtorEq, Nat.reduceMul, implies_true, fillA, placeSt, fillE, elemsOf, effAppend, effSlice, optInt, reCells, forall_eq_or_imp, forall_eq, isAl, retP, AV.norm, AV.normL, Nat.reducePow, W1, hf]
    repeat' ((first
      | with_reducible refine goIf_b (fun h => ?_) (fun h => ?_)
      | with_reducible refine goIf_n (fun h => ?_) (fun h => ?_)
      | with_reducible refine goIf_d (fun h => ?_) (fun h => ?_)
      | with_reducible refine goIf_split (fun h => ?_) (fun h => ?_)
      | with_reducible refine goGb_b (fun h => ?_) (fun h => ?_)
      | with_reducible refine goGb_n (fun h => ?_) (fun h => ?_)
      | with_reducible refine goGb_d (fun h => ?_) (fun h => ?_)
      | with_reducible refine goGb_split (fun h => ?_) (fun h => ?_)
      | with_reducible refine goDGb_b (fun h => ?_) (fun h => ?_)
      | with_reducible refine goDGb_n (fun h => ?_) (fun h => ?_)
      | with_reducible refine goDGb_d (fun h => ?_) (fun h => ?_)
      | with_reducible refine goDGb_split (fun h => ?_) (fun h => ?_)
      | (refine goCall_norm ?_; simp only [AV.norm, AV.normL, W2, hf]; first | refine goCall_p (fine2_ok _ _) (.inl rfl) ?_)
      | (refine goDCall_norm ?_; simp only [AV.norm, AV.normL, W2, hf]; first | refine goDCall_p (fine2_ok _ _) (.inl rfl) ?_)
      | refine go_draw (id := 10) C_ok mixed 0 Try.f23.ntmps rfl (by kernel_rfl) (by decide) ?_) <;> first | simp only [h, Go.Ab.W0, guardOf, eff, effBuiltin, abin, abinInt, cellsAt, shift, AState.ev, AState.put, AState.new, ofVal, ofVal1, initS, setRange, inplOf, if_true, if_false, reduceIte, Nat.reduceEqDiff, Nat.reduceAdd, Nat.reduceLT, Nat.reduceLeDiff, reduceCtorEq, Nat.reduceMul, implies_true, fillA, placeSt, fillE, elemsOf, effAppend, effSlice, optInt, reCells, forall_eq_or_imp, forall_eq, isAl, retP, AV.norm, AV.normL, Nat.reducePow, W1, hf] | simp only [Go.Ab.W0, guardOf, eff, effBuiltin, abin, abinInt, cellsAt, shift, AState.ev, AState.put, AState.new, ofVal, ofVal1, initS, setRange, inplOf, if_true, if_false, reduceIte, Nat.reduceEqDiff, Nat.reduceAdd, Nat.reduceLT, Nat.reduceLeDiff, reduceCtorEq, Nat.reduceMul, implies_true, fillA, placeSt, fillE, elemsOf, effAppend, effSlice, optInt, reCells, forall_eq_or_imp, forall_eq, isAl, retP, AV.norm, AV.normL, Nat.reducePow, W1, hf] | skip)

end Go.Proofs.Ytcpfjabjonpdaaa
