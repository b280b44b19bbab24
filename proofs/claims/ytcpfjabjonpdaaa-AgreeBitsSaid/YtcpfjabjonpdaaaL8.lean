/- The laws AgreeExact, AgreeBoth, AgreeMeet, AgreeNotOn answer true, whatever the input. No condition. -/
import Derived.Test.YtcpfjabjonpdaaaM8
import Derived.Test.YtcpfjabjonpdaaaLA
import Derived.Test.YtcpfjabjonpdaaaM6
set_option linter.unusedSimpArgs false
set_option linter.unusedVariables false
set_option maxHeartbeats 4000000
set_option maxRecDepth 100000
namespace Go.Proofs.Ytcpfjabjonpdaaa
open Go Go.Ab
attribute [local irreducible] PCalls ACalls CallK GoCall GoDCall GoIf GoGb GoDGb GoO GoD GoX GoDX GoG GoDG GoGv GoDGv Go ALoop

theorem fun8_ok (i j : Int) : PCalls Try.prog 78 [.int .i64 i, .int .i64 j] (emb (twoT 9 (leafT i) (leafT j))) := by
  refine pcalls_text C_ok Try.func78 rfl (by decide) (Nat.le_of_ble_eq_true rfl) (by decide) (emb_bel _ _) fun ok H => ?_
  rw [Try.results78]
  try simp only [↓upd_eq, ↓envL_cons, Go.Ab.W0, guardOf, eff, effBuiltin, abin, abinInt, cellsAt, shift, AState.ev, AState.put, AState.new, ofVal, ofVal1, setRange, inplOf, if_true, if_false, reduceIte, Nat.reduceEqDiff, Nat.reduceAdd, Nat.reduceLT, Nat.reduceLeDiff, reduceCtorEq, Nat.reduceMul, implies_true, fillA, placeSt, fillE, elemsOf, effAppend, effSlice, optInt, reCells, forall_eq_or_imp, forall_eq, isAl, retP, AV.norm, AV.normL, Nat.reducePow, W1]
  repeat' ((first
    | with_reducible refine goIf_b (fun h => ?_) (fun h => ?_)
    | with_reducible refine goIf_n (fun h => ?_) (fun h => ?_)
    | with_reducible refine goIf_d (fun h => ?_) (fun h => ?_)
    | with_reducible refine goIf_split (fun h => ?_) (fun h => ?_)
    | with_reducible refine goGb_b (fun h => ?_) (fun h => ?_)
    | with_reducible refine goGb_n (fun h => ?_) (fun h => ?_)
    | with_reducible refine goGb_d (fun h => ?_) (fun h => ?_)
    | with_reducible refine goGb_split (fun h => ?_) (fun h => ?_)
    | with_reducible refine goDGb_b (fun h => ?_) (fun h => ?_)
    | with_reducible refine goDGb_n (fun h => ?_) (fun h => ?_)
    | with_reducible refine goDGb_d (fun h => ?_) (fun h => ?_)
    | with_reducible refine goDGb_split (fun h => ?_) (fun h => ?_)
    | (refine goCall_norm ?_; simp only [AV.norm, AV.normL, W2]; first | refine goCall_p (leaf_ok _) (.inl rfl) ?_ | refine goCall_p (two_ok _ _ _) (.inl rfl) ?_)
    | (refine goDCall_norm ?_; simp only [AV.norm, AV.normL, W2]; first | refine goDCall_p (leaf_ok _) (.inl rfl) ?_ | refine goDCall_p (two_ok _ _ _) (.inl rfl) ?_)) <;> first | simp only [h, ↓upd_eq, ↓envL_cons, Go.Ab.W0, guardOf, eff, effBuiltin, abin, abinInt, cellsAt, shift, AState.ev, AState.put, AState.new, ofVal, ofVal1, setRange, inplOf, if_true, if_false, reduceIte, Nat.reduceEqDiff, Nat.reduceAdd, Nat.reduceLT, Nat.reduceLeDiff, reduceCtorEq, Nat.reduceMul, implies_true, fillA, placeSt, fillE, elemsOf, effAppend, effSlice, optInt, reCells, forall_eq_or_imp, forall_eq, isAl, retP, AV.norm, AV.normL, Nat.reducePow, W1] | simp only [↓upd_eq, ↓envL_cons, Go.Ab.W0, guardOf, eff, effBuiltin, abin, abinInt, cellsAt, shift, AState.ev, AState.put, AState.new, ofVal, ofVal1, setRange, inplOf, if_true, if_false, reduceIte, Nat.reduceEqDiff, Nat.reduceAdd, Nat.reduceLT, Nat.reduceLeDiff, reduceCtorEq, Nat.reduceMul, implies_true, fillA, placeSt, fillE, elemsOf, effAppend, effSlice, optInt, reCells, forall_eq_or_imp, forall_eq, isAl, retP, AV.norm, AV.normL, Nat.reducePow, W1] | skip)

theorem wakes8_ok : PCalls Try.prog 50 [] (.bool true) := by
  have e1 : agreeR (twoT 9 (leafT 1) (leafT 5)) (twoT 9 (leafT 5) (leafT 2)) = true := by decide
  have e2 : same (meetR (twoT 9 (leafT 1) (leafT 5)) (twoT 9 (leafT 5) (leafT 2))) (twoT 9 (leafT 1) (leafT 2)) = true := by decide
  have e3 : (right (twoT 9 (leafT 1) (leafT 1)) && right (twoT 9 (leafT 1) (leafT 2)) && agree (twoT 9 (leafT 1) (leafT 1)) (twoT 9 (leafT 1) (leafT 2))) = false := by decide
  have e4 : (right (leafT 5) && right (meetR (twoT 9 (leafT 1) (leafT 5)) (twoT 9 (leafT 5) (leafT 2))) && agree (leafT 5) (meetR (twoT 9 (leafT 1) (leafT 5)) (twoT 9 (leafT 5) (leafT 2)))) = true := by decide
  refine pcalls_text C_ok Try.func50 rfl (by decide) (Nat.le_of_ble_eq_true rfl) (by decide) rfl fun ok H => ?_
  rw [Try.results50]
  try simp only [↓upd_eq, ↓envL_cons, Go.Ab.W0, guardOf, eff, effBuiltin, abin, abinInt, cellsAt, shift, AState.ev, AState.put, AState.new, ofVal, ofVal1, setRange, inplOf, if_true, if_false, reduceIte, Nat.reduceEqDiff, Nat.reduceAdd, Nat.reduceLT, Nat.reduceLeDiff, reduceCtorEq, Nat.reduceMul, implies_true, fillA, placeSt, fillE, elemsOf, effAppend, effSlice, optInt, reCells, forall_eq_or_imp, forall_eq, isAl, retP, AV.norm, AV.normL, Nat.reducePow, W1, e1, e2, e3, e4]
  repeat' ((first
    | with_reducible refine goIf_b (fun h => ?_) (fun h => ?_)
    | with_reducible refine goIf_n (fun h => ?_) (fun h => ?_)
    | with_reducible refine goIf_d (fun h => ?_) (fun h => ?_)
    | with_reducible refine goIf_split (fun h => ?_) (fun h => ?_)
    | with_reducible refine goGb_b (fun h => ?_) (fun h => ?_)
    | with_reducible refine goGb_n (fun h => ?_) (fun h => ?_)
    | with_reducible refine goGb_d (fun h => ?_) (fun h => ?_)
    | with_reducible refine goGb_split (fun h => ?_) (fun h => ?_)
    | with_reducible refine goDGb_b (fun h => ?_) (fun h => ?_)
    | with_reducible refine goDGb_n (fun h => ?_) (fun h => ?_)
    | with_reducible refine goDGb_d (fun h => ?_) (fun h => ?_)
    | with_reducible refine goDGb_split (fun h => ?_) (fun h => ?_)
    | (refine goCall_norm ?_; simp only [AV.norm, AV.normL, W2, e1, e2, e3, e4]; first | refine goCall_p (leaf_ok _) (.inl rfl) ?_ | refine goCall_p (fun8_ok _ _) (.inl rfl) ?_ | refine goCall_p (pmeet_ok _ _) (.inl rfl) ?_ | refine goCall_p (pagree_ok _ _) (.inl rfl) ?_ | refine goCall_p (ksame_ok _ _) (.inl rfl) ?_)
    | (refine goDCall_norm ?_; simp only [AV.norm, AV.normL, W2, e1, e2, e3, e4]; first | refine goDCall_p (leaf_ok _) (.inl rfl) ?_ | refine goDCall_p (fun8_ok _ _) (.inl rfl) ?_ | refine goDCall_p (pmeet_ok _ _) (.inl rfl) ?_ | refine goDCall_p (pagree_ok _ _) (.inl rfl) ?_ | refine goDCall_p (ksame_ok _ _) (.inl rfl) ?_)
    | refine go_draw (id := 2) C_ok mixed 0 Try.f50.ntmps rfl (by kernel_rfl) (by decide) ?_) <;> first | simp only [h, ↓upd_eq, ↓envL_cons, Go.Ab.W0, guardOf, eff, effBuiltin, abin, abinInt, cellsAt, shift, AState.ev, AState.put, AState.new, ofVal, ofVal1, setRange, inplOf, if_true, if_false, reduceIte, Nat.reduceEqDiff, Nat.reduceAdd, Nat.reduceLT, Nat.reduceLeDiff, reduceCtorEq, Nat.reduceMul, implies_true, fillA, placeSt, fillE, elemsOf, effAppend, effSlice, optInt, reCells, forall_eq_or_imp, forall_eq, isAl, retP, AV.norm, AV.normL, Nat.reducePow, W1, e1, e2, e3, e4] | simp only [↓upd_eq, ↓envL_cons, Go.Ab.W0, guardOf, eff, effBuiltin, abin, abinInt, cellsAt, shift, AState.ev, AState.put, AState.new, ofVal, ofVal1, setRange, inplOf, if_true, if_false, reduceIte, Nat.reduceEqDiff, Nat.reduceAdd, Nat.reduceLT, Nat.reduceLeDiff, reduceCtorEq, Nat.reduceMul, implies_true, fillA, placeSt, fillE, elemsOf, effAppend, effSlice, optInt, reCells, forall_eq_or_imp, forall_eq, isAl, retP, AV.norm, AV.normL, Nat.reducePow, W1, e1, e2, e3, e4] | skip)

theorem agreeExact_ok (a b : Ty) : PCalls Try.prog 10 [emb a, emb b] (.bool true) := by
  by_cases hv : heavy [a, b] = true
  · refine pcalls_text C_ok Try.func10 rfl (by decide) (Nat.le_of_ble_eq_true rfl) (by decide) rfl fun ok H => ?_
    rw [Try.results10]
    try simp only [↓upd_eq, ↓envL_cons, Go.Ab.W0, guardOf, eff, effBuiltin, abin, abinInt, cellsAt, shift, AState.ev, AState.put, AState.new, ofVal, ofVal1, setRange, inplOf, if_true, if_false, reduceIte, Nat.reduceEqDiff, Nat.reduceAdd, Nat.reduceLT, Nat.reduceLeDiff, reduceCtorEq, Nat.reduceMul, implies_true, fillA, placeSt, fillE, elemsOf, effAppend, effSlice, optInt, reCells, forall_eq_or_imp, forall_eq, isAl, retP, AV.norm, AV.normL, Nat.reducePow, W1, hv]
    repeat' ((first
      | with_reducible refine goIf_b (fun h => ?_) (fun h => ?_)
      | with_reducible refine goIf_n (fun h => ?_) (fun h => ?_)
      | with_reducible refine goIf_d (fun h => ?_) (fun h => ?_)
      | with_reducible refine goIf_split (fun h => ?_) (fun h => ?_)
      | with_reducible refine goGb_b (fun h => ?_) (fun h => ?_)
      | with_reducible refine goGb_n (fun h => ?_) (fun h => ?_)
      | with_reducible refine goGb_d (fun h => ?_) (fun h => ?_)
      | with_reducible refine goGb_split (fun h => ?_) (fun h => ?_)
      | with_reducible refine goDGb_b (fun h => ?_) (fun h => ?_)
      | with_reducible refine goDGb_n (fun h => ?_) (fun h => ?_)
      | with_reducible refine goDGb_d (fun h => ?_) (fun h => ?_)
      | with_reducible refine goDGb_split (fun h => ?_) (fun h => ?_)
      | (refine goCall_norm ?_; simp only [AV.norm, AV.normL, W2, hv]; first | refine goCall_p (heavy2_ok _ _) (.inl rfl) ?_)
      | (refine goDCall_norm ?_; simp only [AV.norm, AV.normL, W2, hv]; first | refine goDCall_p (heavy2_ok _ _) (.inl rfl) ?_)
      | refine go_draw (id := 3) C_ok mixed 2 Try.f10.ntmps rfl (by kernel_rfl) (by decide) ?_
      | refine go_draw (id := 10) C_ok mixed 0 Try.f10.ntmps rfl (by kernel_rfl) (by decide) ?_) <;> first | simp only [h, ↓upd_eq, ↓envL_cons, Go.Ab.W0, guardOf, eff, effBuiltin, abin, abinInt, cellsAt, shift, AState.ev, AState.put, AState.new, ofVal, ofVal1, setRange, inplOf, if_true, if_false, reduceIte, Nat.reduceEqDiff, Nat.reduceAdd, Nat.reduceLT, Nat.reduceLeDiff, reduceCtorEq, Nat.reduceMul, implies_true, fillA, placeSt, fillE, elemsOf, effAppend, effSlice, optInt, reCells, forall_eq_or_imp, forall_eq, isAl, retP, AV.norm, AV.normL, Nat.reducePow, W1, hv] | simp only [↓upd_eq, ↓envL_cons, Go.Ab.W0, guardOf, eff, effBuiltin, abin, abinInt, cellsAt, shift, AState.ev, AState.put, AState.new, ofVal, ofVal1, setRange, inplOf, if_true, if_false, reduceIte, Nat.reduceEqDiff, Nat.reduceAdd, Nat.reduceLT, Nat.reduceLeDiff, reduceCtorEq, Nat.reduceMul, implies_true, fillA, placeSt, fillE, elemsOf, effAppend, effSlice, optInt, reCells, forall_eq_or_imp, forall_eq, isAl, retP, AV.norm, AV.normL, Nat.reducePow, W1, hv] | skip)
  · have h1 : nodes a ≤ 1048576 := Nat.le_trans (heavy_nodes hv (by simp)) (by decide)
    have h2 : nodes b ≤ 1048576 := Nat.le_trans (heavy_nodes hv (by simp)) (by decide)
    by_cases ha : right a = true
    · by_cases hb : right b = true
      · by_cases hab : agree a b = true
        · have hR : agreeR a b = true := by simp [agreeR, ha, hb, hab]
          have hM : meetR a b = meet a b := by simp [meetR, hR]
          refine pcalls_text C_ok Try.func10 rfl (by decide) (Nat.le_of_ble_eq_true rfl) (by decide) rfl fun ok H => ?_
          rw [Try.results10]
          try simp only [↓upd_eq, ↓envL_cons, Go.Ab.W0, guardOf, eff, effBuiltin, abin, abinInt, cellsAt, shift, AState.ev, AState.put, AState.new, ofVal, ofVal1, setRange, inplOf, if_true, if_false, reduceIte, Nat.reduceEqDiff, Nat.reduceAdd, Nat.reduceLT, Nat.reduceLeDiff, reduceCtorEq, Nat.reduceMul, implies_true, fillA, placeSt, fillE, elemsOf, effAppend, effSlice, optInt, reCells, forall_eq_or_imp, forall_eq, isAl, retP, AV.norm, AV.normL, Nat.reducePow, W1, hv, ha, hb, hab, hR, hM, same_self, beq_self_eq_true]
          repeat' ((first
            | with_reducible refine goIf_b (fun h => ?_) (fun h => ?_)
            | with_reducible refine goIf_n (fun h => ?_) (fun h => ?_)
            | with_reducible refine goIf_d (fun h => ?_) (fun h => ?_)
            | with_reducible refine goIf_split (fun h => ?_) (fun h => ?_)
            | with_reducible refine goGb_b (fun h => ?_) (fun h => ?_)
            | with_reducible refine goGb_n (fun h => ?_) (fun h => ?_)
            | with_reducible refine goGb_d (fun h => ?_) (fun h => ?_)
            | with_reducible refine goGb_split (fun h => ?_) (fun h => ?_)
            | with_reducible refine goDGb_b (fun h => ?_) (fun h => ?_)
            | with_reducible refine goDGb_n (fun h => ?_) (fun h => ?_)
            | with_reducible refine goDGb_d (fun h => ?_) (fun h => ?_)
            | with_reducible refine goDGb_split (fun h => ?_) (fun h => ?_)
            | (refine goCall_norm ?_; simp only [AV.norm, AV.normL, W2, hv, ha, hb, hab, hR, hM, same_self, beq_self_eq_true]; first | refine goCall_p (heavy2_ok _ _) (.inl rfl) ?_ | refine goCall_p (ktype_ok _ h1) (.inl rfl) ?_ | refine goCall_p (ktype_ok _ h2) (.inl rfl) ?_ | refine goCall_p (rright_ok _) (.inl rfl) ?_ | refine goCall_p (ragree_ok _ _ ha hb) (.inl rfl) ?_ | refine goCall_p (rmeet_ok _ _ ha hb hab) (.inl rfl) ?_ | refine goCall_p (pmeet_ok _ _) (.inl rfl) ?_ | refine goCall_p (pagree_ok _ _) (.inl rfl) ?_ | refine goCall_p (ksame_ok _ _) (.inl rfl) ?_ | refine goCall_p (wakes8_ok) (.inl rfl) ?_)
            | (refine goDCall_norm ?_; simp only [AV.norm, AV.normL, W2, hv, ha, hb, hab, hR, hM, same_self, beq_self_eq_true]; first | refine goDCall_p (heavy2_ok _ _) (.inl rfl) ?_ | refine goDCall_p (ktype_ok _ h1) (.inl rfl) ?_ | refine goDCall_p (ktype_ok _ h2) (.inl rfl) ?_ | refine goDCall_p (rright_ok _) (.inl rfl) ?_ | refine goDCall_p (ragree_ok _ _ ha hb) (.inl rfl) ?_ | refine goDCall_p (rmeet_ok _ _ ha hb hab) (.inl rfl) ?_ | refine goDCall_p (pmeet_ok _ _) (.inl rfl) ?_ | refine goDCall_p (pagree_ok _ _) (.inl rfl) ?_ | refine goDCall_p (ksame_ok _ _) (.inl rfl) ?_ | refine goDCall_p (wakes8_ok) (.inl rfl) ?_)
            | refine go_draw (id := 3) C_ok mixed 2 Try.f10.ntmps rfl (by kernel_rfl) (by decide) ?_
            | refine go_draw (id := 10) C_ok mixed 0 Try.f10.ntmps rfl (by kernel_rfl) (by decide) ?_) <;> first | simp only [h, ↓upd_eq, ↓envL_cons, Go.Ab.W0, guardOf, eff, effBuiltin, abin, abinInt, cellsAt, shift, AState.ev, AState.put, AState.new, ofVal, ofVal1, setRange, inplOf, if_true, if_false, reduceIte, Nat.reduceEqDiff, Nat.reduceAdd, Nat.reduceLT, Nat.reduceLeDiff, reduceCtorEq, Nat.reduceMul, implies_true, fillA, placeSt, fillE, elemsOf, effAppend, effSlice, optInt, reCells, forall_eq_or_imp, forall_eq, isAl, retP, AV.norm, AV.normL, Nat.reducePow, W1, hv, ha, hb, hab, hR, hM, same_self, beq_self_eq_true] | simp only [↓upd_eq, ↓envL_cons, Go.Ab.W0, guardOf, eff, effBuiltin, abin, abinInt, cellsAt, shift, AState.ev, AState.put, AState.new, ofVal, ofVal1, setRange, inplOf, if_true, if_false, reduceIte, Nat.reduceEqDiff, Nat.reduceAdd, Nat.reduceLT, Nat.reduceLeDiff, reduceCtorEq, Nat.reduceMul, implies_true, fillA, placeSt, fillE, elemsOf, effAppend, effSlice, optInt, reCells, forall_eq_or_imp, forall_eq, isAl, retP, AV.norm, AV.normL, Nat.reducePow, W1, hv, ha, hb, hab, hR, hM, same_self, beq_self_eq_true] | skip)
          all_goals simp_all
        · have hR : agreeR a b = false := by simp [agreeR, ha, hb, hab]
          have hM : meetR a b = noneT := by simp [meetR, hR]
          refine pcalls_text C_ok Try.func10 rfl (by decide) (Nat.le_of_ble_eq_true rfl) (by decide) rfl fun ok H => ?_
          rw [Try.results10]
          try simp only [↓upd_eq, ↓envL_cons, Go.Ab.W0, guardOf, eff, effBuiltin, abin, abinInt, cellsAt, shift, AState.ev, AState.put, AState.new, ofVal, ofVal1, setRange, inplOf, if_true, if_false, reduceIte, Nat.reduceEqDiff, Nat.reduceAdd, Nat.reduceLT, Nat.reduceLeDiff, reduceCtorEq, Nat.reduceMul, implies_true, fillA, placeSt, fillE, elemsOf, effAppend, effSlice, optInt, reCells, forall_eq_or_imp, forall_eq, isAl, retP, AV.norm, AV.normL, Nat.reducePow, W1, hv, ha, hb, hab, hR, hM, noneT, same_self, beq_self_eq_true]
          repeat' ((first
            | with_reducible refine goIf_b (fun h => ?_) (fun h => ?_)
            | with_reducible refine goIf_n (fun h => ?_) (fun h => ?_)
            | with_reducible refine goIf_d (fun h => ?_) (fun h => ?_)
            | with_reducible refine goIf_split (fun h => ?_) (fun h => ?_)
            | with_reducible refine goGb_b (fun h => ?_) (fun h => ?_)
            | with_reducible refine goGb_n (fun h => ?_) (fun h => ?_)
            | with_reducible refine goGb_d (fun h => ?_) (fun h => ?_)
            | with_reducible refine goGb_split (fun h => ?_) (fun h => ?_)
            | with_reducible refine goDGb_b (fun h => ?_) (fun h => ?_)
            | with_reducible refine goDGb_n (fun h => ?_) (fun h => ?_)
            | with_reducible refine goDGb_d (fun h => ?_) (fun h => ?_)
            | with_reducible refine goDGb_split (fun h => ?_) (fun h => ?_)
            | (refine goCall_norm ?_; simp only [AV.norm, AV.normL, W2, hv, ha, hb, hab, hR, hM, noneT, same_self, beq_self_eq_true]; first | refine goCall_p (heavy2_ok _ _) (.inl rfl) ?_ | refine goCall_p (ktype_ok _ h1) (.inl rfl) ?_ | refine goCall_p (ktype_ok _ h2) (.inl rfl) ?_ | refine goCall_p (rright_ok _) (.inl rfl) ?_ | refine goCall_p (ragree_ok _ _ ha hb) (.inl rfl) ?_ | refine goCall_p (pmeet_ok _ _) (.inl rfl) ?_ | refine goCall_p (pagree_ok _ _) (.inl rfl) ?_ | refine goCall_p (ksame_ok _ _) (.inl rfl) ?_ | refine goCall_p (wakes8_ok) (.inl rfl) ?_)
            | (refine goDCall_norm ?_; simp only [AV.norm, AV.normL, W2, hv, ha, hb, hab, hR, hM, noneT, same_self, beq_self_eq_true]; first | refine goDCall_p (heavy2_ok _ _) (.inl rfl) ?_ | refine goDCall_p (ktype_ok _ h1) (.inl rfl) ?_ | refine goDCall_p (ktype_ok _ h2) (.inl rfl) ?_ | refine goDCall_p (rright_ok _) (.inl rfl) ?_ | refine goDCall_p (ragree_ok _ _ ha hb) (.inl rfl) ?_ | refine goDCall_p (pmeet_ok _ _) (.inl rfl) ?_ | refine goDCall_p (pagree_ok _ _) (.inl rfl) ?_ | refine goDCall_p (ksame_ok _ _) (.inl rfl) ?_ | refine goDCall_p (wakes8_ok) (.inl rfl) ?_)
            | refine go_draw (id := 3) C_ok mixed 2 Try.f10.ntmps rfl (by kernel_rfl) (by decide) ?_
            | refine go_draw (id := 10) C_ok mixed 0 Try.f10.ntmps rfl (by kernel_rfl) (by decide) ?_) <;> first | simp only [h, ↓upd_eq, ↓envL_cons, Go.Ab.W0, guardOf, eff, effBuiltin, abin, abinInt, cellsAt, shift, AState.ev, AState.put, AState.new, ofVal, ofVal1, setRange, inplOf, if_true, if_false, reduceIte, Nat.reduceEqDiff, Nat.reduceAdd, Nat.reduceLT, Nat.reduceLeDiff, reduceCtorEq, Nat.reduceMul, implies_true, fillA, placeSt, fillE, elemsOf, effAppend, effSlice, optInt, reCells, forall_eq_or_imp, forall_eq, isAl, retP, AV.norm, AV.normL, Nat.reducePow, W1, hv, ha, hb, hab, hR, hM, noneT, same_self, beq_self_eq_true] | simp only [↓upd_eq, ↓envL_cons, Go.Ab.W0, guardOf, eff, effBuiltin, abin, abinInt, cellsAt, shift, AState.ev, AState.put, AState.new, ofVal, ofVal1, setRange, inplOf, if_true, if_false, reduceIte, Nat.reduceEqDiff, Nat.reduceAdd, Nat.reduceLT, Nat.reduceLeDiff, reduceCtorEq, Nat.reduceMul, implies_true, fillA, placeSt, fillE, elemsOf, effAppend, effSlice, optInt, reCells, forall_eq_or_imp, forall_eq, isAl, retP, AV.norm, AV.normL, Nat.reducePow, W1, hv, ha, hb, hab, hR, hM, noneT, same_self, beq_self_eq_true] | skip)
          all_goals simp_all
      · have hR : agreeR a b = false := by simp [agreeR, ha, hb]
        have hM : meetR a b = noneT := by simp [meetR, hR]
        refine pcalls_text C_ok Try.func10 rfl (by decide) (Nat.le_of_ble_eq_true rfl) (by decide) rfl fun ok H => ?_
        rw [Try.results10]
        try simp only [↓upd_eq, ↓envL_cons, Go.Ab.W0, guardOf, eff, effBuiltin, abin, abinInt, cellsAt, shift, AState.ev, AState.put, AState.new, ofVal, ofVal1, setRange, inplOf, if_true, if_false, reduceIte, Nat.reduceEqDiff, Nat.reduceAdd, Nat.reduceLT, Nat.reduceLeDiff, reduceCtorEq, Nat.reduceMul, implies_true, fillA, placeSt, fillE, elemsOf, effAppend, effSlice, optInt, reCells, forall_eq_or_imp, forall_eq, isAl, retP, AV.norm, AV.normL, Nat.reducePow, W1, hv, ha, hb, hR, hM, noneT, same_self, beq_self_eq_true]
        repeat' ((first
          | with_reducible refine goIf_b (fun h => ?_) (fun h => ?_)
          | with_reducible refine goIf_n (fun h => ?_) (fun h => ?_)
          | with_reducible refine goIf_d (fun h => ?_) (fun h => ?_)
          | with_reducible refine goIf_split (fun h => ?_) (fun h => ?_)
          | with_reducible refine goGb_b (fun h => ?_) (fun h => ?_)
          | with_reducible refine goGb_n (fun h => ?_) (fun h => ?_)
          | with_reducible refine goGb_d (fun h => ?_) (fun h => ?_)
          | with_reducible refine goGb_split (fun h => ?_) (fun h => ?_)
          | with_reducible refine goDGb_b (fun h => ?_) (fun h => ?_)
          | with_reducible refine goDGb_n (fun h => ?_) (fun h => ?_)
          | with_reducible refine goDGb_d (fun h => ?_) (fun h => ?_)
          | with_reducible refine goDGb_split (fun h => ?_) (fun h => ?_)
          | (refine goCall_norm ?_; simp only [AV.norm, AV.normL, W2, hv, ha, hb, hR, hM, noneT, same_self, beq_self_eq_true]; first | refine goCall_p (heavy2_ok _ _) (.inl rfl) ?_ | refine goCall_p (ktype_ok _ h1) (.inl rfl) ?_ | refine goCall_p (ktype_ok _ h2) (.inl rfl) ?_ | refine goCall_p (rright_ok _) (.inl rfl) ?_ | refine goCall_p (pmeet_ok _ _) (.inl rfl) ?_ | refine goCall_p (pagree_ok _ _) (.inl rfl) ?_ | refine goCall_p (ksame_ok _ _) (.inl rfl) ?_ | refine goCall_p (wakes8_ok) (.inl rfl) ?_)
          | (refine goDCall_norm ?_; simp only [AV.norm, AV.normL, W2, hv, ha, hb, hR, hM, noneT, same_self, beq_self_eq_true]; first | refine goDCall_p (heavy2_ok _ _) (.inl rfl) ?_ | refine goDCall_p (ktype_ok _ h1) (.inl rfl) ?_ | refine goDCall_p (ktype_ok _ h2) (.inl rfl) ?_ | refine goDCall_p (rright_ok _) (.inl rfl) ?_ | refine goDCall_p (pmeet_ok _ _) (.inl rfl) ?_ | refine goDCall_p (pagree_ok _ _) (.inl rfl) ?_ | refine goDCall_p (ksame_ok _ _) (.inl rfl) ?_ | refine goDCall_p (wakes8_ok) (.inl rfl) ?_)
          | refine go_draw (id := 3) C_ok mixed 2 Try.f10.ntmps rfl (by kernel_rfl) (by decide) ?_
          | refine go_draw (id := 10) C_ok mixed 0 Try.f10.ntmps rfl (by kernel_rfl) (by decide) ?_) <;> first | simp only [h, ↓upd_eq, ↓envL_cons, Go.Ab.W0, guardOf, eff, effBuiltin, abin, abinInt, cellsAt, shift, AState.ev, AState.put, AState.new, ofVal, ofVal1, setRange, inplOf, if_true, if_false, reduceIte, Nat.reduceEqDiff, Nat.reduceAdd, Nat.reduceLT, Nat.reduceLeDiff, reduceCtorEq, Nat.reduceMul, implies_true, fillA, placeSt, fillE, elemsOf, effAppend, effSlice, optInt, reCells, forall_eq_or_imp, forall_eq, isAl, retP, AV.norm, AV.normL, Nat.reducePow, W1, hv, ha, hb, hR, hM, noneT, same_self, beq_self_eq_true] | simp only [↓upd_eq, ↓envL_cons, Go.Ab.W0, guardOf, eff, effBuiltin, abin, abinInt, cellsAt, shift, AState.ev, AState.put, AState.new, ofVal, ofVal1, setRange, inplOf, if_true, if_false, reduceIte, Nat.reduceEqDiff, Nat.reduceAdd, Nat.reduceLT, Nat.reduceLeDiff, reduceCtorEq, Nat.reduceMul, implies_true, fillA, placeSt, fillE, elemsOf, effAppend, effSlice, optInt, reCells, forall_eq_or_imp, forall_eq, isAl, retP, AV.norm, AV.normL, Nat.reducePow, W1, hv, ha, hb, hR, hM, noneT, same_self, beq_self_eq_true] | skip)
        all_goals simp_all
    · have hR : agreeR a b = false := by simp [agreeR, ha]
      have hM : meetR a b = noneT := by simp [meetR, hR]
      refine pcalls_text C_ok Try.func10 rfl (by decide) (Nat.le_of_ble_eq_true rfl) (by decide) rfl fun ok H => ?_
      rw [Try.results10]
      try simp only [↓upd_eq, ↓envL_cons, Go.Ab.W0, guardOf, eff, effBuiltin, abin, abinInt, cellsAt, shift, AState.ev, AState.put, AState.new, ofVal, ofVal1, setRange, inplOf, if_true, if_false, reduceIte, Nat.reduceEqDiff, Nat.reduceAdd, Nat.reduceLT, Nat.reduceLeDiff, reduceCtorEq, Nat.reduceMul, implies_true, fillA, placeSt, fillE, elemsOf, effAppend, effSlice, optInt, reCells, forall_eq_or_imp, forall_eq, isAl, retP, AV.norm, AV.normL, Nat.reducePow, W1, hv, ha, hR, hM, noneT, same_self, beq_self_eq_true]
      repeat' ((first
        | with_reducible refine goIf_b (fun h => ?_) (fun h => ?_)
        | with_reducible refine goIf_n (fun h => ?_) (fun h => ?_)
        | with_reducible refine goIf_d (fun h => ?_) (fun h => ?_)
        | with_reducible refine goIf_split (fun h => ?_) (fun h => ?_)
        | with_reducible refine goGb_b (fun h => ?_) (fun h => ?_)
        | with_reducible refine goGb_n (fun h => ?_) (fun h => ?_)
        | with_reducible refine goGb_d (fun h => ?_) (fun h => ?_)
        | with_reducible refine goGb_split (fun h => ?_) (fun h => ?_)
        | with_reducible refine goDGb_b (fun h => ?_) (fun h => ?_)
        | with_reducible refine goDGb_n (fun h => ?_) (fun h => ?_)
        | with_reducible refine goDGb_d (fun h => ?_) (fun h => ?_)
        | with_reducible refine goDGb_split (fun h => ?_) (fun h => ?_)
        | (refine goCall_norm ?_; simp only [AV.norm, AV.normL, W2, hv, ha, hR, hM, noneT, same_self, beq_self_eq_true]; first | refine goCall_p (heavy2_ok _ _) (.inl rfl) ?_ | refine goCall_p (ktype_ok _ h1) (.inl rfl) ?_ | refine goCall_p (ktype_ok _ h2) (.inl rfl) ?_ | refine goCall_p (rright_ok _) (.inl rfl) ?_ | refine goCall_p (pmeet_ok _ _) (.inl rfl) ?_ | refine goCall_p (pagree_ok _ _) (.inl rfl) ?_ | refine goCall_p (ksame_ok _ _) (.inl rfl) ?_ | refine goCall_p (wakes8_ok) (.inl rfl) ?_)
        | (refine goDCall_norm ?_; simp only [AV.norm, AV.normL, W2, hv, ha, hR, hM, noneT, same_self, beq_self_eq_true]; first | refine goDCall_p (heavy2_ok _ _) (.inl rfl) ?_ | refine goDCall_p (ktype_ok _ h1) (.inl rfl) ?_ | refine goDCall_p (ktype_ok _ h2) (.inl rfl) ?_ | refine goDCall_p (rright_ok _) (.inl rfl) ?_ | refine goDCall_p (pmeet_ok _ _) (.inl rfl) ?_ | refine goDCall_p (pagree_ok _ _) (.inl rfl) ?_ | refine goDCall_p (ksame_ok _ _) (.inl rfl) ?_ | refine goDCall_p (wakes8_ok) (.inl rfl) ?_)
        | refine go_draw (id := 3) C_ok mixed 2 Try.f10.ntmps rfl (by kernel_rfl) (by decide) ?_
        | refine go_draw (id := 10) C_ok mixed 0 Try.f10.ntmps rfl (by kernel_rfl) (by decide) ?_) <;> first | simp only [h, ↓upd_eq, ↓envL_cons, Go.Ab.W0, guardOf, eff, effBuiltin, abin, abinInt, cellsAt, shift, AState.ev, AState.put, AState.new, ofVal, ofVal1, setRange, inplOf, if_true, if_false, reduceIte, Nat.reduceEqDiff, Nat.reduceAdd, Nat.reduceLT, Nat.reduceLeDiff, reduceCtorEq, Nat.reduceMul, implies_true, fillA, placeSt, fillE, elemsOf, effAppend, effSlice, optInt, reCells, forall_eq_or_imp, forall_eq, isAl, retP, AV.norm, AV.normL, Nat.reducePow, W1, hv, ha, hR, hM, noneT, same_self, beq_self_eq_true] | simp only [↓upd_eq, ↓envL_cons, Go.Ab.W0, guardOf, eff, effBuiltin, abin, abinInt, cellsAt, shift, AState.ev, AState.put, AState.new, ofVal, ofVal1, setRange, inplOf, if_true, if_false, reduceIte, Nat.reduceEqDiff, Nat.reduceAdd, Nat.reduceLT, Nat.reduceLeDiff, reduceCtorEq, Nat.reduceMul, implies_true, fillA, placeSt, fillE, elemsOf, effAppend, effSlice, optInt, reCells, forall_eq_or_imp, forall_eq, isAl, retP, AV.norm, AV.normL, Nat.reducePow, W1, hv, ha, hR, hM, noneT, same_self, beq_self_eq_true] | skip)
      all_goals simp_all

theorem agreeBoth_ok (a b : Ty) : PCalls Try.prog 11 [emb a, emb b] (.bool true) := by
  by_cases hf : fine [a, b] = true
  · have ha := (fine_mem hf (t := a) (by simp)).1
    have hb := (fine_mem hf (t := b) (by simp)).1
    have hc := agree_comm ha hb
    have haa := agree_refl ha
    have hRa : agreeR a a = true := by simp [agreeR, ha, haa]
    have hMa : meetR a a = a := by simp [meetR, hRa, meet_idem ha]
    have hR : agreeR a b = agree a b := by simp [agreeR, ha, hb]
    have hR' : agreeR b a = agree a b := by simp [agreeR, ha, hb, ← hc]
    have hM : meetR b a = meetR a b := by
      unfold meetR; rw [hR, hR']
      by_cases hab : agree a b = true
      · simp [hab, meet_comm ha hb hab]
      · simp [hab]
    refine pcalls_text C_ok Try.func11 rfl (by decide) (Nat.le_of_ble_eq_true rfl) (by decide) rfl fun ok H => ?_
    rw [Try.results11]
    try simp only [↓upd_eq, ↓envL_cons, Go.Ab.W0, guardOf, eff, effBuiltin, abin, abinInt, cellsAt, shift, AState.ev, AState.put, AState.new, ofVal, ofVal1, setRange, inplOf, if_true, if_false, reduceIte, Nat.reduceEqDiff, Nat.reduceAdd, Nat.reduceLT, Nat.reduceLeDiff, reduceCtorEq, Nat.reduceMul, implies_true, fillA, placeSt, fillE, elemsOf, effAppend, effSlice, optInt, reCells, forall_eq_or_imp, forall_eq, isAl, retP, AV.norm, AV.normL, Nat.reducePow, W1, hf, ha, hb, ← hc, haa, hRa, hMa, hR, hR', hM, same_self, beq_self_eq_true, Bool.true_and]
    repeat' ((first
      | with_reducible refine goIf_b (fun h => ?_) (fun h => ?_)
      | with_reducible refine goIf_n (fun h => ?_) (fun h => ?_)
      | with_reducible refine goIf_d (fun h => ?_) (fun h => ?_)
      | with_reducible refine goIf_split (fun h => ?_) (fun h => ?_)
      | with_reducible refine goGb_b (fun h => ?_) (fun h => ?_)
      | with_reducible refine goGb_n (fun h => ?_) (fun h => ?_)
      | with_reducible refine goGb_d (fun h => ?_) (fun h => ?_)
      | with_reducible refine goGb_split (fun h => ?_) (fun h => ?_)
      | with_reducible refine goDGb_b (fun h => ?_) (fun h => ?_)
      | with_reducible refine goDGb_n (fun h => ?_) (fun h => ?_)
      | with_reducible refine goDGb_d (fun h => ?_) (fun h => ?_)
      | with_reducible refine goDGb_split (fun h => ?_) (fun h => ?_)
      | (refine goCall_norm ?_; simp only [AV.norm, AV.normL, W2, hf, ha, hb, ← hc, haa, hRa, hMa, hR, hR', hM, same_self, beq_self_eq_true, Bool.true_and]; first | refine goCall_p (fine2_ok _ _) (.inl rfl) ?_ | refine goCall_p (pmeet_ok _ _) (.inl rfl) ?_ | refine goCall_p (pagree_ok _ _) (.inl rfl) ?_ | refine goCall_p (ksame_ok _ _) (.inl rfl) ?_ | refine goCall_p (wakes8_ok) (.inl rfl) ?_)
      | (refine goDCall_norm ?_; simp only [AV.norm, AV.normL, W2, hf, ha, hb, ← hc, haa, hRa, hMa, hR, hR', hM, same_self, beq_self_eq_true, Bool.true_and]; first | refine goDCall_p (fine2_ok _ _) (.inl rfl) ?_ | refine goDCall_p (pmeet_ok _ _) (.inl rfl) ?_ | refine goDCall_p (pagree_ok _ _) (.inl rfl) ?_ | refine goDCall_p (ksame_ok _ _) (.inl rfl) ?_ | refine goDCall_p (wakes8_ok) (.inl rfl) ?_)
      | refine go_draw (id := 6) C_ok mixed 0 Try.f11.ntmps rfl (by kernel_rfl) (by decide) ?_) <;> first | simp only [h, ↓upd_eq, ↓envL_cons, Go.Ab.W0, guardOf, eff, effBuiltin, abin, abinInt, cellsAt, shift, AState.ev, AState.put, AState.new, ofVal, ofVal1, setRange, inplOf, if_true, if_false, reduceIte, Nat.reduceEqDiff, Nat.reduceAdd, Nat.reduceLT, Nat.reduceLeDiff, reduceCtorEq, Nat.reduceMul, implies_true, fillA, placeSt, fillE, elemsOf, effAppend, effSlice, optInt, reCells, forall_eq_or_imp, forall_eq, isAl, retP, AV.norm, AV.normL, Nat.reducePow, W1, hf, ha, hb, ← hc, haa, hRa, hMa, hR, hR', hM, same_self, beq_self_eq_true, Bool.true_and] | simp only [↓upd_eq, ↓envL_cons, Go.Ab.W0, guardOf, eff, effBuiltin, abin, abinInt, cellsAt, shift, AState.ev, AState.put, AState.new, ofVal, ofVal1, setRange, inplOf, if_true, if_false, reduceIte, Nat.reduceEqDiff, Nat.reduceAdd, Nat.reduceLT, Nat.reduceLeDiff, reduceCtorEq, Nat.reduceMul, implies_true, fillA, placeSt, fillE, elemsOf, effAppend, effSlice, optInt, reCells, forall_eq_or_imp, forall_eq, isAl, retP, AV.norm, AV.normL, Nat.reducePow, W1, hf, ha, hb, ← hc, haa, hRa, hMa, hR, hR', hM, same_self, beq_self_eq_true, Bool.true_and] | skip)
  · refine pcalls_text C_ok Try.func11 rfl (by decide) (Nat.le_of_ble_eq_true rfl) (by decide) rfl fun ok H => ?_
    rw [Try.results11]
    try simp only [↓upd_eq, ↓envL_cons, Go.Ab.W0, guardOf, eff, effBuiltin, abin, abinInt, cellsAt, shift, AState.ev, AState.put, AState.new, ofVal, ofVal1, setRange, inplOf, if_true, if_false, reduceIte, Nat.reduceEqDiff, Nat.reduceAdd, Nat.reduceLT, Nat.reduceLeDiff, reduceCtorEq, Nat.reduceMul, implies_true, fillA, placeSt, fillE, elemsOf, effAppend, effSlice, optInt, reCells, forall_eq_or_imp, forall_eq, isAl, retP, AV.norm, AV.normL, Nat.reducePow, W1, hf]
    repeat' ((first
      | with_reducible refine goIf_b (fun h => ?_) (fun h => ?_)
      | with_reducible refine goIf_n (fun h => ?_) (fun h => ?_)
      | with_reducible refine goIf_d (fun h => ?_) (fun h => ?_)
      | with_reducible refine goIf_split (fun h => ?_) (fun h => ?_)
      | with_reducible refine goGb_b (fun h => ?_) (fun h => ?_)
      | with_reducible refine goGb_n (fun h => ?_) (fun h => ?_)
      | with_reducible refine goGb_d (fun h => ?_) (fun h => ?_)
      | with_reducible refine goGb_split (fun h => ?_) (fun h => ?_)
      | with_reducible refine goDGb_b (fun h => ?_) (fun h => ?_)
      | with_reducible refine goDGb_n (fun h => ?_) (fun h => ?_)
      | with_reducible refine goDGb_d (fun h => ?_) (fun h => ?_)
      | with_reducible refine goDGb_split (fun h => ?_) (fun h => ?_)
      | (refine goCall_norm ?_; simp only [AV.norm, AV.normL, W2, hf]; first | refine goCall_p (fine2_ok _ _) (.inl rfl) ?_)
      | (refine goDCall_norm ?_; simp only [AV.norm, AV.normL, W2, hf]; first | refine goDCall_p (fine2_ok _ _) (.inl rfl) ?_)
      | refine go_draw (id := 6) C_ok mixed 0 Try.f11.ntmps rfl (by kernel_rfl) (by decide) ?_) <;> first | simp only [h, ↓upd_eq, ↓envL_cons, Go.Ab.W0, guardOf, eff, effBuiltin, abin, abinInt, cellsAt, shift, AState.ev, AState.put, AState.new, ofVal, ofVal1, setRange, inplOf, if_true, if_false, reduceIte, Nat.reduceEqDiff, Nat.reduceAdd, Nat.reduceLT, Nat.reduceLeDiff, reduceCtorEq, Nat.reduceMul, implies_true, fillA, placeSt, fillE, elemsOf, effAppend, effSlice, optInt, reCells, forall_eq_or_imp, forall_eq, isAl, retP, AV.norm, AV.normL, Nat.reducePow, W1, hf] | simp only [↓upd_eq, ↓envL_cons, Go.Ab.W0, guardOf, eff, effBuiltin, abin, abinInt, cellsAt, shift, AState.ev, AState.put, AState.new, ofVal, ofVal1, setRange, inplOf, if_true, if_false, reduceIte, Nat.reduceEqDiff, Nat.reduceAdd, Nat.reduceLT, Nat.reduceLeDiff, reduceCtorEq, Nat.reduceMul, implies_true, fillA, placeSt, fillE, elemsOf, effAppend, effSlice, optInt, reCells, forall_eq_or_imp, forall_eq, isAl, retP, AV.norm, AV.normL, Nat.reducePow, W1, hf] | skip)

theorem agreeMeet_ok (a b : Ty) : PCalls Try.prog 13 [emb a, emb b] (.bool true) := by
  by_cases hf : fine [a, b] = true
  · have ha := (fine_mem hf (t := a) (by simp)).1
    have hb := (fine_mem hf (t := b) (by simp)).1
    have na := (fine_mem hf (t := a) (by simp)).2
    have nb := (fine_mem hf (t := b) (by simp)).2
    by_cases hab : agree a b = true
    · have hR : agreeR a b = true := by simp [agreeR, ha, hb, hab]
      have hM : meetR a b = meet a b := by simp [meetR, hR]
      have hm := meet_right ha hb hab
      have e1 := agree_meet ha hb hab
      have e2 := agree_meet_r ha hb hab
      have hR1 : agreeR a (meet a b) = true := by simp [agreeR, ha, hm, e1.1]
      have hR2 : agreeR (meet a b) b = true := by simp [agreeR, hb, hm, e2.1]
      have hM1 : meetR a (meet a b) = meet a b := by simp [meetR, hR1, e1.2]
      have hM2 : meetR (meet a b) b = meet a b := by simp [meetR, hR2, e2.2]
      have s1 : without 5 a = true → without 5 (meet a b) = true := fun h => ((without_meet ha hb hab).2 h).1
      have s2 : without 5 b = true → without 5 (meet a b) = true := fun h => by rw [meet_comm ha hb hab]; exact ((without_meet hb ha (agree_symm ha hb hab)).2 h).1
      have n1 := meet_nodes ha hb hab
      have n2 := meet_nodes_r ha hb hab
      have n3 : nodes (meet a b) ≤ 1000000000 := by
        have := meet_size ha hb hab; omega
      refine pcalls_text C_ok Try.func13 rfl (by decide) (Nat.le_of_ble_eq_true rfl) (by decide) rfl fun ok H => ?_
      rw [Try.results13]
      try simp only [↓upd_eq, ↓envL_cons, Go.Ab.W0, guardOf, eff, effBuiltin, abin, abinInt, cellsAt, shift, AState.ev, AState.put, AState.new, ofVal, ofVal1, setRange, inplOf, if_true, if_false, reduceIte, Nat.reduceEqDiff, Nat.reduceAdd, Nat.reduceLT, Nat.reduceLeDiff, reduceCtorEq, Nat.reduceMul, implies_true, fillA, placeSt, fillE, elemsOf, effAppend, effSlice, optInt, reCells, forall_eq_or_imp, forall_eq, isAl, retP, AV.norm, AV.normL, Nat.reducePow, W1, hf, ha, hb, hab, hR, hM, hR1, hR2, hM1, hM2, same_self, beq_self_eq_true, Bool.true_and]
      repeat' ((first
        | with_reducible refine goIf_b (fun h => ?_) (fun h => ?_)
        | with_reducible refine goIf_n (fun h => ?_) (fun h => ?_)
        | with_reducible refine goIf_d (fun h => ?_) (fun h => ?_)
        | with_reducible refine goIf_split (fun h => ?_) (fun h => ?_)
        | with_reducible refine goGb_b (fun h => ?_) (fun h => ?_)
        | with_reducible refine goGb_n (fun h => ?_) (fun h => ?_)
        | with_reducible refine goGb_d (fun h => ?_) (fun h => ?_)
        | with_reducible refine goGb_split (fun h => ?_) (fun h => ?_)
        | with_reducible refine goDGb_b (fun h => ?_) (fun h => ?_)
        | with_reducible refine goDGb_n (fun h => ?_) (fun h => ?_)
        | with_reducible refine goDGb_d (fun h => ?_) (fun h => ?_)
        | with_reducible refine goDGb_split (fun h => ?_) (fun h => ?_)
        | (refine goCall_norm ?_; simp only [AV.norm, AV.normL, W2, hf, ha, hb, hab, hR, hM, hR1, hR2, hM1, hM2, same_self, beq_self_eq_true, Bool.true_and]; first | refine goCall_p (fine2_ok _ _) (.inl rfl) ?_ | refine goCall_p (pmeet_ok _ _) (.inl rfl) ?_ | refine goCall_p (pagree_ok _ _) (.inl rfl) ?_ | refine goCall_p (ksame_ok _ _) (.inl rfl) ?_ | refine goCall_p (rwithout_ok _ _) (.inl rfl) ?_ | refine goCall_p (rsize_ok _ n3) (.inl rfl) ?_ | refine goCall_p (rsize_ok _ (Nat.le_trans na (by decide))) (.inl rfl) ?_ | refine goCall_p (rsize_ok _ (Nat.le_trans nb (by decide))) (.inl rfl) ?_ | refine goCall_p (wakes8_ok) (.inl rfl) ?_)
        | (refine goDCall_norm ?_; simp only [AV.norm, AV.normL, W2, hf, ha, hb, hab, hR, hM, hR1, hR2, hM1, hM2, same_self, beq_self_eq_true, Bool.true_and]; first | refine goDCall_p (fine2_ok _ _) (.inl rfl) ?_ | refine goDCall_p (pmeet_ok _ _) (.inl rfl) ?_ | refine goDCall_p (pagree_ok _ _) (.inl rfl) ?_ | refine goDCall_p (ksame_ok _ _) (.inl rfl) ?_ | refine goDCall_p (rwithout_ok _ _) (.inl rfl) ?_ | refine goDCall_p (rsize_ok _ n3) (.inl rfl) ?_ | refine goDCall_p (rsize_ok _ (Nat.le_trans na (by decide))) (.inl rfl) ?_ | refine goDCall_p (rsize_ok _ (Nat.le_trans nb (by decide))) (.inl rfl) ?_ | refine goDCall_p (wakes8_ok) (.inl rfl) ?_)
        | refine go_draw (id := 9) C_ok mixed 0 Try.f13.ntmps rfl (by kernel_rfl) (by decide) ?_) <;> first | simp only [h, ↓upd_eq, ↓envL_cons, Go.Ab.W0, guardOf, eff, effBuiltin, abin, abinInt, cellsAt, shift, AState.ev, AState.put, AState.new, ofVal, ofVal1, setRange, inplOf, if_true, if_false, reduceIte, Nat.reduceEqDiff, Nat.reduceAdd, Nat.reduceLT, Nat.reduceLeDiff, reduceCtorEq, Nat.reduceMul, implies_true, fillA, placeSt, fillE, elemsOf, effAppend, effSlice, optInt, reCells, forall_eq_or_imp, forall_eq, isAl, retP, AV.norm, AV.normL, Nat.reducePow, W1, hf, ha, hb, hab, hR, hM, hR1, hR2, hM1, hM2, same_self, beq_self_eq_true, Bool.true_and] | simp only [↓upd_eq, ↓envL_cons, Go.Ab.W0, guardOf, eff, effBuiltin, abin, abinInt, cellsAt, shift, AState.ev, AState.put, AState.new, ofVal, ofVal1, setRange, inplOf, if_true, if_false, reduceIte, Nat.reduceEqDiff, Nat.reduceAdd, Nat.reduceLT, Nat.reduceLeDiff, reduceCtorEq, Nat.reduceMul, implies_true, fillA, placeSt, fillE, elemsOf, effAppend, effSlice, optInt, reCells, forall_eq_or_imp, forall_eq, isAl, retP, AV.norm, AV.normL, Nat.reducePow, W1, hf, ha, hb, hab, hR, hM, hR1, hR2, hM1, hM2, same_self, beq_self_eq_true, Bool.true_and] | skip)
      all_goals (simp_all <;> (exfalso; split at h <;> omega))
    · have hR : agreeR a b = false := by simp [agreeR, ha, hb, hab]
      refine pcalls_text C_ok Try.func13 rfl (by decide) (Nat.le_of_ble_eq_true rfl) (by decide) rfl fun ok H => ?_
      rw [Try.results13]
      try simp only [↓upd_eq, ↓envL_cons, Go.Ab.W0, guardOf, eff, effBuiltin, abin, abinInt, cellsAt, shift, AState.ev, AState.put, AState.new, ofVal, ofVal1, setRange, inplOf, if_true, if_false, reduceIte, Nat.reduceEqDiff, Nat.reduceAdd, Nat.reduceLT, Nat.reduceLeDiff, reduceCtorEq, Nat.reduceMul, implies_true, fillA, placeSt, fillE, elemsOf, effAppend, effSlice, optInt, reCells, forall_eq_or_imp, forall_eq, isAl, retP, AV.norm, AV.normL, Nat.reducePow, W1, hf, ha, hb, hab, hR, Bool.true_and]
      repeat' ((first
        | with_reducible refine goIf_b (fun h => ?_) (fun h => ?_)
        | with_reducible refine goIf_n (fun h => ?_) (fun h => ?_)
        | with_reducible refine goIf_d (fun h => ?_) (fun h => ?_)
        | with_reducible refine goIf_split (fun h => ?_) (fun h => ?_)
        | with_reducible refine goGb_b (fun h => ?_) (fun h => ?_)
        | with_reducible refine goGb_n (fun h => ?_) (fun h => ?_)
        | with_reducible refine goGb_d (fun h => ?_) (fun h => ?_)
        | with_reducible refine goGb_split (fun h => ?_) (fun h => ?_)
        | with_reducible refine goDGb_b (fun h => ?_) (fun h => ?_)
        | with_reducible refine goDGb_n (fun h => ?_) (fun h => ?_)
        | with_reducible refine goDGb_d (fun h => ?_) (fun h => ?_)
        | with_reducible refine goDGb_split (fun h => ?_) (fun h => ?_)
        | (refine goCall_norm ?_; simp only [AV.norm, AV.normL, W2, hf, ha, hb, hab, hR, Bool.true_and]; first | refine goCall_p (fine2_ok _ _) (.inl rfl) ?_ | refine goCall_p (pmeet_ok _ _) (.inl rfl) ?_ | refine goCall_p (pagree_ok _ _) (.inl rfl) ?_ | refine goCall_p (wakes8_ok) (.inl rfl) ?_)
        | (refine goDCall_norm ?_; simp only [AV.norm, AV.normL, W2, hf, ha, hb, hab, hR, Bool.true_and]; first | refine goDCall_p (fine2_ok _ _) (.inl rfl) ?_ | refine goDCall_p (pmeet_ok _ _) (.inl rfl) ?_ | refine goDCall_p (pagree_ok _ _) (.inl rfl) ?_ | refine goDCall_p (wakes8_ok) (.inl rfl) ?_)
        | refine go_draw (id := 9) C_ok mixed 0 Try.f13.ntmps rfl (by kernel_rfl) (by decide) ?_) <;> first | simp only [h, ↓upd_eq, ↓envL_cons, Go.Ab.W0, guardOf, eff, effBuiltin, abin, abinInt, cellsAt, shift, AState.ev, AState.put, AState.new, ofVal, ofVal1, setRange, inplOf, if_true, if_false, reduceIte, Nat.reduceEqDiff, Nat.reduceAdd, Nat.reduceLT, Nat.reduceLeDiff, reduceCtorEq, Nat.reduceMul, implies_true, fillA, placeSt, fillE, elemsOf, effAppend, effSlice, optInt, reCells, forall_eq_or_imp, forall_eq, isAl, retP, AV.norm, AV.normL, Nat.reducePow, W1, hf, ha, hb, hab, hR, Bool.true_and] | simp only [↓upd_eq, ↓envL_cons, Go.Ab.W0, guardOf, eff, effBuiltin, abin, abinInt, cellsAt, shift, AState.ev, AState.put, AState.new, ofVal, ofVal1, setRange, inplOf, if_true, if_false, reduceIte, Nat.reduceEqDiff, Nat.reduceAdd, Nat.reduceLT, Nat.reduceLeDiff, reduceCtorEq, Nat.reduceMul, implies_true, fillA, placeSt, fillE, elemsOf, effAppend, effSlice, optInt, reCells, forall_eq_or_imp, forall_eq, isAl, retP, AV.norm, AV.normL, Nat.reducePow, W1, hf, ha, hb, hab, hR, Bool.true_and] | skip)
  · refine pcalls_text C_ok Try.func13 rfl (by decide) (Nat.le_of_ble_eq_true rfl) (by decide) rfl fun ok H => ?_
    rw [Try.results13]
    try simp only [↓upd_eq, ↓envL_cons, Go.Ab.W0, guardOf, eff, effBuiltin, abin, abinInt, cellsAt, shift, AState.ev, AState.put, AState.new, ofVal, ofVal1, setRange, inplOf, if_true, if_false, reduceIte, Nat.reduceEqDiff, Nat.reduceAdd, Nat.reduceLT, Nat.reduceLeDiff, reduceCtorEq, Nat.reduceMul, implies_true, fillA, placeSt, fillE, elemsOf, effAppend, effSlice, optInt, reCells, forall_eq_or_imp, forall_eq, isAl, retP, AV.norm, AV.normL, Nat.reducePow, W1, hf]
    repeat' ((first
      | with_reducible refine goIf_b (fun h => ?_) (fun h => ?_)
      | with_reducible refine goIf_n (fun h => ?_) (fun h => ?_)
      | with_reducible refine goIf_d (fun h => ?_) (fun h => ?_)
      | with_reducible refine goIf_split (fun h => ?_) (fun h => ?_)
      | with_reducible refine goGb_b (fun h => ?_) (fun h => ?_)
      | with_reducible refine goGb_n (fun h => ?_) (fun h => ?_)
      | with_reducible refine goGb_d (fun h => ?_) (fun h => ?_)
      | with_reducible refine goGb_split (fun h => ?_) (fun h => ?_)
      | with_reducible refine goDGb_b (fun h => ?_) (fun h => ?_)
      | with_reducible refine goDGb_n (fun h => ?_) (fun h => ?_)
      | with_reducible refine goDGb_d (fun h => ?_) (fun h => ?_)
      | with_reducible refine goDGb_split (fun h => ?_) (fun h => ?_)
      | (refine goCall_norm ?_; simp only [AV.norm, AV.normL, W2, hf]; first | refine goCall_p (fine2_ok _ _) (.inl rfl) ?_)
      | (refine goDCall_norm ?_; simp only [AV.norm, AV.normL, W2, hf]; first | refine goDCall_p (fine2_ok _ _) (.inl rfl) ?_)
      | refine go_draw (id := 9) C_ok mixed 0 Try.f13.ntmps rfl (by kernel_rfl) (by decide) ?_) <;> first | simp only [h, ↓upd_eq, ↓envL_cons, Go.Ab.W0, guardOf, eff, effBuiltin, abin, abinInt, cellsAt, shift, AState.ev, AState.put, AState.new, ofVal, ofVal1, setRange, inplOf, if_true, if_false, reduceIte, Nat.reduceEqDiff, Nat.reduceAdd, Nat.reduceLT, Nat.reduceLeDiff, reduceCtorEq, Nat.reduceMul, implies_true, fillA, placeSt, fillE, elemsOf, effAppend, effSlice, optInt, reCells, forall_eq_or_imp, forall_eq, isAl, retP, AV.norm, AV.normL, Nat.reducePow, W1, hf] | simp only [↓upd_eq, ↓envL_cons, Go.Ab.W0, guardOf, eff, effBuiltin, abin, abinInt, cellsAt, shift, AState.ev, AState.put, AState.new, ofVal, ofVal1, setRange, inplOf, if_true, if_false, reduceIte, Nat.reduceEqDiff, Nat.reduceAdd, Nat.reduceLT, Nat.reduceLeDiff, reduceCtorEq, Nat.reduceMul, implies_true, fillA, placeSt, fillE, elemsOf, effAppend, effSlice, optInt, reCells, forall_eq_or_imp, forall_eq, isAl, retP, AV.norm, AV.normL, Nat.reducePow, W1, hf] | skip)

theorem agreeNotOn_ok (a b : Ty) : PCalls Try.prog 14 [emb a, emb b] (.bool true) := by
  by_cases hf : fine [a, b] = true
  · have ha := (fine_mem hf (t := a) (by simp)).1
    have hb := (fine_mem hf (t := b) (by simp)).1
    have d1 := agree_dyn_r ha
    have d2 := @agree_dyn_l a
    have hR : agreeR a dynT = without 6 a := by simp [agreeR, ha, right_dyn, d1]
    have hM : without 6 a = true → meetR a dynT = a := fun h => by
      rw [meetR, hR, if_pos h]
      by_cases h5 : a.kind = 5
      · rw [meet_dyn_l h5, dyn_eq ha h5]
      · exact meet_dyn_r h5 rfl
    have st : without 5 a = true → without 5 b = true → agree a b = same a b := fun h1 h2 => by
      rw [Bool.eq_iff_iff, same_true]; exact agree_static ha hb h1 h2
    refine pcalls_text C_ok Try.func14 rfl (by decide) (Nat.le_of_ble_eq_true rfl) (by decide) rfl fun ok H => ?_
    rw [Try.results14]
    try simp only [↓upd_eq, ↓envL_cons, Go.Ab.W0, guardOf, eff, effBuiltin, abin, abinInt, cellsAt, shift, AState.ev, AState.put, AState.new, ofVal, ofVal1, setRange, inplOf, if_true, if_false, reduceIte, Nat.reduceEqDiff, Nat.reduceAdd, Nat.reduceLT, Nat.reduceLeDiff, reduceCtorEq, Nat.reduceMul, implies_true, fillA, placeSt, fillE, elemsOf, effAppend, effSlice, optInt, reCells, forall_eq_or_imp, forall_eq, isAl, retP, AV.norm, AV.normL, Nat.reducePow, W1, hf, ha, hb, d1, d2, hR, dyn_leaf, right_dyn, same_self, beq_self_eq_true, Bool.true_and]
    repeat' ((first
      | with_reducible refine goIf_b (fun h => ?_) (fun h => ?_)
      | with_reducible refine goIf_n (fun h => ?_) (fun h => ?_)
      | with_reducible refine goIf_d (fun h => ?_) (fun h => ?_)
      | with_reducible refine goIf_split (fun h => ?_) (fun h => ?_)
      | with_reducible refine goGb_b (fun h => ?_) (fun h => ?_)
      | with_reducible refine goGb_n (fun h => ?_) (fun h => ?_)
      | with_reducible refine goGb_d (fun h => ?_) (fun h => ?_)
      | with_reducible refine goGb_split (fun h => ?_) (fun h => ?_)
      | with_reducible refine goDGb_b (fun h => ?_) (fun h => ?_)
      | with_reducible refine goDGb_n (fun h => ?_) (fun h => ?_)
      | with_reducible refine goDGb_d (fun h => ?_) (fun h => ?_)
      | with_reducible refine goDGb_split (fun h => ?_) (fun h => ?_)
      | (refine goCall_norm ?_; simp only [AV.norm, AV.normL, W2, hf, ha, hb, d1, d2, hR, dyn_leaf, right_dyn, same_self, beq_self_eq_true, Bool.true_and]; first | refine goCall_p (fine2_ok _ _) (.inl rfl) ?_ | refine goCall_p (leaf_ok _) (.inl rfl) ?_ | refine goCall_p (pmeet_ok _ _) (.inl rfl) ?_ | refine goCall_p (pagree_ok _ _) (.inl rfl) ?_ | refine goCall_p (ksame_ok _ _) (.inl rfl) ?_ | refine goCall_p (rwithout_ok _ _) (.inl rfl) ?_ | refine goCall_p (wakes8_ok) (.inl rfl) ?_)
      | (refine goDCall_norm ?_; simp only [AV.norm, AV.normL, W2, hf, ha, hb, d1, d2, hR, dyn_leaf, right_dyn, same_self, beq_self_eq_true, Bool.true_and]; first | refine goDCall_p (fine2_ok _ _) (.inl rfl) ?_ | refine goDCall_p (leaf_ok _) (.inl rfl) ?_ | refine goDCall_p (pmeet_ok _ _) (.inl rfl) ?_ | refine goDCall_p (pagree_ok _ _) (.inl rfl) ?_ | refine goDCall_p (ksame_ok _ _) (.inl rfl) ?_ | refine goDCall_p (rwithout_ok _ _) (.inl rfl) ?_ | refine goDCall_p (wakes8_ok) (.inl rfl) ?_)
      | refine go_draw (id := 9) C_ok mixed 0 Try.f14.ntmps rfl (by kernel_rfl) (by decide) ?_) <;> first | simp only [h, ↓upd_eq, ↓envL_cons, Go.Ab.W0, guardOf, eff, effBuiltin, abin, abinInt, cellsAt, shift, AState.ev, AState.put, AState.new, ofVal, ofVal1, setRange, inplOf, if_true, if_false, reduceIte, Nat.reduceEqDiff, Nat.reduceAdd, Nat.reduceLT, Nat.reduceLeDiff, reduceCtorEq, Nat.reduceMul, implies_true, fillA, placeSt, fillE, elemsOf, effAppend, effSlice, optInt, reCells, forall_eq_or_imp, forall_eq, isAl, retP, AV.norm, AV.normL, Nat.reducePow, W1, hf, ha, hb, d1, d2, hR, dyn_leaf, right_dyn, same_self, beq_self_eq_true, Bool.true_and] | simp only [↓upd_eq, ↓envL_cons, Go.Ab.W0, guardOf, eff, effBuiltin, abin, abinInt, cellsAt, shift, AState.ev, AState.put, AState.new, ofVal, ofVal1, setRange, inplOf, if_true, if_false, reduceIte, Nat.reduceEqDiff, Nat.reduceAdd, Nat.reduceLT, Nat.reduceLeDiff, reduceCtorEq, Nat.reduceMul, implies_true, fillA, placeSt, fillE, elemsOf, effAppend, effSlice, optInt, reCells, forall_eq_or_imp, forall_eq, isAl, retP, AV.norm, AV.normL, Nat.reducePow, W1, hf, ha, hb, d1, d2, hR, dyn_leaf, right_dyn, same_self, beq_self_eq_true, Bool.true_and] | skip)
    all_goals simp_all [same_self]
  · refine pcalls_text C_ok Try.func14 rfl (by decide) (Nat.le_of_ble_eq_true rfl) (by decide) rfl fun ok H => ?_
    rw [Try.results14]
    try simp only [↓upd_eq, ↓envL_cons, Go.Ab.W0, guardOf, eff, effBuiltin, abin, abinInt, cellsAt, shift, AState.ev, AState.put, AState.new, ofVal, ofVal1, setRange, inplOf, if_true, if_false, reduceIte, Nat.reduceEqDiff, Nat.reduceAdd, Nat.reduceLT, Nat.reduceLeDiff, reduceCtorEq, Nat.reduceMul, implies_true, fillA, placeSt, fillE, elemsOf, effAppend, effSlice, optInt, reCells, forall_eq_or_imp, forall_eq, isAl, retP, AV.norm, AV.normL, Nat.reducePow, W1, hf]
    repeat' ((first
      | with_reducible refine goIf_b (fun h => ?_) (fun h => ?_)
      | with_reducible refine goIf_n (fun h => ?_) (fun h => ?_)
      | with_reducible refine goIf_d (fun h => ?_) (fun h => ?_)
      | with_reducible refine goIf_split (fun h => ?_) (fun h => ?_)
      | with_reducible refine goGb_b (fun h => ?_) (fun h => ?_)
      | with_reducible refine goGb_n (fun h => ?_) (fun h => ?_)
      | with_reducible refine goGb_d (fun h => ?_) (fun h => ?_)
      | with_reducible refine goGb_split (fun h => ?_) (fun h => ?_)
      | with_reducible refine goDGb_b (fun h => ?_) (fun h => ?_)
      | with_reducible refine goDGb_n (fun h => ?_) (fun h => ?_)
      | with_reducible refine goDGb_d (fun h => ?_) (fun h => ?_)
      | with_reducible refine goDGb_split (fun h => ?_) (fun h => ?_)
      | (refine goCall_norm ?_; simp only [AV.norm, AV.normL, W2, hf]; first | refine goCall_p (fine2_ok _ _) (.inl rfl) ?_)
      | (refine goDCall_norm ?_; simp only [AV.norm, AV.normL, W2, hf]; first | refine goDCall_p (fine2_ok _ _) (.inl rfl) ?_)
      | refine go_draw (id := 9) C_ok mixed 0 Try.f14.ntmps rfl (by kernel_rfl) (by decide) ?_) <;> first | simp only [h, ↓upd_eq, ↓envL_cons, Go.Ab.W0, guardOf, eff, effBuiltin, abin, abinInt, cellsAt, shift, AState.ev, AState.put, AState.new, ofVal, ofVal1, setRange, inplOf, if_true, if_false, reduceIte, Nat.reduceEqDiff, Nat.reduceAdd, Nat.reduceLT, Nat.reduceLeDiff, reduceCtorEq, Nat.reduceMul, implies_true, fillA, placeSt, fillE, elemsOf, effAppend, effSlice, optInt, reCells, forall_eq_or_imp, forall_eq, isAl, retP, AV.norm, AV.normL, Nat.reducePow, W1, hf] | simp only [↓upd_eq, ↓envL_cons, Go.Ab.W0, guardOf, eff, effBuiltin, abin, abinInt, cellsAt, shift, AState.ev, AState.put, AState.new, ofVal, ofVal1, setRange, inplOf, if_true, if_false, reduceIte, Nat.reduceEqDiff, Nat.reduceAdd, Nat.reduceLT, Nat.reduceLeDiff, reduceCtorEq, Nat.reduceMul, implies_true, fillA, placeSt, fillE, elemsOf, effAppend, effSlice, optInt, reCells, forall_eq_or_imp, forall_eq, isAl, retP, AV.norm, AV.normL, Nat.reducePow, W1, hf] | skip)

end Go.Proofs.Ytcpfjabjonpdaaa
