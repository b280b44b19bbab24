/- The laws TypExact, TypSame answer true, whatever the input. No condition. -/
import Derived.Test.YtcpfjabjonpdaaaM9
import Derived.Test.YtcpfjabjonpdaaaF3
import Derived.Test.YtcpfjabjonpdaaaF8
set_option linter.unusedSimpArgs false
set_option linter.unusedVariables false
set_option maxHeartbeats 4000000
set_option maxRecDepth 100000
namespace Go.Proofs.Ytcpfjabjonpdaaa
open Go Go.Ab
attribute [local irreducible] PCalls ACalls CallK GoCall GoDCall GoIf GoGb GoDGb GoO GoD GoX GoDX GoG GoDG GoGv GoDGv Go ALoop

theorem wakes3_ok : PCalls Try.prog 65 [] (.bool true) := by
  have e1 : right (.mk 9 0 [.mk 6 3 [], .mk 8 0 [.mk 5 0 []]]) = true := by decide
  have e2 : right (.mk 8 0 []) = false := by decide
  have e3 : nodes (.mk 9 0 [.mk 6 3 [], .mk 8 0 [.mk 5 0 []]]) = 4 := by decide
  have e4 : depth (.mk 9 0 [.mk 6 3 [], .mk 8 0 [.mk 5 0 []]]) = 3 := by decide
  have e5 : without 5 (.mk 9 0 [.mk 6 3 [], .mk 8 0 [.mk 5 0 []]]) = false := by decide
  have e6 : without 6 (.mk 9 0 [.mk 6 3 [], .mk 8 0 [.mk 5 0 []]]) = false := by decide
  have e7 : varsT (.mk 9 0 [.mk 6 3 [], .mk 8 0 [.mk 5 0 []]]) = [3] := by decide
  have n1 : nodes (.mk 9 0 [.mk 6 3 [], .mk 8 0 [.mk 5 0 []]]) ≤ 1000000000 := by rw [e3]; decide
  have n2 : nodes (.mk 9 0 [.mk 6 3 [], .mk 8 0 [.mk 5 0 []]]) ≤ 1048576 := by rw [e3]; decide
  refine pcalls_text C_ok Try.func65 rfl (by decide) (Nat.le_of_ble_eq_true rfl) (by decide) rfl fun ok H => ?_
  rw [Try.results65]
  try simp only [↓upd_eq, ↓envL_cons, Go.Ab.W0, guardOf, eff, effBuiltin, abin, abinInt, cellsAt, shift, AState.ev, AState.put, AState.new, ofVal, ofVal1, setRange, inplOf, if_true, if_false, reduceIte, Nat.reduceEqDiff, Nat.reduceAdd, Nat.reduceLT, Nat.reduceLeDiff, reduceCtorEq, Nat.reduceMul, implies_true, fillA, placeSt, fillE, elemsOf, effAppend, effSlice, optInt, reCells, forall_eq_or_imp, forall_eq, isAl, retP, AV.norm, AV.normL, Nat.reducePow, W1, e1, e2, e3, e4, e5, e6, e7, same_refl, List.map_cons, List.map_nil, i64_eq, Int.cast_ofNat_Int]
  repeat' ((first
    | with_reducible refine goIf_b (fun h => ?_) (fun h => ?_)
    | with_reducible refine goIf_n (fun h => ?_) (fun h => ?_)
    | with_reducible refine goIf_d (fun h => ?_) (fun h => ?_)
    | with_reducible refine goIf_split (fun h => ?_) (fun h => ?_)
    | with_reducible refine goGb_b (fun h => ?_) (fun h => ?_)
    | with_reducible refine goGb_n (fun h => ?_) (fun h => ?_)
    | with_reducible refine goGb_d (fun h => ?_) (fun h => ?_)
    | with_reducible refine goGb_split (fun h => ?_) (fun h => ?_)
    | with_reducible refine goDGb_b (fun h => ?_) (fun h => ?_)
    | with_reducible refine goDGb_n (fun h => ?_) (fun h => ?_)
    | with_reducible refine goDGb_d (fun h => ?_) (fun h => ?_)
    | with_reducible refine goDGb_split (fun h => ?_) (fun h => ?_)
    | (refine goCall_norm ?_; simp only [AV.norm, AV.normL, W2, e1, e2, e3, e4, e5, e6, e7, same_refl, List.map_cons, List.map_nil, i64_eq, Int.cast_ofNat_Int]; first | refine goCall_p (check_ok _) (.inl rfl) ?_ | refine goCall_p (size_ok _ n1) (.inl rfl) ?_ | refine goCall_p (depth_ok _ n1) (.inl rfl) ?_ | refine goCall_p (static_ok _) (.inl rfl) ?_ | refine goCall_p (closed_ok _) (.inl rfl) ?_ | refine goCall_p (kVars_ok _ n2) (.inl rfl) ?_ | refine goCall_p (ints_ok [3] [3]) (.inl rfl) ?_ | refine goCall_p (same_ok _ _) (.inl rfl) ?_)
    | (refine goDCall_norm ?_; simp only [AV.norm, AV.normL, W2, e1, e2, e3, e4, e5, e6, e7, same_refl, List.map_cons, List.map_nil, i64_eq, Int.cast_ofNat_Int]; first | refine goDCall_p (check_ok _) (.inl rfl) ?_ | refine goDCall_p (size_ok _ n1) (.inl rfl) ?_ | refine goDCall_p (depth_ok _ n1) (.inl rfl) ?_ | refine goDCall_p (static_ok _) (.inl rfl) ?_ | refine goDCall_p (closed_ok _) (.inl rfl) ?_ | refine goDCall_p (kVars_ok _ n2) (.inl rfl) ?_ | refine goDCall_p (ints_ok [3] [3]) (.inl rfl) ?_ | refine goDCall_p (same_ok _ _) (.inl rfl) ?_)) <;> first | simp only [h, ↓upd_eq, ↓envL_cons, Go.Ab.W0, guardOf, eff, effBuiltin, abin, abinInt, cellsAt, shift, AState.ev, AState.put, AState.new, ofVal, ofVal1, setRange, inplOf, if_true, if_false, reduceIte, Nat.reduceEqDiff, Nat.reduceAdd, Nat.reduceLT, Nat.reduceLeDiff, reduceCtorEq, Nat.reduceMul, implies_true, fillA, placeSt, fillE, elemsOf, effAppend, effSlice, optInt, reCells, forall_eq_or_imp, forall_eq, isAl, retP, AV.norm, AV.normL, Nat.reducePow, W1, e1, e2, e3, e4, e5, e6, e7, same_refl, List.map_cons, List.map_nil, i64_eq, Int.cast_ofNat_Int] | simp only [↓upd_eq, ↓envL_cons, Go.Ab.W0, guardOf, eff, effBuiltin, abin, abinInt, cellsAt, shift, AState.ev, AState.put, AState.new, ofVal, ofVal1, setRange, inplOf, if_true, if_false, reduceIte, Nat.reduceEqDiff, Nat.reduceAdd, Nat.reduceLT, Nat.reduceLeDiff, reduceCtorEq, Nat.reduceMul, implies_true, fillA, placeSt, fillE, elemsOf, effAppend, effSlice, optInt, reCells, forall_eq_or_imp, forall_eq, isAl, retP, AV.norm, AV.normL, Nat.reducePow, W1, e1, e2, e3, e4, e5, e6, e7, same_refl, List.map_cons, List.map_nil, i64_eq, Int.cast_ofNat_Int] | skip)
  all_goals simp_all

theorem typExact_ok (a b : Ty) : PCalls Try.prog 16 [emb a, emb b] (.bool true) := by
  by_cases hv : heavy [a, b] = true
  · refine pcalls_text C_ok Try.func16 rfl (by decide) (Nat.le_of_ble_eq_true rfl) (by decide) rfl fun ok H => ?_
    rw [Try.results16]
    try simp only [↓upd_eq, ↓envL_cons, Go.Ab.W0, guardOf, eff, effBuiltin, abin, abinInt, cellsAt, shift, AState.ev, AState.put, AState.new, ofVal, ofVal1, setRange, inplOf, if_true, if_false, reduceIte, Nat.reduceEqDiff, Nat.reduceAdd, Nat.reduceLT, Nat.reduceLeDiff, reduceCtorEq, Nat.reduceMul, implies_true, fillA, placeSt, fillE, elemsOf, effAppend, effSlice, optInt, reCells, forall_eq_or_imp, forall_eq, isAl, retP, AV.norm, AV.normL, Nat.reducePow, W1, hv]
    repeat' ((first
      | with_reducible refine goIf_b (fun h => ?_) (fun h => ?_)
      | with_reducible refine goIf_n (fun h => ?_) (fun h => ?_)
      | with_reducible refine goIf_d (fun h => ?_) (fun h => ?_)
      | with_reducible refine goIf_split (fun h => ?_) (fun h => ?_)
      | with_reducible refine goGb_b (fun h => ?_) (fun h => ?_)
      | with_reducible refine goGb_n (fun h => ?_) (fun h => ?_)
      | with_reducible refine goGb_d (fun h => ?_) (fun h => ?_)
      | with_reducible refine goGb_split (fun h => ?_) (fun h => ?_)
      | with_reducible refine goDGb_b (fun h => ?_) (fun h => ?_)
      | with_reducible refine goDGb_n (fun h => ?_) (fun h => ?_)
      | with_reducible refine goDGb_d (fun h => ?_) (fun h => ?_)
      | with_reducible refine goDGb_split (fun h => ?_) (fun h => ?_)
      | (refine goCall_norm ?_; simp only [AV.norm, AV.normL, W2, hv]; first | refine goCall_p (heavy2_ok _ _) (.inl rfl) ?_)
      | (refine goDCall_norm ?_; simp only [AV.norm, AV.normL, W2, hv]; first | refine goDCall_p (heavy2_ok _ _) (.inl rfl) ?_)
      | refine go_draw (id := 7) C_ok mixed 0 Try.f16.ntmps rfl (by kernel_rfl) (by decide) ?_) <;> first | simp only [h, ↓upd_eq, ↓envL_cons, Go.Ab.W0, guardOf, eff, effBuiltin, abin, abinInt, cellsAt, shift, AState.ev, AState.put, AState.new, ofVal, ofVal1, setRange, inplOf, if_true, if_false, reduceIte, Nat.reduceEqDiff, Nat.reduceAdd, Nat.reduceLT, Nat.reduceLeDiff, reduceCtorEq, Nat.reduceMul, implies_true, fillA, placeSt, fillE, elemsOf, effAppend, effSlice, optInt, reCells, forall_eq_or_imp, forall_eq, isAl, retP, AV.norm, AV.normL, Nat.reducePow, W1, hv] | simp only [↓upd_eq, ↓envL_cons, Go.Ab.W0, guardOf, eff, effBuiltin, abin, abinInt, cellsAt, shift, AState.ev, AState.put, AState.new, ofVal, ofVal1, setRange, inplOf, if_true, if_false, reduceIte, Nat.reduceEqDiff, Nat.reduceAdd, Nat.reduceLT, Nat.reduceLeDiff, reduceCtorEq, Nat.reduceMul, implies_true, fillA, placeSt, fillE, elemsOf, effAppend, effSlice, optInt, reCells, forall_eq_or_imp, forall_eq, isAl, retP, AV.norm, AV.normL, Nat.reducePow, W1, hv] | skip)
  · have h1 : nodes a ≤ 1048576 := Nat.le_trans (heavy_nodes hv (by simp)) (by decide)
    have h2 : nodes a ≤ 1000000000 := Nat.le_trans (heavy_nodes hv (by simp)) (by decide)
    by_cases ra : right a = true
    all_goals
      refine pcalls_text C_ok Try.func16 rfl (by decide) (Nat.le_of_ble_eq_true rfl) (by decide) rfl fun ok H => ?_
      rw [Try.results16]
      try simp only [↓upd_eq, ↓envL_cons, Go.Ab.W0, guardOf, eff, effBuiltin, abin, abinInt, cellsAt, shift, AState.ev, AState.put, AState.new, ofVal, ofVal1, setRange, inplOf, if_true, if_false, reduceIte, Nat.reduceEqDiff, Nat.reduceAdd, Nat.reduceLT, Nat.reduceLeDiff, reduceCtorEq, Nat.reduceMul, implies_true, fillA, placeSt, fillE, elemsOf, effAppend, effSlice, optInt, reCells, forall_eq_or_imp, forall_eq, isAl, retP, AV.norm, AV.normL, Nat.reducePow, W1, hv, ra, same_refl, beq_self_eq_true, eq_self, ints_norm]
      repeat' ((first
        | with_reducible refine goIf_b (fun h => ?_) (fun h => ?_)
        | with_reducible refine goIf_n (fun h => ?_) (fun h => ?_)
        | with_reducible refine goIf_d (fun h => ?_) (fun h => ?_)
        | with_reducible refine goIf_split (fun h => ?_) (fun h => ?_)
        | with_reducible refine goGb_b (fun h => ?_) (fun h => ?_)
        | with_reducible refine goGb_n (fun h => ?_) (fun h => ?_)
        | with_reducible refine goGb_d (fun h => ?_) (fun h => ?_)
        | with_reducible refine goGb_split (fun h => ?_) (fun h => ?_)
        | with_reducible refine goDGb_b (fun h => ?_) (fun h => ?_)
        | with_reducible refine goDGb_n (fun h => ?_) (fun h => ?_)
        | with_reducible refine goDGb_d (fun h => ?_) (fun h => ?_)
        | with_reducible refine goDGb_split (fun h => ?_) (fun h => ?_)
        | (refine goCall_norm ?_; simp only [AV.norm, AV.normL, W2, hv, ra, same_refl, beq_self_eq_true, eq_self, ints_norm]; first | refine goCall_p (heavy2_ok _ _) (.inl rfl) ?_ | refine goCall_p (ktype_ok _ h1) (.inl rfl) ?_ | refine goCall_p (rright_ok _) (.inl rfl) ?_ | refine goCall_p (check_ok _) (.inl rfl) ?_ | refine goCall_p (size_ok _ h2) (.inl rfl) ?_ | refine goCall_p (rsize_ok _ h2) (.inl rfl) ?_ | refine goCall_p (depth_ok _ h2) (.inl rfl) ?_ | refine goCall_p (rdepth_ok _ h2) (.inl rfl) ?_ | refine goCall_p (static_ok _) (.inl rfl) ?_ | refine goCall_p (closed_ok _) (.inl rfl) ?_ | refine goCall_p (rwithout_ok _ _) (.inl rfl) ?_ | refine goCall_p (kVars_ok _ h1) (.inl rfl) ?_ | refine goCall_p (rVars_ok _ h1) (.inl rfl) ?_ | refine goCall_p (ints_ok _ _) (.inl rfl) ?_ | refine goCall_p (same_ok _ _) (.inl rfl) ?_ | refine goCall_p (rsame_ok _ _) (.inl rfl) ?_ | refine goCall_p (ksame_ok _ _) (.inl rfl) ?_ | refine goCall_p (wakes3_ok) (.inl rfl) ?_)
        | (refine goDCall_norm ?_; simp only [AV.norm, AV.normL, W2, hv, ra, same_refl, beq_self_eq_true, eq_self, ints_norm]; first | refine goDCall_p (heavy2_ok _ _) (.inl rfl) ?_ | refine goDCall_p (ktype_ok _ h1) (.inl rfl) ?_ | refine goDCall_p (rright_ok _) (.inl rfl) ?_ | refine goDCall_p (check_ok _) (.inl rfl) ?_ | refine goDCall_p (size_ok _ h2) (.inl rfl) ?_ | refine goDCall_p (rsize_ok _ h2) (.inl rfl) ?_ | refine goDCall_p (depth_ok _ h2) (.inl rfl) ?_ | refine goDCall_p (rdepth_ok _ h2) (.inl rfl) ?_ | refine goDCall_p (static_ok _) (.inl rfl) ?_ | refine goDCall_p (closed_ok _) (.inl rfl) ?_ | refine goDCall_p (rwithout_ok _ _) (.inl rfl) ?_ | refine goDCall_p (kVars_ok _ h1) (.inl rfl) ?_ | refine goDCall_p (rVars_ok _ h1) (.inl rfl) ?_ | refine goDCall_p (ints_ok _ _) (.inl rfl) ?_ | refine goDCall_p (same_ok _ _) (.inl rfl) ?_ | refine goDCall_p (rsame_ok _ _) (.inl rfl) ?_ | refine goDCall_p (ksame_ok _ _) (.inl rfl) ?_ | refine goDCall_p (wakes3_ok) (.inl rfl) ?_)
        | refine go_draw (id := 7) C_ok mixed 0 Try.f16.ntmps rfl (by kernel_rfl) (by decide) ?_) <;> first | simp only [h, ↓upd_eq, ↓envL_cons, Go.Ab.W0, guardOf, eff, effBuiltin, abin, abinInt, cellsAt, shift, AState.ev, AState.put, AState.new, ofVal, ofVal1, setRange, inplOf, if_true, if_false, reduceIte, Nat.reduceEqDiff, Nat.reduceAdd, Nat.reduceLT, Nat.reduceLeDiff, reduceCtorEq, Nat.reduceMul, implies_true, fillA, placeSt, fillE, elemsOf, effAppend, effSlice, optInt, reCells, forall_eq_or_imp, forall_eq, isAl, retP, AV.norm, AV.normL, Nat.reducePow, W1, hv, ra, same_refl, beq_self_eq_true, eq_self, ints_norm] | simp only [↓upd_eq, ↓envL_cons, Go.Ab.W0, guardOf, eff, effBuiltin, abin, abinInt, cellsAt, shift, AState.ev, AState.put, AState.new, ofVal, ofVal1, setRange, inplOf, if_true, if_false, reduceIte, Nat.reduceEqDiff, Nat.reduceAdd, Nat.reduceLT, Nat.reduceLeDiff, reduceCtorEq, Nat.reduceMul, implies_true, fillA, placeSt, fillE, elemsOf, effAppend, effSlice, optInt, reCells, forall_eq_or_imp, forall_eq, isAl, retP, AV.norm, AV.normL, Nat.reducePow, W1, hv, ra, same_refl, beq_self_eq_true, eq_self, ints_norm] | skip)

theorem typSame_ok (a b c : Ty) : PCalls Try.prog 17 [emb a, emb b, emb c] (.bool true) := by
  by_cases hv : heavy [a, b, c] = true
  · refine pcalls_text C_ok Try.func17 rfl (by decide) (Nat.le_of_ble_eq_true rfl) (by decide) rfl fun ok H => ?_
    rw [Try.results17]
    try simp only [↓upd_eq, ↓envL_cons, Go.Ab.W0, guardOf, eff, effBuiltin, abin, abinInt, cellsAt, shift, AState.ev, AState.put, AState.new, ofVal, ofVal1, setRange, inplOf, if_true, if_false, reduceIte, Nat.reduceEqDiff, Nat.reduceAdd, Nat.reduceLT, Nat.reduceLeDiff, reduceCtorEq, Nat.reduceMul, implies_true, fillA, placeSt, fillE, elemsOf, effAppend, effSlice, optInt, reCells, forall_eq_or_imp, forall_eq, isAl, retP, AV.norm, AV.normL, Nat.reducePow, W1, hv]
    repeat' ((first
      | with_reducible refine goIf_b (fun h => ?_) (fun h => ?_)
      | with_reducible refine goIf_n (fun h => ?_) (fun h => ?_)
      | with_reducible refine goIf_d (fun h => ?_) (fun h => ?_)
      | with_reducible refine goIf_split (fun h => ?_) (fun h => ?_)
      | with_reducible refine goGb_b (fun h => ?_) (fun h => ?_)
      | with_reducible refine goGb_n (fun h => ?_) (fun h => ?_)
      | with_reducible refine goGb_d (fun h => ?_) (fun h => ?_)
      | with_reducible refine goGb_split (fun h => ?_) (fun h => ?_)
      | with_reducible refine goDGb_b (fun h => ?_) (fun h => ?_)
      | with_reducible refine goDGb_n (fun h => ?_) (fun h => ?_)
      | with_reducible refine goDGb_d (fun h => ?_) (fun h => ?_)
      | with_reducible refine goDGb_split (fun h => ?_) (fun h => ?_)
      | (refine goCall_norm ?_; simp only [AV.norm, AV.normL, W2, hv]; first | refine goCall_p (heavy3_ok _ _ _) (.inl rfl) ?_)
      | (refine goDCall_norm ?_; simp only [AV.norm, AV.normL, W2, hv]; first | refine goDCall_p (heavy3_ok _ _ _) (.inl rfl) ?_)
      | refine go_draw (id := 3) C_ok mixed 0 Try.f17.ntmps rfl (by kernel_rfl) (by decide) ?_
      | refine go_draw (id := 5) C_ok mixed 0 Try.f17.ntmps rfl (by kernel_rfl) (by decide) ?_) <;> first | simp only [h, ↓upd_eq, ↓envL_cons, Go.Ab.W0, guardOf, eff, effBuiltin, abin, abinInt, cellsAt, shift, AState.ev, AState.put, AState.new, ofVal, ofVal1, setRange, inplOf, if_true, if_false, reduceIte, Nat.reduceEqDiff, Nat.reduceAdd, Nat.reduceLT, Nat.reduceLeDiff, reduceCtorEq, Nat.reduceMul, implies_true, fillA, placeSt, fillE, elemsOf, effAppend, effSlice, optInt, reCells, forall_eq_or_imp, forall_eq, isAl, retP, AV.norm, AV.normL, Nat.reducePow, W1, hv] | simp only [↓upd_eq, ↓envL_cons, Go.Ab.W0, guardOf, eff, effBuiltin, abin, abinInt, cellsAt, shift, AState.ev, AState.put, AState.new, ofVal, ofVal1, setRange, inplOf, if_true, if_false, reduceIte, Nat.reduceEqDiff, Nat.reduceAdd, Nat.reduceLT, Nat.reduceLeDiff, reduceCtorEq, Nat.reduceMul, implies_true, fillA, placeSt, fillE, elemsOf, effAppend, effSlice, optInt, reCells, forall_eq_or_imp, forall_eq, isAl, retP, AV.norm, AV.normL, Nat.reducePow, W1, hv] | skip)
  · have h1 : nodes a ≤ 1048576 := Nat.le_trans (heavy_nodes hv (by simp)) (by decide)
    have h2 : nodes a ≤ 1000000000 := Nat.le_trans (heavy_nodes hv (by simp)) (by decide)
    by_cases hab : a = b
    · subst hab
      refine pcalls_text C_ok Try.func17 rfl (by decide) (Nat.le_of_ble_eq_true rfl) (by decide) rfl fun ok H => ?_
      rw [Try.results17]
      try simp only [↓upd_eq, ↓envL_cons, Go.Ab.W0, guardOf, eff, effBuiltin, abin, abinInt, cellsAt, shift, AState.ev, AState.put, AState.new, ofVal, ofVal1, setRange, inplOf, if_true, if_false, reduceIte, Nat.reduceEqDiff, Nat.reduceAdd, Nat.reduceLT, Nat.reduceLeDiff, reduceCtorEq, Nat.reduceMul, implies_true, fillA, placeSt, fillE, elemsOf, effAppend, effSlice, optInt, reCells, forall_eq_or_imp, forall_eq, isAl, retP, AV.norm, AV.normL, Nat.reducePow, W1, hv, same_refl, beq_self_eq_true, bne_self_eq_false, eq_self, ints_norm]
      repeat' ((first
        | with_reducible refine goIf_b (fun h => ?_) (fun h => ?_)
        | with_reducible refine goIf_n (fun h => ?_) (fun h => ?_)
        | with_reducible refine goIf_d (fun h => ?_) (fun h => ?_)
        | with_reducible refine goIf_split (fun h => ?_) (fun h => ?_)
        | with_reducible refine goGb_b (fun h => ?_) (fun h => ?_)
        | with_reducible refine goGb_n (fun h => ?_) (fun h => ?_)
        | with_reducible refine goGb_d (fun h => ?_) (fun h => ?_)
        | with_reducible refine goGb_split (fun h => ?_) (fun h => ?_)
        | with_reducible refine goDGb_b (fun h => ?_) (fun h => ?_)
        | with_reducible refine goDGb_n (fun h => ?_) (fun h => ?_)
        | with_reducible refine goDGb_d (fun h => ?_) (fun h => ?_)
        | with_reducible refine goDGb_split (fun h => ?_) (fun h => ?_)
        | (refine goCall_norm ?_; simp only [AV.norm, AV.normL, W2, hv, same_refl, beq_self_eq_true, bne_self_eq_false, eq_self, ints_norm]; first | refine goCall_p (heavy3_ok _ _ _) (.inl rfl) ?_ | refine goCall_p (ktype_ok _ h1) (.inl rfl) ?_ | refine goCall_p (check_ok _) (.inl rfl) ?_ | refine goCall_p (size_ok _ h2) (.inl rfl) ?_ | refine goCall_p (depth_ok _ h2) (.inl rfl) ?_ | refine goCall_p (kVars_ok _ h1) (.inl rfl) ?_ | refine goCall_p (ints_ok _ _) (.inl rfl) ?_ | refine goCall_p (same_ok _ _) (.inl rfl) ?_ | refine goCall_p (ksame_ok _ _) (.inl rfl) ?_ | refine goCall_p (wakes3_ok) (.inl rfl) ?_)
        | (refine goDCall_norm ?_; simp only [AV.norm, AV.normL, W2, hv, same_refl, beq_self_eq_true, bne_self_eq_false, eq_self, ints_norm]; first | refine goDCall_p (heavy3_ok _ _ _) (.inl rfl) ?_ | refine goDCall_p (ktype_ok _ h1) (.inl rfl) ?_ | refine goDCall_p (check_ok _) (.inl rfl) ?_ | refine goDCall_p (size_ok _ h2) (.inl rfl) ?_ | refine goDCall_p (depth_ok _ h2) (.inl rfl) ?_ | refine goDCall_p (kVars_ok _ h1) (.inl rfl) ?_ | refine goDCall_p (ints_ok _ _) (.inl rfl) ?_ | refine goDCall_p (same_ok _ _) (.inl rfl) ?_ | refine goDCall_p (ksame_ok _ _) (.inl rfl) ?_ | refine goDCall_p (wakes3_ok) (.inl rfl) ?_)
        | refine go_draw (id := 3) C_ok mixed 0 Try.f17.ntmps rfl (by kernel_rfl) (by decide) ?_
        | refine go_draw (id := 5) C_ok mixed 0 Try.f17.ntmps rfl (by kernel_rfl) (by decide) ?_) <;> first | simp only [h, ↓upd_eq, ↓envL_cons, Go.Ab.W0, guardOf, eff, effBuiltin, abin, abinInt, cellsAt, shift, AState.ev, AState.put, AState.new, ofVal, ofVal1, setRange, inplOf, if_true, if_false, reduceIte, Nat.reduceEqDiff, Nat.reduceAdd, Nat.reduceLT, Nat.reduceLeDiff, reduceCtorEq, Nat.reduceMul, implies_true, fillA, placeSt, fillE, elemsOf, effAppend, effSlice, optInt, reCells, forall_eq_or_imp, forall_eq, isAl, retP, AV.norm, AV.normL, Nat.reducePow, W1, hv, same_refl, beq_self_eq_true, bne_self_eq_false, eq_self, ints_norm] | simp only [↓upd_eq, ↓envL_cons, Go.Ab.W0, guardOf, eff, effBuiltin, abin, abinInt, cellsAt, shift, AState.ev, AState.put, AState.new, ofVal, ofVal1, setRange, inplOf, if_true, if_false, reduceIte, Nat.reduceEqDiff, Nat.reduceAdd, Nat.reduceLT, Nat.reduceLeDiff, reduceCtorEq, Nat.reduceMul, implies_true, fillA, placeSt, fillE, elemsOf, effAppend, effSlice, optInt, reCells, forall_eq_or_imp, forall_eq, isAl, retP, AV.norm, AV.normL, Nat.reducePow, W1, hv, same_refl, beq_self_eq_true, bne_self_eq_false, eq_self, ints_norm] | skip)
      all_goals simp_all
    · have e1 : same a b = false := by
        cases h : same a b with
        | false => rfl
        | true => exact absurd (same_true.1 h) hab
      have e2 : same b a = false := by rw [same_comm]; exact e1
      refine pcalls_text C_ok Try.func17 rfl (by decide) (Nat.le_of_ble_eq_true rfl) (by decide) rfl fun ok H => ?_
      rw [Try.results17]
      try simp only [↓upd_eq, ↓envL_cons, Go.Ab.W0, guardOf, eff, effBuiltin, abin, abinInt, cellsAt, shift, AState.ev, AState.put, AState.new, ofVal, ofVal1, setRange, inplOf, if_true, if_false, reduceIte, Nat.reduceEqDiff, Nat.reduceAdd, Nat.reduceLT, Nat.reduceLeDiff, reduceCtorEq, Nat.reduceMul, implies_true, fillA, placeSt, fillE, elemsOf, effAppend, effSlice, optInt, reCells, forall_eq_or_imp, forall_eq, isAl, retP, AV.norm, AV.normL, Nat.reducePow, W1, hv, e1, e2, same_refl, beq_self_eq_true, bne_self_eq_false, eq_self, ints_norm]
      repeat' ((first
        | with_reducible refine goIf_b (fun h => ?_) (fun h => ?_)
        | with_reducible refine goIf_n (fun h => ?_) (fun h => ?_)
        | with_reducible refine goIf_d (fun h => ?_) (fun h => ?_)
        | with_reducible refine goIf_split (fun h => ?_) (fun h => ?_)
        | with_reducible refine goGb_b (fun h => ?_) (fun h => ?_)
        | with_reducible refine goGb_n (fun h => ?_) (fun h => ?_)
        | with_reducible refine goGb_d (fun h => ?_) (fun h => ?_)
        | with_reducible refine goGb_split (fun h => ?_) (fun h => ?_)
        | with_reducible refine goDGb_b (fun h => ?_) (fun h => ?_)
        | with_reducible refine goDGb_n (fun h => ?_) (fun h => ?_)
        | with_reducible refine goDGb_d (fun h => ?_) (fun h => ?_)
        | with_reducible refine goDGb_split (fun h => ?_) (fun h => ?_)
        | (refine goCall_norm ?_; simp only [AV.norm, AV.normL, W2, hv, e1, e2, same_refl, beq_self_eq_true, bne_self_eq_false, eq_self, ints_norm]; first | refine goCall_p (heavy3_ok _ _ _) (.inl rfl) ?_ | refine goCall_p (ktype_ok _ h1) (.inl rfl) ?_ | refine goCall_p (same_ok _ _) (.inl rfl) ?_ | refine goCall_p (wakes3_ok) (.inl rfl) ?_)
        | (refine goDCall_norm ?_; simp only [AV.norm, AV.normL, W2, hv, e1, e2, same_refl, beq_self_eq_true, bne_self_eq_false, eq_self, ints_norm]; first | refine goDCall_p (heavy3_ok _ _ _) (.inl rfl) ?_ | refine goDCall_p (ktype_ok _ h1) (.inl rfl) ?_ | refine goDCall_p (same_ok _ _) (.inl rfl) ?_ | refine goDCall_p (wakes3_ok) (.inl rfl) ?_)
        | refine go_draw (id := 3) C_ok mixed 0 Try.f17.ntmps rfl (by kernel_rfl) (by decide) ?_
        | refine go_draw (id := 5) C_ok mixed 0 Try.f17.ntmps rfl (by kernel_rfl) (by decide) ?_) <;> first | simp only [h, ↓upd_eq, ↓envL_cons, Go.Ab.W0, guardOf, eff, effBuiltin, abin, abinInt, cellsAt, shift, AState.ev, AState.put, AState.new, ofVal, ofVal1, setRange, inplOf, if_true, if_false, reduceIte, Nat.reduceEqDiff, Nat.reduceAdd, Nat.reduceLT, Nat.reduceLeDiff, reduceCtorEq, Nat.reduceMul, implies_true, fillA, placeSt, fillE, elemsOf, effAppend, effSlice, optInt, reCells, forall_eq_or_imp, forall_eq, isAl, retP, AV.norm, AV.normL, Nat.reducePow, W1, hv, e1, e2, same_refl, beq_self_eq_true, bne_self_eq_false, eq_self, ints_norm] | simp only [↓upd_eq, ↓envL_cons, Go.Ab.W0, guardOf, eff, effBuiltin, abin, abinInt, cellsAt, shift, AState.ev, AState.put, AState.new, ofVal, ofVal1, setRange, inplOf, if_true, if_false, reduceIte, Nat.reduceEqDiff, Nat.reduceAdd, Nat.reduceLT, Nat.reduceLeDiff, reduceCtorEq, Nat.reduceMul, implies_true, fillA, placeSt, fillE, elemsOf, effAppend, effSlice, optInt, reCells, forall_eq_or_imp, forall_eq, isAl, retP, AV.norm, AV.normL, Nat.reducePow, W1, hv, e1, e2, same_refl, beq_self_eq_true, bne_self_eq_false, eq_self, ints_norm] | skip)

end Go.Proofs.Ytcpfjabjonpdaaa
