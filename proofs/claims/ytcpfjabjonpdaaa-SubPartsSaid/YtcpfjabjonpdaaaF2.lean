/- Walks: the reference of types, and suretykeep. No condition. -/
import Derived.Test.YtcpfjabjonpdaaaF1
set_option linter.unusedSimpArgs false
set_option linter.unusedVariables false
set_option maxHeartbeats 4000000
namespace Go.Proofs.Ytcpfjabjonpdaaa
open Go Go.Ab
attribute [local irreducible] PCalls ACalls CallK GoCall GoDCall GoIf GoGb GoDGb GoO GoD GoX GoDX GoG GoDG GoGv GoDGv Go ALoop

theorem rright_step (t : Ty) (ih : ∀ x ∈ t.kids, PCalls Try.prog 28 [emb x] (.bool (right x))) : PCalls Try.prog 28 [emb t] (.bool (right t)) := by
  refine pcalls_text C_ok Try.func28 rfl (by decide) (Nat.le_of_ble_eq_true rfl) (by decide) rfl fun ok H => ?_
  rw [Try.results28]
  try simp only [↓upd_eq, ↓envL_cons, Go.Ab.W0, guardOf, eff, effBuiltin, abin, abinInt, cellsAt, shift, AState.ev, AState.put, AState.new, ofVal, ofVal1, setRange, inplOf, if_true, if_false, reduceIte, Nat.reduceEqDiff, Nat.reduceAdd, Nat.reduceLT, Nat.reduceLeDiff, reduceCtorEq, Nat.reduceMul, implies_true, fillA, placeSt, fillE, elemsOf, effAppend, effSlice, optInt, reCells, forall_eq_or_imp, forall_eq, isAl, retP, AV.norm, AV.normL, Nat.reducePow, W1]
  repeat' ((first
    | with_reducible refine goIf_b (fun h => ?_) (fun h => ?_)
    | with_reducible refine goIf_n (fun h => ?_) (fun h => ?_)
    | with_reducible refine goIf_d (fun h => ?_) (fun h => ?_)
    | with_reducible refine goIf_split (fun h => ?_) (fun h => ?_)
    | with_reducible refine goGb_b (fun h => ?_) (fun h => ?_)
    | with_reducible refine goGb_n (fun h => ?_) (fun h => ?_)
    | with_reducible refine goGb_d (fun h => ?_) (fun h => ?_)
    | with_reducible refine goGb_split (fun h => ?_) (fun h => ?_)
    | with_reducible refine goDGb_b (fun h => ?_) (fun h => ?_)
    | with_reducible refine goDGb_n (fun h => ?_) (fun h => ?_)
    | with_reducible refine goDGb_d (fun h => ?_) (fun h => ?_)
    | with_reducible refine goDGb_split (fun h => ?_) (fun h => ?_)
    | (refine goCall_norm ?_; simp only [AV.norm, AV.normL, W2]; first | refine goCall_p (kids_ok _) (.inl rfl) ?_)
    | (refine goDCall_norm ?_; simp only [AV.norm, AV.normL, W2]; first | refine goDCall_p (kids_ok _) (.inl rfl) ?_)
    | refine go_draw (id := 1) C_ok mixed 0 Try.f28.ntmps rfl (by kernel_rfl) (by decide) ?_) <;> first | simp only [h, ↓upd_eq, ↓envL_cons, Go.Ab.W0, guardOf, eff, effBuiltin, abin, abinInt, cellsAt, shift, AState.ev, AState.put, AState.new, ofVal, ofVal1, setRange, inplOf, if_true, if_false, reduceIte, Nat.reduceEqDiff, Nat.reduceAdd, Nat.reduceLT, Nat.reduceLeDiff, reduceCtorEq, Nat.reduceMul, implies_true, fillA, placeSt, fillE, elemsOf, effAppend, effSlice, optInt, reCells, forall_eq_or_imp, forall_eq, isAl, retP, AV.norm, AV.normL, Nat.reducePow, W1] | simp only [↓upd_eq, ↓envL_cons, Go.Ab.W0, guardOf, eff, effBuiltin, abin, abinInt, cellsAt, shift, AState.ev, AState.put, AState.new, ofVal, ofVal1, setRange, inplOf, if_true, if_false, reduceIte, Nat.reduceEqDiff, Nat.reduceAdd, Nat.reduceLT, Nat.reduceLeDiff, reduceCtorEq, Nat.reduceMul, implies_true, fillA, placeSt, fillE, elemsOf, effAppend, effSlice, optInt, reCells, forall_eq_or_imp, forall_eq, isAl, retP, AV.norm, AV.normL, Nat.reducePow, W1] | skip)
  all_goals have hmax : t.kids.length ≤ maxLen := (emb_okay ok.1).1
  all_goals first
    | (have hN : okN t = true := by (simp_all [okN] <;> (try intros) <;> (try omega))
       have hfalse : ∀ i, i < t.kids.length → right (t.kid i) = false → right t = false := fun i h1 h2 => by rw [right_eq, allN_false h1 h2]; simp
       have htrue : (∀ i, i < t.kids.length → right (t.kid i) = true) → right t = true := fun h => by rw [right_eq, allN_true h, hN]; rfl
       refine aloop_trim [3, 1] ?_
       simp only [List.map_cons, List.map_nil, ↓upd_eq, ↓envL_cons, Go.Ab.W0, guardOf, eff, effBuiltin, abin, abinInt, cellsAt, shift, AState.ev, AState.put, AState.new, ofVal, ofVal1, setRange, inplOf, if_true, if_false, reduceIte, Nat.reduceEqDiff, Nat.reduceAdd, Nat.reduceLT, Nat.reduceLeDiff, reduceCtorEq, Nat.reduceMul, implies_true, fillA, placeSt, fillE, elemsOf, effAppend, effSlice, optInt, reCells, forall_eq_or_imp, forall_eq, isAl, retP, AV.norm, AV.normL, Nat.reducePow, W1]
       refine goLoopS 1 (fun i : Nat => [(3, .int .i64 i)]) (fun _ => _) (fun i => i ≤ t.kids.length ∧ ∀ j, j < i → (fun j => right (t.kid j)) j = true) (fun i => t.kids.length - i) C_ok 0 rfl rfl ⟨Nat.zero_le _, by simp⟩ (by decide) ?_
       rintro i ⟨hi, hall⟩
       simp only [List.drop_succ_cons, List.drop_zero, List.cons_append, List.nil_append]
       simp only [↓upd_eq, ↓envL_cons, Go.Ab.W0, guardOf, eff, effBuiltin, abin, abinInt, cellsAt, shift, AState.ev, AState.put, AState.new, ofVal, ofVal1, setRange, inplOf, if_true, if_false, reduceIte, Nat.reduceEqDiff, Nat.reduceAdd, Nat.reduceLT, Nat.reduceLeDiff, reduceCtorEq, Nat.reduceMul, implies_true, fillA, placeSt, fillE, elemsOf, effAppend, effSlice, optInt, reCells, forall_eq_or_imp, forall_eq, isAl, retP, AV.norm, AV.normL, Nat.reducePow, W1]
       refine goIf_d (fun hlt => ?_) (fun hlt => ?_)
       · try simp only [↓upd_eq, ↓envL_cons, Go.Ab.W0, guardOf, eff, effBuiltin, abin, abinInt, cellsAt, shift, AState.ev, AState.put, AState.new, ofVal, ofVal1, setRange, inplOf, if_true, if_false, reduceIte, Nat.reduceEqDiff, Nat.reduceAdd, Nat.reduceLT, Nat.reduceLeDiff, reduceCtorEq, Nat.reduceMul, implies_true, fillA, placeSt, fillE, elemsOf, effAppend, effSlice, optInt, reCells, forall_eq_or_imp, forall_eq, isAl, retP, AV.norm, AV.normL, Nat.reducePow, W1, hlt, map_emb_kid hlt]
         repeat' ((first
           | with_reducible refine goIf_b (fun h => ?_) (fun h => ?_)
           | with_reducible refine goIf_n (fun h => ?_) (fun h => ?_)
           | with_reducible refine goIf_d (fun h => ?_) (fun h => ?_)
           | with_reducible refine goIf_split (fun h => ?_) (fun h => ?_)
           | with_reducible refine goGb_b (fun h => ?_) (fun h => ?_)
           | with_reducible refine goGb_n (fun h => ?_) (fun h => ?_)
           | with_reducible refine goGb_d (fun h => ?_) (fun h => ?_)
           | with_reducible refine goGb_split (fun h => ?_) (fun h => ?_)
           | with_reducible refine goDGb_b (fun h => ?_) (fun h => ?_)
           | with_reducible refine goDGb_n (fun h => ?_) (fun h => ?_)
           | with_reducible refine goDGb_d (fun h => ?_) (fun h => ?_)
           | with_reducible refine goDGb_split (fun h => ?_) (fun h => ?_)
           | (refine goCall_norm ?_; simp only [AV.norm, AV.normL, W2, hlt, map_emb_kid hlt]; first | refine goCall_p (ih _ (kid_mem hlt)) (.inl rfl) ?_)
           | (refine goDCall_norm ?_; simp only [AV.norm, AV.normL, W2, hlt, map_emb_kid hlt]; first | refine goDCall_p (ih _ (kid_mem hlt)) (.inl rfl) ?_)
           | refine go_draw (id := 1) C_ok mixed 0 Try.f28.ntmps rfl (by kernel_rfl) (by decide) ?_) <;> first | simp only [h, ↓upd_eq, ↓envL_cons, Go.Ab.W0, guardOf, eff, effBuiltin, abin, abinInt, cellsAt, shift, AState.ev, AState.put, AState.new, ofVal, ofVal1, setRange, inplOf, if_true, if_false, reduceIte, Nat.reduceEqDiff, Nat.reduceAdd, Nat.reduceLT, Nat.reduceLeDiff, reduceCtorEq, Nat.reduceMul, implies_true, fillA, placeSt, fillE, elemsOf, effAppend, effSlice, optInt, reCells, forall_eq_or_imp, forall_eq, isAl, retP, AV.norm, AV.normL, Nat.reducePow, W1, hlt, map_emb_kid hlt] | simp only [↓upd_eq, ↓envL_cons, Go.Ab.W0, guardOf, eff, effBuiltin, abin, abinInt, cellsAt, shift, AState.ev, AState.put, AState.new, ofVal, ofVal1, setRange, inplOf, if_true, if_false, reduceIte, Nat.reduceEqDiff, Nat.reduceAdd, Nat.reduceLT, Nat.reduceLeDiff, reduceCtorEq, Nat.reduceMul, implies_true, fillA, placeSt, fillE, elemsOf, effAppend, effSlice, optInt, reCells, forall_eq_or_imp, forall_eq, isAl, retP, AV.norm, AV.normL, Nat.reducePow, W1, hlt, map_emb_kid hlt] | skip)
         all_goals first
           | exact (hfalse i hlt (by first | assumption | simp only [*])).symm
           | (refine ⟨i + 1, ⟨by omega, fun j hj => ?_⟩, by omega, weak_drop rfl rfl rfl rfl ?_ ?_ ?_⟩
              · rcases Nat.lt_succ_iff_lt_or_eq.1 hj with hj | rfl
                · exact hall j hj
                · first | assumption | simp only [*]
              all_goals simp only [List.forall_mem_cons, mem_nil_all, frz_app, ↓upd_eq, ↓envL_cons, Nat.reduceEqDiff, if_true, if_false, reduceIte, true_and, and_true, and_self, true_or, or_true, implies_true, List.not_mem_nil, false_implies, AV.bel, AV.belL, AObj.bel, AV.norm, AV.normL, Bool.and_true, Bool.true_and, decide_true, decide_eq_true_eq, List.length_cons, List.length_nil, Nat.zero_add, Nat.reduceAdd, Nat.lt_add_one, Nat.lt_add_right_iff_pos, Nat.zero_lt_succ, Nat.zero_lt_one, Nat.reduceLT, List.take_succ_cons, List.take_zero, wrap_succ hlt hmax, map_bel, AV.belL, List.length_map])
       · simp only [↓upd_eq, ↓envL_cons, Go.Ab.W0, guardOf, eff, effBuiltin, abin, abinInt, cellsAt, shift, AState.ev, AState.put, AState.new, ofVal, ofVal1, setRange, inplOf, if_true, if_false, reduceIte, Nat.reduceEqDiff, Nat.reduceAdd, Nat.reduceLT, Nat.reduceLeDiff, reduceCtorEq, Nat.reduceMul, implies_true, fillA, placeSt, fillE, elemsOf, effAppend, effSlice, optInt, reCells, forall_eq_or_imp, forall_eq, isAl, retP, AV.norm, AV.normL, Nat.reducePow, W1]
         exact (htrue fun j hj => hall j (by omega)).symm)
    | (rw [right_eq]; by_cases h6 : t.kind = 6 <;> simp_all [okN] <;> (try intros) <;> (try omega))
theorem rright_ok (t : Ty) : PCalls Try.prog 28 [emb t] (.bool (right t)) := Ty.ind rright_step t

theorem rsame_step (a b : Ty) (ih : ∀ x ∈ a.kids, ∀ y, PCalls Try.prog 56 [emb x, emb y] (.bool (same x y))) : PCalls Try.prog 56 [emb a, emb b] (.bool (same a b)) := by
  refine pcalls_text C_ok Try.func56 rfl (by decide) (Nat.le_of_ble_eq_true rfl) (by decide) rfl fun ok H => ?_
  rw [Try.results56]
  try simp only [↓upd_eq, ↓envL_cons, Go.Ab.W0, guardOf, eff, effBuiltin, abin, abinInt, cellsAt, shift, AState.ev, AState.put, AState.new, ofVal, ofVal1, setRange, inplOf, if_true, if_false, reduceIte, Nat.reduceEqDiff, Nat.reduceAdd, Nat.reduceLT, Nat.reduceLeDiff, reduceCtorEq, Nat.reduceMul, implies_true, fillA, placeSt, fillE, elemsOf, effAppend, effSlice, optInt, reCells, forall_eq_or_imp, forall_eq, isAl, retP, AV.norm, AV.normL, Nat.reducePow, W1]
  repeat' ((first
    | with_reducible refine goIf_b (fun h => ?_) (fun h => ?_)
    | with_reducible refine goIf_n (fun h => ?_) (fun h => ?_)
    | with_reducible refine goIf_d (fun h => ?_) (fun h => ?_)
    | with_reducible refine goIf_split (fun h => ?_) (fun h => ?_)
    | with_reducible refine goGb_b (fun h => ?_) (fun h => ?_)
    | with_reducible refine goGb_n (fun h => ?_) (fun h => ?_)
    | with_reducible refine goGb_d (fun h => ?_) (fun h => ?_)
    | with_reducible refine goGb_split (fun h => ?_) (fun h => ?_)
    | with_reducible refine goDGb_b (fun h => ?_) (fun h => ?_)
    | with_reducible refine goDGb_n (fun h => ?_) (fun h => ?_)
    | with_reducible refine goDGb_d (fun h => ?_) (fun h => ?_)
    | with_reducible refine goDGb_split (fun h => ?_) (fun h => ?_)
    | refine go_draw (id := 6) C_ok mixed 0 Try.f56.ntmps rfl (by kernel_rfl) (by decide) ?_) <;> first | simp only [h, ↓upd_eq, ↓envL_cons, Go.Ab.W0, guardOf, eff, effBuiltin, abin, abinInt, cellsAt, shift, AState.ev, AState.put, AState.new, ofVal, ofVal1, setRange, inplOf, if_true, if_false, reduceIte, Nat.reduceEqDiff, Nat.reduceAdd, Nat.reduceLT, Nat.reduceLeDiff, reduceCtorEq, Nat.reduceMul, implies_true, fillA, placeSt, fillE, elemsOf, effAppend, effSlice, optInt, reCells, forall_eq_or_imp, forall_eq, isAl, retP, AV.norm, AV.normL, Nat.reducePow, W1] | simp only [↓upd_eq, ↓envL_cons, Go.Ab.W0, guardOf, eff, effBuiltin, abin, abinInt, cellsAt, shift, AState.ev, AState.put, AState.new, ofVal, ofVal1, setRange, inplOf, if_true, if_false, reduceIte, Nat.reduceEqDiff, Nat.reduceAdd, Nat.reduceLT, Nat.reduceLeDiff, reduceCtorEq, Nat.reduceMul, implies_true, fillA, placeSt, fillE, elemsOf, effAppend, effSlice, optInt, reCells, forall_eq_or_imp, forall_eq, isAl, retP, AV.norm, AV.normL, Nat.reducePow, W1] | skip)
  all_goals have hmax : a.kids.length ≤ maxLen := (emb_okay ok.1).1
  case refine_2.refine_2.refine_2 =>
    have hlen : b.kids.length = a.kids.length := by simp only [bne_eq_false_iff_eq] at *; omega
    have hfalse : ∀ i, i < a.kids.length → same (a.kid i) (b.kid i) = false → same a b = false := fun i h1 h2 => by rw [same_eq, allN_false h1 h2]; simp
    have htrue : (∀ i, i < a.kids.length → same (a.kid i) (b.kid i) = true) → same a b = true := fun h => by rw [same_eq, allN_true h]; simp_all
    refine aloop_trim [5, 2, 3] ?_
    simp only [List.map_cons, List.map_nil, ↓upd_eq, ↓envL_cons, Go.Ab.W0, guardOf, eff, effBuiltin, abin, abinInt, cellsAt, shift, AState.ev, AState.put, AState.new, ofVal, ofVal1, setRange, inplOf, if_true, if_false, reduceIte, Nat.reduceEqDiff, Nat.reduceAdd, Nat.reduceLT, Nat.reduceLeDiff, reduceCtorEq, Nat.reduceMul, implies_true, fillA, placeSt, fillE, elemsOf, effAppend, effSlice, optInt, reCells, forall_eq_or_imp, forall_eq, isAl, retP, AV.norm, AV.normL, Nat.reducePow, W1]
    refine goLoopS 1 (fun i : Nat => [(5, .int .i64 i)]) (fun _ => _) (fun i => i ≤ a.kids.length ∧ ∀ j, j < i → (fun j => same (a.kid j) (b.kid j)) j = true) (fun i => a.kids.length - i) C_ok 0 rfl rfl ⟨Nat.zero_le _, by simp⟩ (by decide) ?_
    rintro i ⟨hi, hall⟩
    simp only [List.drop_succ_cons, List.drop_zero, List.cons_append, List.nil_append]
    simp only [↓upd_eq, ↓envL_cons, Go.Ab.W0, guardOf, eff, effBuiltin, abin, abinInt, cellsAt, shift, AState.ev, AState.put, AState.new, ofVal, ofVal1, setRange, inplOf, if_true, if_false, reduceIte, Nat.reduceEqDiff, Nat.reduceAdd, Nat.reduceLT, Nat.reduceLeDiff, reduceCtorEq, Nat.reduceMul, implies_true, fillA, placeSt, fillE, elemsOf, effAppend, effSlice, optInt, reCells, forall_eq_or_imp, forall_eq, isAl, retP, AV.norm, AV.normL, Nat.reducePow, W1]
    refine goIf_d (fun hlt => ?_) (fun hlt => ?_)
    · try simp only [↓upd_eq, ↓envL_cons, Go.Ab.W0, guardOf, eff, effBuiltin, abin, abinInt, cellsAt, shift, AState.ev, AState.put, AState.new, ofVal, ofVal1, setRange, inplOf, if_true, if_false, reduceIte, Nat.reduceEqDiff, Nat.reduceAdd, Nat.reduceLT, Nat.reduceLeDiff, reduceCtorEq, Nat.reduceMul, implies_true, fillA, placeSt, fillE, elemsOf, effAppend, effSlice, optInt, reCells, forall_eq_or_imp, forall_eq, isAl, retP, AV.norm, AV.normL, Nat.reducePow, W1, hlt, hlen, map_emb_kid hlt, map_emb_kid (hlen.symm ▸ hlt)]
      repeat' ((first
        | with_reducible refine goIf_b (fun h => ?_) (fun h => ?_)
        | with_reducible refine goIf_n (fun h => ?_) (fun h => ?_)
        | with_reducible refine goIf_d (fun h => ?_) (fun h => ?_)
        | with_reducible refine goIf_split (fun h => ?_) (fun h => ?_)
        | with_reducible refine goGb_b (fun h => ?_) (fun h => ?_)
        | with_reducible refine goGb_n (fun h => ?_) (fun h => ?_)
        | with_reducible refine goGb_d (fun h => ?_) (fun h => ?_)
        | with_reducible refine goGb_split (fun h => ?_) (fun h => ?_)
        | with_reducible refine goDGb_b (fun h => ?_) (fun h => ?_)
        | with_reducible refine goDGb_n (fun h => ?_) (fun h => ?_)
        | with_reducible refine goDGb_d (fun h => ?_) (fun h => ?_)
        | with_reducible refine goDGb_split (fun h => ?_) (fun h => ?_)
        | (refine goCall_norm ?_; simp only [AV.norm, AV.normL, W2, hlt, hlen, map_emb_kid hlt, map_emb_kid (hlen.symm ▸ hlt)]; first | refine goCall_p (ih _ (kid_mem hlt) _) (.inl rfl) ?_)
        | (refine goDCall_norm ?_; simp only [AV.norm, AV.normL, W2, hlt, hlen, map_emb_kid hlt, map_emb_kid (hlen.symm ▸ hlt)]; first | refine goDCall_p (ih _ (kid_mem hlt) _) (.inl rfl) ?_)
        | refine go_draw (id := 6) C_ok mixed 0 Try.f56.ntmps rfl (by kernel_rfl) (by decide) ?_) <;> first | simp only [h, ↓upd_eq, ↓envL_cons, Go.Ab.W0, guardOf, eff, effBuiltin, abin, abinInt, cellsAt, shift, AState.ev, AState.put, AState.new, ofVal, ofVal1, setRange, inplOf, if_true, if_false, reduceIte, Nat.reduceEqDiff, Nat.reduceAdd, Nat.reduceLT, Nat.reduceLeDiff, reduceCtorEq, Nat.reduceMul, implies_true, fillA, placeSt, fillE, elemsOf, effAppend, effSlice, optInt, reCells, forall_eq_or_imp, forall_eq, isAl, retP, AV.norm, AV.normL, Nat.reducePow, W1, hlt, hlen, map_emb_kid hlt, map_emb_kid (hlen.symm ▸ hlt)] | simp only [↓upd_eq, ↓envL_cons, Go.Ab.W0, guardOf, eff, effBuiltin, abin, abinInt, cellsAt, shift, AState.ev, AState.put, AState.new, ofVal, ofVal1, setRange, inplOf, if_true, if_false, reduceIte, Nat.reduceEqDiff, Nat.reduceAdd, Nat.reduceLT, Nat.reduceLeDiff, reduceCtorEq, Nat.reduceMul, implies_true, fillA, placeSt, fillE, elemsOf, effAppend, effSlice, optInt, reCells, forall_eq_or_imp, forall_eq, isAl, retP, AV.norm, AV.normL, Nat.reducePow, W1, hlt, hlen, map_emb_kid hlt, map_emb_kid (hlen.symm ▸ hlt)] | skip)
      all_goals first
        | exact (hfalse i hlt (by first | assumption | simp only [*])).symm
        | (refine ⟨i + 1, ⟨by omega, fun j hj => ?_⟩, by omega, weak_drop rfl rfl rfl rfl ?_ ?_ ?_⟩
           · rcases Nat.lt_succ_iff_lt_or_eq.1 hj with hj | rfl
             · exact hall j hj
             · first | assumption | simp only [*]
           all_goals simp only [List.forall_mem_cons, mem_nil_all, frz_app, ↓upd_eq, ↓envL_cons, Nat.reduceEqDiff, if_true, if_false, reduceIte, true_and, and_true, and_self, true_or, or_true, implies_true, List.not_mem_nil, false_implies, AV.bel, AV.belL, AObj.bel, AV.norm, AV.normL, Bool.and_true, Bool.true_and, decide_true, decide_eq_true_eq, List.length_cons, List.length_nil, Nat.zero_add, Nat.reduceAdd, Nat.lt_add_one, Nat.lt_add_right_iff_pos, Nat.zero_lt_succ, Nat.zero_lt_one, Nat.reduceLT, List.take_succ_cons, List.take_zero, wrap_succ hlt hmax, map_bel, AV.belL, List.length_map])
    · simp only [↓upd_eq, ↓envL_cons, Go.Ab.W0, guardOf, eff, effBuiltin, abin, abinInt, cellsAt, shift, AState.ev, AState.put, AState.new, ofVal, ofVal1, setRange, inplOf, if_true, if_false, reduceIte, Nat.reduceEqDiff, Nat.reduceAdd, Nat.reduceLT, Nat.reduceLeDiff, reduceCtorEq, Nat.reduceMul, implies_true, fillA, placeSt, fillE, elemsOf, effAppend, effSlice, optInt, reCells, forall_eq_or_imp, forall_eq, isAl, retP, AV.norm, AV.normL, Nat.reducePow, W1]
      exact (htrue fun j hj => hall j (by omega)).symm
  all_goals (rw [same_eq]; simp_all <;> (try intros) <;> (try omega))
theorem rsame_ok (a b : Ty) : PCalls Try.prog 56 [emb a, emb b] (.bool (same a b)) :=
  Ty.ind (p := fun a => ∀ b, PCalls Try.prog 56 [emb a, emb b] (.bool (same a b))) (fun a ih b => rsame_step a b ih) a b

theorem ksame_step (a b : Ty) (ih : ∀ x ∈ a.kids, ∀ y, PCalls Try.prog 33 [emb x, emb y] (.bool (same x y))) : PCalls Try.prog 33 [emb a, emb b] (.bool (same a b)) := by
  refine pcalls_text C_ok Try.func33 rfl (by decide) (Nat.le_of_ble_eq_true rfl) (by decide) rfl fun ok H => ?_
  rw [Try.results33]
  try simp only [↓upd_eq, ↓envL_cons, Go.Ab.W0, guardOf, eff, effBuiltin, abin, abinInt, cellsAt, shift, AState.ev, AState.put, AState.new, ofVal, ofVal1, setRange, inplOf, if_true, if_false, reduceIte, Nat.reduceEqDiff, Nat.reduceAdd, Nat.reduceLT, Nat.reduceLeDiff, reduceCtorEq, Nat.reduceMul, implies_true, fillA, placeSt, fillE, elemsOf, effAppend, effSlice, optInt, reCells, forall_eq_or_imp, forall_eq, isAl, retP, AV.norm, AV.normL, Nat.reducePow, W1]
  repeat' ((first
    | with_reducible refine goIf_b (fun h => ?_) (fun h => ?_)
    | with_reducible refine goIf_n (fun h => ?_) (fun h => ?_)
    | with_reducible refine goIf_d (fun h => ?_) (fun h => ?_)
    | with_reducible refine goIf_split (fun h => ?_) (fun h => ?_)
    | with_reducible refine goGb_b (fun h => ?_) (fun h => ?_)
    | with_reducible refine goGb_n (fun h => ?_) (fun h => ?_)
    | with_reducible refine goGb_d (fun h => ?_) (fun h => ?_)
    | with_reducible refine goGb_split (fun h => ?_) (fun h => ?_)
    | with_reducible refine goDGb_b (fun h => ?_) (fun h => ?_)
    | with_reducible refine goDGb_n (fun h => ?_) (fun h => ?_)
    | with_reducible refine goDGb_d (fun h => ?_) (fun h => ?_)
    | with_reducible refine goDGb_split (fun h => ?_) (fun h => ?_)
    | refine go_draw (id := 6) C_ok mixed 0 Try.f33.ntmps rfl (by kernel_rfl) (by decide) ?_) <;> first | simp only [h, ↓upd_eq, ↓envL_cons, Go.Ab.W0, guardOf, eff, effBuiltin, abin, abinInt, cellsAt, shift, AState.ev, AState.put, AState.new, ofVal, ofVal1, setRange, inplOf, if_true, if_false, reduceIte, Nat.reduceEqDiff, Nat.reduceAdd, Nat.reduceLT, Nat.reduceLeDiff, reduceCtorEq, Nat.reduceMul, implies_true, fillA, placeSt, fillE, elemsOf, effAppend, effSlice, optInt, reCells, forall_eq_or_imp, forall_eq, isAl, retP, AV.norm, AV.normL, Nat.reducePow, W1] | simp only [↓upd_eq, ↓envL_cons, Go.Ab.W0, guardOf, eff, effBuiltin, abin, abinInt, cellsAt, shift, AState.ev, AState.put, AState.new, ofVal, ofVal1, setRange, inplOf, if_true, if_false, reduceIte, Nat.reduceEqDiff, Nat.reduceAdd, Nat.reduceLT, Nat.reduceLeDiff, reduceCtorEq, Nat.reduceMul, implies_true, fillA, placeSt, fillE, elemsOf, effAppend, effSlice, optInt, reCells, forall_eq_or_imp, forall_eq, isAl, retP, AV.norm, AV.normL, Nat.reducePow, W1] | skip)
  all_goals have hmax : a.kids.length ≤ maxLen := (emb_okay ok.1).1
  case refine_2.refine_2.refine_2 =>
    have hlen : b.kids.length = a.kids.length := by simp only [bne_eq_false_iff_eq] at *; omega
    have hfalse : ∀ i, i < a.kids.length → same (a.kid i) (b.kid i) = false → same a b = false := fun i h1 h2 => by rw [same_eq, allN_false h1 h2]; simp
    have htrue : (∀ i, i < a.kids.length → same (a.kid i) (b.kid i) = true) → same a b = true := fun h => by rw [same_eq, allN_true h]; simp_all
    refine aloop_trim [5, 2, 3] ?_
    simp only [List.map_cons, List.map_nil, ↓upd_eq, ↓envL_cons, Go.Ab.W0, guardOf, eff, effBuiltin, abin, abinInt, cellsAt, shift, AState.ev, AState.put, AState.new, ofVal, ofVal1, setRange, inplOf, if_true, if_false, reduceIte, Nat.reduceEqDiff, Nat.reduceAdd, Nat.reduceLT, Nat.reduceLeDiff, reduceCtorEq, Nat.reduceMul, implies_true, fillA, placeSt, fillE, elemsOf, effAppend, effSlice, optInt, reCells, forall_eq_or_imp, forall_eq, isAl, retP, AV.norm, AV.normL, Nat.reducePow, W1]
    refine goLoopS 1 (fun i : Nat => [(5, .int .i64 i)]) (fun _ => _) (fun i => i ≤ a.kids.length ∧ ∀ j, j < i → (fun j => same (a.kid j) (b.kid j)) j = true) (fun i => a.kids.length - i) C_ok 0 rfl rfl ⟨Nat.zero_le _, by simp⟩ (by decide) ?_
    rintro i ⟨hi, hall⟩
    simp only [List.drop_succ_cons, List.drop_zero, List.cons_append, List.nil_append]
    simp only [↓upd_eq, ↓envL_cons, Go.Ab.W0, guardOf, eff, effBuiltin, abin, abinInt, cellsAt, shift, AState.ev, AState.put, AState.new, ofVal, ofVal1, setRange, inplOf, if_true, if_false, reduceIte, Nat.reduceEqDiff, Nat.reduceAdd, Nat.reduceLT, Nat.reduceLeDiff, reduceCtorEq, Nat.reduceMul, implies_true, fillA, placeSt, fillE, elemsOf, effAppend, effSlice, optInt, reCells, forall_eq_or_imp, forall_eq, isAl, retP, AV.norm, AV.normL, Nat.reducePow, W1]
    refine goIf_d (fun hlt => ?_) (fun hlt => ?_)
    · try simp only [↓upd_eq, ↓envL_cons, Go.Ab.W0, guardOf, eff, effBuiltin, abin, abinInt, cellsAt, shift, AState.ev, AState.put, AState.new, ofVal, ofVal1, setRange, inplOf, if_true, if_false, reduceIte, Nat.reduceEqDiff, Nat.reduceAdd, Nat.reduceLT, Nat.reduceLeDiff, reduceCtorEq, Nat.reduceMul, implies_true, fillA, placeSt, fillE, elemsOf, effAppend, effSlice, optInt, reCells, forall_eq_or_imp, forall_eq, isAl, retP, AV.norm, AV.normL, Nat.reducePow, W1, hlt, hlen, map_emb_kid hlt, map_emb_kid (hlen.symm ▸ hlt)]
      repeat' ((first
        | with_reducible refine goIf_b (fun h => ?_) (fun h => ?_)
        | with_reducible refine goIf_n (fun h => ?_) (fun h => ?_)
        | with_reducible refine goIf_d (fun h => ?_) (fun h => ?_)
        | with_reducible refine goIf_split (fun h => ?_) (fun h => ?_)
        | with_reducible refine goGb_b (fun h => ?_) (fun h => ?_)
        | with_reducible refine goGb_n (fun h => ?_) (fun h => ?_)
        | with_reducible refine goGb_d (fun h => ?_) (fun h => ?_)
        | with_reducible refine goGb_split (fun h => ?_) (fun h => ?_)
        | with_reducible refine goDGb_b (fun h => ?_) (fun h => ?_)
        | with_reducible refine goDGb_n (fun h => ?_) (fun h => ?_)
        | with_reducible refine goDGb_d (fun h => ?_) (fun h => ?_)
        | with_reducible refine goDGb_split (fun h => ?_) (fun h => ?_)
        | (refine goCall_norm ?_; simp only [AV.norm, AV.normL, W2, hlt, hlen, map_emb_kid hlt, map_emb_kid (hlen.symm ▸ hlt)]; first | refine goCall_p (ih _ (kid_mem hlt) _) (.inl rfl) ?_)
        | (refine goDCall_norm ?_; simp only [AV.norm, AV.normL, W2, hlt, hlen, map_emb_kid hlt, map_emb_kid (hlen.symm ▸ hlt)]; first | refine goDCall_p (ih _ (kid_mem hlt) _) (.inl rfl) ?_)
        | refine go_draw (id := 6) C_ok mixed 0 Try.f33.ntmps rfl (by kernel_rfl) (by decide) ?_) <;> first | simp only [h, ↓upd_eq, ↓envL_cons, Go.Ab.W0, guardOf, eff, effBuiltin, abin, abinInt, cellsAt, shift, AState.ev, AState.put, AState.new, ofVal, ofVal1, setRange, inplOf, if_true, if_false, reduceIte, Nat.reduceEqDiff, Nat.reduceAdd, Nat.reduceLT, Nat.reduceLeDiff, reduceCtorEq, Nat.reduceMul, implies_true, fillA, placeSt, fillE, elemsOf, effAppend, effSlice, optInt, reCells, forall_eq_or_imp, forall_eq, isAl, retP, AV.norm, AV.normL, Nat.reducePow, W1, hlt, hlen, map_emb_kid hlt, map_emb_kid (hlen.symm ▸ hlt)] | simp only [↓upd_eq, ↓envL_cons, Go.Ab.W0, guardOf, eff, effBuiltin, abin, abinInt, cellsAt, shift, AState.ev, AState.put, AState.new, ofVal, ofVal1, setRange, inplOf, if_true, if_false, reduceIte, Nat.reduceEqDiff, Nat.reduceAdd, Nat.reduceLT, Nat.reduceLeDiff, reduceCtorEq, Nat.reduceMul, implies_true, fillA, placeSt, fillE, elemsOf, effAppend, effSlice, optInt, reCells, forall_eq_or_imp, forall_eq, isAl, retP, AV.norm, AV.normL, Nat.reducePow, W1, hlt, hlen, map_emb_kid hlt, map_emb_kid (hlen.symm ▸ hlt)] | skip)
      all_goals first
        | exact (hfalse i hlt (by first | assumption | simp only [*])).symm
        | (refine ⟨i + 1, ⟨by omega, fun j hj => ?_⟩, by omega, weak_drop rfl rfl rfl rfl ?_ ?_ ?_⟩
           · rcases Nat.lt_succ_iff_lt_or_eq.1 hj with hj | rfl
             · exact hall j hj
             · first | assumption | simp only [*]
           all_goals simp only [List.forall_mem_cons, mem_nil_all, frz_app, ↓upd_eq, ↓envL_cons, Nat.reduceEqDiff, if_true, if_false, reduceIte, true_and, and_true, and_self, true_or, or_true, implies_true, List.not_mem_nil, false_implies, AV.bel, AV.belL, AObj.bel, AV.norm, AV.normL, Bool.and_true, Bool.true_and, decide_true, decide_eq_true_eq, List.length_cons, List.length_nil, Nat.zero_add, Nat.reduceAdd, Nat.lt_add_one, Nat.lt_add_right_iff_pos, Nat.zero_lt_succ, Nat.zero_lt_one, Nat.reduceLT, List.take_succ_cons, List.take_zero, wrap_succ hlt hmax, map_bel, AV.belL, List.length_map])
    · simp only [↓upd_eq, ↓envL_cons, Go.Ab.W0, guardOf, eff, effBuiltin, abin, abinInt, cellsAt, shift, AState.ev, AState.put, AState.new, ofVal, ofVal1, setRange, inplOf, if_true, if_false, reduceIte, Nat.reduceEqDiff, Nat.reduceAdd, Nat.reduceLT, Nat.reduceLeDiff, reduceCtorEq, Nat.reduceMul, implies_true, fillA, placeSt, fillE, elemsOf, effAppend, effSlice, optInt, reCells, forall_eq_or_imp, forall_eq, isAl, retP, AV.norm, AV.normL, Nat.reducePow, W1]
      exact (htrue fun j hj => hall j (by omega)).symm
  all_goals (rw [same_eq]; simp_all <;> (try intros) <;> (try omega))
theorem ksame_ok (a b : Ty) : PCalls Try.prog 33 [emb a, emb b] (.bool (same a b)) :=
  Ty.ind (p := fun a => ∀ b, PCalls Try.prog 33 [emb a, emb b] (.bool (same a b))) (fun a ih b => ksame_step a b ih) a b

theorem rwithout_step (t : Ty) (k : Int) (ih : ∀ x ∈ t.kids, PCalls Try.prog 52 [emb x, .int .i64 k] (.bool (without k x))) : PCalls Try.prog 52 [emb t, .int .i64 k] (.bool (without k t)) := by
  refine pcalls_text C_ok Try.func52 rfl (by decide) (Nat.le_of_ble_eq_true rfl) (by decide) rfl fun ok H => ?_
  rw [Try.results52]
  try simp only [↓upd_eq, ↓envL_cons, Go.Ab.W0, guardOf, eff, effBuiltin, abin, abinInt, cellsAt, shift, AState.ev, AState.put, AState.new, ofVal, ofVal1, setRange, inplOf, if_true, if_false, reduceIte, Nat.reduceEqDiff, Nat.reduceAdd, Nat.reduceLT, Nat.reduceLeDiff, reduceCtorEq, Nat.reduceMul, implies_true, fillA, placeSt, fillE, elemsOf, effAppend, effSlice, optInt, reCells, forall_eq_or_imp, forall_eq, isAl, retP, AV.norm, AV.normL, Nat.reducePow, W1]
  repeat' ((first
    | with_reducible refine goIf_b (fun h => ?_) (fun h => ?_)
    | with_reducible refine goIf_n (fun h => ?_) (fun h => ?_)
    | with_reducible refine goIf_d (fun h => ?_) (fun h => ?_)
    | with_reducible refine goIf_split (fun h => ?_) (fun h => ?_)
    | with_reducible refine goGb_b (fun h => ?_) (fun h => ?_)
    | with_reducible refine goGb_n (fun h => ?_) (fun h => ?_)
    | with_reducible refine goGb_d (fun h => ?_) (fun h => ?_)
    | with_reducible refine goGb_split (fun h => ?_) (fun h => ?_)
    | with_reducible refine goDGb_b (fun h => ?_) (fun h => ?_)
    | with_reducible refine goDGb_n (fun h => ?_) (fun h => ?_)
    | with_reducible refine goDGb_d (fun h => ?_) (fun h => ?_)
    | with_reducible refine goDGb_split (fun h => ?_) (fun h => ?_)) <;> first | simp only [h, ↓upd_eq, ↓envL_cons, Go.Ab.W0, guardOf, eff, effBuiltin, abin, abinInt, cellsAt, shift, AState.ev, AState.put, AState.new, ofVal, ofVal1, setRange, inplOf, if_true, if_false, reduceIte, Nat.reduceEqDiff, Nat.reduceAdd, Nat.reduceLT, Nat.reduceLeDiff, reduceCtorEq, Nat.reduceMul, implies_true, fillA, placeSt, fillE, elemsOf, effAppend, effSlice, optInt, reCells, forall_eq_or_imp, forall_eq, isAl, retP, AV.norm, AV.normL, Nat.reducePow, W1] | simp only [↓upd_eq, ↓envL_cons, Go.Ab.W0, guardOf, eff, effBuiltin, abin, abinInt, cellsAt, shift, AState.ev, AState.put, AState.new, ofVal, ofVal1, setRange, inplOf, if_true, if_false, reduceIte, Nat.reduceEqDiff, Nat.reduceAdd, Nat.reduceLT, Nat.reduceLeDiff, reduceCtorEq, Nat.reduceMul, implies_true, fillA, placeSt, fillE, elemsOf, effAppend, effSlice, optInt, reCells, forall_eq_or_imp, forall_eq, isAl, retP, AV.norm, AV.normL, Nat.reducePow, W1] | skip)
  all_goals have hmax : t.kids.length ≤ maxLen := (emb_okay ok.1).1
  case refine_2 =>
    have hfalse : ∀ i, i < t.kids.length → without k (t.kid i) = false → without k t = false := fun i h1 h2 => by rw [without_eq, allN_false h1 h2]; simp
    have htrue : (∀ i, i < t.kids.length → without k (t.kid i) = true) → without k t = true := fun h => by rw [without_eq, allN_true h]; simp_all
    refine aloop_trim [5, 1, 2] ?_
    simp only [List.map_cons, List.map_nil, ↓upd_eq, ↓envL_cons, Go.Ab.W0, guardOf, eff, effBuiltin, abin, abinInt, cellsAt, shift, AState.ev, AState.put, AState.new, ofVal, ofVal1, setRange, inplOf, if_true, if_false, reduceIte, Nat.reduceEqDiff, Nat.reduceAdd, Nat.reduceLT, Nat.reduceLeDiff, reduceCtorEq, Nat.reduceMul, implies_true, fillA, placeSt, fillE, elemsOf, effAppend, effSlice, optInt, reCells, forall_eq_or_imp, forall_eq, isAl, retP, AV.norm, AV.normL, Nat.reducePow, W1]
    refine goLoopS 1 (fun i : Nat => [(5, .int .i64 i)]) (fun _ => _) (fun i => i ≤ t.kids.length ∧ ∀ j, j < i → (fun j => without k (t.kid j)) j = true) (fun i => t.kids.length - i) C_ok 0 rfl rfl ⟨Nat.zero_le _, by simp⟩ (by decide) ?_
    rintro i ⟨hi, hall⟩
    simp only [List.drop_succ_cons, List.drop_zero, List.cons_append, List.nil_append]
    simp only [↓upd_eq, ↓envL_cons, Go.Ab.W0, guardOf, eff, effBuiltin, abin, abinInt, cellsAt, shift, AState.ev, AState.put, AState.new, ofVal, ofVal1, setRange, inplOf, if_true, if_false, reduceIte, Nat.reduceEqDiff, Nat.reduceAdd, Nat.reduceLT, Nat.reduceLeDiff, reduceCtorEq, Nat.reduceMul, implies_true, fillA, placeSt, fillE, elemsOf, effAppend, effSlice, optInt, reCells, forall_eq_or_imp, forall_eq, isAl, retP, AV.norm, AV.normL, Nat.reducePow, W1]
    refine goIf_d (fun hlt => ?_) (fun hlt => ?_)
    · try simp only [↓upd_eq, ↓envL_cons, Go.Ab.W0, guardOf, eff, effBuiltin, abin, abinInt, cellsAt, shift, AState.ev, AState.put, AState.new, ofVal, ofVal1, setRange, inplOf, if_true, if_false, reduceIte, Nat.reduceEqDiff, Nat.reduceAdd, Nat.reduceLT, Nat.reduceLeDiff, reduceCtorEq, Nat.reduceMul, implies_true, fillA, placeSt, fillE, elemsOf, effAppend, effSlice, optInt, reCells, forall_eq_or_imp, forall_eq, isAl, retP, AV.norm, AV.normL, Nat.reducePow, W1, hlt, map_emb_kid hlt]
      repeat' ((first
        | with_reducible refine goIf_b (fun h => ?_) (fun h => ?_)
        | with_reducible refine goIf_n (fun h => ?_) (fun h => ?_)
        | with_reducible refine goIf_d (fun h => ?_) (fun h => ?_)
        | with_reducible refine goIf_split (fun h => ?_) (fun h => ?_)
        | with_reducible refine goGb_b (fun h => ?_) (fun h => ?_)
        | with_reducible refine goGb_n (fun h => ?_) (fun h => ?_)
        | with_reducible refine goGb_d (fun h => ?_) (fun h => ?_)
        | with_reducible refine goGb_split (fun h => ?_) (fun h => ?_)
        | with_reducible refine goDGb_b (fun h => ?_) (fun h => ?_)
        | with_reducible refine goDGb_n (fun h => ?_) (fun h => ?_)
        | with_reducible refine goDGb_d (fun h => ?_) (fun h => ?_)
        | with_reducible refine goDGb_split (fun h => ?_) (fun h => ?_)
        | (refine goCall_norm ?_; simp only [AV.norm, AV.normL, W2, hlt, map_emb_kid hlt]; first | refine goCall_p (ih _ (kid_mem hlt)) (.inl rfl) ?_)
        | (refine goDCall_norm ?_; simp only [AV.norm, AV.normL, W2, hlt, map_emb_kid hlt]; first | refine goDCall_p (ih _ (kid_mem hlt)) (.inl rfl) ?_)) <;> first | simp only [h, ↓upd_eq, ↓envL_cons, Go.Ab.W0, guardOf, eff, effBuiltin, abin, abinInt, cellsAt, shift, AState.ev, AState.put, AState.new, ofVal, ofVal1, setRange, inplOf, if_true, if_false, reduceIte, Nat.reduceEqDiff, Nat.reduceAdd, Nat.reduceLT, Nat.reduceLeDiff, reduceCtorEq, Nat.reduceMul, implies_true, fillA, placeSt, fillE, elemsOf, effAppend, effSlice, optInt, reCells, forall_eq_or_imp, forall_eq, isAl, retP, AV.norm, AV.normL, Nat.reducePow, W1, hlt, map_emb_kid hlt] | simp only [↓upd_eq, ↓envL_cons, Go.Ab.W0, guardOf, eff, effBuiltin, abin, abinInt, cellsAt, shift, AState.ev, AState.put, AState.new, ofVal, ofVal1, setRange, inplOf, if_true, if_false, reduceIte, Nat.reduceEqDiff, Nat.reduceAdd, Nat.reduceLT, Nat.reduceLeDiff, reduceCtorEq, Nat.reduceMul, implies_true, fillA, placeSt, fillE, elemsOf, effAppend, effSlice, optInt, reCells, forall_eq_or_imp, forall_eq, isAl, retP, AV.norm, AV.normL, Nat.reducePow, W1, hlt, map_emb_kid hlt] | skip)
      all_goals first
        | exact (hfalse i hlt (by first | assumption | simp only [*])).symm
        | (refine ⟨i + 1, ⟨by omega, fun j hj => ?_⟩, by omega, weak_drop rfl rfl rfl rfl ?_ ?_ ?_⟩
           · rcases Nat.lt_succ_iff_lt_or_eq.1 hj with hj | rfl
             · exact hall j hj
             · first | assumption | simp only [*]
           all_goals simp only [List.forall_mem_cons, mem_nil_all, frz_app, ↓upd_eq, ↓envL_cons, Nat.reduceEqDiff, if_true, if_false, reduceIte, true_and, and_true, and_self, true_or, or_true, implies_true, List.not_mem_nil, false_implies, AV.bel, AV.belL, AObj.bel, AV.norm, AV.normL, Bool.and_true, Bool.true_and, decide_true, decide_eq_true_eq, List.length_cons, List.length_nil, Nat.zero_add, Nat.reduceAdd, Nat.lt_add_one, Nat.lt_add_right_iff_pos, Nat.zero_lt_succ, Nat.zero_lt_one, Nat.reduceLT, List.take_succ_cons, List.take_zero, wrap_succ hlt hmax, map_bel, AV.belL, List.length_map])
    · simp only [↓upd_eq, ↓envL_cons, Go.Ab.W0, guardOf, eff, effBuiltin, abin, abinInt, cellsAt, shift, AState.ev, AState.put, AState.new, ofVal, ofVal1, setRange, inplOf, if_true, if_false, reduceIte, Nat.reduceEqDiff, Nat.reduceAdd, Nat.reduceLT, Nat.reduceLeDiff, reduceCtorEq, Nat.reduceMul, implies_true, fillA, placeSt, fillE, elemsOf, effAppend, effSlice, optInt, reCells, forall_eq_or_imp, forall_eq, isAl, retP, AV.norm, AV.normL, Nat.reducePow, W1]
      exact (htrue fun j hj => hall j (by omega)).symm
  all_goals (rw [without_eq]; simp_all)
theorem rwithout_ok (t : Ty) (k : Int) : PCalls Try.prog 52 [emb t, .int .i64 k] (.bool (without k t)) := Ty.ind (p := fun t => PCalls Try.prog 52 [emb t, .int .i64 k] (.bool (without k t))) (fun t ih => rwithout_step t k ih) t

theorem leaf_ok (k : Int) : PCalls Try.prog 36 [.int .i64 k] (emb (leafT k)) := by
  refine pcalls_text C_ok Try.func36 rfl (by decide) (Nat.le_of_ble_eq_true rfl) (by decide) (emb_bel _ _) fun ok H => ?_
  rw [Try.results36]
  try simp only [↓upd_eq, ↓envL_cons, Go.Ab.W0, guardOf, eff, effBuiltin, abin, abinInt, cellsAt, shift, AState.ev, AState.put, AState.new, ofVal, ofVal1, setRange, inplOf, if_true, if_false, reduceIte, Nat.reduceEqDiff, Nat.reduceAdd, Nat.reduceLT, Nat.reduceLeDiff, reduceCtorEq, Nat.reduceMul, implies_true, fillA, placeSt, fillE, elemsOf, effAppend, effSlice, optInt, reCells, forall_eq_or_imp, forall_eq, isAl, retP, AV.norm, AV.normL, Nat.reducePow, W1]
  repeat' ((first
    | with_reducible refine goIf_b (fun h => ?_) (fun h => ?_)
    | with_reducible refine goIf_n (fun h => ?_) (fun h => ?_)
    | with_reducible refine goIf_d (fun h => ?_) (fun h => ?_)
    | with_reducible refine goIf_split (fun h => ?_) (fun h => ?_)
    | with_reducible refine goGb_b (fun h => ?_) (fun h => ?_)
    | with_reducible refine goGb_n (fun h => ?_) (fun h => ?_)
    | with_reducible refine goGb_d (fun h => ?_) (fun h => ?_)
    | with_reducible refine goGb_split (fun h => ?_) (fun h => ?_)
    | with_reducible refine goDGb_b (fun h => ?_) (fun h => ?_)
    | with_reducible refine goDGb_n (fun h => ?_) (fun h => ?_)
    | with_reducible refine goDGb_d (fun h => ?_) (fun h => ?_)
    | with_reducible refine goDGb_split (fun h => ?_) (fun h => ?_)) <;> first | simp only [h, ↓upd_eq, ↓envL_cons, Go.Ab.W0, guardOf, eff, effBuiltin, abin, abinInt, cellsAt, shift, AState.ev, AState.put, AState.new, ofVal, ofVal1, setRange, inplOf, if_true, if_false, reduceIte, Nat.reduceEqDiff, Nat.reduceAdd, Nat.reduceLT, Nat.reduceLeDiff, reduceCtorEq, Nat.reduceMul, implies_true, fillA, placeSt, fillE, elemsOf, effAppend, effSlice, optInt, reCells, forall_eq_or_imp, forall_eq, isAl, retP, AV.norm, AV.normL, Nat.reducePow, W1] | simp only [↓upd_eq, ↓envL_cons, Go.Ab.W0, guardOf, eff, effBuiltin, abin, abinInt, cellsAt, shift, AState.ev, AState.put, AState.new, ofVal, ofVal1, setRange, inplOf, if_true, if_false, reduceIte, Nat.reduceEqDiff, Nat.reduceAdd, Nat.reduceLT, Nat.reduceLeDiff, reduceCtorEq, Nat.reduceMul, implies_true, fillA, placeSt, fillE, elemsOf, effAppend, effSlice, optInt, reCells, forall_eq_or_imp, forall_eq, isAl, retP, AV.norm, AV.normL, Nat.reducePow, W1] | skip)
  all_goals simp [leafT]
theorem two_ok (k : Int) (a b : Ty) : PCalls Try.prog 45 [.int .i64 k, emb a, emb b] (emb (twoT k a b)) := by
  refine pcalls_text C_ok Try.func45 rfl (by decide) (Nat.le_of_ble_eq_true rfl) (by decide) (emb_bel _ _) fun ok H => ?_
  rw [Try.results45]
  try simp only [↓upd_eq, ↓envL_cons, Go.Ab.W0, guardOf, eff, effBuiltin, abin, abinInt, cellsAt, shift, AState.ev, AState.put, AState.new, ofVal, ofVal1, setRange, inplOf, if_true, if_false, reduceIte, Nat.reduceEqDiff, Nat.reduceAdd, Nat.reduceLT, Nat.reduceLeDiff, reduceCtorEq, Nat.reduceMul, implies_true, fillA, placeSt, fillE, elemsOf, effAppend, effSlice, optInt, reCells, forall_eq_or_imp, forall_eq, isAl, retP, AV.norm, AV.normL, Nat.reducePow, W1]
  repeat' ((first
    | with_reducible refine goIf_b (fun h => ?_) (fun h => ?_)
    | with_reducible refine goIf_n (fun h => ?_) (fun h => ?_)
    | with_reducible refine goIf_d (fun h => ?_) (fun h => ?_)
    | with_reducible refine goIf_split (fun h => ?_) (fun h => ?_)
    | with_reducible refine goGb_b (fun h => ?_) (fun h => ?_)
    | with_reducible refine goGb_n (fun h => ?_) (fun h => ?_)
    | with_reducible refine goGb_d (fun h => ?_) (fun h => ?_)
    | with_reducible refine goGb_split (fun h => ?_) (fun h => ?_)
    | with_reducible refine goDGb_b (fun h => ?_) (fun h => ?_)
    | with_reducible refine goDGb_n (fun h => ?_) (fun h => ?_)
    | with_reducible refine goDGb_d (fun h => ?_) (fun h => ?_)
    | with_reducible refine goDGb_split (fun h => ?_) (fun h => ?_)) <;> first | simp only [h, ↓upd_eq, ↓envL_cons, Go.Ab.W0, guardOf, eff, effBuiltin, abin, abinInt, cellsAt, shift, AState.ev, AState.put, AState.new, ofVal, ofVal1, setRange, inplOf, if_true, if_false, reduceIte, Nat.reduceEqDiff, Nat.reduceAdd, Nat.reduceLT, Nat.reduceLeDiff, reduceCtorEq, Nat.reduceMul, implies_true, fillA, placeSt, fillE, elemsOf, effAppend, effSlice, optInt, reCells, forall_eq_or_imp, forall_eq, isAl, retP, AV.norm, AV.normL, Nat.reducePow, W1] | simp only [↓upd_eq, ↓envL_cons, Go.Ab.W0, guardOf, eff, effBuiltin, abin, abinInt, cellsAt, shift, AState.ev, AState.put, AState.new, ofVal, ofVal1, setRange, inplOf, if_true, if_false, reduceIte, Nat.reduceEqDiff, Nat.reduceAdd, Nat.reduceLT, Nat.reduceLeDiff, reduceCtorEq, Nat.reduceMul, implies_true, fillA, placeSt, fillE, elemsOf, effAppend, effSlice, optInt, reCells, forall_eq_or_imp, forall_eq, isAl, retP, AV.norm, AV.normL, Nat.reducePow, W1] | skip)
  all_goals simp [twoT]
theorem list_ok (a : Ty) : PCalls Try.prog 46 [emb a] (emb (listT a)) := by
  refine pcalls_text C_ok Try.func46 rfl (by decide) (Nat.le_of_ble_eq_true rfl) (by decide) (emb_bel _ _) fun ok H => ?_
  rw [Try.results46]
  try simp only [↓upd_eq, ↓envL_cons, Go.Ab.W0, guardOf, eff, effBuiltin, abin, abinInt, cellsAt, shift, AState.ev, AState.put, AState.new, ofVal, ofVal1, setRange, inplOf, if_true, if_false, reduceIte, Nat.reduceEqDiff, Nat.reduceAdd, Nat.reduceLT, Nat.reduceLeDiff, reduceCtorEq, Nat.reduceMul, implies_true, fillA, placeSt, fillE, elemsOf, effAppend, effSlice, optInt, reCells, forall_eq_or_imp, forall_eq, isAl, retP, AV.norm, AV.normL, Nat.reducePow, W1]
  repeat' ((first
    | with_reducible refine goIf_b (fun h => ?_) (fun h => ?_)
    | with_reducible refine goIf_n (fun h => ?_) (fun h => ?_)
    | with_reducible refine goIf_d (fun h => ?_) (fun h => ?_)
    | with_reducible refine goIf_split (fun h => ?_) (fun h => ?_)
    | with_reducible refine goGb_b (fun h => ?_) (fun h => ?_)
    | with_reducible refine goGb_n (fun h => ?_) (fun h => ?_)
    | with_reducible refine goGb_d (fun h => ?_) (fun h => ?_)
    | with_reducible refine goGb_split (fun h => ?_) (fun h => ?_)
    | with_reducible refine goDGb_b (fun h => ?_) (fun h => ?_)
    | with_reducible refine goDGb_n (fun h => ?_) (fun h => ?_)
    | with_reducible refine goDGb_d (fun h => ?_) (fun h => ?_)
    | with_reducible refine goDGb_split (fun h => ?_) (fun h => ?_)) <;> first | simp only [h, ↓upd_eq, ↓envL_cons, Go.Ab.W0, guardOf, eff, effBuiltin, abin, abinInt, cellsAt, shift, AState.ev, AState.put, AState.new, ofVal, ofVal1, setRange, inplOf, if_true, if_false, reduceIte, Nat.reduceEqDiff, Nat.reduceAdd, Nat.reduceLT, Nat.reduceLeDiff, reduceCtorEq, Nat.reduceMul, implies_true, fillA, placeSt, fillE, elemsOf, effAppend, effSlice, optInt, reCells, forall_eq_or_imp, forall_eq, isAl, retP, AV.norm, AV.normL, Nat.reducePow, W1] | simp only [↓upd_eq, ↓envL_cons, Go.Ab.W0, guardOf, eff, effBuiltin, abin, abinInt, cellsAt, shift, AState.ev, AState.put, AState.new, ofVal, ofVal1, setRange, inplOf, if_true, if_false, reduceIte, Nat.reduceEqDiff, Nat.reduceAdd, Nat.reduceLT, Nat.reduceLeDiff, reduceCtorEq, Nat.reduceMul, implies_true, fillA, placeSt, fillE, elemsOf, effAppend, effSlice, optInt, reCells, forall_eq_or_imp, forall_eq, isAl, retP, AV.norm, AV.normL, Nat.reducePow, W1] | skip)
  all_goals simp [listT]

end Go.Proofs.Ytcpfjabjonpdaaa
