/- Walks: fill, put, Less. No condition. -/
import Derived.Test.YtcpfjabjonpdaaaF3
import Derived.Test.YtcpfjabjonpdaaaF6
import Derived.Test.YtcpfjabjonpdaaaF5
import Derived.Test.YtcpfjabjonpdaaaM4
set_option linter.unusedSimpArgs false
set_option linter.unusedVariables false
set_option maxHeartbeats 4000000
namespace Go.Proofs.Ytcpfjabjonpdaaa
open Go Go.Ab
attribute [local irreducible] PCalls ACalls CallK GoCall GoDCall GoIf GoGb GoDGb GoO GoD GoX GoDX GoG GoDG GoGv GoDGv Go ALoop

theorem fill_step (a b : Ty) (ha : right a = true) (hb : right b = true) (ih : ∀ x ∈ a.kids, ∀ y, right x = true → right y = true → PCalls Try.prog 68 [emb x, emb y] (emb (fillT x y))) : PCalls Try.prog 68 [emb a, emb b] (emb (fillT a b)) := by
  have hlen2 := right_len2 ha
  have hroom : ∀ i, i < a.kids.length → ((i + 1) * 40 ≤ 140737488355328) = True := fun i h => by simp only [eq_iff_iff, iff_true]; omega
  have hroom2 : ∀ i, i < a.kids.length → (i + 1 ≤ 9223372036854775807) = True := fun i h => by simp only [eq_iff_iff, iff_true]; omega
  by_cases hk : a.kind = b.kind
  · have hlen : b.kids.length = a.kids.length := right_len ha hb hk
    have hkk : (a.kind == b.kind) = true := by simp [hk]
    refine pcalls_text C_ok Try.func68 rfl (by decide) (Nat.le_of_ble_eq_true rfl) (by decide) (emb_bel _ _) fun ok H => ?_
    rw [Try.results68]
    try simp only [↓upd_eq, ↓envL_cons, Go.Ab.W0, guardOf, eff, effBuiltin, abin, abinInt, cellsAt, shift, AState.ev, AState.put, AState.new, ofVal, ofVal1, setRange, inplOf, if_true, if_false, reduceIte, Nat.reduceEqDiff, Nat.reduceAdd, Nat.reduceLT, Nat.reduceLeDiff, reduceCtorEq, Nat.reduceMul, implies_true, fillA, placeSt, fillE, elemsOf, effAppend, effSlice, optInt, reCells, forall_eq_or_imp, forall_eq, isAl, retP, AV.norm, AV.normL, Nat.reducePow, W1]
    repeat' ((first
      | with_reducible refine goIf_b (fun h => ?_) (fun h => ?_)
      | with_reducible refine goIf_n (fun h => ?_) (fun h => ?_)
      | with_reducible refine goIf_d (fun h => ?_) (fun h => ?_)
      | with_reducible refine goIf_split (fun h => ?_) (fun h => ?_)
      | with_reducible refine goGb_b (fun h => ?_) (fun h => ?_)
      | with_reducible refine goGb_n (fun h => ?_) (fun h => ?_)
      | with_reducible refine goGb_d (fun h => ?_) (fun h => ?_)
      | with_reducible refine goGb_split (fun h => ?_) (fun h => ?_)
      | with_reducible refine goDGb_b (fun h => ?_) (fun h => ?_)
      | with_reducible refine goDGb_n (fun h => ?_) (fun h => ?_)
      | with_reducible refine goDGb_d (fun h => ?_) (fun h => ?_)
      | with_reducible refine goDGb_split (fun h => ?_) (fun h => ?_)
      | refine go_draw (id := 9) C_ok mixed 0 Try.f68.ntmps rfl (by kernel_rfl) (by decide) ?_) <;> first | simp only [h, ↓upd_eq, ↓envL_cons, Go.Ab.W0, guardOf, eff, effBuiltin, abin, abinInt, cellsAt, shift, AState.ev, AState.put, AState.new, ofVal, ofVal1, setRange, inplOf, if_true, if_false, reduceIte, Nat.reduceEqDiff, Nat.reduceAdd, Nat.reduceLT, Nat.reduceLeDiff, reduceCtorEq, Nat.reduceMul, implies_true, fillA, placeSt, fillE, elemsOf, effAppend, effSlice, optInt, reCells, forall_eq_or_imp, forall_eq, isAl, retP, AV.norm, AV.normL, Nat.reducePow, W1] | simp only [↓upd_eq, ↓envL_cons, Go.Ab.W0, guardOf, eff, effBuiltin, abin, abinInt, cellsAt, shift, AState.ev, AState.put, AState.new, ofVal, ofVal1, setRange, inplOf, if_true, if_false, reduceIte, Nat.reduceEqDiff, Nat.reduceAdd, Nat.reduceLT, Nat.reduceLeDiff, reduceCtorEq, Nat.reduceMul, implies_true, fillA, placeSt, fillE, elemsOf, effAppend, effSlice, optInt, reCells, forall_eq_or_imp, forall_eq, isAl, retP, AV.norm, AV.normL, Nat.reducePow, W1] | skip)
    · rw [fillT_eq]; simp_all
    · have ha5 : a.kind ≠ 5 := by simp_all
      have hmax : a.kids.length ≤ maxLen := (emb_okay ok.1).1
      have hend : ∀ m, ¬ m < a.kids.length → m ≤ a.kids.length → emb (.mk a.kind a.num ((List.range m).map fun i => fillT (a.kid i) (b.kid i))) = emb (fillT a b) := fun m h1 h2 => by
        obtain rfl : m = a.kids.length := by omega
        rw [fillT_eq, if_neg ha5, if_pos hk]
      refine aloop_trim [6, 2, 3, 4, 5] ?_
      simp only [List.map_cons, List.map_nil, ↓upd_eq, ↓envL_cons, Go.Ab.W0, guardOf, eff, effBuiltin, abin, abinInt, cellsAt, shift, AState.ev, AState.put, AState.new, ofVal, ofVal1, setRange, inplOf, if_true, if_false, reduceIte, Nat.reduceEqDiff, Nat.reduceAdd, Nat.reduceLT, Nat.reduceLeDiff, reduceCtorEq, Nat.reduceMul, implies_true, fillA, placeSt, fillE, elemsOf, effAppend, effSlice, optInt, reCells, forall_eq_or_imp, forall_eq, isAl, retP, AV.norm, AV.normL, Nat.reducePow, W1]
      refine goLoopP 1 3 (fun i : Nat => [(6, .int .i64 i)]) (fun i => match i with
          | 0 => [.box [.int .i64 a.kind, .int .i64 a.num,.sl [] .full]]
          | i + 1 => [.box [.int .i64 a.kind, .int .i64 a.num,.sl (((List.range (i + 1)).map (fun i => fillT (a.kid i) (b.kid i))).map emb) (.own (H.length + 5))], .box (cellsOf (emb (fillT (a.kid 0) (b.kid 0)))),.tok (i + 1) 3]) (fun i => i ≤ a.kids.length) (fun i => a.kids.length - i) C_ok 0 rfl rfl (Nat.zero_le _) (by decide) ?_
      rintro (_ | i) hi
      · simp only [List.drop_succ_cons, List.drop_zero, List.cons_append, List.nil_append, List.take_succ_cons, List.take_zero]
        simp only [↓upd_eq, ↓envL_cons, Go.Ab.W0, guardOf, eff, effBuiltin, abin, abinInt, cellsAt, shift, AState.ev, AState.put, AState.new, ofVal, ofVal1, setRange, inplOf, if_true, if_false, reduceIte, Nat.reduceEqDiff, Nat.reduceAdd, Nat.reduceLT, Nat.reduceLeDiff, reduceCtorEq, Nat.reduceMul, implies_true, fillA, placeSt, fillE, elemsOf, effAppend, effSlice, optInt, reCells, forall_eq_or_imp, forall_eq, isAl, retP, AV.norm, AV.normL, Nat.reducePow, W1]
        refine goIf_d (fun hlt => ?_) (fun hlt => ?_)
        · try simp only [↓upd_eq, ↓envL_cons, Go.Ab.W0, guardOf, eff, effBuiltin, abin, abinInt, cellsAt, shift, AState.ev, AState.put, AState.new, ofVal, ofVal1, setRange, inplOf, if_true, if_false, reduceIte, Nat.reduceEqDiff, Nat.reduceAdd, Nat.reduceLT, Nat.reduceLeDiff, reduceCtorEq, Nat.reduceMul, implies_true, fillA, placeSt, fillE, elemsOf, effAppend, effSlice, optInt, reCells, forall_eq_or_imp, forall_eq, isAl, retP, AV.norm, AV.normL, Nat.reducePow, W1, hlt, hkk, map_emb_kid hlt, map_emb_kid (hlen.symm ▸ hlt), hlen, hroom 0 hlt, hroom2 0 hlt]
          repeat' ((first
            | with_reducible refine goIf_b (fun h => ?_) (fun h => ?_)
            | with_reducible refine goIf_n (fun h => ?_) (fun h => ?_)
            | with_reducible refine goIf_d (fun h => ?_) (fun h => ?_)
            | with_reducible refine goIf_split (fun h => ?_) (fun h => ?_)
            | with_reducible refine goGb_b (fun h => ?_) (fun h => ?_)
            | with_reducible refine goGb_n (fun h => ?_) (fun h => ?_)
            | with_reducible refine goGb_d (fun h => ?_) (fun h => ?_)
            | with_reducible refine goGb_split (fun h => ?_) (fun h => ?_)
            | with_reducible refine goDGb_b (fun h => ?_) (fun h => ?_)
            | with_reducible refine goDGb_n (fun h => ?_) (fun h => ?_)
            | with_reducible refine goDGb_d (fun h => ?_) (fun h => ?_)
            | with_reducible refine goDGb_split (fun h => ?_) (fun h => ?_)
            | (refine goCall_norm ?_; simp only [AV.norm, AV.normL, W2, hlt, hkk, map_emb_kid hlt, map_emb_kid (hlen.symm ▸ hlt), hlen, hroom 0 hlt, hroom2 0 hlt]; first | refine goCall_p (ih _ (kid_mem hlt) _ (right_kid ha hlt) (right_kid hb (hlen.symm ▸ hlt))) (.inl rfl) ?_)
            | (refine goDCall_norm ?_; simp only [AV.norm, AV.normL, W2, hlt, hkk, map_emb_kid hlt, map_emb_kid (hlen.symm ▸ hlt), hlen, hroom 0 hlt, hroom2 0 hlt]; first | refine goDCall_p (ih _ (kid_mem hlt) _ (right_kid ha hlt) (right_kid hb (hlen.symm ▸ hlt))) (.inl rfl) ?_)
            | refine go_draw (id := 9) C_ok mixed 0 Try.f68.ntmps rfl (by kernel_rfl) (by decide) ?_) <;> first | simp only [h, ↓upd_eq, ↓envL_cons, Go.Ab.W0, guardOf, eff, effBuiltin, abin, abinInt, cellsAt, shift, AState.ev, AState.put, AState.new, ofVal, ofVal1, setRange, inplOf, if_true, if_false, reduceIte, Nat.reduceEqDiff, Nat.reduceAdd, Nat.reduceLT, Nat.reduceLeDiff, reduceCtorEq, Nat.reduceMul, implies_true, fillA, placeSt, fillE, elemsOf, effAppend, effSlice, optInt, reCells, forall_eq_or_imp, forall_eq, isAl, retP, AV.norm, AV.normL, Nat.reducePow, W1, hlt, hkk, map_emb_kid hlt, map_emb_kid (hlen.symm ▸ hlt), hlen, hroom 0 hlt, hroom2 0 hlt] | simp only [↓upd_eq, ↓envL_cons, Go.Ab.W0, guardOf, eff, effBuiltin, abin, abinInt, cellsAt, shift, AState.ev, AState.put, AState.new, ofVal, ofVal1, setRange, inplOf, if_true, if_false, reduceIte, Nat.reduceEqDiff, Nat.reduceAdd, Nat.reduceLT, Nat.reduceLeDiff, reduceCtorEq, Nat.reduceMul, implies_true, fillA, placeSt, fillE, elemsOf, effAppend, effSlice, optInt, reCells, forall_eq_or_imp, forall_eq, isAl, retP, AV.norm, AV.normL, Nat.reducePow, W1, hlt, hkk, map_emb_kid hlt, map_emb_kid (hlen.symm ▸ hlt), hlen, hroom 0 hlt, hroom2 0 hlt] | skip)
          all_goals (refine ⟨0 + 1, hlt, by omega, weak_drop rfl rfl rfl ?_ ?_ ?_ ?_⟩ <;> (try simp only [List.forall_mem_cons, mem_nil_all, frz_app, ↓upd_eq, ↓envL_cons, Nat.reduceEqDiff, if_true, if_false, reduceIte, true_and, and_true, and_self, true_or, or_true, implies_true, List.not_mem_nil, false_implies, AV.bel, AV.belL, AObj.bel, AV.norm, AV.normL, Bool.and_true, Bool.true_and, decide_true, decide_eq_true_eq, List.length_cons, List.length_nil, Nat.zero_add, Nat.reduceAdd, Nat.lt_add_one, Nat.lt_add_right_iff_pos, Nat.zero_lt_succ, Nat.zero_lt_one, Nat.reduceLT, List.take_succ_cons, List.take_zero, wrap_succ hlt hmax, map_bel, map_norm, AV.belL, List.length_map]) <;> (try simp [List.range_succ, emb_cells]) <;> (try omega))
        · simp only [↓upd_eq, ↓envL_cons, Go.Ab.W0, guardOf, eff, effBuiltin, abin, abinInt, cellsAt, shift, AState.ev, AState.put, AState.new, ofVal, ofVal1, setRange, inplOf, if_true, if_false, reduceIte, Nat.reduceEqDiff, Nat.reduceAdd, Nat.reduceLT, Nat.reduceLeDiff, reduceCtorEq, Nat.reduceMul, implies_true, fillA, placeSt, fillE, elemsOf, effAppend, effSlice, optInt, reCells, forall_eq_or_imp, forall_eq, isAl, retP, AV.norm, AV.normL, Nat.reducePow, W1]
          exact hend 0 hlt hi
      · simp only [List.drop_succ_cons, List.drop_zero, List.cons_append, List.nil_append, List.take_succ_cons, List.take_zero]
        simp only [↓upd_eq, ↓envL_cons, Go.Ab.W0, guardOf, eff, effBuiltin, abin, abinInt, cellsAt, shift, AState.ev, AState.put, AState.new, ofVal, ofVal1, setRange, inplOf, if_true, if_false, reduceIte, Nat.reduceEqDiff, Nat.reduceAdd, Nat.reduceLT, Nat.reduceLeDiff, reduceCtorEq, Nat.reduceMul, implies_true, fillA, placeSt, fillE, elemsOf, effAppend, effSlice, optInt, reCells, forall_eq_or_imp, forall_eq, isAl, retP, AV.norm, AV.normL, Nat.reducePow, W1]
        refine goIf_d (fun hlt => ?_) (fun hlt => ?_)
        · try simp only [↓upd_eq, ↓envL_cons, Go.Ab.W0, guardOf, eff, effBuiltin, abin, abinInt, cellsAt, shift, AState.ev, AState.put, AState.new, ofVal, ofVal1, setRange, inplOf, if_true, if_false, reduceIte, Nat.reduceEqDiff, Nat.reduceAdd, Nat.reduceLT, Nat.reduceLeDiff, reduceCtorEq, Nat.reduceMul, implies_true, fillA, placeSt, fillE, elemsOf, effAppend, effSlice, optInt, reCells, forall_eq_or_imp, forall_eq, isAl, retP, AV.norm, AV.normL, Nat.reducePow, W1, hlt, hkk, map_emb_kid hlt, map_emb_kid (hlen.symm ▸ hlt), hlen, hroom (i + 1) hlt, hroom2 (i + 1) hlt]
          repeat' ((first
            | with_reducible refine goIf_b (fun h => ?_) (fun h => ?_)
            | with_reducible refine goIf_n (fun h => ?_) (fun h => ?_)
            | with_reducible refine goIf_d (fun h => ?_) (fun h => ?_)
            | with_reducible refine goIf_split (fun h => ?_) (fun h => ?_)
            | with_reducible refine goGb_b (fun h => ?_) (fun h => ?_)
            | with_reducible refine goGb_n (fun h => ?_) (fun h => ?_)
            | with_reducible refine goGb_d (fun h => ?_) (fun h => ?_)
            | with_reducible refine goGb_split (fun h => ?_) (fun h => ?_)
            | with_reducible refine goDGb_b (fun h => ?_) (fun h => ?_)
            | with_reducible refine goDGb_n (fun h => ?_) (fun h => ?_)
            | with_reducible refine goDGb_d (fun h => ?_) (fun h => ?_)
            | with_reducible refine goDGb_split (fun h => ?_) (fun h => ?_)
            | (refine goCall_norm ?_; simp only [AV.norm, AV.normL, W2, hlt, hkk, map_emb_kid hlt, map_emb_kid (hlen.symm ▸ hlt), hlen, hroom (i + 1) hlt, hroom2 (i + 1) hlt]; first | refine goCall_p (ih _ (kid_mem hlt) _ (right_kid ha hlt) (right_kid hb (hlen.symm ▸ hlt))) (.inl rfl) ?_)
            | (refine goDCall_norm ?_; simp only [AV.norm, AV.normL, W2, hlt, hkk, map_emb_kid hlt, map_emb_kid (hlen.symm ▸ hlt), hlen, hroom (i + 1) hlt, hroom2 (i + 1) hlt]; first | refine goDCall_p (ih _ (kid_mem hlt) _ (right_kid ha hlt) (right_kid hb (hlen.symm ▸ hlt))) (.inl rfl) ?_)
            | refine go_draw (id := 9) C_ok mixed 0 Try.f68.ntmps rfl (by kernel_rfl) (by decide) ?_) <;> first | simp only [h, ↓upd_eq, ↓envL_cons, Go.Ab.W0, guardOf, eff, effBuiltin, abin, abinInt, cellsAt, shift, AState.ev, AState.put, AState.new, ofVal, ofVal1, setRange, inplOf, if_true, if_false, reduceIte, Nat.reduceEqDiff, Nat.reduceAdd, Nat.reduceLT, Nat.reduceLeDiff, reduceCtorEq, Nat.reduceMul, implies_true, fillA, placeSt, fillE, elemsOf, effAppend, effSlice, optInt, reCells, forall_eq_or_imp, forall_eq, isAl, retP, AV.norm, AV.normL, Nat.reducePow, W1, hlt, hkk, map_emb_kid hlt, map_emb_kid (hlen.symm ▸ hlt), hlen, hroom (i + 1) hlt, hroom2 (i + 1) hlt] | simp only [↓upd_eq, ↓envL_cons, Go.Ab.W0, guardOf, eff, effBuiltin, abin, abinInt, cellsAt, shift, AState.ev, AState.put, AState.new, ofVal, ofVal1, setRange, inplOf, if_true, if_false, reduceIte, Nat.reduceEqDiff, Nat.reduceAdd, Nat.reduceLT, Nat.reduceLeDiff, reduceCtorEq, Nat.reduceMul, implies_true, fillA, placeSt, fillE, elemsOf, effAppend, effSlice, optInt, reCells, forall_eq_or_imp, forall_eq, isAl, retP, AV.norm, AV.normL, Nat.reducePow, W1, hlt, hkk, map_emb_kid hlt, map_emb_kid (hlen.symm ▸ hlt), hlen, hroom (i + 1) hlt, hroom2 (i + 1) hlt] | skip)
          all_goals (refine ⟨i + 1 + 1, hlt, by omega, weak_drop rfl rfl rfl ?_ ?_ ?_ ?_⟩ <;> (try simp only [List.forall_mem_cons, mem_nil_all, frz_app, ↓upd_eq, ↓envL_cons, Nat.reduceEqDiff, if_true, if_false, reduceIte, true_and, and_true, and_self, true_or, or_true, implies_true, List.not_mem_nil, false_implies, AV.bel, AV.belL, AObj.bel, AV.norm, AV.normL, Bool.and_true, Bool.true_and, decide_true, decide_eq_true_eq, List.length_cons, List.length_nil, Nat.zero_add, Nat.reduceAdd, Nat.lt_add_one, Nat.lt_add_right_iff_pos, Nat.zero_lt_succ, Nat.zero_lt_one, Nat.reduceLT, List.take_succ_cons, List.take_zero, wrap_succ hlt hmax, map_bel, map_norm, AV.belL, List.length_map]) <;> (try simp [List.range_succ, emb_cells]) <;> (try omega))
        · simp only [↓upd_eq, ↓envL_cons, Go.Ab.W0, guardOf, eff, effBuiltin, abin, abinInt, cellsAt, shift, AState.ev, AState.put, AState.new, ofVal, ofVal1, setRange, inplOf, if_true, if_false, reduceIte, Nat.reduceEqDiff, Nat.reduceAdd, Nat.reduceLT, Nat.reduceLeDiff, reduceCtorEq, Nat.reduceMul, implies_true, fillA, placeSt, fillE, elemsOf, effAppend, effSlice, optInt, reCells, forall_eq_or_imp, forall_eq, isAl, retP, AV.norm, AV.normL, Nat.reducePow, W1]
          exact hend (i + 1) hlt hi
  · have hkk : (a.kind == b.kind) = false := by simp [hk]
    refine pcalls_text C_ok Try.func68 rfl (by decide) (Nat.le_of_ble_eq_true rfl) (by decide) (emb_bel _ _) fun ok H => ?_
    rw [Try.results68]
    try simp only [↓upd_eq, ↓envL_cons, Go.Ab.W0, guardOf, eff, effBuiltin, abin, abinInt, cellsAt, shift, AState.ev, AState.put, AState.new, ofVal, ofVal1, setRange, inplOf, if_true, if_false, reduceIte, Nat.reduceEqDiff, Nat.reduceAdd, Nat.reduceLT, Nat.reduceLeDiff, reduceCtorEq, Nat.reduceMul, implies_true, fillA, placeSt, fillE, elemsOf, effAppend, effSlice, optInt, reCells, forall_eq_or_imp, forall_eq, isAl, retP, AV.norm, AV.normL, Nat.reducePow, W1]
    repeat' ((first
      | with_reducible refine goIf_b (fun h => ?_) (fun h => ?_)
      | with_reducible refine goIf_n (fun h => ?_) (fun h => ?_)
      | with_reducible refine goIf_d (fun h => ?_) (fun h => ?_)
      | with_reducible refine goIf_split (fun h => ?_) (fun h => ?_)
      | with_reducible refine goGb_b (fun h => ?_) (fun h => ?_)
      | with_reducible refine goGb_n (fun h => ?_) (fun h => ?_)
      | with_reducible refine goGb_d (fun h => ?_) (fun h => ?_)
      | with_reducible refine goGb_split (fun h => ?_) (fun h => ?_)
      | with_reducible refine goDGb_b (fun h => ?_) (fun h => ?_)
      | with_reducible refine goDGb_n (fun h => ?_) (fun h => ?_)
      | with_reducible refine goDGb_d (fun h => ?_) (fun h => ?_)
      | with_reducible refine goDGb_split (fun h => ?_) (fun h => ?_)
      | refine go_draw (id := 9) C_ok mixed 0 Try.f68.ntmps rfl (by kernel_rfl) (by decide) ?_) <;> first | simp only [h, ↓upd_eq, ↓envL_cons, Go.Ab.W0, guardOf, eff, effBuiltin, abin, abinInt, cellsAt, shift, AState.ev, AState.put, AState.new, ofVal, ofVal1, setRange, inplOf, if_true, if_false, reduceIte, Nat.reduceEqDiff, Nat.reduceAdd, Nat.reduceLT, Nat.reduceLeDiff, reduceCtorEq, Nat.reduceMul, implies_true, fillA, placeSt, fillE, elemsOf, effAppend, effSlice, optInt, reCells, forall_eq_or_imp, forall_eq, isAl, retP, AV.norm, AV.normL, Nat.reducePow, W1] | simp only [↓upd_eq, ↓envL_cons, Go.Ab.W0, guardOf, eff, effBuiltin, abin, abinInt, cellsAt, shift, AState.ev, AState.put, AState.new, ofVal, ofVal1, setRange, inplOf, if_true, if_false, reduceIte, Nat.reduceEqDiff, Nat.reduceAdd, Nat.reduceLT, Nat.reduceLeDiff, reduceCtorEq, Nat.reduceMul, implies_true, fillA, placeSt, fillE, elemsOf, effAppend, effSlice, optInt, reCells, forall_eq_or_imp, forall_eq, isAl, retP, AV.norm, AV.normL, Nat.reducePow, W1] | skip)
    · rw [fillT_eq]; simp_all
    · have ha5 : a.kind ≠ 5 := by simp_all
      have hmax : a.kids.length ≤ maxLen := (emb_okay ok.1).1
      have hend : ∀ m, ¬ m < a.kids.length → m ≤ a.kids.length → emb (.mk a.kind a.num ((List.range m).map fun i => a.kid i)) = emb (fillT a b) := fun m h1 h2 => by
        obtain rfl : m = a.kids.length := by omega
        rw [fillT_eq]; simp only [ha5, hk, if_false]
        exact congrArg (fun l => emb (.mk a.kind a.num l)) (range_kids a)
      refine aloop_trim [6, 2, 3, 4, 5] ?_
      simp only [List.map_cons, List.map_nil, ↓upd_eq, ↓envL_cons, Go.Ab.W0, guardOf, eff, effBuiltin, abin, abinInt, cellsAt, shift, AState.ev, AState.put, AState.new, ofVal, ofVal1, setRange, inplOf, if_true, if_false, reduceIte, Nat.reduceEqDiff, Nat.reduceAdd, Nat.reduceLT, Nat.reduceLeDiff, reduceCtorEq, Nat.reduceMul, implies_true, fillA, placeSt, fillE, elemsOf, effAppend, effSlice, optInt, reCells, forall_eq_or_imp, forall_eq, isAl, retP, AV.norm, AV.normL, Nat.reducePow, W1]
      refine goLoopP 1 3 (fun i : Nat => [(6, .int .i64 i)]) (fun i => match i with
          | 0 => [.box [.int .i64 a.kind, .int .i64 a.num,.sl [] .full]]
          | i + 1 => [.box [.int .i64 a.kind, .int .i64 a.num,.sl (((List.range (i + 1)).map (fun i => a.kid i)).map emb) (.own (H.length + 5))], .box (cellsOf (emb (a.kid 0))),.tok (i + 1) 3]) (fun i => i ≤ a.kids.length) (fun i => a.kids.length - i) C_ok 0 rfl rfl (Nat.zero_le _) (by decide) ?_
      rintro (_ | i) hi
      · simp only [List.drop_succ_cons, List.drop_zero, List.cons_append, List.nil_append, List.take_succ_cons, List.take_zero]
        simp only [↓upd_eq, ↓envL_cons, Go.Ab.W0, guardOf, eff, effBuiltin, abin, abinInt, cellsAt, shift, AState.ev, AState.put, AState.new, ofVal, ofVal1, setRange, inplOf, if_true, if_false, reduceIte, Nat.reduceEqDiff, Nat.reduceAdd, Nat.reduceLT, Nat.reduceLeDiff, reduceCtorEq, Nat.reduceMul, implies_true, fillA, placeSt, fillE, elemsOf, effAppend, effSlice, optInt, reCells, forall_eq_or_imp, forall_eq, isAl, retP, AV.norm, AV.normL, Nat.reducePow, W1]
        refine goIf_d (fun hlt => ?_) (fun hlt => ?_)
        · try simp only [↓upd_eq, ↓envL_cons, Go.Ab.W0, guardOf, eff, effBuiltin, abin, abinInt, cellsAt, shift, AState.ev, AState.put, AState.new, ofVal, ofVal1, setRange, inplOf, if_true, if_false, reduceIte, Nat.reduceEqDiff, Nat.reduceAdd, Nat.reduceLT, Nat.reduceLeDiff, reduceCtorEq, Nat.reduceMul, implies_true, fillA, placeSt, fillE, elemsOf, effAppend, effSlice, optInt, reCells, forall_eq_or_imp, forall_eq, isAl, retP, AV.norm, AV.normL, Nat.reducePow, W1, hlt, hkk, map_emb_kid hlt, hroom 0 hlt, hroom2 0 hlt]
          repeat' ((first
            | with_reducible refine goIf_b (fun h => ?_) (fun h => ?_)
            | with_reducible refine goIf_n (fun h => ?_) (fun h => ?_)
            | with_reducible refine goIf_d (fun h => ?_) (fun h => ?_)
            | with_reducible refine goIf_split (fun h => ?_) (fun h => ?_)
            | with_reducible refine goGb_b (fun h => ?_) (fun h => ?_)
            | with_reducible refine goGb_n (fun h => ?_) (fun h => ?_)
            | with_reducible refine goGb_d (fun h => ?_) (fun h => ?_)
            | with_reducible refine goGb_split (fun h => ?_) (fun h => ?_)
            | with_reducible refine goDGb_b (fun h => ?_) (fun h => ?_)
            | with_reducible refine goDGb_n (fun h => ?_) (fun h => ?_)
            | with_reducible refine goDGb_d (fun h => ?_) (fun h => ?_)
            | with_reducible refine goDGb_split (fun h => ?_) (fun h => ?_)
            | refine go_draw (id := 9) C_ok mixed 0 Try.f68.ntmps rfl (by kernel_rfl) (by decide) ?_) <;> first | simp only [h, ↓upd_eq, ↓envL_cons, Go.Ab.W0, guardOf, eff, effBuiltin, abin, abinInt, cellsAt, shift, AState.ev, AState.put, AState.new, ofVal, ofVal1, setRange, inplOf, if_true, if_false, reduceIte, Nat.reduceEqDiff, Nat.reduceAdd, Nat.reduceLT, Nat.reduceLeDiff, reduceCtorEq, Nat.reduceMul, implies_true, fillA, placeSt, fillE, elemsOf, effAppend, effSlice, optInt, reCells, forall_eq_or_imp, forall_eq, isAl, retP, AV.norm, AV.normL, Nat.reducePow, W1, hlt, hkk, map_emb_kid hlt, hroom 0 hlt, hroom2 0 hlt] | simp only [↓upd_eq, ↓envL_cons, Go.Ab.W0, guardOf, eff, effBuiltin, abin, abinInt, cellsAt, shift, AState.ev, AState.put, AState.new, ofVal, ofVal1, setRange, inplOf, if_true, if_false, reduceIte, Nat.reduceEqDiff, Nat.reduceAdd, Nat.reduceLT, Nat.reduceLeDiff, reduceCtorEq, Nat.reduceMul, implies_true, fillA, placeSt, fillE, elemsOf, effAppend, effSlice, optInt, reCells, forall_eq_or_imp, forall_eq, isAl, retP, AV.norm, AV.normL, Nat.reducePow, W1, hlt, hkk, map_emb_kid hlt, hroom 0 hlt, hroom2 0 hlt] | skip)
          all_goals (refine ⟨0 + 1, hlt, by omega, weak_drop rfl rfl rfl ?_ ?_ ?_ ?_⟩ <;> (try simp only [List.forall_mem_cons, mem_nil_all, frz_app, ↓upd_eq, ↓envL_cons, Nat.reduceEqDiff, if_true, if_false, reduceIte, true_and, and_true, and_self, true_or, or_true, implies_true, List.not_mem_nil, false_implies, AV.bel, AV.belL, AObj.bel, AV.norm, AV.normL, Bool.and_true, Bool.true_and, decide_true, decide_eq_true_eq, List.length_cons, List.length_nil, Nat.zero_add, Nat.reduceAdd, Nat.lt_add_one, Nat.lt_add_right_iff_pos, Nat.zero_lt_succ, Nat.zero_lt_one, Nat.reduceLT, List.take_succ_cons, List.take_zero, wrap_succ hlt hmax, map_bel, map_norm, AV.belL, List.length_map]) <;> (try simp [List.range_succ, emb_cells]) <;> (try omega))
        · simp only [↓upd_eq, ↓envL_cons, Go.Ab.W0, guardOf, eff, effBuiltin, abin, abinInt, cellsAt, shift, AState.ev, AState.put, AState.new, ofVal, ofVal1, setRange, inplOf, if_true, if_false, reduceIte, Nat.reduceEqDiff, Nat.reduceAdd, Nat.reduceLT, Nat.reduceLeDiff, reduceCtorEq, Nat.reduceMul, implies_true, fillA, placeSt, fillE, elemsOf, effAppend, effSlice, optInt, reCells, forall_eq_or_imp, forall_eq, isAl, retP, AV.norm, AV.normL, Nat.reducePow, W1]
          exact hend 0 hlt hi
      · simp only [List.drop_succ_cons, List.drop_zero, List.cons_append, List.nil_append, List.take_succ_cons, List.take_zero]
        simp only [↓upd_eq, ↓envL_cons, Go.Ab.W0, guardOf, eff, effBuiltin, abin, abinInt, cellsAt, shift, AState.ev, AState.put, AState.new, ofVal, ofVal1, setRange, inplOf, if_true, if_false, reduceIte, Nat.reduceEqDiff, Nat.reduceAdd, Nat.reduceLT, Nat.reduceLeDiff, reduceCtorEq, Nat.reduceMul, implies_true, fillA, placeSt, fillE, elemsOf, effAppend, effSlice, optInt, reCells, forall_eq_or_imp, forall_eq, isAl, retP, AV.norm, AV.normL, Nat.reducePow, W1]
        refine goIf_d (fun hlt => ?_) (fun hlt => ?_)
        · try simp only [↓upd_eq, ↓envL_cons, Go.Ab.W0, guardOf, eff, effBuiltin, abin, abinInt, cellsAt, shift, AState.ev, AState.put, AState.new, ofVal, ofVal1, setRange, inplOf, if_true, if_false, reduceIte, Nat.reduceEqDiff, Nat.reduceAdd, Nat.reduceLT, Nat.reduceLeDiff, reduceCtorEq, Nat.reduceMul, implies_true, fillA, placeSt, fillE, elemsOf, effAppend, effSlice, optInt, reCells, forall_eq_or_imp, forall_eq, isAl, retP, AV.norm, AV.normL, Nat.reducePow, W1, hlt, hkk, map_emb_kid hlt, hroom (i + 1) hlt, hroom2 (i + 1) hlt]
          repeat' ((first
            | with_reducible refine goIf_b (fun h => ?_) (fun h => ?_)
            | with_reducible refine goIf_n (fun h => ?_) (fun h => ?_)
            | with_reducible refine goIf_d (fun h => ?_) (fun h => ?_)
            | with_reducible refine goIf_split (fun h => ?_) (fun h => ?_)
            | with_reducible refine goGb_b (fun h => ?_) (fun h => ?_)
            | with_reducible refine goGb_n (fun h => ?_) (fun h => ?_)
            | with_reducible refine goGb_d (fun h => ?_) (fun h => ?_)
            | with_reducible refine goGb_split (fun h => ?_) (fun h => ?_)
            | with_reducible refine goDGb_b (fun h => ?_) (fun h => ?_)
            | with_reducible refine goDGb_n (fun h => ?_) (fun h => ?_)
            | with_reducible refine goDGb_d (fun h => ?_) (fun h => ?_)
            | with_reducible refine goDGb_split (fun h => ?_) (fun h => ?_)
            | refine go_draw (id := 9) C_ok mixed 0 Try.f68.ntmps rfl (by kernel_rfl) (by decide) ?_) <;> first | simp only [h, ↓upd_eq, ↓envL_cons, Go.Ab.W0, guardOf, eff, effBuiltin, abin, abinInt, cellsAt, shift, AState.ev, AState.put, AState.new, ofVal, ofVal1, setRange, inplOf, if_true, if_false, reduceIte, Nat.reduceEqDiff, Nat.reduceAdd, Nat.reduceLT, Nat.reduceLeDiff, reduceCtorEq, Nat.reduceMul, implies_true, fillA, placeSt, fillE, elemsOf, effAppend, effSlice, optInt, reCells, forall_eq_or_imp, forall_eq, isAl, retP, AV.norm, AV.normL, Nat.reducePow, W1, hlt, hkk, map_emb_kid hlt, hroom (i + 1) hlt, hroom2 (i + 1) hlt] | simp only [↓upd_eq, ↓envL_cons, Go.Ab.W0, guardOf, eff, effBuiltin, abin, abinInt, cellsAt, shift, AState.ev, AState.put, AState.new, ofVal, ofVal1, setRange, inplOf, if_true, if_false, reduceIte, Nat.reduceEqDiff, Nat.reduceAdd, Nat.reduceLT, Nat.reduceLeDiff, reduceCtorEq, Nat.reduceMul, implies_true, fillA, placeSt, fillE, elemsOf, effAppend, effSlice, optInt, reCells, forall_eq_or_imp, forall_eq, isAl, retP, AV.norm, AV.normL, Nat.reducePow, W1, hlt, hkk, map_emb_kid hlt, hroom (i + 1) hlt, hroom2 (i + 1) hlt] | skip)
          all_goals (refine ⟨i + 1 + 1, hlt, by omega, weak_drop rfl rfl rfl ?_ ?_ ?_ ?_⟩ <;> (try simp only [List.forall_mem_cons, mem_nil_all, frz_app, ↓upd_eq, ↓envL_cons, Nat.reduceEqDiff, if_true, if_false, reduceIte, true_and, and_true, and_self, true_or, or_true, implies_true, List.not_mem_nil, false_implies, AV.bel, AV.belL, AObj.bel, AV.norm, AV.normL, Bool.and_true, Bool.true_and, decide_true, decide_eq_true_eq, List.length_cons, List.length_nil, Nat.zero_add, Nat.reduceAdd, Nat.lt_add_one, Nat.lt_add_right_iff_pos, Nat.zero_lt_succ, Nat.zero_lt_one, Nat.reduceLT, List.take_succ_cons, List.take_zero, wrap_succ hlt hmax, map_bel, map_norm, AV.belL, List.length_map]) <;> (try simp [List.range_succ, emb_cells]) <;> (try omega))
        · simp only [↓upd_eq, ↓envL_cons, Go.Ab.W0, guardOf, eff, effBuiltin, abin, abinInt, cellsAt, shift, AState.ev, AState.put, AState.new, ofVal, ofVal1, setRange, inplOf, if_true, if_false, reduceIte, Nat.reduceEqDiff, Nat.reduceAdd, Nat.reduceLT, Nat.reduceLeDiff, reduceCtorEq, Nat.reduceMul, implies_true, fillA, placeSt, fillE, elemsOf, effAppend, effSlice, optInt, reCells, forall_eq_or_imp, forall_eq, isAl, retP, AV.norm, AV.normL, Nat.reducePow, W1]
          exact hend (i + 1) hlt hi
theorem fill_ok : ∀ (a b : Ty), right a = true → right b = true → PCalls Try.prog 68 [emb a, emb b] (emb (fillT a b)) :=
  Ty.ind (p := fun a => ∀ b, right a = true → right b = true → PCalls Try.prog 68 [emb a, emb b] (emb (fillT a b))) fun a ih b ha hb => fill_step a b ha hb fun x hx y => ih x hx y

theorem range_map_kids (t : Ty) (g : Ty → Ty) : (List.range t.kids.length).map (fun i => g (t.kid i)) = t.kids.map g := by
  conv => rhs; rw [← range_kids t]
  simp [Function.comp_def]

theorem put_step (t : Ty) (v : Int) (hs : nodes t ≤ 1048576) (ih : ∀ x ∈ t.kids, PCalls Try.prog 67 [emb x, .int .i64 v] (emb (putT v x))) : PCalls Try.prog 67 [emb t, .int .i64 v] (emb (putT v t)) := by
  have hlen := length_lt_nodes t
  have hroom : ∀ i, i < t.kids.length → ((i + 1) * 40 ≤ 140737488355328) = True := fun i h => by simp only [eq_iff_iff, iff_true]; omega
  have hroom2 : ∀ i, i < t.kids.length → (i + 1 ≤ 9223372036854775807) = True := fun i h => by simp only [eq_iff_iff, iff_true]; omega
  refine pcalls_text C_ok Try.func67 rfl (by decide) (Nat.le_of_ble_eq_true rfl) (by decide) (emb_bel _ _) fun ok H => ?_
  rw [Try.results67]
  try simp only [↓upd_eq, ↓envL_cons, Go.Ab.W0, guardOf, eff, effBuiltin, abin, abinInt, cellsAt, shift, AState.ev, AState.put, AState.new, ofVal, ofVal1, setRange, inplOf, if_true, if_false, reduceIte, Nat.reduceEqDiff, Nat.reduceAdd, Nat.reduceLT, Nat.reduceLeDiff, reduceCtorEq, Nat.reduceMul, implies_true, fillA, placeSt, fillE, elemsOf, effAppend, effSlice, optInt, reCells, forall_eq_or_imp, forall_eq, isAl, retP, AV.norm, AV.normL, Nat.reducePow, W1]
  repeat' ((first
    | with_reducible refine goIf_b (fun h => ?_) (fun h => ?_)
    | with_reducible refine goIf_n (fun h => ?_) (fun h => ?_)
    | with_reducible refine goIf_d (fun h => ?_) (fun h => ?_)
    | with_reducible refine goIf_split (fun h => ?_) (fun h => ?_)
    | with_reducible refine goGb_b (fun h => ?_) (fun h => ?_)
    | with_reducible refine goGb_n (fun h => ?_) (fun h => ?_)
    | with_reducible refine goGb_d (fun h => ?_) (fun h => ?_)
    | with_reducible refine goGb_split (fun h => ?_) (fun h => ?_)
    | with_reducible refine goDGb_b (fun h => ?_) (fun h => ?_)
    | with_reducible refine goDGb_n (fun h => ?_) (fun h => ?_)
    | with_reducible refine goDGb_d (fun h => ?_) (fun h => ?_)
    | with_reducible refine goDGb_split (fun h => ?_) (fun h => ?_)
    | refine go_draw (id := 7) C_ok mixed 0 Try.f67.ntmps rfl (by kernel_rfl) (by decide) ?_) <;> first | simp only [h, ↓upd_eq, ↓envL_cons, Go.Ab.W0, guardOf, eff, effBuiltin, abin, abinInt, cellsAt, shift, AState.ev, AState.put, AState.new, ofVal, ofVal1, setRange, inplOf, if_true, if_false, reduceIte, Nat.reduceEqDiff, Nat.reduceAdd, Nat.reduceLT, Nat.reduceLeDiff, reduceCtorEq, Nat.reduceMul, implies_true, fillA, placeSt, fillE, elemsOf, effAppend, effSlice, optInt, reCells, forall_eq_or_imp, forall_eq, isAl, retP, AV.norm, AV.normL, Nat.reducePow, W1] | simp only [↓upd_eq, ↓envL_cons, Go.Ab.W0, guardOf, eff, effBuiltin, abin, abinInt, cellsAt, shift, AState.ev, AState.put, AState.new, ofVal, ofVal1, setRange, inplOf, if_true, if_false, reduceIte, Nat.reduceEqDiff, Nat.reduceAdd, Nat.reduceLT, Nat.reduceLeDiff, reduceCtorEq, Nat.reduceMul, implies_true, fillA, placeSt, fillE, elemsOf, effAppend, effSlice, optInt, reCells, forall_eq_or_imp, forall_eq, isAl, retP, AV.norm, AV.normL, Nat.reducePow, W1] | skip)
  · have ht5 : t.kind = 5 := by simp_all
    have hmax : t.kids.length ≤ maxLen := (emb_okay ok.1).1
    have hend : ∀ m, ¬ m < t.kids.length → m ≤ t.kids.length → emb (.mk 6 v ((List.range m).map fun i => putT v (t.kid i))) = emb (putT v t) := fun m h1 h2 => by
      obtain rfl : m = t.kids.length := by omega
      rw [putT_eq, range_map_kids]; simp [ht5]
    refine aloop_trim [6, 1, 2, 4, 5] ?_
    simp only [List.map_cons, List.map_nil, ↓upd_eq, ↓envL_cons, Go.Ab.W0, guardOf, eff, effBuiltin, abin, abinInt, cellsAt, shift, AState.ev, AState.put, AState.new, ofVal, ofVal1, setRange, inplOf, if_true, if_false, reduceIte, Nat.reduceEqDiff, Nat.reduceAdd, Nat.reduceLT, Nat.reduceLeDiff, reduceCtorEq, Nat.reduceMul, implies_true, fillA, placeSt, fillE, elemsOf, effAppend, effSlice, optInt, reCells, forall_eq_or_imp, forall_eq, isAl, retP, AV.norm, AV.normL, Nat.reducePow, W1]
    refine goLoopP 1 2 (fun i : Nat => [(6, .int .i64 i)]) (fun i => match i with
        | 0 => [.box [.int .i64 6, .int .i64 v,.sl [] .full]]
        | i + 1 => [.box [.int .i64 6, .int .i64 v,.sl (((List.range (i + 1)).map (fun i => putT v (t.kid i))).map emb) (.own (H.length + 3))], .tok (i + 1) 3]) (fun i => i ≤ t.kids.length) (fun i => t.kids.length - i) C_ok 0 rfl rfl (Nat.zero_le _) (by decide) ?_
    rintro (_ | i) hi
    · simp only [List.drop_succ_cons, List.drop_zero, List.cons_append, List.nil_append, List.take_succ_cons, List.take_zero]
      simp only [↓upd_eq, ↓envL_cons, Go.Ab.W0, guardOf, eff, effBuiltin, abin, abinInt, cellsAt, shift, AState.ev, AState.put, AState.new, ofVal, ofVal1, setRange, inplOf, if_true, if_false, reduceIte, Nat.reduceEqDiff, Nat.reduceAdd, Nat.reduceLT, Nat.reduceLeDiff, reduceCtorEq, Nat.reduceMul, implies_true, fillA, placeSt, fillE, elemsOf, effAppend, effSlice, optInt, reCells, forall_eq_or_imp, forall_eq, isAl, retP, AV.norm, AV.normL, Nat.reducePow, W1]
      refine goIf_d (fun hlt => ?_) (fun hlt => ?_)
      · try simp only [↓upd_eq, ↓envL_cons, Go.Ab.W0, guardOf, eff, effBuiltin, abin, abinInt, cellsAt, shift, AState.ev, AState.put, AState.new, ofVal, ofVal1, setRange, inplOf, if_true, if_false, reduceIte, Nat.reduceEqDiff, Nat.reduceAdd, Nat.reduceLT, Nat.reduceLeDiff, reduceCtorEq, Nat.reduceMul, implies_true, fillA, placeSt, fillE, elemsOf, effAppend, effSlice, optInt, reCells, forall_eq_or_imp, forall_eq, isAl, retP, AV.norm, AV.normL, Nat.reducePow, W1, hlt, map_emb_kid hlt, hroom 0 hlt, hroom2 0 hlt]
        repeat' ((first
          | with_reducible refine goIf_b (fun h => ?_) (fun h => ?_)
          | with_reducible refine goIf_n (fun h => ?_) (fun h => ?_)
          | with_reducible refine goIf_d (fun h => ?_) (fun h => ?_)
          | with_reducible refine goIf_split (fun h => ?_) (fun h => ?_)
          | with_reducible refine goGb_b (fun h => ?_) (fun h => ?_)
          | with_reducible refine goGb_n (fun h => ?_) (fun h => ?_)
          | with_reducible refine goGb_d (fun h => ?_) (fun h => ?_)
          | with_reducible refine goGb_split (fun h => ?_) (fun h => ?_)
          | with_reducible refine goDGb_b (fun h => ?_) (fun h => ?_)
          | with_reducible refine goDGb_n (fun h => ?_) (fun h => ?_)
          | with_reducible refine goDGb_d (fun h => ?_) (fun h => ?_)
          | with_reducible refine goDGb_split (fun h => ?_) (fun h => ?_)
          | (refine goCall_norm ?_; simp only [AV.norm, AV.normL, W2, hlt, map_emb_kid hlt, hroom 0 hlt, hroom2 0 hlt]; first | refine goCall_p (ih _ (kid_mem hlt)) (.inl rfl) ?_)
          | (refine goDCall_norm ?_; simp only [AV.norm, AV.normL, W2, hlt, map_emb_kid hlt, hroom 0 hlt, hroom2 0 hlt]; first | refine goDCall_p (ih _ (kid_mem hlt)) (.inl rfl) ?_)
          | refine go_draw (id := 7) C_ok mixed 0 Try.f67.ntmps rfl (by kernel_rfl) (by decide) ?_) <;> first | simp only [h, ↓upd_eq, ↓envL_cons, Go.Ab.W0, guardOf, eff, effBuiltin, abin, abinInt, cellsAt, shift, AState.ev, AState.put, AState.new, ofVal, ofVal1, setRange, inplOf, if_true, if_false, reduceIte, Nat.reduceEqDiff, Nat.reduceAdd, Nat.reduceLT, Nat.reduceLeDiff, reduceCtorEq, Nat.reduceMul, implies_true, fillA, placeSt, fillE, elemsOf, effAppend, effSlice, optInt, reCells, forall_eq_or_imp, forall_eq, isAl, retP, AV.norm, AV.normL, Nat.reducePow, W1, hlt, map_emb_kid hlt, hroom 0 hlt, hroom2 0 hlt] | simp only [↓upd_eq, ↓envL_cons, Go.Ab.W0, guardOf, eff, effBuiltin, abin, abinInt, cellsAt, shift, AState.ev, AState.put, AState.new, ofVal, ofVal1, setRange, inplOf, if_true, if_false, reduceIte, Nat.reduceEqDiff, Nat.reduceAdd, Nat.reduceLT, Nat.reduceLeDiff, reduceCtorEq, Nat.reduceMul, implies_true, fillA, placeSt, fillE, elemsOf, effAppend, effSlice, optInt, reCells, forall_eq_or_imp, forall_eq, isAl, retP, AV.norm, AV.normL, Nat.reducePow, W1, hlt, map_emb_kid hlt, hroom 0 hlt, hroom2 0 hlt] | skip)
        all_goals (refine ⟨0 + 1, hlt, by omega, weak_drop rfl rfl rfl ?_ ?_ ?_ ?_⟩ <;> (try simp only [List.forall_mem_cons, mem_nil_all, frz_app, ↓upd_eq, ↓envL_cons, Nat.reduceEqDiff, if_true, if_false, reduceIte, true_and, and_true, and_self, true_or, or_true, implies_true, List.not_mem_nil, false_implies, AV.bel, AV.belL, AObj.bel, AV.norm, AV.normL, Bool.and_true, Bool.true_and, decide_true, decide_eq_true_eq, List.length_cons, List.length_nil, Nat.zero_add, Nat.reduceAdd, Nat.lt_add_one, Nat.lt_add_right_iff_pos, Nat.zero_lt_succ, Nat.zero_lt_one, Nat.reduceLT, List.take_succ_cons, List.take_zero, wrap_succ hlt hmax, map_bel, map_norm, AV.belL, List.length_map]) <;> (try simp [List.range_succ, emb_cells]) <;> (try omega))
      · simp only [↓upd_eq, ↓envL_cons, Go.Ab.W0, guardOf, eff, effBuiltin, abin, abinInt, cellsAt, shift, AState.ev, AState.put, AState.new, ofVal, ofVal1, setRange, inplOf, if_true, if_false, reduceIte, Nat.reduceEqDiff, Nat.reduceAdd, Nat.reduceLT, Nat.reduceLeDiff, reduceCtorEq, Nat.reduceMul, implies_true, fillA, placeSt, fillE, elemsOf, effAppend, effSlice, optInt, reCells, forall_eq_or_imp, forall_eq, isAl, retP, AV.norm, AV.normL, Nat.reducePow, W1]
        exact hend 0 hlt hi
    · simp only [List.drop_succ_cons, List.drop_zero, List.cons_append, List.nil_append, List.take_succ_cons, List.take_zero]
      simp only [↓upd_eq, ↓envL_cons, Go.Ab.W0, guardOf, eff, effBuiltin, abin, abinInt, cellsAt, shift, AState.ev, AState.put, AState.new, ofVal, ofVal1, setRange, inplOf, if_true, if_false, reduceIte, Nat.reduceEqDiff, Nat.reduceAdd, Nat.reduceLT, Nat.reduceLeDiff, reduceCtorEq, Nat.reduceMul, implies_true, fillA, placeSt, fillE, elemsOf, effAppend, effSlice, optInt, reCells, forall_eq_or_imp, forall_eq, isAl, retP, AV.norm, AV.normL, Nat.reducePow, W1]
      refine goIf_d (fun hlt => ?_) (fun hlt => ?_)
      · try simp only [↓upd_eq, ↓envL_cons, Go.Ab.W0, guardOf, eff, effBuiltin, abin, abinInt, cellsAt, shift, AState.ev, AState.put, AState.new, ofVal, ofVal1, setRange, inplOf, if_true, if_false, reduceIte, Nat.reduceEqDiff, Nat.reduceAdd, Nat.reduceLT, Nat.reduceLeDiff, reduceCtorEq, Nat.reduceMul, implies_true, fillA, placeSt, fillE, elemsOf, effAppend, effSlice, optInt, reCells, forall_eq_or_imp, forall_eq, isAl, retP, AV.norm, AV.normL, Nat.reducePow, W1, hlt, map_emb_kid hlt, hroom (i + 1) hlt, hroom2 (i + 1) hlt]
        repeat' ((first
          | with_reducible refine goIf_b (fun h => ?_) (fun h => ?_)
          | with_reducible refine goIf_n (fun h => ?_) (fun h => ?_)
          | with_reducible refine goIf_d (fun h => ?_) (fun h => ?_)
          | with_reducible refine goIf_split (fun h => ?_) (fun h => ?_)
          | with_reducible refine goGb_b (fun h => ?_) (fun h => ?_)
          | with_reducible refine goGb_n (fun h => ?_) (fun h => ?_)
          | with_reducible refine goGb_d (fun h => ?_) (fun h => ?_)
          | with_reducible refine goGb_split (fun h => ?_) (fun h => ?_)
          | with_reducible refine goDGb_b (fun h => ?_) (fun h => ?_)
          | with_reducible refine goDGb_n (fun h => ?_) (fun h => ?_)
          | with_reducible refine goDGb_d (fun h => ?_) (fun h => ?_)
          | with_reducible refine goDGb_split (fun h => ?_) (fun h => ?_)
          | (refine goCall_norm ?_; simp only [AV.norm, AV.normL, W2, hlt, map_emb_kid hlt, hroom (i + 1) hlt, hroom2 (i + 1) hlt]; first | refine goCall_p (ih _ (kid_mem hlt)) (.inl rfl) ?_)
          | (refine goDCall_norm ?_; simp only [AV.norm, AV.normL, W2, hlt, map_emb_kid hlt, hroom (i + 1) hlt, hroom2 (i + 1) hlt]; first | refine goDCall_p (ih _ (kid_mem hlt)) (.inl rfl) ?_)
          | refine go_draw (id := 7) C_ok mixed 0 Try.f67.ntmps rfl (by kernel_rfl) (by decide) ?_) <;> first | simp only [h, ↓upd_eq, ↓envL_cons, Go.Ab.W0, guardOf, eff, effBuiltin, abin, abinInt, cellsAt, shift, AState.ev, AState.put, AState.new, ofVal, ofVal1, setRange, inplOf, if_true, if_false, reduceIte, Nat.reduceEqDiff, Nat.reduceAdd, Nat.reduceLT, Nat.reduceLeDiff, reduceCtorEq, Nat.reduceMul, implies_true, fillA, placeSt, fillE, elemsOf, effAppend, effSlice, optInt, reCells, forall_eq_or_imp, forall_eq, isAl, retP, AV.norm, AV.normL, Nat.reducePow, W1, hlt, map_emb_kid hlt, hroom (i + 1) hlt, hroom2 (i + 1) hlt] | simp only [↓upd_eq, ↓envL_cons, Go.Ab.W0, guardOf, eff, effBuiltin, abin, abinInt, cellsAt, shift, AState.ev, AState.put, AState.new, ofVal, ofVal1, setRange, inplOf, if_true, if_false, reduceIte, Nat.reduceEqDiff, Nat.reduceAdd, Nat.reduceLT, Nat.reduceLeDiff, reduceCtorEq, Nat.reduceMul, implies_true, fillA, placeSt, fillE, elemsOf, effAppend, effSlice, optInt, reCells, forall_eq_or_imp, forall_eq, isAl, retP, AV.norm, AV.normL, Nat.reducePow, W1, hlt, map_emb_kid hlt, hroom (i + 1) hlt, hroom2 (i + 1) hlt] | skip)
        all_goals (refine ⟨i + 1 + 1, hlt, by omega, weak_drop rfl rfl rfl ?_ ?_ ?_ ?_⟩ <;> (try simp only [List.forall_mem_cons, mem_nil_all, frz_app, ↓upd_eq, ↓envL_cons, Nat.reduceEqDiff, if_true, if_false, reduceIte, true_and, and_true, and_self, true_or, or_true, implies_true, List.not_mem_nil, false_implies, AV.bel, AV.belL, AObj.bel, AV.norm, AV.normL, Bool.and_true, Bool.true_and, decide_true, decide_eq_true_eq, List.length_cons, List.length_nil, Nat.zero_add, Nat.reduceAdd, Nat.lt_add_one, Nat.lt_add_right_iff_pos, Nat.zero_lt_succ, Nat.zero_lt_one, Nat.reduceLT, List.take_succ_cons, List.take_zero, wrap_succ hlt hmax, map_bel, map_norm, AV.belL, List.length_map]) <;> (try simp [List.range_succ, emb_cells]) <;> (try omega))
      · simp only [↓upd_eq, ↓envL_cons, Go.Ab.W0, guardOf, eff, effBuiltin, abin, abinInt, cellsAt, shift, AState.ev, AState.put, AState.new, ofVal, ofVal1, setRange, inplOf, if_true, if_false, reduceIte, Nat.reduceEqDiff, Nat.reduceAdd, Nat.reduceLT, Nat.reduceLeDiff, reduceCtorEq, Nat.reduceMul, implies_true, fillA, placeSt, fillE, elemsOf, effAppend, effSlice, optInt, reCells, forall_eq_or_imp, forall_eq, isAl, retP, AV.norm, AV.normL, Nat.reducePow, W1]
        exact hend (i + 1) hlt hi
  · have ht5 : t.kind ≠ 5 := by simp_all
    have hmax : t.kids.length ≤ maxLen := (emb_okay ok.1).1
    have hend : ∀ m, ¬ m < t.kids.length → m ≤ t.kids.length → emb (.mk t.kind t.num ((List.range m).map fun i => putT v (t.kid i))) = emb (putT v t) := fun m h1 h2 => by
      obtain rfl : m = t.kids.length := by omega
      rw [putT_eq, range_map_kids]; simp [ht5]
    refine aloop_trim [6, 1, 2, 4, 5] ?_
    simp only [List.map_cons, List.map_nil, ↓upd_eq, ↓envL_cons, Go.Ab.W0, guardOf, eff, effBuiltin, abin, abinInt, cellsAt, shift, AState.ev, AState.put, AState.new, ofVal, ofVal1, setRange, inplOf, if_true, if_false, reduceIte, Nat.reduceEqDiff, Nat.reduceAdd, Nat.reduceLT, Nat.reduceLeDiff, reduceCtorEq, Nat.reduceMul, implies_true, fillA, placeSt, fillE, elemsOf, effAppend, effSlice, optInt, reCells, forall_eq_or_imp, forall_eq, isAl, retP, AV.norm, AV.normL, Nat.reducePow, W1]
    refine goLoopP 1 2 (fun i : Nat => [(6, .int .i64 i)]) (fun i => match i with
        | 0 => [.box [.int .i64 t.kind, .int .i64 t.num,.sl [] .full]]
        | i + 1 => [.box [.int .i64 t.kind, .int .i64 t.num,.sl (((List.range (i + 1)).map (fun i => putT v (t.kid i))).map emb) (.own (H.length + 3))], .tok (i + 1) 3]) (fun i => i ≤ t.kids.length) (fun i => t.kids.length - i) C_ok 0 rfl rfl (Nat.zero_le _) (by decide) ?_
    rintro (_ | i) hi
    · simp only [List.drop_succ_cons, List.drop_zero, List.cons_append, List.nil_append, List.take_succ_cons, List.take_zero]
      simp only [↓upd_eq, ↓envL_cons, Go.Ab.W0, guardOf, eff, effBuiltin, abin, abinInt, cellsAt, shift, AState.ev, AState.put, AState.new, ofVal, ofVal1, setRange, inplOf, if_true, if_false, reduceIte, Nat.reduceEqDiff, Nat.reduceAdd, Nat.reduceLT, Nat.reduceLeDiff, reduceCtorEq, Nat.reduceMul, implies_true, fillA, placeSt, fillE, elemsOf, effAppend, effSlice, optInt, reCells, forall_eq_or_imp, forall_eq, isAl, retP, AV.norm, AV.normL, Nat.reducePow, W1]
      refine goIf_d (fun hlt => ?_) (fun hlt => ?_)
      · try simp only [↓upd_eq, ↓envL_cons, Go.Ab.W0, guardOf, eff, effBuiltin, abin, abinInt, cellsAt, shift, AState.ev, AState.put, AState.new, ofVal, ofVal1, setRange, inplOf, if_true, if_false, reduceIte, Nat.reduceEqDiff, Nat.reduceAdd, Nat.reduceLT, Nat.reduceLeDiff, reduceCtorEq, Nat.reduceMul, implies_true, fillA, placeSt, fillE, elemsOf, effAppend, effSlice, optInt, reCells, forall_eq_or_imp, forall_eq, isAl, retP, AV.norm, AV.normL, Nat.reducePow, W1, hlt, map_emb_kid hlt, hroom 0 hlt, hroom2 0 hlt]
        repeat' ((first
          | with_reducible refine goIf_b (fun h => ?_) (fun h => ?_)
          | with_reducible refine goIf_n (fun h => ?_) (fun h => ?_)
          | with_reducible refine goIf_d (fun h => ?_) (fun h => ?_)
          | with_reducible refine goIf_split (fun h => ?_) (fun h => ?_)
          | with_reducible refine goGb_b (fun h => ?_) (fun h => ?_)
          | with_reducible refine goGb_n (fun h => ?_) (fun h => ?_)
          | with_reducible refine goGb_d (fun h => ?_) (fun h => ?_)
          | with_reducible refine goGb_split (fun h => ?_) (fun h => ?_)
          | with_reducible refine goDGb_b (fun h => ?_) (fun h => ?_)
          | with_reducible refine goDGb_n (fun h => ?_) (fun h => ?_)
          | with_reducible refine goDGb_d (fun h => ?_) (fun h => ?_)
          | with_reducible refine goDGb_split (fun h => ?_) (fun h => ?_)
          | (refine goCall_norm ?_; simp only [AV.norm, AV.normL, W2, hlt, map_emb_kid hlt, hroom 0 hlt, hroom2 0 hlt]; first | refine goCall_p (ih _ (kid_mem hlt)) (.inl rfl) ?_)
          | (refine goDCall_norm ?_; simp only [AV.norm, AV.normL, W2, hlt, map_emb_kid hlt, hroom 0 hlt, hroom2 0 hlt]; first | refine goDCall_p (ih _ (kid_mem hlt)) (.inl rfl) ?_)
          | refine go_draw (id := 7) C_ok mixed 0 Try.f67.ntmps rfl (by kernel_rfl) (by decide) ?_) <;> first | simp only [h, ↓upd_eq, ↓envL_cons, Go.Ab.W0, guardOf, eff, effBuiltin, abin, abinInt, cellsAt, shift, AState.ev, AState.put, AState.new, ofVal, ofVal1, setRange, inplOf, if_true, if_false, reduceIte, Nat.reduceEqDiff, Nat.reduceAdd, Nat.reduceLT, Nat.reduceLeDiff, reduceCtorEq, Nat.reduceMul, implies_true, fillA, placeSt, fillE, elemsOf, effAppend, effSlice, optInt, reCells, forall_eq_or_imp, forall_eq, isAl, retP, AV.norm, AV.normL, Nat.reducePow, W1, hlt, map_emb_kid hlt, hroom 0 hlt, hroom2 0 hlt] | simp only [↓upd_eq, ↓envL_cons, Go.Ab.W0, guardOf, eff, effBuiltin, abin, abinInt, cellsAt, shift, AState.ev, AState.put, AState.new, ofVal, ofVal1, setRange, inplOf, if_true, if_false, reduceIte, Nat.reduceEqDiff, Nat.reduceAdd, Nat.reduceLT, Nat.reduceLeDiff, reduceCtorEq, Nat.reduceMul, implies_true, fillA, placeSt, fillE, elemsOf, effAppend, effSlice, optInt, reCells, forall_eq_or_imp, forall_eq, isAl, retP, AV.norm, AV.normL, Nat.reducePow, W1, hlt, map_emb_kid hlt, hroom 0 hlt, hroom2 0 hlt] | skip)
        all_goals (refine ⟨0 + 1, hlt, by omega, weak_drop rfl rfl rfl ?_ ?_ ?_ ?_⟩ <;> (try simp only [List.forall_mem_cons, mem_nil_all, frz_app, ↓upd_eq, ↓envL_cons, Nat.reduceEqDiff, if_true, if_false, reduceIte, true_and, and_true, and_self, true_or, or_true, implies_true, List.not_mem_nil, false_implies, AV.bel, AV.belL, AObj.bel, AV.norm, AV.normL, Bool.and_true, Bool.true_and, decide_true, decide_eq_true_eq, List.length_cons, List.length_nil, Nat.zero_add, Nat.reduceAdd, Nat.lt_add_one, Nat.lt_add_right_iff_pos, Nat.zero_lt_succ, Nat.zero_lt_one, Nat.reduceLT, List.take_succ_cons, List.take_zero, wrap_succ hlt hmax, map_bel, map_norm, AV.belL, List.length_map]) <;> (try simp [List.range_succ, emb_cells]) <;> (try omega))
      · simp only [↓upd_eq, ↓envL_cons, Go.Ab.W0, guardOf, eff, effBuiltin, abin, abinInt, cellsAt, shift, AState.ev, AState.put, AState.new, ofVal, ofVal1, setRange, inplOf, if_true, if_false, reduceIte, Nat.reduceEqDiff, Nat.reduceAdd, Nat.reduceLT, Nat.reduceLeDiff, reduceCtorEq, Nat.reduceMul, implies_true, fillA, placeSt, fillE, elemsOf, effAppend, effSlice, optInt, reCells, forall_eq_or_imp, forall_eq, isAl, retP, AV.norm, AV.normL, Nat.reducePow, W1]
        exact hend 0 hlt hi
    · simp only [List.drop_succ_cons, List.drop_zero, List.cons_append, List.nil_append, List.take_succ_cons, List.take_zero]
      simp only [↓upd_eq, ↓envL_cons, Go.Ab.W0, guardOf, eff, effBuiltin, abin, abinInt, cellsAt, shift, AState.ev, AState.put, AState.new, ofVal, ofVal1, setRange, inplOf, if_true, if_false, reduceIte, Nat.reduceEqDiff, Nat.reduceAdd, Nat.reduceLT, Nat.reduceLeDiff, reduceCtorEq, Nat.reduceMul, implies_true, fillA, placeSt, fillE, elemsOf, effAppend, effSlice, optInt, reCells, forall_eq_or_imp, forall_eq, isAl, retP, AV.norm, AV.normL, Nat.reducePow, W1]
      refine goIf_d (fun hlt => ?_) (fun hlt => ?_)
      · try simp only [↓upd_eq, ↓envL_cons, Go.Ab.W0, guardOf, eff, effBuiltin, abin, abinInt, cellsAt, shift, AState.ev, AState.put, AState.new, ofVal, ofVal1, setRange, inplOf, if_true, if_false, reduceIte, Nat.reduceEqDiff, Nat.reduceAdd, Nat.reduceLT, Nat.reduceLeDiff, reduceCtorEq, Nat.reduceMul, implies_true, fillA, placeSt, fillE, elemsOf, effAppend, effSlice, optInt, reCells, forall_eq_or_imp, forall_eq, isAl, retP, AV.norm, AV.normL, Nat.reducePow, W1, hlt, map_emb_kid hlt, hroom (i + 1) hlt, hroom2 (i + 1) hlt]
        repeat' ((first
          | with_reducible refine goIf_b (fun h => ?_) (fun h => ?_)
          | with_reducible refine goIf_n (fun h => ?_) (fun h => ?_)
          | with_reducible refine goIf_d (fun h => ?_) (fun h => ?_)
          | with_reducible refine goIf_split (fun h => ?_) (fun h => ?_)
          | with_reducible refine goGb_b (fun h => ?_) (fun h => ?_)
          | with_reducible refine goGb_n (fun h => ?_) (fun h => ?_)
          | with_reducible refine goGb_d (fun h => ?_) (fun h => ?_)
          | with_reducible refine goGb_split (fun h => ?_) (fun h => ?_)
          | with_reducible refine goDGb_b (fun h => ?_) (fun h => ?_)
          | with_reducible refine goDGb_n (fun h => ?_) (fun h => ?_)
          | with_reducible refine goDGb_d (fun h => ?_) (fun h => ?_)
          | with_reducible refine goDGb_split (fun h => ?_) (fun h => ?_)
          | (refine goCall_norm ?_; simp only [AV.norm, AV.normL, W2, hlt, map_emb_kid hlt, hroom (i + 1) hlt, hroom2 (i + 1) hlt]; first | refine goCall_p (ih _ (kid_mem hlt)) (.inl rfl) ?_)
          | (refine goDCall_norm ?_; simp only [AV.norm, AV.normL, W2, hlt, map_emb_kid hlt, hroom (i + 1) hlt, hroom2 (i + 1) hlt]; first | refine goDCall_p (ih _ (kid_mem hlt)) (.inl rfl) ?_)
          | refine go_draw (id := 7) C_ok mixed 0 Try.f67.ntmps rfl (by kernel_rfl) (by decide) ?_) <;> first | simp only [h, ↓upd_eq, ↓envL_cons, Go.Ab.W0, guardOf, eff, effBuiltin, abin, abinInt, cellsAt, shift, AState.ev, AState.put, AState.new, ofVal, ofVal1, setRange, inplOf, if_true, if_false, reduceIte, Nat.reduceEqDiff, Nat.reduceAdd, Nat.reduceLT, Nat.reduceLeDiff, reduceCtorEq, Nat.reduceMul, implies_true, fillA, placeSt, fillE, elemsOf, effAppend, effSlice, optInt, reCells, forall_eq_or_imp, forall_eq, isAl, retP, AV.norm, AV.normL, Nat.reducePow, W1, hlt, map_emb_kid hlt, hroom (i + 1) hlt, hroom2 (i + 1) hlt] | simp only [↓upd_eq, ↓envL_cons, Go.Ab.W0, guardOf, eff, effBuiltin, abin, abinInt, cellsAt, shift, AState.ev, AState.put, AState.new, ofVal, ofVal1, setRange, inplOf, if_true, if_false, reduceIte, Nat.reduceEqDiff, Nat.reduceAdd, Nat.reduceLT, Nat.reduceLeDiff, reduceCtorEq, Nat.reduceMul, implies_true, fillA, placeSt, fillE, elemsOf, effAppend, effSlice, optInt, reCells, forall_eq_or_imp, forall_eq, isAl, retP, AV.norm, AV.normL, Nat.reducePow, W1, hlt, map_emb_kid hlt, hroom (i + 1) hlt, hroom2 (i + 1) hlt] | skip)
        all_goals (refine ⟨i + 1 + 1, hlt, by omega, weak_drop rfl rfl rfl ?_ ?_ ?_ ?_⟩ <;> (try simp only [List.forall_mem_cons, mem_nil_all, frz_app, ↓upd_eq, ↓envL_cons, Nat.reduceEqDiff, if_true, if_false, reduceIte, true_and, and_true, and_self, true_or, or_true, implies_true, List.not_mem_nil, false_implies, AV.bel, AV.belL, AObj.bel, AV.norm, AV.normL, Bool.and_true, Bool.true_and, decide_true, decide_eq_true_eq, List.length_cons, List.length_nil, Nat.zero_add, Nat.reduceAdd, Nat.lt_add_one, Nat.lt_add_right_iff_pos, Nat.zero_lt_succ, Nat.zero_lt_one, Nat.reduceLT, List.take_succ_cons, List.take_zero, wrap_succ hlt hmax, map_bel, map_norm, AV.belL, List.length_map]) <;> (try simp [List.range_succ, emb_cells]) <;> (try omega))
      · simp only [↓upd_eq, ↓envL_cons, Go.Ab.W0, guardOf, eff, effBuiltin, abin, abinInt, cellsAt, shift, AState.ev, AState.put, AState.new, ofVal, ofVal1, setRange, inplOf, if_true, if_false, reduceIte, Nat.reduceEqDiff, Nat.reduceAdd, Nat.reduceLT, Nat.reduceLeDiff, reduceCtorEq, Nat.reduceMul, implies_true, fillA, placeSt, fillE, elemsOf, effAppend, effSlice, optInt, reCells, forall_eq_or_imp, forall_eq, isAl, retP, AV.norm, AV.normL, Nat.reducePow, W1]
        exact hend (i + 1) hlt hi
theorem put_ok (t : Ty) (v : Int) (hs : nodes t ≤ 1048576) : PCalls Try.prog 67 [emb t, .int .i64 v] (emb (putT v t)) :=
  Ty.ind (p := fun t => nodes t ≤ 1048576 → PCalls Try.prog 67 [emb t, .int .i64 v] (emb (putT v t))) (fun t ih hs => put_step t v hs fun x hx => ih x hx (by have := nodes_kid hx; omega)) t hs

theorem take_len {α β : Type} (l : List α) (f : α → β) : (l.map f).take l.length = l.map f := by rw [List.take_of_length_le (by simp)]
theorem all_bool1 (l : List Bool) : (∀ y, y ∈ l.map AV.bool → (cellsOf y).length = 1) = True := by
  simp only [eq_iff_iff, iff_true]; intro y hy; obtain ⟨b, _, rfl⟩ := List.mem_map.1 hy; rfl
theorem one_le_succ (n : Nat) : ((1 : Int) ≤ ((n + 1 : Nat) : Int)) = True := by simp only [eq_iff_iff, iff_true]; omega
theorem gt_zero_succ (n : Nat) : (((n + 1 : Nat) : Int) > 0) = True := by simp only [eq_iff_iff, iff_true]; omega
theorem zero_lt_succ_int (n : Nat) : ((0 : Int) < ((n + 1 : Nat) : Int)) = True := by simp only [eq_iff_iff, iff_true]; omega
theorem bools_bel (m : Nat) (l : List Bool) : AV.belL m (l.map AV.bool) = true := by induction l with | nil => rfl | cons b l ih => simp [AV.belL, AV.bel, ih]
theorem bools_norm (l : List Bool) : AV.normL (l.map AV.bool) = l.map AV.bool := by induction l with | nil => rfl | cons b l ih => simp [AV.normL, AV.norm, ih]

theorem less_step (t : Ty) (l : List Bool) (hr : right t = true) (ih : ∀ x ∈ t.kids, ∀ l, right x = true → PCalls Try.prog 37 [emb x, .sl (l.map .bool) .no] (.tup [emb (lessT x l).1, .sl ((lessT x l).2.map .bool) .no])) :
    PCalls Try.prog 37 [emb t, .sl (l.map .bool) .no] (.tup [emb (lessT t l).1, .sl ((lessT t l).2.map .bool) .no]) := by
  have hbel : ∀ t : Ty × List Bool, (AV.tup [emb t.1, .sl (t.2.map .bool) .no]).bel 0 = true := fun t => by simp only [AV.bel, AV.belL, emb_bel, bools_bel, Bool.and_self]
  have hkids : t.kids = [] ∨ (∃ x, t.kids = [x]) ∨ ∃ x y, t.kids = [x, y] := by
    have h2 := right_len2 hr
    match t.kids, h2 with
    | [], _ => exact .inl rfl
    | [x], _ => exact .inr (.inl ⟨x, rfl⟩)
    | [x, y], _ => exact .inr (.inr ⟨x, y, rfl⟩)
  have hrk := (right_kids hr).2
  cases t with | mk k n kids =>
  simp only [Ty.kids] at hkids hrk ih
  rcases hkids with rfl | ⟨x, rfl⟩ | ⟨x, y, rfl⟩
  all_goals
    rcases l with _ | ⟨_ | _, l⟩
    all_goals
      refine pcalls_text C_ok Try.func37 rfl (by decide) (Nat.le_of_ble_eq_true rfl) (by decide) (hbel _) fun ok H => ?_
      rw [Try.results37]
      try simp only [↓upd_eq, ↓envL_cons, Go.Ab.W0, guardOf, eff, effBuiltin, abin, abinInt, cellsAt, shift, AState.ev, AState.put, AState.new, ofVal, ofVal1, setRange, inplOf, if_true, if_false, reduceIte, Nat.reduceEqDiff, Nat.reduceAdd, Nat.reduceLT, Nat.reduceLeDiff, reduceCtorEq, Nat.reduceMul, implies_true, fillA, placeSt, fillE, elemsOf, effAppend, effSlice, optInt, reCells, forall_eq_or_imp, forall_eq, isAl, retP, AV.norm, AV.normL, Nat.reducePow, W1, Go.Ab.W3, Int.reduceAdd, Int.reduceLT, Int.reduceToNat, Int.reduceBEq, Int.reduceBNe, Int.reduceLE, List.length_map, take_len, all_bool1, one_le_succ, gt_zero_succ, zero_lt_succ_int, bools_norm, Int.le_refl, cutNormal_normal]
      repeat' ((first
        | with_reducible refine goIf_b (fun h => ?_) (fun h => ?_)
        | with_reducible refine goIf_n (fun h => ?_) (fun h => ?_)
        | with_reducible refine goIf_d (fun h => ?_) (fun h => ?_)
        | with_reducible refine goIf_split (fun h => ?_) (fun h => ?_)
        | with_reducible refine goGb_b (fun h => ?_) (fun h => ?_)
        | with_reducible refine goGb_n (fun h => ?_) (fun h => ?_)
        | with_reducible refine goGb_d (fun h => ?_) (fun h => ?_)
        | with_reducible refine goGb_split (fun h => ?_) (fun h => ?_)
        | with_reducible refine goDGb_b (fun h => ?_) (fun h => ?_)
        | with_reducible refine goDGb_n (fun h => ?_) (fun h => ?_)
        | with_reducible refine goDGb_d (fun h => ?_) (fun h => ?_)
        | with_reducible refine goDGb_split (fun h => ?_) (fun h => ?_)
        | (refine goCall_norm ?_; simp only [AV.norm, AV.normL, W2, Go.Ab.W3, Int.reduceAdd, Int.reduceLT, Int.reduceToNat, Int.reduceBEq, Int.reduceBNe, Int.reduceLE, List.length_map, take_len, all_bool1, one_le_succ, gt_zero_succ, zero_lt_succ_int, bools_norm, Int.le_refl]; first | refine goCall_p (leaf_ok _) (.inl rfl) ?_ | refine goCall_p (ih _ (by simp) _ (hrk _ (by simp))) (.inl rfl) ?_ | refine goCall_p (ih _ (by simp) [] (hrk _ (by simp))) (.inl rfl) ?_)
        | (refine goDCall_norm ?_; simp only [AV.norm, AV.normL, W2, Go.Ab.W3, Int.reduceAdd, Int.reduceLT, Int.reduceToNat, Int.reduceBEq, Int.reduceBNe, Int.reduceLE, List.length_map, take_len, all_bool1, one_le_succ, gt_zero_succ, zero_lt_succ_int, bools_norm, Int.le_refl]; first | refine goDCall_p (leaf_ok _) (.inl rfl) ?_ | refine goDCall_p (ih _ (by simp) _ (hrk _ (by simp))) (.inl rfl) ?_ | refine goDCall_p (ih _ (by simp) [] (hrk _ (by simp))) (.inl rfl) ?_)
        | refine go_draw (id := 2) C_ok mixed 0 Try.f37.ntmps rfl (by kernel_rfl) (by decide) ?_
        | refine goRound ?_ C_ok Try.f37.ntmps rfl (by decide)) <;> first | simp only [h, ↓upd_eq, ↓envL_cons, Go.Ab.W0, guardOf, eff, effBuiltin, abin, abinInt, cellsAt, shift, AState.ev, AState.put, AState.new, ofVal, ofVal1, setRange, inplOf, if_true, if_false, reduceIte, Nat.reduceEqDiff, Nat.reduceAdd, Nat.reduceLT, Nat.reduceLeDiff, reduceCtorEq, Nat.reduceMul, implies_true, fillA, placeSt, fillE, elemsOf, effAppend, effSlice, optInt, reCells, forall_eq_or_imp, forall_eq, isAl, retP, AV.norm, AV.normL, Nat.reducePow, W1, Go.Ab.W3, Int.reduceAdd, Int.reduceLT, Int.reduceToNat, Int.reduceBEq, Int.reduceBNe, Int.reduceLE, List.length_map, take_len, all_bool1, one_le_succ, gt_zero_succ, zero_lt_succ_int, bools_norm, Int.le_refl, cutNormal_normal] | simp only [↓upd_eq, ↓envL_cons, Go.Ab.W0, guardOf, eff, effBuiltin, abin, abinInt, cellsAt, shift, AState.ev, AState.put, AState.new, ofVal, ofVal1, setRange, inplOf, if_true, if_false, reduceIte, Nat.reduceEqDiff, Nat.reduceAdd, Nat.reduceLT, Nat.reduceLeDiff, reduceCtorEq, Nat.reduceMul, implies_true, fillA, placeSt, fillE, elemsOf, effAppend, effSlice, optInt, reCells, forall_eq_or_imp, forall_eq, isAl, retP, AV.norm, AV.normL, Nat.reducePow, W1, Go.Ab.W3, Int.reduceAdd, Int.reduceLT, Int.reduceToNat, Int.reduceBEq, Int.reduceBNe, Int.reduceLE, List.length_map, take_len, all_bool1, one_le_succ, gt_zero_succ, zero_lt_succ_int, bools_norm, Int.le_refl, cutNormal_normal] | skip)
      all_goals simp [lessT, lessL, dynT, leafT]

theorem less_ok (t : Ty) (l : List Bool) (hr : right t = true) : PCalls Try.prog 37 [emb t, .sl (l.map .bool) .no] (.tup [emb (lessT t l).1, .sl ((lessT t l).2.map .bool) .no]) :=
  Ty.ind (p := fun t => ∀ l : List Bool, right t = true → PCalls Try.prog 37 [emb t, .sl (l.map .bool) .no] (.tup [emb (lessT t l).1, .sl ((lessT t l).2.map .bool) .no])) (fun t ih l hr => less_step t l hr fun x hx l => ih x hx l) t l hr

end Go.Proofs.Ytcpfjabjonpdaaa
