/- Walks: copies. No condition. -/
import Derived.Test.YtcpfjabjonpdaaaF2
set_option linter.unusedSimpArgs false
set_option linter.unusedVariables false
set_option maxHeartbeats 4000000
namespace Go.Proofs.Ytcpfjabjonpdaaa
open Go Go.Ab
attribute [local irreducible] PCalls ACalls CallK GoCall GoDCall GoIf GoGb GoDGb GoO GoD GoX GoDX GoG GoDG GoGv GoDGv Go ALoop

theorem range_kids (t : Ty) : (List.range t.kids.length).map t.kid = t.kids := by
  apply List.ext_getElem
  · simp
  · intro i h1 h2; simp at h1; simp [Ty.kid, h1]

theorem ktype_step (t : Ty) (hs : nodes t ≤ 1048576) (ih : ∀ x ∈ t.kids, PCalls Try.prog 27 [emb x] (emb x)) : PCalls Try.prog 27 [emb t] (emb t) := by
  refine pcalls_text C_ok Try.func27 rfl (by decide) (Nat.le_of_ble_eq_true rfl) (by decide) (emb_bel _ _) fun ok H => ?_
  rw [Try.results27]
  try simp only [↓upd_eq, ↓envL_cons, Go.Ab.W0, guardOf, eff, effBuiltin, abin, abinInt, cellsAt, shift, AState.ev, AState.put, AState.new, ofVal, ofVal1, setRange, inplOf, if_true, if_false, reduceIte, Nat.reduceEqDiff, Nat.reduceAdd, Nat.reduceLT, Nat.reduceLeDiff, reduceCtorEq, Nat.reduceMul, implies_true, fillA, placeSt, fillE, elemsOf, effAppend, effSlice, optInt, reCells, forall_eq_or_imp, forall_eq, isAl, retP, AV.norm, AV.normL, Nat.reducePow, W1]
  repeat' ((first
    | with_reducible refine goIf_b (fun h => ?_) (fun h => ?_)
    | with_reducible refine goIf_n (fun h => ?_) (fun h => ?_)
    | with_reducible refine goIf_d (fun h => ?_) (fun h => ?_)
    | with_reducible refine goIf_split (fun h => ?_) (fun h => ?_)
    | with_reducible refine goGb_b (fun h => ?_) (fun h => ?_)
    | with_reducible refine goGb_n (fun h => ?_) (fun h => ?_)
    | with_reducible refine goGb_d (fun h => ?_) (fun h => ?_)
    | with_reducible refine goGb_split (fun h => ?_) (fun h => ?_)
    | with_reducible refine goDGb_b (fun h => ?_) (fun h => ?_)
    | with_reducible refine goDGb_n (fun h => ?_) (fun h => ?_)
    | with_reducible refine goDGb_d (fun h => ?_) (fun h => ?_)
    | with_reducible refine goDGb_split (fun h => ?_) (fun h => ?_)
    | refine go_draw (id := 5) C_ok mixed 0 Try.f27.ntmps rfl (by kernel_rfl) (by decide) ?_) <;> first | simp only [h, ↓upd_eq, ↓envL_cons, Go.Ab.W0, guardOf, eff, effBuiltin, abin, abinInt, cellsAt, shift, AState.ev, AState.put, AState.new, ofVal, ofVal1, setRange, inplOf, if_true, if_false, reduceIte, Nat.reduceEqDiff, Nat.reduceAdd, Nat.reduceLT, Nat.reduceLeDiff, reduceCtorEq, Nat.reduceMul, implies_true, fillA, placeSt, fillE, elemsOf, effAppend, effSlice, optInt, reCells, forall_eq_or_imp, forall_eq, isAl, retP, AV.norm, AV.normL, Nat.reducePow, W1] | simp only [↓upd_eq, ↓envL_cons, Go.Ab.W0, guardOf, eff, effBuiltin, abin, abinInt, cellsAt, shift, AState.ev, AState.put, AState.new, ofVal, ofVal1, setRange, inplOf, if_true, if_false, reduceIte, Nat.reduceEqDiff, Nat.reduceAdd, Nat.reduceLT, Nat.reduceLeDiff, reduceCtorEq, Nat.reduceMul, implies_true, fillA, placeSt, fillE, elemsOf, effAppend, effSlice, optInt, reCells, forall_eq_or_imp, forall_eq, isAl, retP, AV.norm, AV.normL, Nat.reducePow, W1] | skip)
  have hmax : t.kids.length ≤ maxLen := (emb_okay ok.1).1
  have hlen := length_lt_nodes t
  have hroom : ∀ i, i < t.kids.length → ((i + 1) * 40 ≤ 140737488355328) = True := fun i h => by simp only [eq_iff_iff, iff_true]; omega
  have hroom2 : ∀ i, i < t.kids.length → (i + 1 ≤ 9223372036854775807) = True := fun i h => by simp only [eq_iff_iff, iff_true]; omega
  have hend : ∀ m, ¬ m < t.kids.length → m ≤ t.kids.length → emb (.mk t.kind t.num ((List.range m).map t.kid)) = emb t := fun m h1 h2 => by rw [show m = t.kids.length by omega, range_kids, Ty.eta]
  refine aloop_trim [4, 1, 2, 3] ?_
  simp only [List.map_cons, List.map_nil, ↓upd_eq, ↓envL_cons, Go.Ab.W0, guardOf, eff, effBuiltin, abin, abinInt, cellsAt, shift, AState.ev, AState.put, AState.new, ofVal, ofVal1, setRange, inplOf, if_true, if_false, reduceIte, Nat.reduceEqDiff, Nat.reduceAdd, Nat.reduceLT, Nat.reduceLeDiff, reduceCtorEq, Nat.reduceMul, implies_true, fillA, placeSt, fillE, elemsOf, effAppend, effSlice, optInt, reCells, forall_eq_or_imp, forall_eq, isAl, retP, AV.norm, AV.normL, Nat.reducePow, W1]
  refine goLoopP 1 2 (fun i : Nat => [(4, .int .i64 i)]) (fun i => match i with
      | 0 => [.box [.int .i64 t.kind, .int .i64 t.num,.sl [] .full]]
      | i + 1 => [.box [.int .i64 t.kind, .int .i64 t.num,.sl (((List.range (i + 1)).map t.kid).map emb) (.own (H.length + 3))], .tok (i + 1) 3]) (fun i => i ≤ t.kids.length) (fun i => t.kids.length - i) C_ok 0 rfl rfl (Nat.zero_le _) (by decide) ?_
  rintro (_ | i) hi
  · simp only [List.drop_succ_cons, List.drop_zero, List.cons_append, List.nil_append, List.take_succ_cons, List.take_zero]
    simp only [↓upd_eq, ↓envL_cons, Go.Ab.W0, guardOf, eff, effBuiltin, abin, abinInt, cellsAt, shift, AState.ev, AState.put, AState.new, ofVal, ofVal1, setRange, inplOf, if_true, if_false, reduceIte, Nat.reduceEqDiff, Nat.reduceAdd, Nat.reduceLT, Nat.reduceLeDiff, reduceCtorEq, Nat.reduceMul, implies_true, fillA, placeSt, fillE, elemsOf, effAppend, effSlice, optInt, reCells, forall_eq_or_imp, forall_eq, isAl, retP, AV.norm, AV.normL, Nat.reducePow, W1]
    refine goIf_d (fun hlt => ?_) (fun hlt => ?_)
    · try simp only [↓upd_eq, ↓envL_cons, Go.Ab.W0, guardOf, eff, effBuiltin, abin, abinInt, cellsAt, shift, AState.ev, AState.put, AState.new, ofVal, ofVal1, setRange, inplOf, if_true, if_false, reduceIte, Nat.reduceEqDiff, Nat.reduceAdd, Nat.reduceLT, Nat.reduceLeDiff, reduceCtorEq, Nat.reduceMul, implies_true, fillA, placeSt, fillE, elemsOf, effAppend, effSlice, optInt, reCells, forall_eq_or_imp, forall_eq, isAl, retP, AV.norm, AV.normL, Nat.reducePow, W1, hlt, map_emb_kid hlt, hroom 0 hlt, hroom2 0 hlt]
      repeat' ((first
        | with_reducible refine goIf_b (fun h => ?_) (fun h => ?_)
        | with_reducible refine goIf_n (fun h => ?_) (fun h => ?_)
        | with_reducible refine goIf_d (fun h => ?_) (fun h => ?_)
        | with_reducible refine goIf_split (fun h => ?_) (fun h => ?_)
        | with_reducible refine goGb_b (fun h => ?_) (fun h => ?_)
        | with_reducible refine goGb_n (fun h => ?_) (fun h => ?_)
        | with_reducible refine goGb_d (fun h => ?_) (fun h => ?_)
        | with_reducible refine goGb_split (fun h => ?_) (fun h => ?_)
        | with_reducible refine goDGb_b (fun h => ?_) (fun h => ?_)
        | with_reducible refine goDGb_n (fun h => ?_) (fun h => ?_)
        | with_reducible refine goDGb_d (fun h => ?_) (fun h => ?_)
        | with_reducible refine goDGb_split (fun h => ?_) (fun h => ?_)
        | (refine goCall_norm ?_; simp only [AV.norm, AV.normL, W2, hlt, map_emb_kid hlt, hroom 0 hlt, hroom2 0 hlt]; first | refine goCall_p (ih _ (kid_mem hlt)) (.inl rfl) ?_)
        | (refine goDCall_norm ?_; simp only [AV.norm, AV.normL, W2, hlt, map_emb_kid hlt, hroom 0 hlt, hroom2 0 hlt]; first | refine goDCall_p (ih _ (kid_mem hlt)) (.inl rfl) ?_)
        | refine go_draw (id := 5) C_ok mixed 0 Try.f27.ntmps rfl (by kernel_rfl) (by decide) ?_) <;> first | simp only [h, ↓upd_eq, ↓envL_cons, Go.Ab.W0, guardOf, eff, effBuiltin, abin, abinInt, cellsAt, shift, AState.ev, AState.put, AState.new, ofVal, ofVal1, setRange, inplOf, if_true, if_false, reduceIte, Nat.reduceEqDiff, Nat.reduceAdd, Nat.reduceLT, Nat.reduceLeDiff, reduceCtorEq, Nat.reduceMul, implies_true, fillA, placeSt, fillE, elemsOf, effAppend, effSlice, optInt, reCells, forall_eq_or_imp, forall_eq, isAl, retP, AV.norm, AV.normL, Nat.reducePow, W1, hlt, map_emb_kid hlt, hroom 0 hlt, hroom2 0 hlt] | simp only [↓upd_eq, ↓envL_cons, Go.Ab.W0, guardOf, eff, effBuiltin, abin, abinInt, cellsAt, shift, AState.ev, AState.put, AState.new, ofVal, ofVal1, setRange, inplOf, if_true, if_false, reduceIte, Nat.reduceEqDiff, Nat.reduceAdd, Nat.reduceLT, Nat.reduceLeDiff, reduceCtorEq, Nat.reduceMul, implies_true, fillA, placeSt, fillE, elemsOf, effAppend, effSlice, optInt, reCells, forall_eq_or_imp, forall_eq, isAl, retP, AV.norm, AV.normL, Nat.reducePow, W1, hlt, map_emb_kid hlt, hroom 0 hlt, hroom2 0 hlt] | skip)
      all_goals (refine ⟨0 + 1, hlt, by omega, weak_drop rfl rfl rfl ?_ ?_ ?_ ?_⟩ <;> (try simp only [List.forall_mem_cons, mem_nil_all, frz_app, ↓upd_eq, ↓envL_cons, Nat.reduceEqDiff, if_true, if_false, reduceIte, true_and, and_true, and_self, true_or, or_true, implies_true, List.not_mem_nil, false_implies, AV.bel, AV.belL, AObj.bel, AV.norm, AV.normL, Bool.and_true, Bool.true_and, decide_true, decide_eq_true_eq, List.length_cons, List.length_nil, Nat.zero_add, Nat.reduceAdd, Nat.lt_add_one, Nat.lt_add_right_iff_pos, Nat.zero_lt_succ, Nat.zero_lt_one, Nat.reduceLT, List.take_succ_cons, List.take_zero, wrap_succ hlt hmax, map_bel, map_norm, AV.belL, List.length_map]) <;> (try simp [List.range_succ, emb_cells]) <;> (try omega))
    · simp only [↓upd_eq, ↓envL_cons, Go.Ab.W0, guardOf, eff, effBuiltin, abin, abinInt, cellsAt, shift, AState.ev, AState.put, AState.new, ofVal, ofVal1, setRange, inplOf, if_true, if_false, reduceIte, Nat.reduceEqDiff, Nat.reduceAdd, Nat.reduceLT, Nat.reduceLeDiff, reduceCtorEq, Nat.reduceMul, implies_true, fillA, placeSt, fillE, elemsOf, effAppend, effSlice, optInt, reCells, forall_eq_or_imp, forall_eq, isAl, retP, AV.norm, AV.normL, Nat.reducePow, W1]
      exact hend 0 hlt hi
  · simp only [List.drop_succ_cons, List.drop_zero, List.cons_append, List.nil_append, List.take_succ_cons, List.take_zero]
    simp only [↓upd_eq, ↓envL_cons, Go.Ab.W0, guardOf, eff, effBuiltin, abin, abinInt, cellsAt, shift, AState.ev, AState.put, AState.new, ofVal, ofVal1, setRange, inplOf, if_true, if_false, reduceIte, Nat.reduceEqDiff, Nat.reduceAdd, Nat.reduceLT, Nat.reduceLeDiff, reduceCtorEq, Nat.reduceMul, implies_true, fillA, placeSt, fillE, elemsOf, effAppend, effSlice, optInt, reCells, forall_eq_or_imp, forall_eq, isAl, retP, AV.norm, AV.normL, Nat.reducePow, W1]
    refine goIf_d (fun hlt => ?_) (fun hlt => ?_)
    · try simp only [↓upd_eq, ↓envL_cons, Go.Ab.W0, guardOf, eff, effBuiltin, abin, abinInt, cellsAt, shift, AState.ev, AState.put, AState.new, ofVal, ofVal1, setRange, inplOf, if_true, if_false, reduceIte, Nat.reduceEqDiff, Nat.reduceAdd, Nat.reduceLT, Nat.reduceLeDiff, reduceCtorEq, Nat.reduceMul, implies_true, fillA, placeSt, fillE, elemsOf, effAppend, effSlice, optInt, reCells, forall_eq_or_imp, forall_eq, isAl, retP, AV.norm, AV.normL, Nat.reducePow, W1, hlt, map_emb_kid hlt, hroom (i + 1) hlt, hroom2 (i + 1) hlt]
      repeat' ((first
        | with_reducible refine goIf_b (fun h => ?_) (fun h => ?_)
        | with_reducible refine goIf_n (fun h => ?_) (fun h => ?_)
        | with_reducible refine goIf_d (fun h => ?_) (fun h => ?_)
        | with_reducible refine goIf_split (fun h => ?_) (fun h => ?_)
        | with_reducible refine goGb_b (fun h => ?_) (fun h => ?_)
        | with_reducible refine goGb_n (fun h => ?_) (fun h => ?_)
        | with_reducible refine goGb_d (fun h => ?_) (fun h => ?_)
        | with_reducible refine goGb_split (fun h => ?_) (fun h => ?_)
        | with_reducible refine goDGb_b (fun h => ?_) (fun h => ?_)
        | with_reducible refine goDGb_n (fun h => ?_) (fun h => ?_)
        | with_reducible refine goDGb_d (fun h => ?_) (fun h => ?_)
        | with_reducible refine goDGb_split (fun h => ?_) (fun h => ?_)
        | (refine goCall_norm ?_; simp only [AV.norm, AV.normL, W2, hlt, map_emb_kid hlt, hroom (i + 1) hlt, hroom2 (i + 1) hlt]; first | refine goCall_p (ih _ (kid_mem hlt)) (.inl rfl) ?_)
        | (refine goDCall_norm ?_; simp only [AV.norm, AV.normL, W2, hlt, map_emb_kid hlt, hroom (i + 1) hlt, hroom2 (i + 1) hlt]; first | refine goDCall_p (ih _ (kid_mem hlt)) (.inl rfl) ?_)
        | refine go_draw (id := 5) C_ok mixed 0 Try.f27.ntmps rfl (by kernel_rfl) (by decide) ?_) <;> first | simp only [h, ↓upd_eq, ↓envL_cons, Go.Ab.W0, guardOf, eff, effBuiltin, abin, abinInt, cellsAt, shift, AState.ev, AState.put, AState.new, ofVal, ofVal1, setRange, inplOf, if_true, if_false, reduceIte, Nat.reduceEqDiff, Nat.reduceAdd, Nat.reduceLT, Nat.reduceLeDiff, reduceCtorEq, Nat.reduceMul, implies_true, fillA, placeSt, fillE, elemsOf, effAppend, effSlice, optInt, reCells, forall_eq_or_imp, forall_eq, isAl, retP, AV.norm, AV.normL, Nat.reducePow, W1, hlt, map_emb_kid hlt, hroom (i + 1) hlt, hroom2 (i + 1) hlt] | simp only [↓upd_eq, ↓envL_cons, Go.Ab.W0, guardOf, eff, effBuiltin, abin, abinInt, cellsAt, shift, AState.ev, AState.put, AState.new, ofVal, ofVal1, setRange, inplOf, if_true, if_false, reduceIte, Nat.reduceEqDiff, Nat.reduceAdd, Nat.reduceLT, Nat.reduceLeDiff, reduceCtorEq, Nat.reduceMul, implies_true, fillA, placeSt, fillE, elemsOf, effAppend, effSlice, optInt, reCells, forall_eq_or_imp, forall_eq, isAl, retP, AV.norm, AV.normL, Nat.reducePow, W1, hlt, map_emb_kid hlt, hroom (i + 1) hlt, hroom2 (i + 1) hlt] | skip)
      all_goals (refine ⟨i + 1 + 1, hlt, by omega, weak_drop rfl rfl rfl ?_ ?_ ?_ ?_⟩ <;> (try simp only [List.forall_mem_cons, mem_nil_all, frz_app, ↓upd_eq, ↓envL_cons, Nat.reduceEqDiff, if_true, if_false, reduceIte, true_and, and_true, and_self, true_or, or_true, implies_true, List.not_mem_nil, false_implies, AV.bel, AV.belL, AObj.bel, AV.norm, AV.normL, Bool.and_true, Bool.true_and, decide_true, decide_eq_true_eq, List.length_cons, List.length_nil, Nat.zero_add, Nat.reduceAdd, Nat.lt_add_one, Nat.lt_add_right_iff_pos, Nat.zero_lt_succ, Nat.zero_lt_one, Nat.reduceLT, List.take_succ_cons, List.take_zero, wrap_succ hlt hmax, map_bel, map_norm, AV.belL, List.length_map]) <;> (try simp [List.range_succ, emb_cells]) <;> (try omega))
    · simp only [↓upd_eq, ↓envL_cons, Go.Ab.W0, guardOf, eff, effBuiltin, abin, abinInt, cellsAt, shift, AState.ev, AState.put, AState.new, ofVal, ofVal1, setRange, inplOf, if_true, if_false, reduceIte, Nat.reduceEqDiff, Nat.reduceAdd, Nat.reduceLT, Nat.reduceLeDiff, reduceCtorEq, Nat.reduceMul, implies_true, fillA, placeSt, fillE, elemsOf, effAppend, effSlice, optInt, reCells, forall_eq_or_imp, forall_eq, isAl, retP, AV.norm, AV.normL, Nat.reducePow, W1]
      exact hend (i + 1) hlt hi

theorem ktype_ok (t : Ty) (hs : nodes t ≤ 1048576) : PCalls Try.prog 27 [emb t] (emb t) :=
  Ty.ind (p := fun t => nodes t ≤ 1048576 → PCalls Try.prog 27 [emb t] (emb t)) (fun t ih hs => ktype_step t hs fun x hx => ih x hx (by have := nodes_kid hx; omega)) t hs

end Go.Proofs.Ytcpfjabjonpdaaa
