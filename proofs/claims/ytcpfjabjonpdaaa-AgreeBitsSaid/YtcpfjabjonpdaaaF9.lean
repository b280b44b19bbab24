/- Walks: meets. No condition. -/
import Derived.Test.YtcpfjabjonpdaaaF3
import Derived.Test.YtcpfjabjonpdaaaF4
import Derived.Test.YtcpfjabjonpdaaaF7
import Derived.Test.YtcpfjabjonpdaaaF8
import Derived.Test.YtcpfjabjonpdaaaM3
set_option linter.unusedSimpArgs false
set_option linter.unusedVariables false
set_option maxHeartbeats 4000000
namespace Go.Proofs.Ytcpfjabjonpdaaa
open Go Go.Ab
attribute [local irreducible] PCalls ACalls CallK GoCall GoDCall GoIf GoGb GoDGb GoO GoD GoX GoDX GoG GoDG GoGv GoDGv Go ALoop

theorem ameet_step (a b : Ty) (ha : right a = true) (hb : right b = true) (hab : agree a b = true) (ih : ∀ x ∈ a.kids, ∀ y, right x = true → right y = true → agree x y = true → PCalls Try.prog 76 [emb x, emb y] (emb (meet x y))) : PCalls Try.prog 76 [emb a, emb b] (emb (meet a b)) := by
  have hlen2 := right_len2 ha
  refine pcalls_text C_ok Try.func76 rfl (by decide) (Nat.le_of_ble_eq_true rfl) (by decide) (emb_bel _ _) fun ok H => ?_
  rw [Try.results76]
  try simp only [↓upd_eq, ↓envL_cons, Go.Ab.W0, guardOf, eff, effBuiltin, abin, abinInt, cellsAt, shift, AState.ev, AState.put, AState.new, ofVal, ofVal1, setRange, inplOf, if_true, if_false, reduceIte, Nat.reduceEqDiff, Nat.reduceAdd, Nat.reduceLT, Nat.reduceLeDiff, reduceCtorEq, Nat.reduceMul, implies_true, fillA, placeSt, fillE, elemsOf, effAppend, effSlice, optInt, reCells, forall_eq_or_imp, forall_eq, isAl, retP, AV.norm, AV.normL, Nat.reducePow, W1]
  repeat' ((first
    | with_reducible refine goIf_b (fun h => ?_) (fun h => ?_)
    | with_reducible refine goIf_n (fun h => ?_) (fun h => ?_)
    | with_reducible refine goIf_d (fun h => ?_) (fun h => ?_)
    | with_reducible refine goIf_split (fun h => ?_) (fun h => ?_)
    | with_reducible refine goGb_b (fun h => ?_) (fun h => ?_)
    | with_reducible refine goGb_n (fun h => ?_) (fun h => ?_)
    | with_reducible refine goGb_d (fun h => ?_) (fun h => ?_)
    | with_reducible refine goGb_split (fun h => ?_) (fun h => ?_)
    | with_reducible refine goDGb_b (fun h => ?_) (fun h => ?_)
    | with_reducible refine goDGb_n (fun h => ?_) (fun h => ?_)
    | with_reducible refine goDGb_d (fun h => ?_) (fun h => ?_)
    | with_reducible refine goDGb_split (fun h => ?_) (fun h => ?_)
    | refine go_draw (id := 9) C_ok mixed 0 Try.f76.ntmps rfl (by kernel_rfl) (by decide) ?_) <;> first | simp only [h, ↓upd_eq, ↓envL_cons, Go.Ab.W0, guardOf, eff, effBuiltin, abin, abinInt, cellsAt, shift, AState.ev, AState.put, AState.new, ofVal, ofVal1, setRange, inplOf, if_true, if_false, reduceIte, Nat.reduceEqDiff, Nat.reduceAdd, Nat.reduceLT, Nat.reduceLeDiff, reduceCtorEq, Nat.reduceMul, implies_true, fillA, placeSt, fillE, elemsOf, effAppend, effSlice, optInt, reCells, forall_eq_or_imp, forall_eq, isAl, retP, AV.norm, AV.normL, Nat.reducePow, W1] | simp only [↓upd_eq, ↓envL_cons, Go.Ab.W0, guardOf, eff, effBuiltin, abin, abinInt, cellsAt, shift, AState.ev, AState.put, AState.new, ofVal, ofVal1, setRange, inplOf, if_true, if_false, reduceIte, Nat.reduceEqDiff, Nat.reduceAdd, Nat.reduceLT, Nat.reduceLeDiff, reduceCtorEq, Nat.reduceMul, implies_true, fillA, placeSt, fillE, elemsOf, effAppend, effSlice, optInt, reCells, forall_eq_or_imp, forall_eq, isAl, retP, AV.norm, AV.normL, Nat.reducePow, W1] | skip)
  · rw [meet_eq]; simp_all
  · rw [meet_eq]; simp_all
  · rw [meet_eq]; simp_all
  · have ha5 : a.kind ≠ 5 := by simp_all
    have hb5 : b.kind ≠ 5 := by simp_all
    rcases agree_iff.1 hab with ⟨h1, _⟩ | ⟨_, h1, _⟩ | ⟨_, _, hk, hn, hkid⟩
    · exact absurd h1 ha5
    · exact absurd h1 hb5
    · have hlen : b.kids.length = a.kids.length := right_len ha hb hk
      have hmax : a.kids.length ≤ maxLen := (emb_okay ok.1).1
      have hroom : ∀ i, i < a.kids.length → ((i + 1) * 40 ≤ 140737488355328) = True := fun i h => by simp only [eq_iff_iff, iff_true]; omega
      have hroom2 : ∀ i, i < a.kids.length → (i + 1 ≤ 9223372036854775807) = True := fun i h => by simp only [eq_iff_iff, iff_true]; omega
      have hend : ∀ m, ¬ m < a.kids.length → m ≤ a.kids.length → emb (.mk a.kind 0 ((List.range m).map fun i => meet (a.kid i) (b.kid i))) = emb (meet a b) := fun m h1 h2 => by
        obtain rfl : m = a.kids.length := by omega
        rw [meet_eq]
        by_cases hk0 : a.kids = []
        · simp_all
        · simp [ha5, hb5, hk0]
      refine aloop_trim [30, 3, 4, 5, 28, 29] ?_
      simp only [List.map_cons, List.map_nil, ↓upd_eq, ↓envL_cons, Go.Ab.W0, guardOf, eff, effBuiltin, abin, abinInt, cellsAt, shift, AState.ev, AState.put, AState.new, ofVal, ofVal1, setRange, inplOf, if_true, if_false, reduceIte, Nat.reduceEqDiff, Nat.reduceAdd, Nat.reduceLT, Nat.reduceLeDiff, reduceCtorEq, Nat.reduceMul, implies_true, fillA, placeSt, fillE, elemsOf, effAppend, effSlice, optInt, reCells, forall_eq_or_imp, forall_eq, isAl, retP, AV.norm, AV.normL, Nat.reducePow, W1]
      refine goLoopP 1 3 (fun i : Nat => [(30, .int .i64 i)]) (fun i => match i with
          | 0 => [.box [.int .i64 a.kind, .int .i64 0,.sl [] .full]]
          | i + 1 => [.box [.int .i64 a.kind, .int .i64 0,.sl (((List.range (i + 1)).map (fun i => meet (a.kid i) (b.kid i))).map emb) (.own (H.length + 5))], .box (cellsOf (emb (a.kid 0))),.tok (i + 1) 3]) (fun i => i ≤ a.kids.length) (fun i => a.kids.length - i) C_ok 0 rfl rfl (Nat.zero_le _) (by decide) ?_
      rintro (_ | i) hi
      · simp only [List.drop_succ_cons, List.drop_zero, List.cons_append, List.nil_append, List.take_succ_cons, List.take_zero]
        simp only [↓upd_eq, ↓envL_cons, Go.Ab.W0, guardOf, eff, effBuiltin, abin, abinInt, cellsAt, shift, AState.ev, AState.put, AState.new, ofVal, ofVal1, setRange, inplOf, if_true, if_false, reduceIte, Nat.reduceEqDiff, Nat.reduceAdd, Nat.reduceLT, Nat.reduceLeDiff, reduceCtorEq, Nat.reduceMul, implies_true, fillA, placeSt, fillE, elemsOf, effAppend, effSlice, optInt, reCells, forall_eq_or_imp, forall_eq, isAl, retP, AV.norm, AV.normL, Nat.reducePow, W1]
        refine goIf_d (fun hlt => ?_) (fun hlt => ?_)
        · try simp only [↓upd_eq, ↓envL_cons, Go.Ab.W0, guardOf, eff, effBuiltin, abin, abinInt, cellsAt, shift, AState.ev, AState.put, AState.new, ofVal, ofVal1, setRange, inplOf, if_true, if_false, reduceIte, Nat.reduceEqDiff, Nat.reduceAdd, Nat.reduceLT, Nat.reduceLeDiff, reduceCtorEq, Nat.reduceMul, implies_true, fillA, placeSt, fillE, elemsOf, effAppend, effSlice, optInt, reCells, forall_eq_or_imp, forall_eq, isAl, retP, AV.norm, AV.normL, Nat.reducePow, W1, hlt, map_emb_kid hlt, map_emb_kid (hlen.symm ▸ hlt), hlen, hroom 0 hlt, hroom2 0 hlt]
          repeat' ((first
            | with_reducible refine goIf_b (fun h => ?_) (fun h => ?_)
            | with_reducible refine goIf_n (fun h => ?_) (fun h => ?_)
            | with_reducible refine goIf_d (fun h => ?_) (fun h => ?_)
            | with_reducible refine goIf_split (fun h => ?_) (fun h => ?_)
            | with_reducible refine goGb_b (fun h => ?_) (fun h => ?_)
            | with_reducible refine goGb_n (fun h => ?_) (fun h => ?_)
            | with_reducible refine goGb_d (fun h => ?_) (fun h => ?_)
            | with_reducible refine goGb_split (fun h => ?_) (fun h => ?_)
            | with_reducible refine goDGb_b (fun h => ?_) (fun h => ?_)
            | with_reducible refine goDGb_n (fun h => ?_) (fun h => ?_)
            | with_reducible refine goDGb_d (fun h => ?_) (fun h => ?_)
            | with_reducible refine goDGb_split (fun h => ?_) (fun h => ?_)
            | (refine goCall_norm ?_; simp only [AV.norm, AV.normL, W2, hlt, map_emb_kid hlt, map_emb_kid (hlen.symm ▸ hlt), hlen, hroom 0 hlt, hroom2 0 hlt]; first | refine goCall_p (ih _ (kid_mem hlt) _ (right_kid ha hlt) (right_kid hb (hlen.symm ▸ hlt)) (hkid _ hlt)) (.inl rfl) ?_)
            | (refine goDCall_norm ?_; simp only [AV.norm, AV.normL, W2, hlt, map_emb_kid hlt, map_emb_kid (hlen.symm ▸ hlt), hlen, hroom 0 hlt, hroom2 0 hlt]; first | refine goDCall_p (ih _ (kid_mem hlt) _ (right_kid ha hlt) (right_kid hb (hlen.symm ▸ hlt)) (hkid _ hlt)) (.inl rfl) ?_)
            | refine go_draw (id := 9) C_ok mixed 0 Try.f76.ntmps rfl (by kernel_rfl) (by decide) ?_) <;> first | simp only [h, ↓upd_eq, ↓envL_cons, Go.Ab.W0, guardOf, eff, effBuiltin, abin, abinInt, cellsAt, shift, AState.ev, AState.put, AState.new, ofVal, ofVal1, setRange, inplOf, if_true, if_false, reduceIte, Nat.reduceEqDiff, Nat.reduceAdd, Nat.reduceLT, Nat.reduceLeDiff, reduceCtorEq, Nat.reduceMul, implies_true, fillA, placeSt, fillE, elemsOf, effAppend, effSlice, optInt, reCells, forall_eq_or_imp, forall_eq, isAl, retP, AV.norm, AV.normL, Nat.reducePow, W1, hlt, map_emb_kid hlt, map_emb_kid (hlen.symm ▸ hlt), hlen, hroom 0 hlt, hroom2 0 hlt] | simp only [↓upd_eq, ↓envL_cons, Go.Ab.W0, guardOf, eff, effBuiltin, abin, abinInt, cellsAt, shift, AState.ev, AState.put, AState.new, ofVal, ofVal1, setRange, inplOf, if_true, if_false, reduceIte, Nat.reduceEqDiff, Nat.reduceAdd, Nat.reduceLT, Nat.reduceLeDiff, reduceCtorEq, Nat.reduceMul, implies_true, fillA, placeSt, fillE, elemsOf, effAppend, effSlice, optInt, reCells, forall_eq_or_imp, forall_eq, isAl, retP, AV.norm, AV.normL, Nat.reducePow, W1, hlt, map_emb_kid hlt, map_emb_kid (hlen.symm ▸ hlt), hlen, hroom 0 hlt, hroom2 0 hlt] | skip)
          all_goals (refine ⟨0 + 1, hlt, by omega, weak_drop rfl rfl rfl ?_ ?_ ?_ ?_⟩ <;> (try simp only [List.forall_mem_cons, mem_nil_all, frz_app, ↓upd_eq, ↓envL_cons, Nat.reduceEqDiff, if_true, if_false, reduceIte, true_and, and_true, and_self, true_or, or_true, implies_true, List.not_mem_nil, false_implies, AV.bel, AV.belL, AObj.bel, AV.norm, AV.normL, Bool.and_true, Bool.true_and, decide_true, decide_eq_true_eq, List.length_cons, List.length_nil, Nat.zero_add, Nat.reduceAdd, Nat.lt_add_one, Nat.lt_add_right_iff_pos, Nat.zero_lt_succ, Nat.zero_lt_one, Nat.reduceLT, List.take_succ_cons, List.take_zero, wrap_succ hlt hmax, map_bel, map_norm, AV.belL, List.length_map]) <;> (try simp [List.range_succ, emb_cells]) <;> (try omega))
        · simp only [↓upd_eq, ↓envL_cons, Go.Ab.W0, guardOf, eff, effBuiltin, abin, abinInt, cellsAt, shift, AState.ev, AState.put, AState.new, ofVal, ofVal1, setRange, inplOf, if_true, if_false, reduceIte, Nat.reduceEqDiff, Nat.reduceAdd, Nat.reduceLT, Nat.reduceLeDiff, reduceCtorEq, Nat.reduceMul, implies_true, fillA, placeSt, fillE, elemsOf, effAppend, effSlice, optInt, reCells, forall_eq_or_imp, forall_eq, isAl, retP, AV.norm, AV.normL, Nat.reducePow, W1]
          exact hend 0 hlt hi
      · simp only [List.drop_succ_cons, List.drop_zero, List.cons_append, List.nil_append, List.take_succ_cons, List.take_zero]
        simp only [↓upd_eq, ↓envL_cons, Go.Ab.W0, guardOf, eff, effBuiltin, abin, abinInt, cellsAt, shift, AState.ev, AState.put, AState.new, ofVal, ofVal1, setRange, inplOf, if_true, if_false, reduceIte, Nat.reduceEqDiff, Nat.reduceAdd, Nat.reduceLT, Nat.reduceLeDiff, reduceCtorEq, Nat.reduceMul, implies_true, fillA, placeSt, fillE, elemsOf, effAppend, effSlice, optInt, reCells, forall_eq_or_imp, forall_eq, isAl, retP, AV.norm, AV.normL, Nat.reducePow, W1]
        refine goIf_d (fun hlt => ?_) (fun hlt => ?_)
        · try simp only [↓upd_eq, ↓envL_cons, Go.Ab.W0, guardOf, eff, effBuiltin, abin, abinInt, cellsAt, shift, AState.ev, AState.put, AState.new, ofVal, ofVal1, setRange, inplOf, if_true, if_false, reduceIte, Nat.reduceEqDiff, Nat.reduceAdd, Nat.reduceLT, Nat.reduceLeDiff, reduceCtorEq, Nat.reduceMul, implies_true, fillA, placeSt, fillE, elemsOf, effAppend, effSlice, optInt, reCells, forall_eq_or_imp, forall_eq, isAl, retP, AV.norm, AV.normL, Nat.reducePow, W1, hlt, map_emb_kid hlt, map_emb_kid (hlen.symm ▸ hlt), hlen, hroom (i + 1) hlt, hroom2 (i + 1) hlt]
          repeat' ((first
            | with_reducible refine goIf_b (fun h => ?_) (fun h => ?_)
            | with_reducible refine goIf_n (fun h => ?_) (fun h => ?_)
            | with_reducible refine goIf_d (fun h => ?_) (fun h => ?_)
            | with_reducible refine goIf_split (fun h => ?_) (fun h => ?_)
            | with_reducible refine goGb_b (fun h => ?_) (fun h => ?_)
            | with_reducible refine goGb_n (fun h => ?_) (fun h => ?_)
            | with_reducible refine goGb_d (fun h => ?_) (fun h => ?_)
            | with_reducible refine goGb_split (fun h => ?_) (fun h => ?_)
            | with_reducible refine goDGb_b (fun h => ?_) (fun h => ?_)
            | with_reducible refine goDGb_n (fun h => ?_) (fun h => ?_)
            | with_reducible refine goDGb_d (fun h => ?_) (fun h => ?_)
            | with_reducible refine goDGb_split (fun h => ?_) (fun h => ?_)
            | (refine goCall_norm ?_; simp only [AV.norm, AV.normL, W2, hlt, map_emb_kid hlt, map_emb_kid (hlen.symm ▸ hlt), hlen, hroom (i + 1) hlt, hroom2 (i + 1) hlt]; first | refine goCall_p (ih _ (kid_mem hlt) _ (right_kid ha hlt) (right_kid hb (hlen.symm ▸ hlt)) (hkid _ hlt)) (.inl rfl) ?_)
            | (refine goDCall_norm ?_; simp only [AV.norm, AV.normL, W2, hlt, map_emb_kid hlt, map_emb_kid (hlen.symm ▸ hlt), hlen, hroom (i + 1) hlt, hroom2 (i + 1) hlt]; first | refine goDCall_p (ih _ (kid_mem hlt) _ (right_kid ha hlt) (right_kid hb (hlen.symm ▸ hlt)) (hkid _ hlt)) (.inl rfl) ?_)
            | refine go_draw (id := 9) C_ok mixed 0 Try.f76.ntmps rfl (by kernel_rfl) (by decide) ?_) <;> first | simp only [h, ↓upd_eq, ↓envL_cons, Go.Ab.W0, guardOf, eff, effBuiltin, abin, abinInt, cellsAt, shift, AState.ev, AState.put, AState.new, ofVal, ofVal1, setRange, inplOf, if_true, if_false, reduceIte, Nat.reduceEqDiff, Nat.reduceAdd, Nat.reduceLT, Nat.reduceLeDiff, reduceCtorEq, Nat.reduceMul, implies_true, fillA, placeSt, fillE, elemsOf, effAppend, effSlice, optInt, reCells, forall_eq_or_imp, forall_eq, isAl, retP, AV.norm, AV.normL, Nat.reducePow, W1, hlt, map_emb_kid hlt, map_emb_kid (hlen.symm ▸ hlt), hlen, hroom (i + 1) hlt, hroom2 (i + 1) hlt] | simp only [↓upd_eq, ↓envL_cons, Go.Ab.W0, guardOf, eff, effBuiltin, abin, abinInt, cellsAt, shift, AState.ev, AState.put, AState.new, ofVal, ofVal1, setRange, inplOf, if_true, if_false, reduceIte, Nat.reduceEqDiff, Nat.reduceAdd, Nat.reduceLT, Nat.reduceLeDiff, reduceCtorEq, Nat.reduceMul, implies_true, fillA, placeSt, fillE, elemsOf, effAppend, effSlice, optInt, reCells, forall_eq_or_imp, forall_eq, isAl, retP, AV.norm, AV.normL, Nat.reducePow, W1, hlt, map_emb_kid hlt, map_emb_kid (hlen.symm ▸ hlt), hlen, hroom (i + 1) hlt, hroom2 (i + 1) hlt] | skip)
          all_goals (refine ⟨i + 1 + 1, hlt, by omega, weak_drop rfl rfl rfl ?_ ?_ ?_ ?_⟩ <;> (try simp only [List.forall_mem_cons, mem_nil_all, frz_app, ↓upd_eq, ↓envL_cons, Nat.reduceEqDiff, if_true, if_false, reduceIte, true_and, and_true, and_self, true_or, or_true, implies_true, List.not_mem_nil, false_implies, AV.bel, AV.belL, AObj.bel, AV.norm, AV.normL, Bool.and_true, Bool.true_and, decide_true, decide_eq_true_eq, List.length_cons, List.length_nil, Nat.zero_add, Nat.reduceAdd, Nat.lt_add_one, Nat.lt_add_right_iff_pos, Nat.zero_lt_succ, Nat.zero_lt_one, Nat.reduceLT, List.take_succ_cons, List.take_zero, wrap_succ hlt hmax, map_bel, map_norm, AV.belL, List.length_map]) <;> (try simp [List.range_succ, emb_cells]) <;> (try omega))
        · simp only [↓upd_eq, ↓envL_cons, Go.Ab.W0, guardOf, eff, effBuiltin, abin, abinInt, cellsAt, shift, AState.ev, AState.put, AState.new, ofVal, ofVal1, setRange, inplOf, if_true, if_false, reduceIte, Nat.reduceEqDiff, Nat.reduceAdd, Nat.reduceLT, Nat.reduceLeDiff, reduceCtorEq, Nat.reduceMul, implies_true, fillA, placeSt, fillE, elemsOf, effAppend, effSlice, optInt, reCells, forall_eq_or_imp, forall_eq, isAl, retP, AV.norm, AV.normL, Nat.reducePow, W1]
          exact hend (i + 1) hlt hi
theorem ameet_ok : ∀ (a b : Ty), right a = true → right b = true → agree a b = true → PCalls Try.prog 76 [emb a, emb b] (emb (meet a b)) :=
  Ty.ind (p := fun a => ∀ b, right a = true → right b = true → agree a b = true → PCalls Try.prog 76 [emb a, emb b] (emb (meet a b))) fun a ih b ha hb h => ameet_step a b ha hb h fun x hx y => ih x hx y

theorem rmeet_step (a b : Ty) (ha : right a = true) (hb : right b = true) (hab : agree a b = true) (ih : ∀ x ∈ a.kids, ∀ y, right x = true → right y = true → agree x y = true → PCalls Try.prog 51 [emb x, emb y] (emb (meet x y))) : PCalls Try.prog 51 [emb a, emb b] (emb (meet a b)) := by
  have hlen2 := right_len2 ha
  refine pcalls_text C_ok Try.func51 rfl (by decide) (Nat.le_of_ble_eq_true rfl) (by decide) (emb_bel _ _) fun ok H => ?_
  rw [Try.results51]
  try simp only [↓upd_eq, ↓envL_cons, Go.Ab.W0, guardOf, eff, effBuiltin, abin, abinInt, cellsAt, shift, AState.ev, AState.put, AState.new, ofVal, ofVal1, setRange, inplOf, if_true, if_false, reduceIte, Nat.reduceEqDiff, Nat.reduceAdd, Nat.reduceLT, Nat.reduceLeDiff, reduceCtorEq, Nat.reduceMul, implies_true, fillA, placeSt, fillE, elemsOf, effAppend, effSlice, optInt, reCells, forall_eq_or_imp, forall_eq, isAl, retP, AV.norm, AV.normL, Nat.reducePow, W1]
  repeat' ((first
    | with_reducible refine goIf_b (fun h => ?_) (fun h => ?_)
    | with_reducible refine goIf_n (fun h => ?_) (fun h => ?_)
    | with_reducible refine goIf_d (fun h => ?_) (fun h => ?_)
    | with_reducible refine goIf_split (fun h => ?_) (fun h => ?_)
    | with_reducible refine goGb_b (fun h => ?_) (fun h => ?_)
    | with_reducible refine goGb_n (fun h => ?_) (fun h => ?_)
    | with_reducible refine goGb_d (fun h => ?_) (fun h => ?_)
    | with_reducible refine goGb_split (fun h => ?_) (fun h => ?_)
    | with_reducible refine goDGb_b (fun h => ?_) (fun h => ?_)
    | with_reducible refine goDGb_n (fun h => ?_) (fun h => ?_)
    | with_reducible refine goDGb_d (fun h => ?_) (fun h => ?_)
    | with_reducible refine goDGb_split (fun h => ?_) (fun h => ?_)
    | refine go_draw (id := 10) C_ok mixed 0 Try.f51.ntmps rfl (by kernel_rfl) (by decide) ?_) <;> first | simp only [h, ↓upd_eq, ↓envL_cons, Go.Ab.W0, guardOf, eff, effBuiltin, abin, abinInt, cellsAt, shift, AState.ev, AState.put, AState.new, ofVal, ofVal1, setRange, inplOf, if_true, if_false, reduceIte, Nat.reduceEqDiff, Nat.reduceAdd, Nat.reduceLT, Nat.reduceLeDiff, reduceCtorEq, Nat.reduceMul, implies_true, fillA, placeSt, fillE, elemsOf, effAppend, effSlice, optInt, reCells, forall_eq_or_imp, forall_eq, isAl, retP, AV.norm, AV.normL, Nat.reducePow, W1] | simp only [↓upd_eq, ↓envL_cons, Go.Ab.W0, guardOf, eff, effBuiltin, abin, abinInt, cellsAt, shift, AState.ev, AState.put, AState.new, ofVal, ofVal1, setRange, inplOf, if_true, if_false, reduceIte, Nat.reduceEqDiff, Nat.reduceAdd, Nat.reduceLT, Nat.reduceLeDiff, reduceCtorEq, Nat.reduceMul, implies_true, fillA, placeSt, fillE, elemsOf, effAppend, effSlice, optInt, reCells, forall_eq_or_imp, forall_eq, isAl, retP, AV.norm, AV.normL, Nat.reducePow, W1] | skip)
  · rw [meet_eq]; simp_all
  · rw [meet_eq]; simp_all
  · rw [meet_eq]; simp_all
  · have ha5 : a.kind ≠ 5 := by simp_all
    have hb5 : b.kind ≠ 5 := by simp_all
    rcases agree_iff.1 hab with ⟨h1, _⟩ | ⟨_, h1, _⟩ | ⟨_, _, hk, hn, hkid⟩
    · exact absurd h1 ha5
    · exact absurd h1 hb5
    · have hlen : b.kids.length = a.kids.length := right_len ha hb hk
      have hmax : a.kids.length ≤ maxLen := (emb_okay ok.1).1
      have hroom : ∀ i, i < a.kids.length → ((i + 1) * 40 ≤ 140737488355328) = True := fun i h => by simp only [eq_iff_iff, iff_true]; omega
      have hroom2 : ∀ i, i < a.kids.length → (i + 1 ≤ 9223372036854775807) = True := fun i h => by simp only [eq_iff_iff, iff_true]; omega
      have hend : ∀ m, ¬ m < a.kids.length → m ≤ a.kids.length → emb (.mk a.kind 0 ((List.range m).map fun i => meet (a.kid i) (b.kid i))) = emb (meet a b) := fun m h1 h2 => by
        obtain rfl : m = a.kids.length := by omega
        rw [meet_eq]
        by_cases hk0 : a.kids = []
        · simp_all
        · simp [ha5, hb5, hk0]
      refine aloop_trim [6, 2, 3, 4, 5] ?_
      simp only [List.map_cons, List.map_nil, ↓upd_eq, ↓envL_cons, Go.Ab.W0, guardOf, eff, effBuiltin, abin, abinInt, cellsAt, shift, AState.ev, AState.put, AState.new, ofVal, ofVal1, setRange, inplOf, if_true, if_false, reduceIte, Nat.reduceEqDiff, Nat.reduceAdd, Nat.reduceLT, Nat.reduceLeDiff, reduceCtorEq, Nat.reduceMul, implies_true, fillA, placeSt, fillE, elemsOf, effAppend, effSlice, optInt, reCells, forall_eq_or_imp, forall_eq, isAl, retP, AV.norm, AV.normL, Nat.reducePow, W1]
      refine goLoopP 1 3 (fun i : Nat => [(6, .int .i64 i)]) (fun i => match i with
          | 0 => [.box [.int .i64 a.kind, .int .i64 0,.sl [] .full]]
          | i + 1 => [.box [.int .i64 a.kind, .int .i64 0,.sl (((List.range (i + 1)).map (fun i => meet (a.kid i) (b.kid i))).map emb) (.own (H.length + 4))], .tok (i + 1) 3]) (fun i => i ≤ a.kids.length) (fun i => a.kids.length - i) C_ok 0 rfl rfl (Nat.zero_le _) (by decide) ?_
      rintro (_ | i) hi
      · simp only [List.drop_succ_cons, List.drop_zero, List.cons_append, List.nil_append, List.take_succ_cons, List.take_zero]
        simp only [↓upd_eq, ↓envL_cons, Go.Ab.W0, guardOf, eff, effBuiltin, abin, abinInt, cellsAt, shift, AState.ev, AState.put, AState.new, ofVal, ofVal1, setRange, inplOf, if_true, if_false, reduceIte, Nat.reduceEqDiff, Nat.reduceAdd, Nat.reduceLT, Nat.reduceLeDiff, reduceCtorEq, Nat.reduceMul, implies_true, fillA, placeSt, fillE, elemsOf, effAppend, effSlice, optInt, reCells, forall_eq_or_imp, forall_eq, isAl, retP, AV.norm, AV.normL, Nat.reducePow, W1]
        refine goIf_d (fun hlt => ?_) (fun hlt => ?_)
        · try simp only [↓upd_eq, ↓envL_cons, Go.Ab.W0, guardOf, eff, effBuiltin, abin, abinInt, cellsAt, shift, AState.ev, AState.put, AState.new, ofVal, ofVal1, setRange, inplOf, if_true, if_false, reduceIte, Nat.reduceEqDiff, Nat.reduceAdd, Nat.reduceLT, Nat.reduceLeDiff, reduceCtorEq, Nat.reduceMul, implies_true, fillA, placeSt, fillE, elemsOf, effAppend, effSlice, optInt, reCells, forall_eq_or_imp, forall_eq, isAl, retP, AV.norm, AV.normL, Nat.reducePow, W1, hlt, map_emb_kid hlt, map_emb_kid (hlen.symm ▸ hlt), hlen, hroom 0 hlt, hroom2 0 hlt]
          repeat' ((first
            | with_reducible refine goIf_b (fun h => ?_) (fun h => ?_)
            | with_reducible refine goIf_n (fun h => ?_) (fun h => ?_)
            | with_reducible refine goIf_d (fun h => ?_) (fun h => ?_)
            | with_reducible refine goIf_split (fun h => ?_) (fun h => ?_)
            | with_reducible refine goGb_b (fun h => ?_) (fun h => ?_)
            | with_reducible refine goGb_n (fun h => ?_) (fun h => ?_)
            | with_reducible refine goGb_d (fun h => ?_) (fun h => ?_)
            | with_reducible refine goGb_split (fun h => ?_) (fun h => ?_)
            | with_reducible refine goDGb_b (fun h => ?_) (fun h => ?_)
            | with_reducible refine goDGb_n (fun h => ?_) (fun h => ?_)
            | with_reducible refine goDGb_d (fun h => ?_) (fun h => ?_)
            | with_reducible refine goDGb_split (fun h => ?_) (fun h => ?_)
            | (refine goCall_norm ?_; simp only [AV.norm, AV.normL, W2, hlt, map_emb_kid hlt, map_emb_kid (hlen.symm ▸ hlt), hlen, hroom 0 hlt, hroom2 0 hlt]; first | refine goCall_p (ih _ (kid_mem hlt) _ (right_kid ha hlt) (right_kid hb (hlen.symm ▸ hlt)) (hkid _ hlt)) (.inl rfl) ?_)
            | (refine goDCall_norm ?_; simp only [AV.norm, AV.normL, W2, hlt, map_emb_kid hlt, map_emb_kid (hlen.symm ▸ hlt), hlen, hroom 0 hlt, hroom2 0 hlt]; first | refine goDCall_p (ih _ (kid_mem hlt) _ (right_kid ha hlt) (right_kid hb (hlen.symm ▸ hlt)) (hkid _ hlt)) (.inl rfl) ?_)
            | refine go_draw (id := 10) C_ok mixed 0 Try.f51.ntmps rfl (by kernel_rfl) (by decide) ?_) <;> first | simp only [h, ↓upd_eq, ↓envL_cons, Go.Ab.W0, guardOf, eff, effBuiltin, abin, abinInt, cellsAt, shift, AState.ev, AState.put, AState.new, ofVal, ofVal1, setRange, inplOf, if_true, if_false, reduceIte, Nat.reduceEqDiff, Nat.reduceAdd, Nat.reduceLT, Nat.reduceLeDiff, reduceCtorEq, Nat.reduceMul, implies_true, fillA, placeSt, fillE, elemsOf, effAppend, effSlice, optInt, reCells, forall_eq_or_imp, forall_eq, isAl, retP, AV.norm, AV.normL, Nat.reducePow, W1, hlt, map_emb_kid hlt, map_emb_kid (hlen.symm ▸ hlt), hlen, hroom 0 hlt, hroom2 0 hlt] | simp only [↓upd_eq, ↓envL_cons, Go.Ab.W0, guardOf, eff, effBuiltin, abin, abinInt, cellsAt, shift, AState.ev, AState.put, AState.new, ofVal, ofVal1, setRange, inplOf, if_true, if_false, reduceIte, Nat.reduceEqDiff, Nat.reduceAdd, Nat.reduceLT, Nat.reduceLeDiff, reduceCtorEq, Nat.reduceMul, implies_true, fillA, placeSt, fillE, elemsOf, effAppend, effSlice, optInt, reCells, forall_eq_or_imp, forall_eq, isAl, retP, AV.norm, AV.normL, Nat.reducePow, W1, hlt, map_emb_kid hlt, map_emb_kid (hlen.symm ▸ hlt), hlen, hroom 0 hlt, hroom2 0 hlt] | skip)
          all_goals (refine ⟨0 + 1, hlt, by omega, weak_drop rfl rfl rfl ?_ ?_ ?_ ?_⟩ <;> (try simp only [List.forall_mem_cons, mem_nil_all, frz_app, ↓upd_eq, ↓envL_cons, Nat.reduceEqDiff, if_true, if_false, reduceIte, true_and, and_true, and_self, true_or, or_true, implies_true, List.not_mem_nil, false_implies, AV.bel, AV.belL, AObj.bel, AV.norm, AV.normL, Bool.and_true, Bool.true_and, decide_true, decide_eq_true_eq, List.length_cons, List.length_nil, Nat.zero_add, Nat.reduceAdd, Nat.lt_add_one, Nat.lt_add_right_iff_pos, Nat.zero_lt_succ, Nat.zero_lt_one, Nat.reduceLT, List.take_succ_cons, List.take_zero, wrap_succ hlt hmax, map_bel, map_norm, AV.belL, List.length_map]) <;> (try simp [List.range_succ, emb_cells]) <;> (try omega))
        · simp only [↓upd_eq, ↓envL_cons, Go.Ab.W0, guardOf, eff, effBuiltin, abin, abinInt, cellsAt, shift, AState.ev, AState.put, AState.new, ofVal, ofVal1, setRange, inplOf, if_true, if_false, reduceIte, Nat.reduceEqDiff, Nat.reduceAdd, Nat.reduceLT, Nat.reduceLeDiff, reduceCtorEq, Nat.reduceMul, implies_true, fillA, placeSt, fillE, elemsOf, effAppend, effSlice, optInt, reCells, forall_eq_or_imp, forall_eq, isAl, retP, AV.norm, AV.normL, Nat.reducePow, W1]
          exact hend 0 hlt hi
      · simp only [List.drop_succ_cons, List.drop_zero, List.cons_append, List.nil_append, List.take_succ_cons, List.take_zero]
        simp only [↓upd_eq, ↓envL_cons, Go.Ab.W0, guardOf, eff, effBuiltin, abin, abinInt, cellsAt, shift, AState.ev, AState.put, AState.new, ofVal, ofVal1, setRange, inplOf, if_true, if_false, reduceIte, Nat.reduceEqDiff, Nat.reduceAdd, Nat.reduceLT, Nat.reduceLeDiff, reduceCtorEq, Nat.reduceMul, implies_true, fillA, placeSt, fillE, elemsOf, effAppend, effSlice, optInt, reCells, forall_eq_or_imp, forall_eq, isAl, retP, AV.norm, AV.normL, Nat.reducePow, W1]
        refine goIf_d (fun hlt => ?_) (fun hlt => ?_)
        · try simp only [↓upd_eq, ↓envL_cons, Go.Ab.W0, guardOf, eff, effBuiltin, abin, abinInt, cellsAt, shift, AState.ev, AState.put, AState.new, ofVal, ofVal1, setRange, inplOf, if_true, if_false, reduceIte, Nat.reduceEqDiff, Nat.reduceAdd, Nat.reduceLT, Nat.reduceLeDiff, reduceCtorEq, Nat.reduceMul, implies_true, fillA, placeSt, fillE, elemsOf, effAppend, effSlice, optInt, reCells, forall_eq_or_imp, forall_eq, isAl, retP, AV.norm, AV.normL, Nat.reducePow, W1, hlt, map_emb_kid hlt, map_emb_kid (hlen.symm ▸ hlt), hlen, hroom (i + 1) hlt, hroom2 (i + 1) hlt]
          repeat' ((first
            | with_reducible refine goIf_b (fun h => ?_) (fun h => ?_)
            | with_reducible refine goIf_n (fun h => ?_) (fun h => ?_)
            | with_reducible refine goIf_d (fun h => ?_) (fun h => ?_)
            | with_reducible refine goIf_split (fun h => ?_) (fun h => ?_)
            | with_reducible refine goGb_b (fun h => ?_) (fun h => ?_)
            | with_reducible refine goGb_n (fun h => ?_) (fun h => ?_)
            | with_reducible refine goGb_d (fun h => ?_) (fun h => ?_)
            | with_reducible refine goGb_split (fun h => ?_) (fun h => ?_)
            | with_reducible refine goDGb_b (fun h => ?_) (fun h => ?_)
            | with_reducible refine goDGb_n (fun h => ?_) (fun h => ?_)
            | with_reducible refine goDGb_d (fun h => ?_) (fun h => ?_)
            | with_reducible refine goDGb_split (fun h => ?_) (fun h => ?_)
            | (refine goCall_norm ?_; simp only [AV.norm, AV.normL, W2, hlt, map_emb_kid hlt, map_emb_kid (hlen.symm ▸ hlt), hlen, hroom (i + 1) hlt, hroom2 (i + 1) hlt]; first | refine goCall_p (ih _ (kid_mem hlt) _ (right_kid ha hlt) (right_kid hb (hlen.symm ▸ hlt)) (hkid _ hlt)) (.inl rfl) ?_)
            | (refine goDCall_norm ?_; simp only [AV.norm, AV.normL, W2, hlt, map_emb_kid hlt, map_emb_kid (hlen.symm ▸ hlt), hlen, hroom (i + 1) hlt, hroom2 (i + 1) hlt]; first | refine goDCall_p (ih _ (kid_mem hlt) _ (right_kid ha hlt) (right_kid hb (hlen.symm ▸ hlt)) (hkid _ hlt)) (.inl rfl) ?_)
            | refine go_draw (id := 10) C_ok mixed 0 Try.f51.ntmps rfl (by kernel_rfl) (by decide) ?_) <;> first | simp only [h, ↓upd_eq, ↓envL_cons, Go.Ab.W0, guardOf, eff, effBuiltin, abin, abinInt, cellsAt, shift, AState.ev, AState.put, AState.new, ofVal, ofVal1, setRange, inplOf, if_true, if_false, reduceIte, Nat.reduceEqDiff, Nat.reduceAdd, Nat.reduceLT, Nat.reduceLeDiff, reduceCtorEq, Nat.reduceMul, implies_true, fillA, placeSt, fillE, elemsOf, effAppend, effSlice, optInt, reCells, forall_eq_or_imp, forall_eq, isAl, retP, AV.norm, AV.normL, Nat.reducePow, W1, hlt, map_emb_kid hlt, map_emb_kid (hlen.symm ▸ hlt), hlen, hroom (i + 1) hlt, hroom2 (i + 1) hlt] | simp only [↓upd_eq, ↓envL_cons, Go.Ab.W0, guardOf, eff, effBuiltin, abin, abinInt, cellsAt, shift, AState.ev, AState.put, AState.new, ofVal, ofVal1, setRange, inplOf, if_true, if_false, reduceIte, Nat.reduceEqDiff, Nat.reduceAdd, Nat.reduceLT, Nat.reduceLeDiff, reduceCtorEq, Nat.reduceMul, implies_true, fillA, placeSt, fillE, elemsOf, effAppend, effSlice, optInt, reCells, forall_eq_or_imp, forall_eq, isAl, retP, AV.norm, AV.normL, Nat.reducePow, W1, hlt, map_emb_kid hlt, map_emb_kid (hlen.symm ▸ hlt), hlen, hroom (i + 1) hlt, hroom2 (i + 1) hlt] | skip)
          all_goals (refine ⟨i + 1 + 1, hlt, by omega, weak_drop rfl rfl rfl ?_ ?_ ?_ ?_⟩ <;> (try simp only [List.forall_mem_cons, mem_nil_all, frz_app, ↓upd_eq, ↓envL_cons, Nat.reduceEqDiff, if_true, if_false, reduceIte, true_and, and_true, and_self, true_or, or_true, implies_true, List.not_mem_nil, false_implies, AV.bel, AV.belL, AObj.bel, AV.norm, AV.normL, Bool.and_true, Bool.true_and, decide_true, decide_eq_true_eq, List.length_cons, List.length_nil, Nat.zero_add, Nat.reduceAdd, Nat.lt_add_one, Nat.lt_add_right_iff_pos, Nat.zero_lt_succ, Nat.zero_lt_one, Nat.reduceLT, List.take_succ_cons, List.take_zero, wrap_succ hlt hmax, map_bel, map_norm, AV.belL, List.length_map]) <;> (try simp [List.range_succ, emb_cells]) <;> (try omega))
        · simp only [↓upd_eq, ↓envL_cons, Go.Ab.W0, guardOf, eff, effBuiltin, abin, abinInt, cellsAt, shift, AState.ev, AState.put, AState.new, ofVal, ofVal1, setRange, inplOf, if_true, if_false, reduceIte, Nat.reduceEqDiff, Nat.reduceAdd, Nat.reduceLT, Nat.reduceLeDiff, reduceCtorEq, Nat.reduceMul, implies_true, fillA, placeSt, fillE, elemsOf, effAppend, effSlice, optInt, reCells, forall_eq_or_imp, forall_eq, isAl, retP, AV.norm, AV.normL, Nat.reducePow, W1]
          exact hend (i + 1) hlt hi
theorem rmeet_ok : ∀ (a b : Ty), right a = true → right b = true → agree a b = true → PCalls Try.prog 51 [emb a, emb b] (emb (meet a b)) :=
  Ty.ind (p := fun a => ∀ b, right a = true → right b = true → agree a b = true → PCalls Try.prog 51 [emb a, emb b] (emb (meet a b))) fun a ih b ha hb h => rmeet_step a b ha hb h fun x hx y => ih x hx y

def agreeR (a b : Ty) : Bool := right a && right b && agree a b
def meetR (a b : Ty) : Ty := if agreeR a b = true then meet a b else noneT
theorem pmeet_ok (a b : Ty) : PCalls Try.prog 48 [emb a, emb b] (.tup [emb (meetR a b), .bool (agreeR a b)]) := by
  by_cases h : (right a && right b && agree a b) = true
  · have h' := h
    simp only [Bool.and_eq_true] at h'
    refine pcalls_text C_ok Try.func48 rfl (by decide) (Nat.le_of_ble_eq_true rfl) (by decide) (by simp only [AV.bel, AV.belL, emb_bel]; rfl) fun ok H => ?_
    rw [Try.results48]
    try simp only [↓upd_eq, ↓envL_cons, Go.Ab.W0, guardOf, eff, effBuiltin, abin, abinInt, cellsAt, shift, AState.ev, AState.put, AState.new, ofVal, ofVal1, setRange, inplOf, if_true, if_false, reduceIte, Nat.reduceEqDiff, Nat.reduceAdd, Nat.reduceLT, Nat.reduceLeDiff, reduceCtorEq, Nat.reduceMul, implies_true, fillA, placeSt, fillE, elemsOf, effAppend, effSlice, optInt, reCells, forall_eq_or_imp, forall_eq, isAl, retP, AV.norm, AV.normL, Nat.reducePow, W1, h]
    repeat' ((first
      | with_reducible refine goIf_b (fun h => ?_) (fun h => ?_)
      | with_reducible refine goIf_n (fun h => ?_) (fun h => ?_)
      | with_reducible refine goIf_d (fun h => ?_) (fun h => ?_)
      | with_reducible refine goIf_split (fun h => ?_) (fun h => ?_)
      | with_reducible refine goGb_b (fun h => ?_) (fun h => ?_)
      | with_reducible refine goGb_n (fun h => ?_) (fun h => ?_)
      | with_reducible refine goGb_d (fun h => ?_) (fun h => ?_)
      | with_reducible refine goGb_split (fun h => ?_) (fun h => ?_)
      | with_reducible refine goDGb_b (fun h => ?_) (fun h => ?_)
      | with_reducible refine goDGb_n (fun h => ?_) (fun h => ?_)
      | with_reducible refine goDGb_d (fun h => ?_) (fun h => ?_)
      | with_reducible refine goDGb_split (fun h => ?_) (fun h => ?_)
      | (refine goCall_norm ?_; simp only [AV.norm, AV.normL, W2, h]; first | refine goCall_p (pagree_ok _ _) (.inl rfl) ?_ | refine goCall_p (ameet_ok _ _ h'.1.1 h'.1.2 h'.2) (.inl rfl) ?_)
      | (refine goDCall_norm ?_; simp only [AV.norm, AV.normL, W2, h]; first | refine goDCall_p (pagree_ok _ _) (.inl rfl) ?_ | refine goDCall_p (ameet_ok _ _ h'.1.1 h'.1.2 h'.2) (.inl rfl) ?_)) <;> first | simp only [h, ↓upd_eq, ↓envL_cons, Go.Ab.W0, guardOf, eff, effBuiltin, abin, abinInt, cellsAt, shift, AState.ev, AState.put, AState.new, ofVal, ofVal1, setRange, inplOf, if_true, if_false, reduceIte, Nat.reduceEqDiff, Nat.reduceAdd, Nat.reduceLT, Nat.reduceLeDiff, reduceCtorEq, Nat.reduceMul, implies_true, fillA, placeSt, fillE, elemsOf, effAppend, effSlice, optInt, reCells, forall_eq_or_imp, forall_eq, isAl, retP, AV.norm, AV.normL, Nat.reducePow, W1, h] | simp only [↓upd_eq, ↓envL_cons, Go.Ab.W0, guardOf, eff, effBuiltin, abin, abinInt, cellsAt, shift, AState.ev, AState.put, AState.new, ofVal, ofVal1, setRange, inplOf, if_true, if_false, reduceIte, Nat.reduceEqDiff, Nat.reduceAdd, Nat.reduceLT, Nat.reduceLeDiff, reduceCtorEq, Nat.reduceMul, implies_true, fillA, placeSt, fillE, elemsOf, effAppend, effSlice, optInt, reCells, forall_eq_or_imp, forall_eq, isAl, retP, AV.norm, AV.normL, Nat.reducePow, W1, h] | skip)
    all_goals simp [agreeR, meetR, h]
  · refine pcalls_text C_ok Try.func48 rfl (by decide) (Nat.le_of_ble_eq_true rfl) (by decide) (by simp only [AV.bel, AV.belL, emb_bel]; rfl) fun ok H => ?_
    rw [Try.results48]
    try simp only [↓upd_eq, ↓envL_cons, Go.Ab.W0, guardOf, eff, effBuiltin, abin, abinInt, cellsAt, shift, AState.ev, AState.put, AState.new, ofVal, ofVal1, setRange, inplOf, if_true, if_false, reduceIte, Nat.reduceEqDiff, Nat.reduceAdd, Nat.reduceLT, Nat.reduceLeDiff, reduceCtorEq, Nat.reduceMul, implies_true, fillA, placeSt, fillE, elemsOf, effAppend, effSlice, optInt, reCells, forall_eq_or_imp, forall_eq, isAl, retP, AV.norm, AV.normL, Nat.reducePow, W1, h]
    repeat' ((first
      | with_reducible refine goIf_b (fun h => ?_) (fun h => ?_)
      | with_reducible refine goIf_n (fun h => ?_) (fun h => ?_)
      | with_reducible refine goIf_d (fun h => ?_) (fun h => ?_)
      | with_reducible refine goIf_split (fun h => ?_) (fun h => ?_)
      | with_reducible refine goGb_b (fun h => ?_) (fun h => ?_)
      | with_reducible refine goGb_n (fun h => ?_) (fun h => ?_)
      | with_reducible refine goGb_d (fun h => ?_) (fun h => ?_)
      | with_reducible refine goGb_split (fun h => ?_) (fun h => ?_)
      | with_reducible refine goDGb_b (fun h => ?_) (fun h => ?_)
      | with_reducible refine goDGb_n (fun h => ?_) (fun h => ?_)
      | with_reducible refine goDGb_d (fun h => ?_) (fun h => ?_)
      | with_reducible refine goDGb_split (fun h => ?_) (fun h => ?_)
      | (refine goCall_norm ?_; simp only [AV.norm, AV.normL, W2, h]; first | refine goCall_p (pagree_ok _ _) (.inl rfl) ?_)
      | (refine goDCall_norm ?_; simp only [AV.norm, AV.normL, W2, h]; first | refine goDCall_p (pagree_ok _ _) (.inl rfl) ?_)) <;> first | simp only [h, ↓upd_eq, ↓envL_cons, Go.Ab.W0, guardOf, eff, effBuiltin, abin, abinInt, cellsAt, shift, AState.ev, AState.put, AState.new, ofVal, ofVal1, setRange, inplOf, if_true, if_false, reduceIte, Nat.reduceEqDiff, Nat.reduceAdd, Nat.reduceLT, Nat.reduceLeDiff, reduceCtorEq, Nat.reduceMul, implies_true, fillA, placeSt, fillE, elemsOf, effAppend, effSlice, optInt, reCells, forall_eq_or_imp, forall_eq, isAl, retP, AV.norm, AV.normL, Nat.reducePow, W1, h] | simp only [↓upd_eq, ↓envL_cons, Go.Ab.W0, guardOf, eff, effBuiltin, abin, abinInt, cellsAt, shift, AState.ev, AState.put, AState.new, ofVal, ofVal1, setRange, inplOf, if_true, if_false, reduceIte, Nat.reduceEqDiff, Nat.reduceAdd, Nat.reduceLT, Nat.reduceLeDiff, reduceCtorEq, Nat.reduceMul, implies_true, fillA, placeSt, fillE, elemsOf, effAppend, effSlice, optInt, reCells, forall_eq_or_imp, forall_eq, isAl, retP, AV.norm, AV.normL, Nat.reducePow, W1, h] | skip)
    all_goals simp [agreeR, meetR, h, noneT]

end Go.Proofs.Ytcpfjabjonpdaaa
