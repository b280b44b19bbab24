/- Walks: Heavy, sizes, depths. No condition. -/
import Derived.Test.YtcpfjabjonpdaaaF2
set_option linter.unusedSimpArgs false
set_option linter.unusedVariables false
set_option maxHeartbeats 4000000
namespace Go.Proofs.Ytcpfjabjonpdaaa
open Go Go.Ab
attribute [local irreducible] PCalls ACalls CallK GoCall GoDCall GoIf GoGb GoDGb GoO GoD GoX GoDX GoG GoDG GoGv GoDGv Go ALoop

mutual
def cnt : Ty → Nat → Nat
  | .mk _ _ l, n => cntL l (n + 1)
def cntL : List Ty → Nat → Nat
  | [], n => n
  | x :: l, n => if n ≤ 600 then cntL l (cnt x n) else n
end
theorem cnt_eq (t : Ty) (n : Nat) : cnt t n = cntL t.kids (n + 1) := by cases t; rfl
mutual
theorem cnt_spec : ∀ (t : Ty) (n : Nat), n < cnt t n ∧ cnt t n ≤ max (n + 1) 601 ∧ (n + nodes t ≤ 600 → cnt t n = n + nodes t) ∧ (600 < n + nodes t → 600 < cnt t n)
  | .mk k m l, n => by
    have := cntL_spec l (n + 1)
    rw [cnt_eq, nodes_eq]; simp only [Ty.kids]; omega
theorem cntL_spec : ∀ (l : List Ty) (n : Nat), n ≤ cntL l n ∧ cntL l n ≤ max n 601 ∧ (n + nodesL l ≤ 600 → cntL l n = n + nodesL l) ∧ (600 < n + nodesL l → 600 < cntL l n)
  | [], n => by simp [cntL, nodesL]; omega
  | x :: l, n => by
    rw [cntL, nodesL]
    split
    · have h1 := cnt_spec x n
      have h2 := cntL_spec l (cnt x n)
      omega
    · omega
end
theorem cntL_stop {l : List Ty} {n : Nat} (h : ¬ n ≤ 600) : cntL l n = n := by cases l <;> simp [cntL, h]
theorem drop_kid {t : Ty} {i : Nat} (h : i < t.kids.length) : t.kids.drop i = t.kid i :: t.kids.drop (i + 1) := by
  rw [List.drop_eq_getElem_cons h]; simp [Ty.kid, h]

theorem wrap_nat {n : Nat} (h : n < 4611686018427387904) : IntKind.wrap .i64 (n : Int) = n :=
  wrap_id .i64 _ (by show (-9223372036854775808 : Int) ≤ _; omega) (by show _ ≤ (9223372036854775807 : Int); omega)
theorem wrap_nat1 {n : Nat} (h : n < 4611686018427387904) : IntKind.wrap .i64 ((n : Int) + 1) = ((n + 1 : Nat) : Int) := wrap_succ h (by rw [maxLen_val]; omega)
theorem wrap_nat2 {n m : Nat} (h : n + m < 4611686018427387904) : IntKind.wrap .i64 ((n : Int) + m) = ((n + m : Nat) : Int) := by rw [← Int.natCast_add]; exact wrap_nat h

theorem count_step (t : Ty) (n : Nat) (hn : n ≤ 2000000) (ih : ∀ x ∈ t.kids, ∀ n : Nat, n ≤ 2000000 → PCalls Try.prog 69 [emb x, .int .i64 n] (.int .i64 (cnt x n))) : PCalls Try.prog 69 [emb t, .int .i64 n] (.int .i64 (cnt t n)) := by
  refine pcalls_text C_ok Try.func69 rfl (by decide) (Nat.le_of_ble_eq_true rfl) (by decide) rfl fun ok H => ?_
  rw [Try.results69]
  try simp only [↓upd_eq, ↓envL_cons, Go.Ab.W0, guardOf, eff, effBuiltin, abin, abinInt, cellsAt, shift, AState.ev, AState.put, AState.new, ofVal, ofVal1, setRange, inplOf, if_true, if_false, reduceIte, Nat.reduceEqDiff, Nat.reduceAdd, Nat.reduceLT, Nat.reduceLeDiff, reduceCtorEq, Nat.reduceMul, implies_true, fillA, placeSt, fillE, elemsOf, effAppend, effSlice, optInt, reCells, forall_eq_or_imp, forall_eq, isAl, retP, AV.norm, AV.normL, Nat.reducePow, W1, wrap_nat1 (show n < 4611686018427387904 by omega)]
  repeat' ((first
    | with_reducible refine goIf_b (fun h => ?_) (fun h => ?_)
    | with_reducible refine goIf_n (fun h => ?_) (fun h => ?_)
    | with_reducible refine goIf_d (fun h => ?_) (fun h => ?_)
    | with_reducible refine goIf_split (fun h => ?_) (fun h => ?_)
    | with_reducible refine goGb_b (fun h => ?_) (fun h => ?_)
    | with_reducible refine goGb_n (fun h => ?_) (fun h => ?_)
    | with_reducible refine goGb_d (fun h => ?_) (fun h => ?_)
    | with_reducible refine goGb_split (fun h => ?_) (fun h => ?_)
    | with_reducible refine goDGb_b (fun h => ?_) (fun h => ?_)
    | with_reducible refine goDGb_n (fun h => ?_) (fun h => ?_)
    | with_reducible refine goDGb_d (fun h => ?_) (fun h => ?_)
    | with_reducible refine goDGb_split (fun h => ?_) (fun h => ?_)) <;> first | simp only [h, ↓upd_eq, ↓envL_cons, Go.Ab.W0, guardOf, eff, effBuiltin, abin, abinInt, cellsAt, shift, AState.ev, AState.put, AState.new, ofVal, ofVal1, setRange, inplOf, if_true, if_false, reduceIte, Nat.reduceEqDiff, Nat.reduceAdd, Nat.reduceLT, Nat.reduceLeDiff, reduceCtorEq, Nat.reduceMul, implies_true, fillA, placeSt, fillE, elemsOf, effAppend, effSlice, optInt, reCells, forall_eq_or_imp, forall_eq, isAl, retP, AV.norm, AV.normL, Nat.reducePow, W1, wrap_nat1 (show n < 4611686018427387904 by omega)] | simp only [↓upd_eq, ↓envL_cons, Go.Ab.W0, guardOf, eff, effBuiltin, abin, abinInt, cellsAt, shift, AState.ev, AState.put, AState.new, ofVal, ofVal1, setRange, inplOf, if_true, if_false, reduceIte, Nat.reduceEqDiff, Nat.reduceAdd, Nat.reduceLT, Nat.reduceLeDiff, reduceCtorEq, Nat.reduceMul, implies_true, fillA, placeSt, fillE, elemsOf, effAppend, effSlice, optInt, reCells, forall_eq_or_imp, forall_eq, isAl, retP, AV.norm, AV.normL, Nat.reducePow, W1, wrap_nat1 (show n < 4611686018427387904 by omega)] | skip)
  have hmax : t.kids.length ≤ maxLen := (emb_okay ok.1).1
  refine aloop_trim [1, 5, 2] ?_
  simp only [List.map_cons, List.map_nil, ↓upd_eq, ↓envL_cons, Go.Ab.W0, guardOf, eff, effBuiltin, abin, abinInt, cellsAt, shift, AState.ev, AState.put, AState.new, ofVal, ofVal1, setRange, inplOf, if_true, if_false, reduceIte, Nat.reduceEqDiff, Nat.reduceAdd, Nat.reduceLT, Nat.reduceLeDiff, reduceCtorEq, Nat.reduceMul, implies_true, fillA, placeSt, fillE, elemsOf, effAppend, effSlice, optInt, reCells, forall_eq_or_imp, forall_eq, isAl, retP, AV.norm, AV.normL, Nat.reducePow, W1]
  refine goLoopS 2 (fun x : Nat × Nat => [(1, .int .i64 x.2), (5, .int .i64 x.1)]) (fun _ => _) (fun x => x.1 ≤ t.kids.length ∧ x.2 ≤ 2000001 ∧ cntL (t.kids.drop x.1) x.2 = cnt t n) (fun x => t.kids.length - x.1) C_ok (0, n + 1) rfl rfl ⟨Nat.zero_le _, by simp only; omega, (cnt_eq t n).symm⟩ (by decide) ?_
  rintro ⟨i, m⟩ ⟨hi, hm, hr⟩
  simp only at hi hm hr
  simp only [List.drop_succ_cons, List.drop_zero, List.cons_append, List.nil_append]
  simp only [↓upd_eq, ↓envL_cons, Go.Ab.W0, guardOf, eff, effBuiltin, abin, abinInt, cellsAt, shift, AState.ev, AState.put, AState.new, ofVal, ofVal1, setRange, inplOf, if_true, if_false, reduceIte, Nat.reduceEqDiff, Nat.reduceAdd, Nat.reduceLT, Nat.reduceLeDiff, reduceCtorEq, Nat.reduceMul, implies_true, fillA, placeSt, fillE, elemsOf, effAppend, effSlice, optInt, reCells, forall_eq_or_imp, forall_eq, isAl, retP, AV.norm, AV.normL, Nat.reducePow, W1]
  refine goGb_d (fun hlt => ?_) (fun hlt => ?_)
  · simp only [hlt, ↓upd_eq, ↓envL_cons, Go.Ab.W0, guardOf, eff, effBuiltin, abin, abinInt, cellsAt, shift, AState.ev, AState.put, AState.new, ofVal, ofVal1, setRange, inplOf, if_true, if_false, reduceIte, Nat.reduceEqDiff, Nat.reduceAdd, Nat.reduceLT, Nat.reduceLeDiff, reduceCtorEq, Nat.reduceMul, implies_true, fillA, placeSt, fillE, elemsOf, effAppend, effSlice, optInt, reCells, forall_eq_or_imp, forall_eq, isAl, retP, AV.norm, AV.normL, Nat.reducePow, W1]
    refine goIf_d (fun h6 => ?_) (fun h6 => ?_)
    · have h6' : m ≤ 600 := by omega
      try simp only [↓upd_eq, ↓envL_cons, Go.Ab.W0, guardOf, eff, effBuiltin, abin, abinInt, cellsAt, shift, AState.ev, AState.put, AState.new, ofVal, ofVal1, setRange, inplOf, if_true, if_false, reduceIte, Nat.reduceEqDiff, Nat.reduceAdd, Nat.reduceLT, Nat.reduceLeDiff, reduceCtorEq, Nat.reduceMul, implies_true, fillA, placeSt, fillE, elemsOf, effAppend, effSlice, optInt, reCells, forall_eq_or_imp, forall_eq, isAl, retP, AV.norm, AV.normL, Nat.reducePow, W1, hlt, map_emb_kid hlt]
      repeat' ((first
        | with_reducible refine goIf_b (fun h => ?_) (fun h => ?_)
        | with_reducible refine goIf_n (fun h => ?_) (fun h => ?_)
        | with_reducible refine goIf_d (fun h => ?_) (fun h => ?_)
        | with_reducible refine goIf_split (fun h => ?_) (fun h => ?_)
        | with_reducible refine goGb_b (fun h => ?_) (fun h => ?_)
        | with_reducible refine goGb_n (fun h => ?_) (fun h => ?_)
        | with_reducible refine goGb_d (fun h => ?_) (fun h => ?_)
        | with_reducible refine goGb_split (fun h => ?_) (fun h => ?_)
        | with_reducible refine goDGb_b (fun h => ?_) (fun h => ?_)
        | with_reducible refine goDGb_n (fun h => ?_) (fun h => ?_)
        | with_reducible refine goDGb_d (fun h => ?_) (fun h => ?_)
        | with_reducible refine goDGb_split (fun h => ?_) (fun h => ?_)
        | (refine goCall_norm ?_; simp only [AV.norm, AV.normL, W2, hlt, map_emb_kid hlt]; first | refine goCall_p (ih _ (kid_mem hlt) m (by omega)) (.inl rfl) ?_)
        | (refine goDCall_norm ?_; simp only [AV.norm, AV.normL, W2, hlt, map_emb_kid hlt]; first | refine goDCall_p (ih _ (kid_mem hlt) m (by omega)) (.inl rfl) ?_)) <;> first | simp only [h, ↓upd_eq, ↓envL_cons, Go.Ab.W0, guardOf, eff, effBuiltin, abin, abinInt, cellsAt, shift, AState.ev, AState.put, AState.new, ofVal, ofVal1, setRange, inplOf, if_true, if_false, reduceIte, Nat.reduceEqDiff, Nat.reduceAdd, Nat.reduceLT, Nat.reduceLeDiff, reduceCtorEq, Nat.reduceMul, implies_true, fillA, placeSt, fillE, elemsOf, effAppend, effSlice, optInt, reCells, forall_eq_or_imp, forall_eq, isAl, retP, AV.norm, AV.normL, Nat.reducePow, W1, hlt, map_emb_kid hlt] | simp only [↓upd_eq, ↓envL_cons, Go.Ab.W0, guardOf, eff, effBuiltin, abin, abinInt, cellsAt, shift, AState.ev, AState.put, AState.new, ofVal, ofVal1, setRange, inplOf, if_true, if_false, reduceIte, Nat.reduceEqDiff, Nat.reduceAdd, Nat.reduceLT, Nat.reduceLeDiff, reduceCtorEq, Nat.reduceMul, implies_true, fillA, placeSt, fillE, elemsOf, effAppend, effSlice, optInt, reCells, forall_eq_or_imp, forall_eq, isAl, retP, AV.norm, AV.normL, Nat.reducePow, W1, hlt, map_emb_kid hlt] | skip)
      have hc := cnt_spec (t.kid i) m
      refine ⟨(i + 1, cnt (t.kid i) m), ⟨hlt, by simp only; omega, ?_⟩, by simp only; omega, weak_drop rfl rfl rfl rfl ?_ ?_ ?_⟩
      · rw [← hr, drop_kid hlt, cntL, if_pos h6']
      all_goals simp only [List.forall_mem_cons, mem_nil_all, frz_app, ↓upd_eq, ↓envL_cons, Nat.reduceEqDiff, if_true, if_false, reduceIte, true_and, and_true, and_self, true_or, or_true, implies_true, List.not_mem_nil, false_implies, AV.bel, AV.belL, AObj.bel, AV.norm, AV.normL, Bool.and_true, Bool.true_and, decide_true, decide_eq_true_eq, List.length_cons, List.length_nil, Nat.zero_add, Nat.reduceAdd, Nat.lt_add_one, Nat.lt_add_right_iff_pos, Nat.zero_lt_succ, Nat.zero_lt_one, Nat.reduceLT, List.take_succ_cons, List.take_zero, wrap_succ hlt hmax, map_bel, AV.belL, List.length_map]
    · simp only [hlt, ↓upd_eq, ↓envL_cons, Go.Ab.W0, guardOf, eff, effBuiltin, abin, abinInt, cellsAt, shift, AState.ev, AState.put, AState.new, ofVal, ofVal1, setRange, inplOf, if_true, if_false, reduceIte, Nat.reduceEqDiff, Nat.reduceAdd, Nat.reduceLT, Nat.reduceLeDiff, reduceCtorEq, Nat.reduceMul, implies_true, fillA, placeSt, fillE, elemsOf, effAppend, effSlice, optInt, reCells, forall_eq_or_imp, forall_eq, isAl, retP, AV.norm, AV.normL, Nat.reducePow, W1]
      rw [← hr, cntL_stop (by omega)]
  · simp only [hlt, ↓upd_eq, ↓envL_cons, Go.Ab.W0, guardOf, eff, effBuiltin, abin, abinInt, cellsAt, shift, AState.ev, AState.put, AState.new, ofVal, ofVal1, setRange, inplOf, if_true, if_false, reduceIte, Nat.reduceEqDiff, Nat.reduceAdd, Nat.reduceLT, Nat.reduceLeDiff, reduceCtorEq, Nat.reduceMul, implies_true, fillA, placeSt, fillE, elemsOf, effAppend, effSlice, optInt, reCells, forall_eq_or_imp, forall_eq, isAl, retP, AV.norm, AV.normL, Nat.reducePow, W1]
    rw [← hr, List.drop_of_length_le (by omega)]; rfl

theorem count_ok : ∀ (t : Ty) (n : Nat), n ≤ 2000000 → PCalls Try.prog 69 [emb t, .int .i64 n] (.int .i64 (cnt t n)) :=
  Ty.ind (p := fun t => ∀ n : Nat, n ≤ 2000000 → PCalls Try.prog 69 [emb t, .int .i64 n] (.int .i64 (cnt t n))) fun t ih n hn => count_step t n hn fun x hx n hn => ih x hx n hn

def heavy (l : List Ty) : Bool := decide (600 < nodesL l)
def cntF : List Ty → Nat → Nat
  | [], n => n
  | x :: l, n => cntF l (cnt x n)
theorem cntF_spec : ∀ (l : List Ty) (n : Nat), n ≤ cntF l n ∧ (n + nodesL l ≤ 600 → cntF l n = n + nodesL l) ∧ (600 < n + nodesL l → 600 < cntF l n)
  | [], n => by simp [cntF, nodesL]
  | x :: l, n => by
    have h1 := cnt_spec x n
    have h2 := cntF_spec l (cnt x n)
    rw [cntF, nodesL]; omega
theorem heavy_eq (l : List Ty) : heavy l = decide ((cntF l 0 : Int) > 600) := by
  have := cntF_spec l 0
  unfold heavy
  by_cases h : 600 < nodesL l
  · simp only [h, decide_true]; rw [eq_comm, decide_eq_true_eq]; omega
  · simp only [h, decide_false]; rw [eq_comm, decide_eq_false_iff_not]; omega

theorem heavy_ok (l : List Ty) (hl : l.length ≤ 1000000) : PCalls Try.prog 26 [.sl (l.map emb) .no] (.bool (heavy l)) := by
  refine pcalls_text C_ok Try.func26 rfl (by decide) (Nat.le_of_ble_eq_true rfl) (by decide) rfl fun ok H => ?_
  rw [Try.results26]
  try simp only [↓upd_eq, ↓envL_cons, Go.Ab.W0, guardOf, eff, effBuiltin, abin, abinInt, cellsAt, shift, AState.ev, AState.put, AState.new, ofVal, ofVal1, setRange, inplOf, if_true, if_false, reduceIte, Nat.reduceEqDiff, Nat.reduceAdd, Nat.reduceLT, Nat.reduceLeDiff, reduceCtorEq, Nat.reduceMul, implies_true, fillA, placeSt, fillE, elemsOf, effAppend, effSlice, optInt, reCells, forall_eq_or_imp, forall_eq, isAl, retP, AV.norm, AV.normL, Nat.reducePow, W1]
  repeat' ((first
    | with_reducible refine goIf_b (fun h => ?_) (fun h => ?_)
    | with_reducible refine goIf_n (fun h => ?_) (fun h => ?_)
    | with_reducible refine goIf_d (fun h => ?_) (fun h => ?_)
    | with_reducible refine goIf_split (fun h => ?_) (fun h => ?_)
    | with_reducible refine goGb_b (fun h => ?_) (fun h => ?_)
    | with_reducible refine goGb_n (fun h => ?_) (fun h => ?_)
    | with_reducible refine goGb_d (fun h => ?_) (fun h => ?_)
    | with_reducible refine goGb_split (fun h => ?_) (fun h => ?_)
    | with_reducible refine goDGb_b (fun h => ?_) (fun h => ?_)
    | with_reducible refine goDGb_n (fun h => ?_) (fun h => ?_)
    | with_reducible refine goDGb_d (fun h => ?_) (fun h => ?_)
    | with_reducible refine goDGb_split (fun h => ?_) (fun h => ?_)) <;> first | simp only [h, ↓upd_eq, ↓envL_cons, Go.Ab.W0, guardOf, eff, effBuiltin, abin, abinInt, cellsAt, shift, AState.ev, AState.put, AState.new, ofVal, ofVal1, setRange, inplOf, if_true, if_false, reduceIte, Nat.reduceEqDiff, Nat.reduceAdd, Nat.reduceLT, Nat.reduceLeDiff, reduceCtorEq, Nat.reduceMul, implies_true, fillA, placeSt, fillE, elemsOf, effAppend, effSlice, optInt, reCells, forall_eq_or_imp, forall_eq, isAl, retP, AV.norm, AV.normL, Nat.reducePow, W1] | simp only [↓upd_eq, ↓envL_cons, Go.Ab.W0, guardOf, eff, effBuiltin, abin, abinInt, cellsAt, shift, AState.ev, AState.put, AState.new, ofVal, ofVal1, setRange, inplOf, if_true, if_false, reduceIte, Nat.reduceEqDiff, Nat.reduceAdd, Nat.reduceLT, Nat.reduceLeDiff, reduceCtorEq, Nat.reduceMul, implies_true, fillA, placeSt, fillE, elemsOf, effAppend, effSlice, optInt, reCells, forall_eq_or_imp, forall_eq, isAl, retP, AV.norm, AV.normL, Nat.reducePow, W1] | skip)
  have hmax : l.length ≤ maxLen := by rw [maxLen_val]; omega
  refine aloop_trim [3, 4, 0] ?_
  simp only [List.map_cons, List.map_nil, ↓upd_eq, ↓envL_cons, Go.Ab.W0, guardOf, eff, effBuiltin, abin, abinInt, cellsAt, shift, AState.ev, AState.put, AState.new, ofVal, ofVal1, setRange, inplOf, if_true, if_false, reduceIte, Nat.reduceEqDiff, Nat.reduceAdd, Nat.reduceLT, Nat.reduceLeDiff, reduceCtorEq, Nat.reduceMul, implies_true, fillA, placeSt, fillE, elemsOf, effAppend, effSlice, optInt, reCells, forall_eq_or_imp, forall_eq, isAl, retP, AV.norm, AV.normL, Nat.reducePow, W1]
  refine goLoopS 2 (fun x : Nat × Nat => [(3, .int .i64 x.2), (4, .int .i64 x.1)]) (fun _ => _) (fun x => x.1 ≤ l.length ∧ x.2 ≤ 601 + x.1 ∧ cntF (l.drop x.1) x.2 = cntF l 0) (fun x => l.length - x.1) C_ok (0, 0) rfl rfl ⟨Nat.zero_le _, by simp only; omega, rfl⟩ (by decide) ?_
  rintro ⟨i, m⟩ ⟨hi, hm, hr⟩
  simp only at hi hm hr
  simp only [List.drop_succ_cons, List.drop_zero, List.cons_append, List.nil_append]
  simp only [↓upd_eq, ↓envL_cons, Go.Ab.W0, guardOf, eff, effBuiltin, abin, abinInt, cellsAt, shift, AState.ev, AState.put, AState.new, ofVal, ofVal1, setRange, inplOf, if_true, if_false, reduceIte, Nat.reduceEqDiff, Nat.reduceAdd, Nat.reduceLT, Nat.reduceLeDiff, reduceCtorEq, Nat.reduceMul, implies_true, fillA, placeSt, fillE, elemsOf, effAppend, effSlice, optInt, reCells, forall_eq_or_imp, forall_eq, isAl, retP, AV.norm, AV.normL, Nat.reducePow, W1]
  refine goIf_d (fun hlt => ?_) (fun hlt => ?_)
  · have hget : (l.map emb).getD i .any = emb (l.getD i default) := by simp [hlt]
    try simp only [↓upd_eq, ↓envL_cons, Go.Ab.W0, guardOf, eff, effBuiltin, abin, abinInt, cellsAt, shift, AState.ev, AState.put, AState.new, ofVal, ofVal1, setRange, inplOf, if_true, if_false, reduceIte, Nat.reduceEqDiff, Nat.reduceAdd, Nat.reduceLT, Nat.reduceLeDiff, reduceCtorEq, Nat.reduceMul, implies_true, fillA, placeSt, fillE, elemsOf, effAppend, effSlice, optInt, reCells, forall_eq_or_imp, forall_eq, isAl, retP, AV.norm, AV.normL, Nat.reducePow, W1, hlt, hget]
    repeat' ((first
      | with_reducible refine goIf_b (fun h => ?_) (fun h => ?_)
      | with_reducible refine goIf_n (fun h => ?_) (fun h => ?_)
      | with_reducible refine goIf_d (fun h => ?_) (fun h => ?_)
      | with_reducible refine goIf_split (fun h => ?_) (fun h => ?_)
      | with_reducible refine goGb_b (fun h => ?_) (fun h => ?_)
      | with_reducible refine goGb_n (fun h => ?_) (fun h => ?_)
      | with_reducible refine goGb_d (fun h => ?_) (fun h => ?_)
      | with_reducible refine goGb_split (fun h => ?_) (fun h => ?_)
      | with_reducible refine goDGb_b (fun h => ?_) (fun h => ?_)
      | with_reducible refine goDGb_n (fun h => ?_) (fun h => ?_)
      | with_reducible refine goDGb_d (fun h => ?_) (fun h => ?_)
      | with_reducible refine goDGb_split (fun h => ?_) (fun h => ?_)
      | (refine goCall_norm ?_; simp only [AV.norm, AV.normL, W2, hlt, hget]; first | refine goCall_p (count_ok _ m (by omega)) (.inl rfl) ?_)
      | (refine goDCall_norm ?_; simp only [AV.norm, AV.normL, W2, hlt, hget]; first | refine goDCall_p (count_ok _ m (by omega)) (.inl rfl) ?_)) <;> first | simp only [h, ↓upd_eq, ↓envL_cons, Go.Ab.W0, guardOf, eff, effBuiltin, abin, abinInt, cellsAt, shift, AState.ev, AState.put, AState.new, ofVal, ofVal1, setRange, inplOf, if_true, if_false, reduceIte, Nat.reduceEqDiff, Nat.reduceAdd, Nat.reduceLT, Nat.reduceLeDiff, reduceCtorEq, Nat.reduceMul, implies_true, fillA, placeSt, fillE, elemsOf, effAppend, effSlice, optInt, reCells, forall_eq_or_imp, forall_eq, isAl, retP, AV.norm, AV.normL, Nat.reducePow, W1, hlt, hget] | simp only [↓upd_eq, ↓envL_cons, Go.Ab.W0, guardOf, eff, effBuiltin, abin, abinInt, cellsAt, shift, AState.ev, AState.put, AState.new, ofVal, ofVal1, setRange, inplOf, if_true, if_false, reduceIte, Nat.reduceEqDiff, Nat.reduceAdd, Nat.reduceLT, Nat.reduceLeDiff, reduceCtorEq, Nat.reduceMul, implies_true, fillA, placeSt, fillE, elemsOf, effAppend, effSlice, optInt, reCells, forall_eq_or_imp, forall_eq, isAl, retP, AV.norm, AV.normL, Nat.reducePow, W1, hlt, hget] | skip)
    have hc := cnt_spec (l.getD i default) m
    refine ⟨(i + 1, cnt (l.getD i default) m), ⟨hlt, by simp only; omega, ?_⟩, by simp only; omega, weak_of rfl rfl rfl rfl ?_⟩
    · rw [← hr, List.drop_eq_getElem_cons hlt, cntF]; simp [hlt]
    all_goals simp only [List.forall_mem_cons, mem_nil_all, frz_app, ↓upd_eq, ↓envL_cons, Nat.reduceEqDiff, if_true, if_false, reduceIte, true_and, and_true, and_self, true_or, or_true, implies_true, List.not_mem_nil, false_implies, AV.bel, AV.belL, AObj.bel, AV.norm, AV.normL, Bool.and_true, Bool.true_and, decide_true, decide_eq_true_eq, List.length_cons, List.length_nil, Nat.zero_add, Nat.reduceAdd, Nat.lt_add_one, Nat.lt_add_right_iff_pos, Nat.zero_lt_succ, Nat.zero_lt_one, Nat.reduceLT, List.take_succ_cons, List.take_zero, wrap_succ hlt hmax, map_bel, AV.belL, List.length_map]
  · simp only [↓upd_eq, ↓envL_cons, Go.Ab.W0, guardOf, eff, effBuiltin, abin, abinInt, cellsAt, shift, AState.ev, AState.put, AState.new, ofVal, ofVal1, setRange, inplOf, if_true, if_false, reduceIte, Nat.reduceEqDiff, Nat.reduceAdd, Nat.reduceLT, Nat.reduceLeDiff, reduceCtorEq, Nat.reduceMul, implies_true, fillA, placeSt, fillE, elemsOf, effAppend, effSlice, optInt, reCells, forall_eq_or_imp, forall_eq, isAl, retP, AV.norm, AV.normL, Nat.reducePow, W1]
    rw [heavy_eq, ← hr, List.drop_of_length_le (by omega)]; rfl

theorem heavy1_ok (a : Ty) : PCalls Try.prog 26 [.sl [emb a] .no] (.bool (heavy [a])) := heavy_ok [a] (by simp)
theorem heavy2_ok (a b : Ty) : PCalls Try.prog 26 [.sl [emb a, emb b] .no] (.bool (heavy [a, b])) := heavy_ok [a, b] (by simp)
theorem heavy3_ok (a b c : Ty) : PCalls Try.prog 26 [.sl [emb a, emb b, emb c] .no] (.bool (heavy [a, b, c])) := heavy_ok [a, b, c] (by simp)
theorem heavy4_ok (a b c d : Ty) : PCalls Try.prog 26 [.sl [emb a, emb b, emb c, emb d] .no] (.bool (heavy [a, b, c, d])) := heavy_ok [a, b, c, d] (by simp)
theorem heavy_nodes {l : List Ty} (h : ¬ heavy l = true) {t : Ty} (ht : t ∈ l) : nodes t ≤ 600 := by
  have h1 := nodesL_mem ht
  simp only [heavy, decide_eq_true_eq] at h
  omega

end Go.Proofs.Ytcpfjabjonpdaaa
